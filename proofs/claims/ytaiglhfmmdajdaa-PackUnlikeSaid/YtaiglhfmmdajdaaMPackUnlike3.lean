/- Walks and plain laws on the way to the law PackUnlike: several texts of this workplace and of the kit's printer, merged; what is not used is struck, by a program. No condition. -/
import Derived.Test.YtaiglhfmmdajdaaMPackUnlike0
import Derived.Test.YtaiglhfmmdajdaaMPackUnlike2
section
namespace Go.Proofs.Ytaiglhfmmdajdaa.Pm
open Go.RowKit Go.Proofs.YtaiglhfmmdajdaaW.PrintWords Go.Proofs.YtaiglhfmmdajdaaW.PrintLast Go.Proofs.YtaiglhfmmdajdaaW.PrintMore
attribute [local go_sem] max2_int min2_int max_two min_two max_three min_three max_four min_four   -- for this text's walks alone
set_option linter.unusedVariables false
set_option linter.unusedSimpArgs false
attribute [local go_sem high] eqA103
mutual
def sentryref4_sentry.j0 : Nat → Bool → List ByteArray → List (S48) → List (S103) → List (S50) → Option (Bool)
 | 0, _, _, _, _, _ => none
 | k + 1, x29, x129000, x129001, x130000, x130001 => if x29 = true then (some false) else (sentryref4_sentry.l0 k 0 x129000 x129001 x130000 x130001)
def sentryref4_sentry.l0 : Nat → Int → List ByteArray → List (S48) → List (S103) → List (S50) → Option (Bool)
 | 0, _, _, _, _, _ => none
 | k + 1, x5, x129000, x129001, x130000, x130001 => if x5 < (x130000.length : Int) then (if 0 ≤ x5 then ((sentryref4_Place.f k x129000 x129001 ((rd_T103 x130000 x5).f0)).bind fun t131 => (if t131 < 0 then (sentryref4_sentry.j2 k x5 true x129000 x129001 x130000 x130001) else (if 0 ≤ t131 then (if t131 < (x129001.length : Int) then ((sentryref4_Legal.f k ((rd_T48 x129001 t131).f1) ((rd_T103 x130000 x5).f1)).bind fun t134 => (sentryref4_sentry.j2 k x5 (!t134) x129000 x129001 x130000 x130001)) else (none)) else (none)))) else (none)) else (sentryref4_sentry.l2 k 0 x129000 x129001 x130000 x130001)
def sentryref4_sentry.j2 : Nat → Int → Bool → List ByteArray → List (S48) → List (S103) → List (S50) → Option (Bool)
 | 0, _, _, _, _, _, _ => none
 | k + 1, x5, x62, x129000, x129001, x130000, x130001 => if x62 = true then (some false) else (sentryref4_sentry.l1 k x5 0 x129000 x129001 x130000 x130001)
def sentryref4_sentry.l1 : Nat → Int → Int → List ByteArray → List (S48) → List (S103) → List (S50) → Option (Bool)
 | 0, _, _, _, _, _, _ => none
 | k + 1, x5, x7, x129000, x129001, x130000, x130001 => if x7 < x5 then (if 0 ≤ x7 then (if x7 < (x130000.length : Int) then (if 0 ≤ x5 then (if x5 < (x130000.length : Int) then (if ((((rd_T103 x130000 x7).f0).toList) == (((rd_T103 x130000 x5).f0).toList) && (((rd_T103 x130000 x7).f1) == ((rd_T103 x130000 x5).f1))) = true then (some false) else (sentryref4_sentry.l1 k x5 (wrap64 (x7 + 1)) x129000 x129001 x130000 x130001)) else (none)) else (none)) else (none)) else (none)) else (sentryref4_sentry.l0 k (wrap64 (x5 + 1)) x129000 x129001 x130000 x130001)
def sentryref4_sentry.l2 : Nat → Int → List ByteArray → List (S48) → List (S103) → List (S50) → Option (Bool)
 | 0, _, _, _, _, _ => none
 | k + 1, x8, x129000, x129001, x130000, x130001 => if x8 < (x130001.length : Int) then (if 0 ≤ x8 then ((sentryref4_File.f k x129000 ((rd_T50 x130001 x8).f0)).bind fun t139 => (if t139 = true then ((sentryref4_Op.f k ((rd_T50 x130001 x8).f1)).bind fun t140 => (if t140 < 0 then (some false) else (if ((rd_T50 x130001 x8).f2) < (-1000000) then (some false) else (if ((rd_T50 x130001 x8).f2) > 1000000 then (some false) else (sentryref4_sentry.l2 k (wrap64 (x8 + 1)) x129000 x129001 x130000 x130001))))) else (some false))) else (none)) else (some true)
end
def sentryref4_sentry.f (k : Nat) (l0_0 : List ByteArray) (l0_1 : List (S48)) (l1_0 : List (S103)) (l1_1 : List (S50)) : Option (Bool) := if (l1_0.length : Int) > 3 then (sentryref4_sentry.j0 k true l0_0 l0_1 l1_0 l1_1) else (if (l1_1.length : Int) > 2 then (sentryref4_sentry.j0 k true l0_0 l0_1 l1_0 l1_1) else (sentryref4_sentry.j0 k ((wrap64 ((l1_0.length : Int) + (l1_1.length : Int))) == 0) l0_0 l0_1 l1_0 l1_1))
theorem sentryref4_sentry.mono_l : ∀ k, (∀ y0 y1 y2 y3 y4, LeO (sentryref4_sentry.j0 k y0 y1 y2 y3 y4) (sentryref4_sentry.j0 (k + 1) y0 y1 y2 y3 y4)) ∧ (∀ y0 y1 y2 y3 y4, LeO (sentryref4_sentry.l0 k y0 y1 y2 y3 y4) (sentryref4_sentry.l0 (k + 1) y0 y1 y2 y3 y4)) ∧ (∀ y0 y1 y2 y3 y4 y5, LeO (sentryref4_sentry.j2 k y0 y1 y2 y3 y4 y5) (sentryref4_sentry.j2 (k + 1) y0 y1 y2 y3 y4 y5)) ∧ (∀ y0 y1 y2 y3 y4 y5, LeO (sentryref4_sentry.l1 k y0 y1 y2 y3 y4 y5) (sentryref4_sentry.l1 (k + 1) y0 y1 y2 y3 y4 y5)) ∧ (∀ y0 y1 y2 y3 y4, LeO (sentryref4_sentry.l2 k y0 y1 y2 y3 y4) (sentryref4_sentry.l2 (k + 1) y0 y1 y2 y3 y4))
 | 0 => ⟨fun _ _ _ _ _ r h => by simp [sentryref4_sentry.j0] at h, fun _ _ _ _ _ r h => by simp [sentryref4_sentry.l0] at h, fun _ _ _ _ _ _ r h => by simp [sentryref4_sentry.j2] at h, fun _ _ _ _ _ _ r h => by simp [sentryref4_sentry.l1] at h, fun _ _ _ _ _ r h => by simp [sentryref4_sentry.l2] at h⟩
 | k + 1 => by
  obtain ⟨ih0, ih1, ih2, ih3, ih4⟩ := sentryref4_sentry.mono_l k
  refine ⟨?_, ?_, ?_, ?_, ?_⟩
  intro y0 y1 y2 y3 y4
  unfold sentryref4_sentry.j0
  rotate_left
  intro y0 y1 y2 y3 y4
  unfold sentryref4_sentry.l0
  rotate_left
  intro y0 y1 y2 y3 y4 y5
  unfold sentryref4_sentry.j2
  rotate_left
  intro y0 y1 y2 y3 y4 y5
  unfold sentryref4_sentry.l1
  rotate_left
  intro y0 y1 y2 y3 y4
  unfold sentryref4_sentry.l2
  rotate_left
  all_goals repeat' first
   | (with_reducible exact ih0 _ _ _ _ _)
   | (with_reducible exact ih1 _ _ _ _ _)
   | (with_reducible exact ih2 _ _ _ _ _ _)
   | (with_reducible exact ih3 _ _ _ _ _ _)
   | (with_reducible exact ih4 _ _ _ _ _)
   | (with_reducible exact sentryref4_File.mono _ _ _)
   | (with_reducible exact sentryref4_Legal.mono _ _ _)
   | (with_reducible exact sentryref4_Op.mono _ _)
   | (with_reducible exact sentryref4_Place.mono _ _ _ _)
   | (with_reducible exact LeO.refl _)
   | (with_reducible exact LeO.none _)
   | (with_reducible refine LeO.ite ?_ ?_)
   | (with_reducible refine LeO.bind ?_ (fun _ => ?_))
   | exact ih0 _ _ _ _ _
   | exact ih1 _ _ _ _ _
   | exact ih2 _ _ _ _ _ _
   | exact ih3 _ _ _ _ _ _
   | exact ih4 _ _ _ _ _
   | exact sentryref4_File.mono _ _ _
   | exact sentryref4_Legal.mono _ _ _
   | exact sentryref4_Op.mono _ _
   | exact sentryref4_Place.mono _ _ _ _
   | exact LeO.none _
   | refine LeO.ite ?_ ?_
   | refine LeO.bind ?_ (fun _ => ?_)
theorem sentryref4_sentry.mono : ∀ a0 a1 a2 a3 k, LeO (sentryref4_sentry.f k a0 a1 a2 a3) (sentryref4_sentry.f (k + 1) a0 a1 a2 a3) := by
 intro a0 a1 a2 a3 k
 obtain ⟨ih0, ih1, ih2, ih3, ih4⟩ := sentryref4_sentry.mono_l k
 unfold sentryref4_sentry.f
 repeat' first
   | (with_reducible exact ih0 _ _ _ _ _)
   | (with_reducible exact ih1 _ _ _ _ _)
   | (with_reducible exact ih2 _ _ _ _ _ _)
   | (with_reducible exact ih3 _ _ _ _ _ _)
   | (with_reducible exact ih4 _ _ _ _ _)
   | (with_reducible exact sentryref4_File.mono _ _ _)
   | (with_reducible exact sentryref4_Legal.mono _ _ _)
   | (with_reducible exact sentryref4_Op.mono _ _)
   | (with_reducible exact sentryref4_Place.mono _ _ _ _)
   | (with_reducible exact LeO.refl _)
   | (with_reducible exact LeO.none _)
   | (with_reducible refine LeO.ite ?_ ?_)
   | (with_reducible refine LeO.bind ?_ (fun _ => ?_))
   | exact ih0 _ _ _ _ _
   | exact ih1 _ _ _ _ _
   | exact ih2 _ _ _ _ _ _
   | exact ih3 _ _ _ _ _ _
   | exact ih4 _ _ _ _ _
   | exact sentryref4_File.mono _ _ _
   | exact sentryref4_Legal.mono _ _ _
   | exact sentryref4_Op.mono _ _
   | exact sentryref4_Place.mono _ _ _ _
   | exact LeO.none _
   | refine LeO.ite ?_ ?_
   | refine LeO.bind ?_ (fun _ => ?_)
def sentryref4_sentry.T6 : Bool × List (List Nat × List Nat) := (true, [([], []), ([], []), ([1], [1]), ([], []), ([2, 3], [2, 3]), ([4], [4]), ([5], [5]), ([0, 6], [0, 6]), ([7, 7, 0, 1, 2, 3, 4, 5, 6, 7], [7])])
def sentryref4_sentry.B6 : List Nat := [0, 0, 2, 0, 14, 30, 62, 127, 255]
theorem sentryref4_sentry.tab6 : rtab .any (opsOf Try.f60 6) = sentryref4_sentry.T6 := by kernel_rfl
theorem sentryref4_sentry.bits6 : waitsOk sentryref4_sentry.T6.2 sentryref4_sentry.B6 = true := by kernel_rfl
def sentryref4_sentry.T7 : Bool × List (List Nat × List Nat) := (true, [([], []), ([0], [0]), ([1], [1]), ([2], [2]), ([3, 2], [2, 3]), ([2], [2]), ([4, 5, 2], [2, 4, 5]), ([6, 2], [2, 6]), ([7, 2], [2, 7]), ([2], [2]), ([9, 2], [2, 9]), ([2], [2]), ([10, 11, 2], [2, 10, 11]), ([12, 2], [2, 12]), ([13, 2], [2, 13]), ([8, 14, 2, 2], [2, 8, 14]), ([15, 2], [2, 15]), ([2, 16], [2, 16])])
def sentryref4_sentry.B7 : List Nat := [0, 1, 3, 7, 15, 7, 63, 127, 255, 7, 519, 7, 3591, 7687, 15879, 32767, 65535, 131071]
theorem sentryref4_sentry.tab7 : rtab .any (opsOf Try.f60 7) = sentryref4_sentry.T7 := by kernel_rfl
theorem sentryref4_sentry.bits7 : waitsOk sentryref4_sentry.T7.2 sentryref4_sentry.B7 = true := by kernel_rfl
def sentryref4_sentry.T12 : Bool × List (List Nat × List Nat) := (true, [([], []), ([0], [0]), ([], []), ([1, 2], [1, 2]), ([3], [3]), ([], []), ([5], [5]), ([], []), ([6, 7], [6, 7]), ([8], [8]), ([4, 9], [4, 9])])
def sentryref4_sentry.B12 : List Nat := [0, 1, 0, 7, 15, 0, 32, 0, 224, 480, 1023]
theorem sentryref4_sentry.tab12 : rtab .any (opsOf Try.f60 12) = sentryref4_sentry.T12 := by kernel_rfl
theorem sentryref4_sentry.bits12 : waitsOk sentryref4_sentry.T12.2 sentryref4_sentry.B12 = true := by kernel_rfl
set_option maxHeartbeats 8000000 in
set_option maxRecDepth 100000 in
theorem sentryref4_sentry.calls (k : Nat) (A0_0 : Option Addr) (c0_0 : Nat) (l0_0 : List ByteArray) (A0_1 : Option Addr) (c0_1 : Nat) (l0_1 : List (S48)) (A1_0 : Option Addr) (c1_0 : Nat) (l1_0 : List (S103)) (A1_1 : Option Addr) (c1_1 : Nat) (l1_1 : List (S50)) (r : Bool) (w : World) (hr0_0 : Kd.C Kd.string w A0_0 l0_0.length l0_0) (hc0_0 : l0_0.length ≤ c0_0) (hr0_1 : Kd.C k48 w A0_1 l0_1.length l0_1) (hc0_1 : l0_1.length ≤ c0_1) (hr1_0 : Kd.C k103 w A1_0 l1_0.length l1_0) (hc1_0 : l1_0.length ≤ c1_0) (hr1_1 : Kd.C k50 w A1_1 l1_1.length l1_1) (hc1_1 : l1_1.length ≤ c1_1) (h : sentryref4_sentry.f k l0_0 l0_1 l1_0 l1_1 = some r) :
  Calls Try.prog 60 #[.agg #[.slice A0_0 l0_0.length c0_0, .slice A0_1 l0_1.length c0_1], .agg #[.slice A1_0 l1_0.length c1_0, .slice A1_1 l1_1.length c1_1]] w fun e w' => e = .returned (.bool r) ∧ Below w.heap.size w w' := by
 have hu25 := Try.underlying25
 have hu54 := Try.underlying54
 have hu103 := Try.underlying103
 have hu50 := Try.underlying50
 have HR0_0 := Aside0.mk hr0_0
 have HC0_0 := Aside0.mk hc0_0
 clear hr0_0 hc0_0
 have HR0_1 := Aside0.mk hr0_1
 have HC0_1 := Aside0.mk hc0_1
 clear hr0_1 hc0_1
 have HR1_0 := Aside0.mk hr1_0
 have HC1_0 := Aside0.mk hc1_0
 clear hr1_0 hc1_0
 have HR1_1 := Aside0.mk hr1_1
 have HC1_1 := Aside0.mk hc1_1
 clear hr1_1 hc1_1
 have HB := Aside0.mk (Below.refl w.heap.size w)
 have H : (if (l1_0.length : Int) > 3 then (sentryref4_sentry.j0 k true l0_0 l0_1 l1_0 l1_1) else (if (l1_1.length : Int) > 2 then (sentryref4_sentry.j0 k true l0_0 l0_1 l1_0 l1_1) else (sentryref4_sentry.j0 k ((wrap64 ((l1_0.length : Int) + (l1_1.length : Int))) == 0) l0_0 l0_1 l1_0 l1_1))) = some r := h
 clear h
 have HC3 := Aside0.mk H
 clear H
 go_enter Try.func60, Try.ntmps60
 go_upto_region 1 with (first | ((with_reducible refine gate_dst (N := 2) rfl ?_); (try (refine gate_guard (by rfl) ?_; dsimp only)); refine box_event ?hg (N := 2) ?hd (cs := #[.slice A0_0 l0_0.length c0_0, .slice A0_1 l0_1.length c0_1]) (t := 25) ?hr ?_; (case hd => rfl); (case hg => rfl); (case hr => first | (go_simp; done) | (go_simp; rfl)); intro gb128 hg w4 hbox hb; have n0_ := hb_ HB hb; have n1_ := Aside0.mk (hbox); have n2_ := Aside0.mk ((by rw [hg]; exact (below_size (by repeat (first | (with_reducible first | exact HB.out | apply below_alloc | apply pw_below_drewN | apply below_drew1) | exact HB.out))) : w.heap.size ≤ gb128)); have n3_ := Aside0.mk ((by rw [hg]; exact (below_size (by repeat (first | (with_reducible first | exact HB.out | apply below_alloc | apply pw_below_drewN | apply below_drew1) | exact HB.out))) : w.heap.size ≤ gb128)); clear HB; have HB := n0_; have BK128 := n1_; have GW128 := n2_; have GE128 := n3_; clear n0_ n1_ n2_ n3_; clear hb hbox hg) | ((with_reducible refine gate_dst (N := 3) rfl ?_); (try (refine gate_guard (by rfl) ?_; dsimp only)); refine box_event ?hg (N := 3) ?hd (cs := #[.slice A1_0 l1_0.length c1_0, .slice A1_1 l1_1.length c1_1]) (t := 54) ?hr ?_; (case hd => rfl); (case hg => rfl); (case hr => first | (go_simp; done) | (go_simp; rfl)); intro gb129 hg w5 hbox hb; have n0_ := bb_ BK128 hb; have n1_ := hb_ HB hb; have n2_ := Aside0.mk (hbox); have n3_ := Aside0.mk ((by rw [hg]; exact (below_size (by repeat (first | (with_reducible first | exact HB.out | apply below_alloc | apply pw_below_drewN | apply below_drew1 | refine below_set ?_ GE128.out) | exact HB.out))) : w.heap.size ≤ gb129)); have n4_ := Aside0.mk ((by rw [hg]; exact (below_size (by repeat (first | (with_reducible first | exact HB.out | apply below_alloc | apply pw_below_drewN | apply below_drew1 | refine below_set ?_ GE128.out) | exact HB.out))) : w.heap.size ≤ gb129)); have n5_ := Aside0.mk ((by rw [hg]; exact Nat.ne_of_lt (blk_lt (g := gb128) (o := .cells #[.slice A0_0 l0_0.length c0_0, .slice A0_1 l0_1.length c0_1] 25 (0, 0)) (by (with_reducible repeat (first | refine blk_drewN ?_ _ | refine blk_drew ?_ | refine blk_alloc ?_ _)); exact BK128.out)) : gb128 ≠ gb129)); have n6_ := Aside0.mk ((by rw [hg]; exact Nat.ne_of_gt (blk_lt (g := gb128) (o := .cells #[.slice A0_0 l0_0.length c0_0, .slice A0_1 l0_1.length c0_1] 25 (0, 0)) (by (with_reducible repeat (first | refine blk_drewN ?_ _ | refine blk_drew ?_ | refine blk_alloc ?_ _)); exact BK128.out)) : gb129 ≠ gb128)); clear BK128; clear HB; have BK128 := n0_; have HB := n1_; have BK129 := n2_; have GW129 := n3_; have GE129 := n4_; have NB128_129 := n5_; have NB129_128 := n6_; clear n0_ n1_ n2_ n3_ n4_ n5_ n6_; clear hb hbox hg))
 (try simp only [Act.put, List.setIfInBounds_toArray, List.set_cons_zero, List.set_cons_succ])
 go_cut [29] (fun v29 wc => ∃ (kq : Nat) (x29_2 : Bool), v29 = .bool x29_2 ∧ Aside0 (sentryref4_sentry.j0 kq x29_2 l0_0 l0_1 l1_0 l1_1 = some r) ∧ Aside0 (kq ≤ k) ∧ Aside0 (wc.heap[gb128]? = some (.cells #[(.slice A0_0 l0_0.length c0_0), (.slice A0_1 l0_1.length c0_1)] 25 (0, 0))) ∧ Aside0 (wc.heap[gb129]? = some (.cells #[(.slice A1_0 l1_0.length c1_0), (.slice A1_1 l1_1.length c1_1)] 54 (0, 0))) ∧ Aside0 (Below w.heap.size w wc))
 case first =>
  have H := HC3.out
  clear HC3
  by_cases c6 : (l1_0.length : Int) > 3
  ·rw [if_pos c6] at H
   have c6b0 : decide (3 < (l1_0.length : Int)) = true := decide_eq_true c6
   have c6b1 : decide (3 < l1_0.length) = true := decide_eq_true (by omega)
   clear c6
   (first | rw [c6b0] | (simp only [i64_w, i32_w]; rw [c6b0]) | skip)
   have H' := Aside0.mk H
   clear H
   have hnb7 := NB129_128.out
   have hnc7 := NB128_129.out
   obtain ⟨hcz8_0, hcz8_1, hfz8_0, hfz8_1⟩ := bs2_ BK129
   go_wp2
   go_meet
   case rel => exact ⟨_, (true), (by first | rfl | (simp; done) | (simp [*]; done)), H', ⟨by first | omega | exact Nat.le_refl _⟩, ⟨gx_ BK128⟩, ⟨gx_ BK129⟩, ⟨hf_⟩⟩
  ·rw [if_neg c6] at H
   have c6b0 : decide (3 < (l1_0.length : Int)) = false := decide_eq_false c6
   have c6b1 : decide (3 < l1_0.length) = false := decide_eq_false (by omega)
   clear c6
   (first | rw [c6b0] | (simp only [i64_w, i32_w]; rw [c6b0]) | skip)
   by_cases c9 : (l1_1.length : Int) > 2
   ·rw [if_pos c9] at H
    have c9b0 : decide (2 < (l1_1.length : Int)) = true := decide_eq_true c9
    have c9b1 : decide (2 < l1_1.length) = true := decide_eq_true (by omega)
    clear c9
    have H' := Aside0.mk H
    clear H
    have hnb10 := NB129_128.out
    have hnc10 := NB128_129.out
    obtain ⟨hcz11_0, hcz11_1, hfz11_0, hfz11_1⟩ := bs2_ BK129
    go_wp2
    go_meet
    case rel => exact ⟨_, (true), (by first | rfl | (simp; done) | (simp [*]; done)), H', ⟨by first | omega | exact Nat.le_refl _⟩, ⟨gx_ BK128⟩, ⟨gx_ BK129⟩, ⟨hf_⟩⟩
   ·rw [if_neg c9] at H
    have c9b0 : decide (2 < (l1_1.length : Int)) = false := decide_eq_false c9
    have c9b1 : decide (2 < l1_1.length) = false := decide_eq_false (by omega)
    clear c9
    have H' := Aside0.mk H
    clear H
    have hnb12 := NB129_128.out
    have hnc12 := NB128_129.out
    obtain ⟨hcz13_0, hcz13_1, hfz13_0, hfz13_1⟩ := bs2_ BK129
    go_wp2
    go_meet
    case rel => exact ⟨_, (((wrap64 ((l1_0.length : Int) + (l1_1.length : Int))) == 0)), (by first | rfl | (simp; done) | (simp [*]; done)), H', ⟨by first | omega | exact Nat.le_refl _⟩, ⟨gx_ BK128⟩, ⟨gx_ BK129⟩, ⟨hf_⟩⟩
 case rest =>
  clear HC3
  (try clear c1); (try clear p2); (try clear c6); (try clear c6b0); (try clear c6b1); (try clear p6); (try clear c7); (try clear c9); (try clear c9b0); (try clear c9b1); (try clear c10); (try clear c12); (try clear hcz11_0); (try clear hcz11_1); (try clear hcz13_0); (try clear hcz13_1); (try clear hcz8_0); (try clear hcz8_1); (try clear hfz11_0); (try clear hfz11_1); (try clear hfz13_0); (try clear hfz13_1); (try clear hfz8_0); (try clear hfz8_1)
  obtain ⟨kq, x29_2, rfl, HA, HJ2, BK128, BK129, HB⟩ := hcut
  cases kq with
  | zero => exact absurd HA.out (by simp [sentryref4_sentry.j0])
  | succ kj2 =>
   have H := HA.out
   clear HA
   simp only [sentryref4_sentry.j0] at H
   by_cases c14 : x29_2 = true
   ·subst c14
    have H1 : (some false) = some r := by rw [if_pos rfl] at H; exact H
    clear H
    have H := H1
    clear H1
    obtain rfl := Option.some.inj H
    go_wp2
    go_ret
    exact ⟨er_, hf_⟩
   ·replace c14 := Bool.eq_false_iff.mpr c14
    subst c14
    have H1 : (sentryref4_sentry.l0 kj2 0 l0_0 l0_1 l1_0 l1_1) = some r := by rw [if_neg (show ¬ (false = true) by decide)] at H; exact H
    clear H
    have H := H1
    clear H1
    have H' := Aside0.mk H
    clear H
    go_wp2
    go_loopg [5] kj2 (fun kq v5 w' => ∃ (x5_2 : Int), v5 = .int .i64 x5_2 ∧ Aside0 (sentryref4_sentry.l0 kq x5_2 l0_0 l0_1 l1_0 l1_1 = some r) ∧ Aside0 (kq ≤ kj2) ∧ Aside0 (w'.heap[gb128]? = some (.cells #[(.slice A0_0 l0_0.length c0_0), (.slice A0_1 l0_1.length c0_1)] 25 (0, 0))) ∧ Aside0 (w'.heap[gb129]? = some (.cells #[(.slice A1_0 l1_0.length c1_0), (.slice A1_1 l1_1.length c1_1)] 54 (0, 0))) ∧ Aside0 (Below w.heap.size w w'))
    case atStart => exact ⟨(0), (by first | rfl | (simp; done) | (simp [*]; done)), H', ⟨Nat.le_refl _⟩, ⟨gx_ BK128⟩, ⟨gx_ BK129⟩, ⟨hf_⟩⟩
    case round =>
     clear H'
     (try clear c1); (try clear p2); (try clear c6); (try clear c6b0); (try clear c6b1); (try clear p6); (try clear c7); (try clear c9); (try clear c9b0); (try clear c9b1); (try clear c10); (try clear c12); (try clear c14); (try clear hcz11_0); (try clear hcz11_1); (try clear hcz13_0); (try clear hcz13_1); (try clear hcz8_0); (try clear hcz8_1); (try clear hfz11_0); (try clear hfz11_1); (try clear hfz13_0); (try clear hfz13_1); (try clear hfz8_0); (try clear hfz8_1); (try clear p2); (try clear p6)
     obtain ⟨x5_2, rfl, HA, HK2, BK128, BK129, HB⟩ := hrel
     cases gk with
     | zero => exact absurd HA.out (by simp [sentryref4_sentry.l0])
     | succ k2 =>
      have H := HA.out
      clear HA
      simp only [sentryref4_sentry.l0] at H
      by_cases c15 : x5_2 < (l1_0.length : Int)
      ·rw [if_pos c15] at H
       have c15b0 : decide (x5_2 < (l1_0.length : Int)) = true := decide_eq_true c15
       clear c15
       by_cases c16 : 0 ≤ x5_2
       ·rw [if_pos c16] at H
        have c16b0 : decide (0 ≤ x5_2) = true := decide_eq_true c16
        clear c16
        replace H := Option.bind_eq_some_iff.mp H
        obtain ⟨t131, A170, H⟩ := H
        replace H : (if t131 < 0 then (sentryref4_sentry.j2 k2 x5_2 true l0_0 l0_1 l1_0 l1_1) else (if 0 ≤ t131 then (if t131 < (l0_1.length : Int) then ((sentryref4_Legal.f k2 ((rd_T48 l0_1 t131).f1) ((rd_T103 l1_0 x5_2).f1)).bind fun t134 => (sentryref4_sentry.j2 k2 x5_2 (!t134) l0_0 l0_1 l1_0 l1_1)) else (none)) else (none))) = some r := H
        have A17 := Aside0.mk A170
        clear A170
        have HC18 := Aside0.mk H
        clear H
        have hnb19 := NB129_128.out
        have hnc19 := NB128_129.out
        obtain ⟨hcz20_0, hcz20_1, hfz20_0, hfz20_1⟩ := bs2_ BK129
        try go_wp2
        replace BK128 := Aside0.mk (blk_drew BK128.out)
        replace BK129 := Aside0.mk (blk_drew BK129.out)
        replace HB := Aside0.mk (below_drew1 HB.out)
        have p130 : 0 ≤ (x5_2 : Int) := od_
        have q130 : x5_2 < (l1_0.length : Int) := od_
        obtain ⟨ad130, e130, hx130_0, hx130_1⟩ := at_T103 HR1_0.out x5_2 p130 q130
        have hw130_1 := hx130_1
        have hw130_0 := hx130_0
        cases e130
        replace hx130_0 := rr_ HB hx130_0
        replace hx130_1 := rr_ HB hx130_1
        replace p130 := eq_true p130
        replace q130 := eq_true q130
        refine start_ (n := 9) (S := fun w' => w'.cell? ⟨gb128, 0, none⟩ = some (.slice A0_0 l0_0.length c0_0) ∧ w'.cell? ⟨gb128, 1, none⟩ = some (.slice A0_1 l0_1.length c0_1) ∧ w'.cell? ⟨gb129, 0, none⟩ = some (.slice (some ad130) l1_0.length c1_0) ∧ w'.cell? ⟨gb129, 1, none⟩ = some (.slice A1_1 l1_1.length c1_1) ∧ w'.cell? (ad130.add ((x5_2).toNat * 2)) = some (.string ((rd_T103 l1_0 x5_2).f0)) ∧ w'.cell? ⟨(ad130.add ((x5_2).toNat * 2)).block, (ad130.add ((x5_2).toNat * 2)).off + 1, none⟩ = some (.int .i64 ((rd_T103 l1_0 x5_2).f1))) (ds := []) #[false, false, false, false, false, false, false, false, false] (by kernel_rfl) rfl rfl ⟨(bk0_ BK128 :), (bk1_ BK128 :), (bk0_ BK129 :), (bk1_ BK129 :), (rr_ HB hw130_0 :), (rr_ HB hw130_1 :)⟩ (fun hHeld => ?_); refine with_tabW sentryref4_sentry.tab6 sentryref4_sentry.bits6 (fun HT_ HW_ => ?_)
        generalize wr.drew = w21 at BK128 BK129 HB hx130_0 hx130_1 hHeld ⊢
        refine pz_ 1 (some 38) (bits_ 9 2) HT_.out ?_
        refine pz_ 3 (some 40) (bits_ 9 10) HT_.out ?_
        refine tz_ 0 (some 37) (bits_ 9 11) HT_.out HW_.out hHeld ?_ (hy := by rintro w' ⟨s0, s1, s2, s3, s4, s5⟩; go_simp; with_reducible rfl)
        refine tz_ 2 (some 39) (bits_ 9 15) HT_.out HW_.out hHeld ?_ (hy := by rintro w' ⟨s0, s1, s2, s3, s4, s5⟩; go_simp; with_reducible rfl)
        refine pz_ 4 (some 41) (bits_ 9 31) HT_.out ?_
        refine pz_ 5 (some 42) (bits_ 9 63) HT_.out ?_
        refine tz_ 6 (some 43) (bits_ 9 127) HT_.out HW_.out hHeld ?_ (hy := by rintro w' ⟨s0, s1, s2, s3, s4, s5⟩; go_simp; with_reducible rfl)
        refine oz_ 7 (some 44) (bits_ 9 255) HT_.out (fun K hK => ?_)
        refine go_s_ Try.func54 #[.agg #[.slice A0_0 l0_0.length c0_0, .slice A0_1 l0_1.length c0_1], .string ((rd_T103 l1_0 x5_2).f0)] ?_
        with_reducible refine (sentryref4_Place.calls k2 _ _ l0_0 _ _ l0_1 ((rd_T103 l1_0 x5_2).f0) t131 _ ?side1 ?side2 ?side3 ?side4 A17.out).mono ?_
        (case side1 => exact kc_ HR0_0 HB)
        (case side2 => exact HC0_0.out)
        (case side3 => exact kc_ HR0_1 HB)
        (case side4 => exact HC0_1.out)
        rintro e w22 ⟨rfl, hb⟩
        refine ⟨_, rfl, ?_⟩
        replace BK128 := bb_ BK128 hb
        replace BK129 := bb_ BK129 hb
        replace HB := hb_ HB hb
        (try clear hb); (try clear hb2); (try clear hk); (try clear hi)
        refine hK.out _ _ ⟨(bk0_ BK128 :), (bk1_ BK128 :), (bk0_ BK129 :), (bk1_ BK129 :), (rr_ HB hw130_0 :), (rr_ HB hw130_1 :)⟩ (fun hHeld => ?_)
        clear hK K
        refine nz_ (some 44) ?_
        refine pz_ 8 (some 6) (bits_ 9 511) HT_.out ?_
        refine done_ (done_of HT_.out (by kernel_rfl)) ?_
        go_upto_region 7 with (fail)
        go_cut [62] (fun v62 wc => ∃ (kq : Nat) (x62_17 : Bool), v62 = .bool x62_17 ∧ Aside0 (sentryref4_sentry.j2 kq x5_2 x62_17 l0_0 l0_1 l1_0 l1_1 = some r) ∧ Aside0 (kq ≤ k2) ∧ Aside0 (wc.heap[gb128]? = some (.cells #[(.slice A0_0 l0_0.length c0_0), (.slice A0_1 l0_1.length c0_1)] 25 (0, 0))) ∧ Aside0 (wc.heap[gb129]? = some (.cells #[(.slice (some ad130) l1_0.length c1_0), (.slice A1_1 l1_1.length c1_1)] 54 (0, 0))) ∧ Aside0 (Below w.heap.size w wc))
        case first =>
         have H := HC18.out
         clear HC18
         by_cases c23 : t131 < 0
         ·rw [if_pos c23] at H
          have c23b0 : decide (t131 < 0) = true := decide_eq_true c23
          clear c23
          (first | rw [c23b0] | (simp only [i64_w, i32_w]; rw [c23b0]) | skip)
          have H' := Aside0.mk H
          clear H
          try go_wp2
          replace BK128 := Aside0.mk (blk_drew BK128.out)
          replace BK129 := Aside0.mk (blk_drew BK129.out)
          replace HB := Aside0.mk (below_drew1 HB.out)
          refine start_ (n := 18) (S := fun w' => True) (ds := []) #[false, false, false, false, false, false, false, false, false, false, false, false, false, false, false, false, false, false] (by kernel_rfl) rfl rfl trivial (fun hHeld => ?_); refine with_tabW sentryref4_sentry.tab7 sentryref4_sentry.bits7 (fun HT_ HW_ => ?_)
          generalize w22.drew = w24 at BK128 BK129 HB hHeld ⊢
          refine pz_ 0 (some 45) (bits_ 18 1) HT_.out ?_
          refine pz_ 1 (some 46) (bits_ 18 3) HT_.out ?_
          refine pz_ 2 (some 47) (bits_ 18 7) HT_.out ?_
          refine sz_ 3 (some 48) (bits_ 18 15) HT_.out ?_
          refine sz_ 4 (some 49) (bits_ 18 31) HT_.out ?_
          refine sz_ 5 (some 50) (bits_ 18 63) HT_.out ?_
          refine sz_ 6 (some 51) (bits_ 18 127) HT_.out ?_
          refine sz_ 7 (some 52) (bits_ 18 255) HT_.out ?_
          refine sz_ 8 (some 53) (bits_ 18 511) HT_.out ?_
          refine sz_ 9 (some 54) (bits_ 18 1023) HT_.out ?_
          refine sz_ 10 (some 55) (bits_ 18 2047) HT_.out ?_
          refine sz_ 11 (some 56) (bits_ 18 4095) HT_.out ?_
          refine sz_ 12 (some 57) (bits_ 18 8191) HT_.out ?_
          refine sz_ 13 (some 58) (bits_ 18 16383) HT_.out ?_
          refine sz_ 14 (some 59) (bits_ 18 32767) HT_.out ?_
          refine sz_ 15 (some 60) (bits_ 18 65535) HT_.out ?_
          refine sz_ 16 (some 61) (bits_ 18 131071) HT_.out ?_
          refine pz_ 17 (some 62) (bits_ 18 262143) HT_.out ?_
          refine done_ (done_of HT_.out (by kernel_rfl)) ?_
          try go_wp2
          go_meet
          case rel => exact ⟨_, (true), (by first | rfl | (simp; done) | (simp [*]; done)), H', ⟨by have := HJ2.out; have := HK2.out; first | omega | exact Nat.le_refl _⟩, ⟨gx_ BK128⟩, ⟨gx_ BK129⟩, ⟨hf_⟩⟩
         ·rw [if_neg c23] at H
          have c23b0 : decide (t131 < 0) = false := decide_eq_false c23
          clear c23
          (first | rw [c23b0] | (simp only [i64_w, i32_w]; rw [c23b0]) | skip)
          by_cases c25 : 0 ≤ t131
          ·rw [if_pos c25] at H
           have c25b0 : decide (0 ≤ t131) = true := decide_eq_true c25
           clear c25
           by_cases c26 : t131 < (l0_1.length : Int)
           ·rw [if_pos c26] at H
            have c26b0 : decide (t131 < (l0_1.length : Int)) = true := decide_eq_true c26
            clear c26
            replace H := Option.bind_eq_some_iff.mp H
            obtain ⟨t134, A270, H⟩ := H
            replace H : (sentryref4_sentry.j2 k2 x5_2 (!t134) l0_0 l0_1 l1_0 l1_1) = some r := H
            have A27 := Aside0.mk A270
            clear A270
            have H' := Aside0.mk H
            clear H
            try go_wp2
            replace BK128 := Aside0.mk (blk_drew BK128.out)
            replace BK129 := Aside0.mk (blk_drew BK129.out)
            replace HB := Aside0.mk (below_drew1 HB.out)
            have p132 : 0 ≤ (t131 : Int) := od_
            have q132 : t131 < (l0_1.length : Int) := od_
            obtain ⟨ad132, A132_5, c132_5, A132_6, c132_6, e132, hx132_0, hx132_1, hx132_2, hx132_3, hx132_4, hx132_5, hx132_6, hl132_5, hi132_5, hl132_6, hi132_6⟩ := at_T48 HR0_1.out t131 p132 q132
            have hw132_6 := hx132_6
            have hw132_5 := hx132_5
            have hw132_4 := hx132_4
            have hw132_3 := hx132_3
            have hw132_2 := hx132_2
            have hw132_1 := hx132_1
            have hw132_0 := hx132_0
            cases e132
            replace hx132_0 := rr_ HB hx132_0
            replace hx132_1 := rr_ HB hx132_1
            replace hx132_2 := rr_ HB hx132_2
            replace hx132_3 := rr_ HB hx132_3
            replace hx132_4 := rr_ HB hx132_4
            replace hx132_5 := rr_ HB hx132_5
            replace hx132_6 := rr_ HB hx132_6
            have HR132_5 := Aside0.mk hi132_5
            have HC132_5 := Aside0.mk hl132_5
            clear hi132_5 hl132_5
            have HR132_6 := Aside0.mk hi132_6
            have HC132_6 := Aside0.mk hl132_6
            clear hi132_6 hl132_6
            replace p132 := eq_true p132
            replace q132 := eq_true q132
            have p133 : 0 ≤ (x5_2 : Int) := od_
            have q133 : x5_2 < (l1_0.length : Int) := od_
            obtain ⟨ad133, e133, hx133_0, hx133_1⟩ := at_T103 HR1_0.out x5_2 p133 q133
            have hw133_1 := hx133_1
            have hw133_0 := hx133_0
            obtain rfl : ad130 = ad133 := (by injection e133)
            replace hx133_0 := rr_ HB hx133_0
            replace hx133_1 := rr_ HB hx133_1
            replace p133 := eq_true p133
            replace q133 := eq_true q133
            refine start_ (n := 18) (S := fun w' => w'.cell? ⟨gb128, 0, none⟩ = some (.slice A0_0 l0_0.length c0_0) ∧ w'.cell? ⟨gb128, 1, none⟩ = some (.slice (some ad132) l0_1.length c0_1) ∧ w'.cell? ⟨gb129, 0, none⟩ = some (.slice (some ad130) l1_0.length c1_0) ∧ w'.cell? ⟨gb129, 1, none⟩ = some (.slice A1_1 l1_1.length c1_1) ∧ w'.cell? (ad132.add ((t131).toNat * 7)) = some (.string ((rd_T48 l0_1 t131).f0)) ∧ w'.cell? ⟨(ad132.add ((t131).toNat * 7)).block, (ad132.add ((t131).toNat * 7)).off + 1, none⟩ = some (.int .i64 ((rd_T48 l0_1 t131).f1)) ∧ w'.cell? ⟨(ad132.add ((t131).toNat * 7)).block, (ad132.add ((t131).toNat * 7)).off + 2, none⟩ = some (.string ((rd_T48 l0_1 t131).f2)) ∧ w'.cell? ⟨(ad132.add ((t131).toNat * 7)).block, (ad132.add ((t131).toNat * 7)).off + 3, none⟩ = some (.bool ((rd_T48 l0_1 t131).f3)) ∧ w'.cell? ⟨(ad132.add ((t131).toNat * 7)).block, (ad132.add ((t131).toNat * 7)).off + 4, none⟩ = some (.int .i64 ((rd_T48 l0_1 t131).f4)) ∧ w'.cell? ⟨(ad132.add ((t131).toNat * 7)).block, (ad132.add ((t131).toNat * 7)).off + 5, none⟩ = some (.slice A132_5 ((rd_T48 l0_1 t131).f5).length c132_5) ∧ w'.cell? ⟨(ad132.add ((t131).toNat * 7)).block, (ad132.add ((t131).toNat * 7)).off + 6, none⟩ = some (.slice A132_6 ((rd_T48 l0_1 t131).f6).length c132_6) ∧ w'.cell? (ad130.add ((x5_2).toNat * 2)) = some (.string ((rd_T103 l1_0 x5_2).f0)) ∧ w'.cell? ⟨(ad130.add ((x5_2).toNat * 2)).block, (ad130.add ((x5_2).toNat * 2)).off + 1, none⟩ = some (.int .i64 ((rd_T103 l1_0 x5_2).f1))) (ds := []) #[false, false, false, false, false, false, false, false, false, false, false, false, false, false, false, false, false, false] (by kernel_rfl) rfl rfl ⟨(bk0_ BK128 :), (bk1_ BK128 :), (bk0_ BK129 :), (bk1_ BK129 :), (rr_ HB hw132_0 :), (rr_ HB hw132_1 :), (rr_ HB hw132_2 :), (rr_ HB hw132_3 :), (rr_ HB hw132_4 :), (rr_ HB hw132_5 :), (rr_ HB hw132_6 :), (rr_ HB hw133_0 :), (rr_ HB hw133_1 :)⟩ (fun hHeld => ?_); refine with_tabW sentryref4_sentry.tab7 sentryref4_sentry.bits7 (fun HT_ HW_ => ?_)
            generalize w22.drew = w28 at BK128 BK129 HB HR132_5 HR132_6 hx132_0 hx132_1 hx132_2 hx132_3 hx132_4 hx132_5 hx132_6 hx133_0 hx133_1 hHeld ⊢
            refine pz_ 0 (some 45) (bits_ 18 1) HT_.out ?_
            refine pz_ 1 (some 46) (bits_ 18 3) HT_.out ?_
            refine pz_ 2 (some 47) (bits_ 18 7) HT_.out ?_
            refine pz_ 3 (some 48) (bits_ 18 15) HT_.out ?_
            refine pz_ 5 (some 50) (bits_ 18 47) HT_.out ?_
            refine pz_ 9 (some 54) (bits_ 18 559) HT_.out ?_
            refine pz_ 11 (some 56) (bits_ 18 2607) HT_.out ?_
            refine tz_ 4 (some 49) (bits_ 18 2623) HT_.out HW_.out hHeld ?_ (hy := by rintro w' ⟨s0, s1, s2, s3, s4, s5, s6, s7, s8, s9, s10, s11, s12⟩; go_simp; with_reducible rfl)
            refine pz_ 6 (some 51) (bits_ 18 2687) HT_.out ?_
            refine pz_ 7 (some 52) (bits_ 18 2815) HT_.out ?_
            refine tz_ 8 (some 53) (bits_ 18 3071) HT_.out HW_.out hHeld ?_ (hy := by rintro w' ⟨s0, s1, s2, s3, s4, s5, s6, s7, s8, s9, s10, s11, s12⟩; go_simp; with_reducible rfl)
            refine tz_ 10 (some 55) (bits_ 18 4095) HT_.out HW_.out hHeld ?_ (hy := by rintro w' ⟨s0, s1, s2, s3, s4, s5, s6, s7, s8, s9, s10, s11, s12⟩; go_simp; with_reducible rfl)
            refine pz_ 12 (some 57) (bits_ 18 8191) HT_.out ?_
            refine pz_ 13 (some 58) (bits_ 18 16383) HT_.out ?_
            refine tz_ 14 (some 59) (bits_ 18 32767) HT_.out HW_.out hHeld ?_ (hy := by rintro w' ⟨s0, s1, s2, s3, s4, s5, s6, s7, s8, s9, s10, s11, s12⟩; go_simp; with_reducible rfl)
            refine oz_ 15 (some 60) (bits_ 18 65535) HT_.out (fun K hK => ?_)
            refine go_s_ Try.func77 #[.int .i64 ((rd_T48 l0_1 t131).f1), .int .i64 ((rd_T103 l1_0 x5_2).f1)] ?_
            with_reducible refine (sentryref4_Legal.calls k2 ((rd_T48 l0_1 t131).f1) ((rd_T103 l1_0 x5_2).f1) t134 _ A27.out).mono ?_
            rintro e w' ⟨rfl, ⟨nd, rfl⟩⟩
            refine ⟨_, rfl, ?_⟩
            refine hK.out _ _ ⟨(bk0_ BK128 :), (bk1_ BK128 :), (bk0_ BK129 :), (bk1_ BK129 :), (rr_ HB hw132_0 :), (rr_ HB hw132_1 :), (rr_ HB hw132_2 :), (rr_ HB hw132_3 :), (rr_ HB hw132_4 :), (rr_ HB hw132_5 :), (rr_ HB hw132_6 :), (rr_ HB hw133_0 :), (rr_ HB hw133_1 :)⟩ (fun hHeld => ?_)
            clear hK K
            refine nz_ (some 60) ?_
            refine pz_ 16 (some 61) (bits_ 18 131071) HT_.out ?_
            refine pz_ 17 (some 62) (bits_ 18 262143) HT_.out ?_
            refine done_ (done_of HT_.out (by kernel_rfl)) ?_
            try go_wp2
            go_meet
            case rel => exact ⟨_, (!t134), (by first | rfl | (simp; done) | (simp [*]; done)), H', ⟨by have := HJ2.out; have := HK2.out; first | omega | exact Nat.le_refl _⟩, ⟨gx_ BK128⟩, ⟨gx_ BK129⟩, ⟨hf_⟩⟩
           ·rw [if_neg c26] at H
            exact absurd H (by simp)
          ·rw [if_neg c25] at H
           exact absurd H (by simp)
        case rest =>
         clear HC18
         (try clear c1); (try clear p1); (try clear q1); (try clear hx1); (try clear c2); (try clear p2); (try clear c5); (try clear c6); (try clear c6b0); (try clear c6b1); (try clear p6); (try clear c7); (try clear c9); (try clear c9b0); (try clear c9b1); (try clear c10); (try clear c12); (try clear c13); (try clear p13); (try clear q13); (try clear hx13); (try clear c14); (try clear c15); (try clear c15b0); (try clear c16); (try clear c16b0); (try clear c19); (try clear c23); (try clear c23b0); (try clear c25); (try clear c25b0); (try clear c26); (try clear c26b0); (try clear hcz11_0); (try clear hcz11_1); (try clear hcz13_0); (try clear hcz13_1); (try clear hcz20_0); (try clear hcz20_1); (try clear hcz8_0); (try clear hcz8_1); (try clear hfz11_0); (try clear hfz11_1); (try clear hfz13_0); (try clear hfz13_1); (try clear hfz20_0); (try clear hfz20_1); (try clear hfz8_0); (try clear hfz8_1); (try clear hx130_0); (try clear hx130_1); (try clear hx132_0); (try clear hx132_1); (try clear hx132_2); (try clear hx132_3); (try clear hx132_4); (try clear hx132_5); (try clear hx132_6); (try clear hx133_0); (try clear hx133_1); (try clear p130); (try clear p132); (try clear p133); (try clear p2); (try clear p6); (try clear q130); (try clear q132); (try clear q133)
         obtain ⟨kq, x62_17, rfl, HA, HJ17, BK128, BK129, HB⟩ := hcut
         cases kq with
         | zero => exact absurd HA.out (by simp [sentryref4_sentry.j2])
         | succ kj17 =>
          have H := HA.out
          clear HA
          simp only [sentryref4_sentry.j2] at H
          by_cases c29 : x62_17 = true
          ·subst c29
           have H1 : (some false) = some r := by rw [if_pos rfl] at H; exact H
           clear H
           have H := H1
           clear H1
           obtain rfl := Option.some.inj H
           go_wp2
           go_ret
           exact ⟨er_, hf_⟩
          ·replace c29 := Bool.eq_false_iff.mpr c29
           subst c29
           have H1 : (sentryref4_sentry.l1 kj17 x5_2 0 l0_0 l0_1 l1_0 l1_1) = some r := by rw [if_neg (show ¬ (false = true) by decide)] at H; exact H
           clear H
           have H := H1
           clear H1
           have H' := Aside0.mk H
           clear H
           go_wp2
           go_loopg [7] kj17 (fun kq v7 w' => ∃ (x7_4 : Int), v7 = .int .i64 x7_4 ∧ Aside0 (sentryref4_sentry.l1 kq x5_2 x7_4 l0_0 l0_1 l1_0 l1_1 = some r) ∧ Aside0 (kq ≤ kj17) ∧ Aside0 (w'.heap[gb128]? = some (.cells #[(.slice A0_0 l0_0.length c0_0), (.slice A0_1 l0_1.length c0_1)] 25 (0, 0))) ∧ Aside0 (w'.heap[gb129]? = some (.cells #[(.slice (some ad130) l1_0.length c1_0), (.slice A1_1 l1_1.length c1_1)] 54 (0, 0))) ∧ Aside0 (Below w.heap.size w w'))
           case atStart => exact ⟨(0), (by first | rfl | (simp; done) | (simp [*]; done)), H', ⟨Nat.le_refl _⟩, ⟨gx_ BK128⟩, ⟨gx_ BK129⟩, ⟨hf_⟩⟩
           case round =>
            clear H'
            (try clear c1); (try clear p1); (try clear q1); (try clear hx1); (try clear c2); (try clear p2); (try clear c5); (try clear c6); (try clear c6b0); (try clear c6b1); (try clear p6); (try clear c7); (try clear c9); (try clear c9b0); (try clear c9b1); (try clear c10); (try clear c12); (try clear c13); (try clear p13); (try clear q13); (try clear hx13); (try clear c14); (try clear c15); (try clear c15b0); (try clear c16); (try clear c16b0); (try clear c19); (try clear c23); (try clear c23b0); (try clear c25); (try clear c25b0); (try clear c26); (try clear c26b0); (try clear c29); (try clear hcz11_0); (try clear hcz11_1); (try clear hcz13_0); (try clear hcz13_1); (try clear hcz20_0); (try clear hcz20_1); (try clear hcz8_0); (try clear hcz8_1); (try clear hfz11_0); (try clear hfz11_1); (try clear hfz13_0); (try clear hfz13_1); (try clear hfz20_0); (try clear hfz20_1); (try clear hfz8_0); (try clear hfz8_1); (try clear hx130_0); (try clear hx130_1); (try clear hx132_0); (try clear hx132_1); (try clear hx132_2); (try clear hx132_3); (try clear hx132_4); (try clear hx132_5); (try clear hx132_6); (try clear hx133_0); (try clear hx133_1); (try clear p1); (try clear p13); (try clear p130); (try clear p132); (try clear p133); (try clear p2); (try clear p6); (try clear q1); (try clear q13); (try clear q130); (try clear q132); (try clear q133)
            obtain ⟨x7_4, rfl, HA, HK4, BK128, BK129, HB⟩ := hrel
            cases gk with
            | zero => exact absurd HA.out (by simp [sentryref4_sentry.l1])
            | succ k4 =>
             have H := HA.out
             clear HA
             simp only [sentryref4_sentry.l1] at H
             by_cases c30 : x7_4 < x5_2
             ·rw [if_pos c30] at H
              have c30b0 : decide (x7_4 < x5_2) = true := decide_eq_true c30
              clear c30
              by_cases c31 : 0 ≤ x7_4
              ·rw [if_pos c31] at H
               have c31b0 : decide (0 ≤ x7_4) = true := decide_eq_true c31
               clear c31
               by_cases c32 : x7_4 < (l1_0.length : Int)
               ·rw [if_pos c32] at H
                have c32b0 : decide (x7_4 < (l1_0.length : Int)) = true := decide_eq_true c32
                clear c32
                by_cases c33 : 0 ≤ x5_2
                ·rw [if_pos c33] at H
                 have c33b0 : decide (0 ≤ x5_2) = true := decide_eq_true c33
                 clear c33
                 by_cases c34 : x5_2 < (l1_0.length : Int)
                 ·rw [if_pos c34] at H
                  have c34b0 : decide (x5_2 < (l1_0.length : Int)) = true := decide_eq_true c34
                  clear c34
                  by_cases c35 : ((((rd_T103 l1_0 x7_4).f0).toList) == (((rd_T103 l1_0 x5_2).f0).toList) && (((rd_T103 l1_0 x7_4).f1) == ((rd_T103 l1_0 x5_2).f1))) = true
                  ·rw [if_pos c35] at H
                   have c35b0 : ((((rd_T103 l1_0 x7_4).f0).toList) == (((rd_T103 l1_0 x5_2).f0).toList) && (((rd_T103 l1_0 x7_4).f1) == ((rd_T103 l1_0 x5_2).f1))) = true := c35
                   (try (have c35b1 : decide ((((rd_T103 l1_0 x7_4).f0).toList) = (((rd_T103 l1_0 x5_2).f0).toList) && (((rd_T103 l1_0 x7_4).f1) == ((rd_T103 l1_0 x5_2).f1))) = true := by simpa using c35))
                   (try (have c35b2 : ((((rd_T103 l1_0 x7_4).f0).toList) == (((rd_T103 l1_0 x5_2).f0).toList) && (((rd_T103 l1_0 x7_4).f1) == ((rd_T103 l1_0 x5_2).f1))) = true := by simpa using c35))
                   clear c35
                   obtain rfl := Option.some.inj H
                   try go_wp2
                   replace BK128 := Aside0.mk (blk_drew BK128.out)
                   replace BK129 := Aside0.mk (blk_drew BK129.out)
                   replace HB := Aside0.mk (below_drew1 HB.out)
                   have p135 : 0 ≤ (x7_4 : Int) := od_
                   have q135 : x7_4 < (l1_0.length : Int) := od_
                   obtain ⟨ad135, e135, hx135_0, hx135_1⟩ := at_T103 HR1_0.out x7_4 p135 q135
                   have hw135_1 := hx135_1
                   have hw135_0 := hx135_0
                   obtain rfl : ad130 = ad135 := (by injection e135)
                   replace hx135_0 := rr_ HB hx135_0
                   replace hx135_1 := rr_ HB hx135_1
                   replace p135 := eq_true p135
                   replace q135 := eq_true q135
                   have p136 : 0 ≤ (x5_2 : Int) := od_
                   have q136 : x5_2 < (l1_0.length : Int) := od_
                   obtain ⟨ad136, e136, hx136_0, hx136_1⟩ := at_T103 HR1_0.out x5_2 p136 q136
                   have hw136_1 := hx136_1
                   have hw136_0 := hx136_0
                   obtain rfl : ad130 = ad136 := (by injection e136)
                   replace hx136_0 := rr_ HB hx136_0
                   replace hx136_1 := rr_ HB hx136_1
                   replace p136 := eq_true p136
                   replace q136 := eq_true q136
                   refine start_ (n := 11) (S := fun w' => w'.cell? ⟨gb129, 0, none⟩ = some (.slice (some ad130) l1_0.length c1_0) ∧ w'.cell? ⟨gb129, 1, none⟩ = some (.slice A1_1 l1_1.length c1_1) ∧ w'.cell? (ad130.add ((x7_4).toNat * 2)) = some (.string ((rd_T103 l1_0 x7_4).f0)) ∧ w'.cell? ⟨(ad130.add ((x7_4).toNat * 2)).block, (ad130.add ((x7_4).toNat * 2)).off + 1, none⟩ = some (.int .i64 ((rd_T103 l1_0 x7_4).f1)) ∧ w'.cell? (ad130.add ((x5_2).toNat * 2)) = some (.string ((rd_T103 l1_0 x5_2).f0)) ∧ w'.cell? ⟨(ad130.add ((x5_2).toNat * 2)).block, (ad130.add ((x5_2).toNat * 2)).off + 1, none⟩ = some (.int .i64 ((rd_T103 l1_0 x5_2).f1))) (ds := []) #[false, false, false, false, false, false, false, false, false, false, false] (by kernel_rfl) rfl rfl ⟨(bk0_ BK129 :), (bk1_ BK129 :), (rr_ HB hw135_0 :), (rr_ HB hw135_1 :), (rr_ HB hw136_0 :), (rr_ HB hw136_1 :)⟩ (fun hHeld => ?_); refine with_tabW sentryref4_sentry.tab12 sentryref4_sentry.bits12 (fun HT_ HW_ => ?_)
                   generalize wr.drew = w36 at BK128 BK129 HB hx135_0 hx135_1 hx136_0 hx136_1 hHeld ⊢
                   refine pz_ 0 (some 68) (bits_ 11 1) HT_.out ?_
                   refine pz_ 2 (some 70) (bits_ 11 5) HT_.out ?_
                   refine pz_ 5 (some 73) (bits_ 11 37) HT_.out ?_
                   refine pz_ 7 (some 75) (bits_ 11 165) HT_.out ?_
                   refine tz_ 1 (some 69) (bits_ 11 167) HT_.out HW_.out hHeld ?_ (hy := by rintro w' ⟨s0, s1, s2, s3, s4, s5⟩; go_simp; with_reducible rfl)
                   refine pz_ 3 (some 71) (bits_ 11 175) HT_.out ?_
                   refine tz_ 4 (some 72) (bits_ 11 191) HT_.out HW_.out hHeld ?_ (hy := by rintro w' ⟨s0, s1, s2, s3, s4, s5⟩; go_simp; with_reducible rfl)
                   refine tz_ 6 (some 74) (bits_ 11 255) HT_.out HW_.out hHeld ?_ (hy := by rintro w' ⟨s0, s1, s2, s3, s4, s5⟩; go_simp; with_reducible rfl)
                   refine pz_ 8 (some 76) (bits_ 11 511) HT_.out ?_
                   refine tz_ 9 (some 77) (bits_ 11 1023) HT_.out HW_.out hHeld ?_ (hy := by rintro w' ⟨s0, s1, s2, s3, s4, s5⟩; go_simp; with_reducible rfl)
                   refine pz_ 10 (some 78) (bits_ 11 2047) HT_.out ?_
                   refine done_ (done_of HT_.out (by kernel_rfl)) ?_
                   try go_wp2
                   go_ret
                   exact ⟨er_, hf_⟩
                  ·rw [if_neg c35] at H
                   have c35b0 : ((((rd_T103 l1_0 x7_4).f0).toList) == (((rd_T103 l1_0 x5_2).f0).toList) && (((rd_T103 l1_0 x7_4).f1) == ((rd_T103 l1_0 x5_2).f1))) = false := by simpa using c35
                   (try (have c35b1 : decide ((((rd_T103 l1_0 x7_4).f0).toList) = (((rd_T103 l1_0 x5_2).f0).toList) && (((rd_T103 l1_0 x7_4).f1) == ((rd_T103 l1_0 x5_2).f1))) = false := by simpa using c35))
                   (try (have c35b2 : ((((rd_T103 l1_0 x7_4).f0).toList) == (((rd_T103 l1_0 x5_2).f0).toList) && (((rd_T103 l1_0 x7_4).f1) == ((rd_T103 l1_0 x5_2).f1))) = false := by simpa using c35))
                   (try (have c35b3 : ¬ ((((rd_T103 l1_0 x7_4).f0).toList) = (((rd_T103 l1_0 x5_2).f0).toList) && (((rd_T103 l1_0 x7_4).f1) == ((rd_T103 l1_0 x5_2).f1))) := by simpa using c35))
                   clear c35
                   have H' := Aside0.mk H
                   clear H
                   try go_wp2
                   replace BK128 := Aside0.mk (blk_drew BK128.out)
                   replace BK129 := Aside0.mk (blk_drew BK129.out)
                   replace HB := Aside0.mk (below_drew1 HB.out)
                   have p135 : 0 ≤ (x7_4 : Int) := od_
                   have q135 : x7_4 < (l1_0.length : Int) := od_
                   obtain ⟨ad135, e135, hx135_0, hx135_1⟩ := at_T103 HR1_0.out x7_4 p135 q135
                   have hw135_1 := hx135_1
                   have hw135_0 := hx135_0
                   obtain rfl : ad130 = ad135 := (by injection e135)
                   replace hx135_0 := rr_ HB hx135_0
                   replace hx135_1 := rr_ HB hx135_1
                   replace p135 := eq_true p135
                   replace q135 := eq_true q135
                   have p136 : 0 ≤ (x5_2 : Int) := od_
                   have q136 : x5_2 < (l1_0.length : Int) := od_
                   obtain ⟨ad136, e136, hx136_0, hx136_1⟩ := at_T103 HR1_0.out x5_2 p136 q136
                   have hw136_1 := hx136_1
                   have hw136_0 := hx136_0
                   obtain rfl : ad130 = ad136 := (by injection e136)
                   replace hx136_0 := rr_ HB hx136_0
                   replace hx136_1 := rr_ HB hx136_1
                   replace p136 := eq_true p136
                   replace q136 := eq_true q136
                   refine start_ (n := 11) (S := fun w' => w'.cell? ⟨gb129, 0, none⟩ = some (.slice (some ad130) l1_0.length c1_0) ∧ w'.cell? ⟨gb129, 1, none⟩ = some (.slice A1_1 l1_1.length c1_1) ∧ w'.cell? (ad130.add ((x7_4).toNat * 2)) = some (.string ((rd_T103 l1_0 x7_4).f0)) ∧ w'.cell? ⟨(ad130.add ((x7_4).toNat * 2)).block, (ad130.add ((x7_4).toNat * 2)).off + 1, none⟩ = some (.int .i64 ((rd_T103 l1_0 x7_4).f1)) ∧ w'.cell? (ad130.add ((x5_2).toNat * 2)) = some (.string ((rd_T103 l1_0 x5_2).f0)) ∧ w'.cell? ⟨(ad130.add ((x5_2).toNat * 2)).block, (ad130.add ((x5_2).toNat * 2)).off + 1, none⟩ = some (.int .i64 ((rd_T103 l1_0 x5_2).f1))) (ds := []) #[false, false, false, false, false, false, false, false, false, false, false] (by kernel_rfl) rfl rfl ⟨(bk0_ BK129 :), (bk1_ BK129 :), (rr_ HB hw135_0 :), (rr_ HB hw135_1 :), (rr_ HB hw136_0 :), (rr_ HB hw136_1 :)⟩ (fun hHeld => ?_); refine with_tabW sentryref4_sentry.tab12 sentryref4_sentry.bits12 (fun HT_ HW_ => ?_)
                   generalize wr.drew = w37 at BK128 BK129 HB hx135_0 hx135_1 hx136_0 hx136_1 hHeld ⊢
                   refine pz_ 0 (some 68) (bits_ 11 1) HT_.out ?_
                   refine pz_ 2 (some 70) (bits_ 11 5) HT_.out ?_
                   refine pz_ 5 (some 73) (bits_ 11 37) HT_.out ?_
                   refine pz_ 7 (some 75) (bits_ 11 165) HT_.out ?_
                   refine tz_ 1 (some 69) (bits_ 11 167) HT_.out HW_.out hHeld ?_ (hy := by rintro w' ⟨s0, s1, s2, s3, s4, s5⟩; go_simp; with_reducible rfl)
                   refine pz_ 3 (some 71) (bits_ 11 175) HT_.out ?_
                   refine tz_ 4 (some 72) (bits_ 11 191) HT_.out HW_.out hHeld ?_ (hy := by rintro w' ⟨s0, s1, s2, s3, s4, s5⟩; go_simp; with_reducible rfl)
                   refine tz_ 6 (some 74) (bits_ 11 255) HT_.out HW_.out hHeld ?_ (hy := by rintro w' ⟨s0, s1, s2, s3, s4, s5⟩; go_simp; with_reducible rfl)
                   refine pz_ 8 (some 76) (bits_ 11 511) HT_.out ?_
                   refine tz_ 9 (some 77) (bits_ 11 1023) HT_.out HW_.out hHeld ?_ (hy := by rintro w' ⟨s0, s1, s2, s3, s4, s5⟩; go_simp; with_reducible rfl)
                   refine pz_ 10 (some 78) (bits_ 11 2047) HT_.out ?_
                   refine done_ (done_of HT_.out (by kernel_rfl)) ?_
                   try go_wp2
                   go_roundg k4
                   case measure => have := HJ2.out; have := HK2.out; have := HJ17.out; have := HK4.out; omega
                   case rel => exact ⟨(wrap64 (x7_4 + 1)), (by first | rfl | (simp; done) | (simp [*]; done)), H', ⟨by have := HJ2.out; have := HK2.out; have := HJ17.out; have := HK4.out; omega⟩, ⟨gx_ BK128⟩, ⟨gx_ BK129⟩, ⟨hf_⟩⟩
                 ·rw [if_neg c34] at H
                  exact absurd H (by simp)
                ·rw [if_neg c33] at H
                 exact absurd H (by simp)
               ·rw [if_neg c32] at H
                exact absurd H (by simp)
              ·rw [if_neg c31] at H
               exact absurd H (by simp)
             ·rw [if_neg c30] at H
              have c30b0 : decide (x7_4 < x5_2) = false := decide_eq_false c30
              clear c30
              have H' := Aside0.mk H
              clear H
              go_wp2
              go_roundg k4
              case measure => have := HJ2.out; have := HK2.out; have := HJ17.out; have := HK4.out; omega
              case rel => exact ⟨(wrap64 (x5_2 + 1)), (by first | rfl | (simp; done) | (simp [*]; done)), H', ⟨by have := HJ2.out; have := HK2.out; have := HJ17.out; have := HK4.out; omega⟩, ⟨gx_ BK128⟩, ⟨gx_ BK129⟩, ⟨hf_⟩⟩
       ·rw [if_neg c16] at H
        exact absurd H (by simp)
      ·rw [if_neg c15] at H
       have c15b0 : decide (x5_2 < (l1_0.length : Int)) = false := decide_eq_false c15
       clear c15
       have H' := Aside0.mk H
       clear H
       have hnb38 := NB129_128.out
       have hnc38 := NB128_129.out
       obtain ⟨hcz39_0, hcz39_1, hfz39_0, hfz39_1⟩ := bs2_ BK129
       go_wp2
       go_loopg [8] k2 (fun kq v8 w' => ∃ (x8_3 : Int), v8 = .int .i64 x8_3 ∧ Aside0 (sentryref4_sentry.l2 kq x8_3 l0_0 l0_1 l1_0 l1_1 = some r) ∧ Aside0 (kq ≤ k2) ∧ Aside0 (w'.heap[gb128]? = some (.cells #[(.slice A0_0 l0_0.length c0_0), (.slice A0_1 l0_1.length c0_1)] 25 (0, 0))) ∧ Aside0 (w'.heap[gb129]? = some (.cells #[(.slice A1_0 l1_0.length c1_0), (.slice A1_1 l1_1.length c1_1)] 54 (0, 0))) ∧ Aside0 (Below w.heap.size w w'))
       case atStart => exact ⟨(0), (by first | rfl | (simp; done) | (simp [*]; done)), H', ⟨Nat.le_refl _⟩, ⟨gx_ BK128⟩, ⟨gx_ BK129⟩, ⟨hf_⟩⟩
       case round =>
        clear H'
        (try clear c1); (try clear p1); (try clear q1); (try clear hx1); (try clear c2); (try clear p2); (try clear c3); (try clear c5); (try clear c6); (try clear c6b0); (try clear c6b1); (try clear p6); (try clear c7); (try clear c9); (try clear c9b0); (try clear c9b1); (try clear c10); (try clear c12); (try clear c13); (try clear p13); (try clear q13); (try clear hx13); (try clear c14); (try clear c15); (try clear c15b0); (try clear c16); (try clear c16b0); (try clear c19); (try clear c23); (try clear c23b0); (try clear c25); (try clear c25b0); (try clear c26); (try clear c26b0); (try clear c29); (try clear c30); (try clear c30b0); (try clear c31); (try clear c31b0); (try clear c32); (try clear c32b0); (try clear c33); (try clear c33b0); (try clear c34); (try clear c34b0); (try clear c35); (try clear c35b0); (try clear c35b1); (try clear c35b2); (try clear c38); (try clear hcz11_0); (try clear hcz11_1); (try clear hcz13_0); (try clear hcz13_1); (try clear hcz20_0); (try clear hcz20_1); (try clear hcz39_0); (try clear hcz39_1); (try clear hcz8_0); (try clear hcz8_1); (try clear hfz11_0); (try clear hfz11_1); (try clear hfz13_0); (try clear hfz13_1); (try clear hfz20_0); (try clear hfz20_1); (try clear hfz39_0); (try clear hfz39_1); (try clear hfz8_0); (try clear hfz8_1); (try clear hx130_0); (try clear hx130_1); (try clear hx132_0); (try clear hx132_1); (try clear hx132_2); (try clear hx132_3); (try clear hx132_4); (try clear hx132_5); (try clear hx132_6); (try clear hx133_0); (try clear hx133_1); (try clear hx135_0); (try clear hx135_1); (try clear hx136_0); (try clear hx136_1); (try clear p1); (try clear p13); (try clear p130); (try clear p132); (try clear p133); (try clear p135); (try clear p136); (try clear p2); (try clear p6); (try clear q1); (try clear q13); (try clear q130); (try clear q132); (try clear q133); (try clear q135); (try clear q136)
        obtain ⟨x8_3, rfl, HA, HK3, BK128, BK129, HB⟩ := hrel
        cases gk with
        | zero => exact absurd HA.out (by simp [sentryref4_sentry.l2])
        | succ k3 =>
         have H := HA.out
         clear HA
         simp only [sentryref4_sentry.l2] at H
         by_cases c40 : x8_3 < (l1_1.length : Int)
         ·rw [if_pos c40] at H
          have c40b0 : decide (x8_3 < (l1_1.length : Int)) = true := decide_eq_true c40
          clear c40
          by_cases c41 : 0 ≤ x8_3
          ·rw [if_pos c41] at H
           have c41b0 : decide (0 ≤ x8_3) = true := decide_eq_true c41
           clear c41
           replace H := Option.bind_eq_some_iff.mp H
           obtain ⟨t139, A420, H⟩ := H
           replace H : (if t139 = true then ((sentryref4_Op.f k3 ((rd_T50 l1_1 x8_3).f1)).bind fun t140 => (if t140 < 0 then (some false) else (if ((rd_T50 l1_1 x8_3).f2) < (-1000000) then (some false) else (if ((rd_T50 l1_1 x8_3).f2) > 1000000 then (some false) else (sentryref4_sentry.l2 k3 (wrap64 (x8_3 + 1)) l0_0 l0_1 l1_0 l1_1))))) else (some false)) = some r := H
           have A42 := Aside0.mk A420
           clear A420
           by_cases c43 : t139 = true
           ·subst c43
            have H1 : ((sentryref4_Op.f k3 ((rd_T50 l1_1 x8_3).f1)).bind fun t140 => (if t140 < 0 then (some false) else (if ((rd_T50 l1_1 x8_3).f2) < (-1000000) then (some false) else (if ((rd_T50 l1_1 x8_3).f2) > 1000000 then (some false) else (sentryref4_sentry.l2 k3 (wrap64 (x8_3 + 1)) l0_0 l0_1 l1_0 l1_1))))) = some r := by rw [if_pos rfl] at H; exact H
            clear H
            have H := H1
            clear H1
            replace H := Option.bind_eq_some_iff.mp H
            obtain ⟨t140, A440, H⟩ := H
            replace H : (if t140 < 0 then (some false) else (if ((rd_T50 l1_1 x8_3).f2) < (-1000000) then (some false) else (if ((rd_T50 l1_1 x8_3).f2) > 1000000 then (some false) else (sentryref4_sentry.l2 k3 (wrap64 (x8_3 + 1)) l0_0 l0_1 l1_0 l1_1)))) = some r := H
            have A44 := Aside0.mk A440
            clear A440
            by_cases c45 : t140 < 0
            ·rw [if_pos c45] at H
             have c45b0 : decide (t140 < 0) = true := decide_eq_true c45
             clear c45
             obtain rfl := Option.some.inj H
             have hnb46 := NB129_128.out
             have hnc46 := NB128_129.out
             obtain ⟨hcz47_0, hcz47_1, hfz47_0, hfz47_1⟩ := bs2_ BK129
             have p137 : 0 ≤ (x8_3 : Int) := od_
             have q137 : x8_3 < (l1_1.length : Int) := od_
             obtain ⟨ad137, e137, hx137_0, hx137_1, hx137_2⟩ := at_T50 HR1_1.out x8_3 p137 q137
             cases e137
             replace hx137_0 := rr_ HB hx137_0
             replace hx137_1 := rr_ HB hx137_1
             replace hx137_2 := rr_ HB hx137_2
             replace p137 := eq_true p137
             replace q137 := eq_true q137
             go_wp2_with (first | ((with_reducible refine gate_dst (N := 9) rfl ?_); (try (refine gate_guard (by rfl) ?_; dsimp only)); refine box_event ?hg (N := 9) ?hd (cs := #[.string (⟨#[]⟩ : ByteArray), .string (⟨#[]⟩ : ByteArray), .int .i64 0]) (t := 50) ?hr ?_; (case hd => rfl); (case hg => rfl); (case hr => first | (go_simp; done) | (go_simp; rfl)); intro gb138 hg w48 hbox hb; have n0_ := bb_ BK128 hb; have n1_ := bb_ BK129 hb; have n2_ := hb_ HB hb; have n3_ := Aside0.mk (hbox); have n4_ := Aside0.mk ((by rw [hg]; exact (below_size (by repeat (first | (with_reducible first | exact HB.out | apply below_alloc | apply pw_below_drewN | apply below_drew1 | refine below_set ?_ GE128.out | refine below_set ?_ GE129.out) | exact HB.out))) : w.heap.size ≤ gb138)); have n5_ := Aside0.mk ((by rw [hg]; exact (below_size (by repeat (first | (with_reducible first | exact HB.out | apply below_alloc | apply pw_below_drewN | apply below_drew1 | refine below_set ?_ GE128.out | refine below_set ?_ GE129.out) | exact HB.out))) : w.heap.size ≤ gb138)); have n6_ := Aside0.mk ((by rw [hg]; exact Nat.ne_of_lt (blk_lt (g := gb128) (o := .cells #[.slice A0_0 l0_0.length c0_0, .slice A0_1 l0_1.length c0_1] 25 (0, 0)) (by (with_reducible repeat (first | refine blk_drewN ?_ _ | refine blk_drew ?_ | refine blk_alloc ?_ _)); exact BK128.out)) : gb128 ≠ gb138)); have n7_ := Aside0.mk ((by rw [hg]; exact Nat.ne_of_gt (blk_lt (g := gb128) (o := .cells #[.slice A0_0 l0_0.length c0_0, .slice A0_1 l0_1.length c0_1] 25 (0, 0)) (by (with_reducible repeat (first | refine blk_drewN ?_ _ | refine blk_drew ?_ | refine blk_alloc ?_ _)); exact BK128.out)) : gb138 ≠ gb128)); have n8_ := Aside0.mk ((by rw [hg]; exact Nat.ne_of_lt (blk_lt (g := gb129) (o := .cells #[.slice A1_0 l1_0.length c1_0, .slice (some ad137) l1_1.length c1_1] 54 (0, 0)) (by (with_reducible repeat (first | refine blk_drewN ?_ _ | refine blk_drew ?_ | refine blk_alloc ?_ _)); exact BK129.out)) : gb129 ≠ gb138)); have n9_ := Aside0.mk ((by rw [hg]; exact Nat.ne_of_gt (blk_lt (g := gb129) (o := .cells #[.slice A1_0 l1_0.length c1_0, .slice (some ad137) l1_1.length c1_1] 54 (0, 0)) (by (with_reducible repeat (first | refine blk_drewN ?_ _ | refine blk_drew ?_ | refine blk_alloc ?_ _)); exact BK129.out)) : gb138 ≠ gb129)); clear BK128; clear BK129; clear HB; have BK128 := n0_; have BK129 := n1_; have HB := n2_; have BK138 := n3_; have GW138 := n4_; have GE138 := n5_; have NB128_138 := n6_; have NB138_128 := n7_; have NB129_138 := n8_; have NB138_129 := n9_; clear n0_ n1_ n2_ n3_ n4_ n5_ n6_ n7_ n8_ n9_; clear hb hbox hg; have hnb49 := NB138_128.out; have hnc49 := NB128_138.out; have hnb50 := NB138_129.out; have hnc50 := NB129_138.out; obtain ⟨hcz51_0, hcz51_1, hcz51_2, hfz51_0, hfz51_1, hfz51_2⟩ := bs3_ BK138; obtain ⟨hcz52_0, hcz52_1, hfz52_0, hfz52_1⟩ := bs2_ BK128) | ((with_reducible refine gate_callee (f := 29) rfl ?_); refine gl_ (some 95) Try.func29 #[.slice A0_0 l0_0.length c0_0, .string ((rd_T50 l1_1 x8_3).f0)] ?_; (with_reducible refine (sentryref4_File.calls k3 _ _ l0_0 ((rd_T50 l1_1 x8_3).f0) true _ ?side1 ?side2 A42.out).mono ?_); (case side1 => exact Kd.C_below HR0_0.out (by repeat (first | (with_reducible first | exact HB.out | apply below_alloc | apply pw_below_drewN | apply below_drew1 | refine below_set ?_ GE128.out | refine below_set ?_ GE129.out | refine below_set ?_ GE138.out) | exact HB.out))); (case side2 => exact HC0_0.out); rintro e w' ⟨rfl, ⟨nd, rfl⟩⟩; refine ⟨_, rfl, ?_⟩) | (go_at_call 75; (with_reducible refine (sentryref4_Op.calls k3 ((rd_T50 l1_1 x8_3).f1) t140 _ A44.out).mono ?_); rintro e w53 ⟨rfl, hb⟩; have n0_ := Aside0.mk (blk_below (g := gb128) (o := .cells #[.slice A0_0 l0_0.length c0_0, .slice A0_1 l0_1.length c0_1] 25 (0, 0)) (by (with_reducible repeat (first | refine blk_drewN ?_ _ | refine blk_drew ?_ | refine blk_alloc ?_ _)); refine blk_far ?_ NB128_138.out _; (with_reducible repeat (first | refine blk_drewN ?_ _ | refine blk_drew ?_ | refine blk_alloc ?_ _)); refine blk_far ?_ NB128_138.out _; (with_reducible repeat (first | refine blk_drewN ?_ _ | refine blk_drew ?_ | refine blk_alloc ?_ _)); refine blk_far ?_ NB128_138.out _; (with_reducible repeat (first | refine blk_drewN ?_ _ | refine blk_drew ?_ | refine blk_alloc ?_ _)); exact BK128.out) hb); have n1_ := Aside0.mk (blk_below (g := gb129) (o := .cells #[.slice A1_0 l1_0.length c1_0, .slice (some ad137) l1_1.length c1_1] 54 (0, 0)) (by (with_reducible repeat (first | refine blk_drewN ?_ _ | refine blk_drew ?_ | refine blk_alloc ?_ _)); refine blk_far ?_ NB129_138.out _; (with_reducible repeat (first | refine blk_drewN ?_ _ | refine blk_drew ?_ | refine blk_alloc ?_ _)); refine blk_far ?_ NB129_138.out _; (with_reducible repeat (first | refine blk_drewN ?_ _ | refine blk_drew ?_ | refine blk_alloc ?_ _)); refine blk_far ?_ NB129_138.out _; (with_reducible repeat (first | refine blk_drewN ?_ _ | refine blk_drew ?_ | refine blk_alloc ?_ _)); exact BK129.out) hb); have n2_ := Aside0.mk (blk_below (g := gb138) (o := .cells #[.string ((rd_T50 l1_1 x8_3).f0), .string ((rd_T50 l1_1 x8_3).f1), .int .i64 ((rd_T50 l1_1 x8_3).f2)] 50 (0, 0)) (by (with_reducible repeat (first | refine blk_drewN ?_ _ | refine blk_drew ?_ | refine blk_alloc ?_ _)); refine blk_put (cs := #[.string ((rd_T50 l1_1 x8_3).f0), .string ((rd_T50 l1_1 x8_3).f1), .int .i64 0]) ?_ 2 _ rfl; (with_reducible repeat (first | refine blk_drewN ?_ _ | refine blk_drew ?_ | refine blk_alloc ?_ _)); refine blk_put (cs := #[.string ((rd_T50 l1_1 x8_3).f0), .string (⟨#[]⟩ : ByteArray), .int .i64 0]) ?_ 1 _ rfl; (with_reducible repeat (first | refine blk_drewN ?_ _ | refine blk_drew ?_ | refine blk_alloc ?_ _)); refine blk_put (cs := #[.string (⟨#[]⟩ : ByteArray), .string (⟨#[]⟩ : ByteArray), .int .i64 0]) ?_ 0 _ rfl; (with_reducible repeat (first | refine blk_drewN ?_ _ | refine blk_drew ?_ | refine blk_alloc ?_ _)); exact BK138.out) hb); have n3_ := hb_ HB hb; clear BK128; clear BK129; clear BK138; clear HB; have BK128 := n0_; have BK129 := n1_; have BK138 := n2_; have HB := n3_; clear n0_ n1_ n2_ n3_; (try clear hb); (try clear hb2); (try clear hk); (try clear hi)))
             go_ret
             exact ⟨er_, hf_⟩
            ·rw [if_neg c45] at H
             have c45b0 : decide (t140 < 0) = false := decide_eq_false c45
             clear c45
             by_cases c54 : ((rd_T50 l1_1 x8_3).f2) < (-1000000)
             ·rw [if_pos c54] at H
              have c54b0 : decide (((rd_T50 l1_1 x8_3).f2) < (-1000000)) = true := decide_eq_true c54
              clear c54
              obtain rfl := Option.some.inj H
              have hnb55 := NB129_128.out
              have hnc55 := NB128_129.out
              obtain ⟨hcz56_0, hcz56_1, hfz56_0, hfz56_1⟩ := bs2_ BK129
              have p137 : 0 ≤ (x8_3 : Int) := od_
              have q137 : x8_3 < (l1_1.length : Int) := od_
              obtain ⟨ad137, e137, hx137_0, hx137_1, hx137_2⟩ := at_T50 HR1_1.out x8_3 p137 q137
              cases e137
              replace hx137_0 := rr_ HB hx137_0
              replace hx137_1 := rr_ HB hx137_1
              replace hx137_2 := rr_ HB hx137_2
              replace p137 := eq_true p137
              replace q137 := eq_true q137
              go_wp2_with (first | ((with_reducible refine gate_dst (N := 9) rfl ?_); (try (refine gate_guard (by rfl) ?_; dsimp only)); refine box_event ?hg (N := 9) ?hd (cs := #[.string (⟨#[]⟩ : ByteArray), .string (⟨#[]⟩ : ByteArray), .int .i64 0]) (t := 50) ?hr ?_; (case hd => rfl); (case hg => rfl); (case hr => first | (go_simp; done) | (go_simp; rfl)); intro gb138 hg w57 hbox hb; have n0_ := bb_ BK128 hb; have n1_ := bb_ BK129 hb; have n2_ := hb_ HB hb; have n3_ := Aside0.mk (hbox); have n4_ := Aside0.mk ((by rw [hg]; exact (below_size (by repeat (first | (with_reducible first | exact HB.out | apply below_alloc | apply pw_below_drewN | apply below_drew1 | refine below_set ?_ GE128.out | refine below_set ?_ GE129.out) | exact HB.out))) : w.heap.size ≤ gb138)); have n5_ := Aside0.mk ((by rw [hg]; exact (below_size (by repeat (first | (with_reducible first | exact HB.out | apply below_alloc | apply pw_below_drewN | apply below_drew1 | refine below_set ?_ GE128.out | refine below_set ?_ GE129.out) | exact HB.out))) : w.heap.size ≤ gb138)); have n6_ := Aside0.mk ((by rw [hg]; exact Nat.ne_of_lt (blk_lt (g := gb128) (o := .cells #[.slice A0_0 l0_0.length c0_0, .slice A0_1 l0_1.length c0_1] 25 (0, 0)) (by (with_reducible repeat (first | refine blk_drewN ?_ _ | refine blk_drew ?_ | refine blk_alloc ?_ _)); exact BK128.out)) : gb128 ≠ gb138)); have n7_ := Aside0.mk ((by rw [hg]; exact Nat.ne_of_gt (blk_lt (g := gb128) (o := .cells #[.slice A0_0 l0_0.length c0_0, .slice A0_1 l0_1.length c0_1] 25 (0, 0)) (by (with_reducible repeat (first | refine blk_drewN ?_ _ | refine blk_drew ?_ | refine blk_alloc ?_ _)); exact BK128.out)) : gb138 ≠ gb128)); have n8_ := Aside0.mk ((by rw [hg]; exact Nat.ne_of_lt (blk_lt (g := gb129) (o := .cells #[.slice A1_0 l1_0.length c1_0, .slice (some ad137) l1_1.length c1_1] 54 (0, 0)) (by (with_reducible repeat (first | refine blk_drewN ?_ _ | refine blk_drew ?_ | refine blk_alloc ?_ _)); exact BK129.out)) : gb129 ≠ gb138)); have n9_ := Aside0.mk ((by rw [hg]; exact Nat.ne_of_gt (blk_lt (g := gb129) (o := .cells #[.slice A1_0 l1_0.length c1_0, .slice (some ad137) l1_1.length c1_1] 54 (0, 0)) (by (with_reducible repeat (first | refine blk_drewN ?_ _ | refine blk_drew ?_ | refine blk_alloc ?_ _)); exact BK129.out)) : gb138 ≠ gb129)); clear BK128; clear BK129; clear HB; have BK128 := n0_; have BK129 := n1_; have HB := n2_; have BK138 := n3_; have GW138 := n4_; have GE138 := n5_; have NB128_138 := n6_; have NB138_128 := n7_; have NB129_138 := n8_; have NB138_129 := n9_; clear n0_ n1_ n2_ n3_ n4_ n5_ n6_ n7_ n8_ n9_; clear hb hbox hg; have hnb58 := NB138_128.out; have hnc58 := NB128_138.out; have hnb59 := NB138_129.out; have hnc59 := NB129_138.out; obtain ⟨hcz60_0, hcz60_1, hcz60_2, hfz60_0, hfz60_1, hfz60_2⟩ := bs3_ BK138; obtain ⟨hcz61_0, hcz61_1, hfz61_0, hfz61_1⟩ := bs2_ BK128) | ((with_reducible refine gate_callee (f := 29) rfl ?_); refine gl_ (some 95) Try.func29 #[.slice A0_0 l0_0.length c0_0, .string ((rd_T50 l1_1 x8_3).f0)] ?_; (with_reducible refine (sentryref4_File.calls k3 _ _ l0_0 ((rd_T50 l1_1 x8_3).f0) true _ ?side1 ?side2 A42.out).mono ?_); (case side1 => exact Kd.C_below HR0_0.out (by repeat (first | (with_reducible first | exact HB.out | apply below_alloc | apply pw_below_drewN | apply below_drew1 | refine below_set ?_ GE128.out | refine below_set ?_ GE129.out | refine below_set ?_ GE138.out) | exact HB.out))); (case side2 => exact HC0_0.out); rintro e w' ⟨rfl, ⟨nd, rfl⟩⟩; refine ⟨_, rfl, ?_⟩) | (go_at_call 75; (with_reducible refine (sentryref4_Op.calls k3 ((rd_T50 l1_1 x8_3).f1) t140 _ A44.out).mono ?_); rintro e w62 ⟨rfl, hb⟩; have n0_ := Aside0.mk (blk_below (g := gb128) (o := .cells #[.slice A0_0 l0_0.length c0_0, .slice A0_1 l0_1.length c0_1] 25 (0, 0)) (by (with_reducible repeat (first | refine blk_drewN ?_ _ | refine blk_drew ?_ | refine blk_alloc ?_ _)); refine blk_far ?_ NB128_138.out _; (with_reducible repeat (first | refine blk_drewN ?_ _ | refine blk_drew ?_ | refine blk_alloc ?_ _)); refine blk_far ?_ NB128_138.out _; (with_reducible repeat (first | refine blk_drewN ?_ _ | refine blk_drew ?_ | refine blk_alloc ?_ _)); refine blk_far ?_ NB128_138.out _; (with_reducible repeat (first | refine blk_drewN ?_ _ | refine blk_drew ?_ | refine blk_alloc ?_ _)); exact BK128.out) hb); have n1_ := Aside0.mk (blk_below (g := gb129) (o := .cells #[.slice A1_0 l1_0.length c1_0, .slice (some ad137) l1_1.length c1_1] 54 (0, 0)) (by (with_reducible repeat (first | refine blk_drewN ?_ _ | refine blk_drew ?_ | refine blk_alloc ?_ _)); refine blk_far ?_ NB129_138.out _; (with_reducible repeat (first | refine blk_drewN ?_ _ | refine blk_drew ?_ | refine blk_alloc ?_ _)); refine blk_far ?_ NB129_138.out _; (with_reducible repeat (first | refine blk_drewN ?_ _ | refine blk_drew ?_ | refine blk_alloc ?_ _)); refine blk_far ?_ NB129_138.out _; (with_reducible repeat (first | refine blk_drewN ?_ _ | refine blk_drew ?_ | refine blk_alloc ?_ _)); exact BK129.out) hb); have n2_ := Aside0.mk (blk_below (g := gb138) (o := .cells #[.string ((rd_T50 l1_1 x8_3).f0), .string ((rd_T50 l1_1 x8_3).f1), .int .i64 ((rd_T50 l1_1 x8_3).f2)] 50 (0, 0)) (by (with_reducible repeat (first | refine blk_drewN ?_ _ | refine blk_drew ?_ | refine blk_alloc ?_ _)); refine blk_put (cs := #[.string ((rd_T50 l1_1 x8_3).f0), .string ((rd_T50 l1_1 x8_3).f1), .int .i64 0]) ?_ 2 _ rfl; (with_reducible repeat (first | refine blk_drewN ?_ _ | refine blk_drew ?_ | refine blk_alloc ?_ _)); refine blk_put (cs := #[.string ((rd_T50 l1_1 x8_3).f0), .string (⟨#[]⟩ : ByteArray), .int .i64 0]) ?_ 1 _ rfl; (with_reducible repeat (first | refine blk_drewN ?_ _ | refine blk_drew ?_ | refine blk_alloc ?_ _)); refine blk_put (cs := #[.string (⟨#[]⟩ : ByteArray), .string (⟨#[]⟩ : ByteArray), .int .i64 0]) ?_ 0 _ rfl; (with_reducible repeat (first | refine blk_drewN ?_ _ | refine blk_drew ?_ | refine blk_alloc ?_ _)); exact BK138.out) hb); have n3_ := hb_ HB hb; clear BK128; clear BK129; clear BK138; clear HB; have BK128 := n0_; have BK129 := n1_; have BK138 := n2_; have HB := n3_; clear n0_ n1_ n2_ n3_; (try clear hb); (try clear hb2); (try clear hk); (try clear hi); obtain ⟨hcz63_0, hcz63_1, hcz63_2, hfz63_0, hfz63_1, hfz63_2⟩ := bs3_ BK138))
              go_ret
              exact ⟨er_, hf_⟩
             ·rw [if_neg c54] at H
              have c54b0 : decide (((rd_T50 l1_1 x8_3).f2) < (-1000000)) = false := decide_eq_false c54
              clear c54
              by_cases c64 : ((rd_T50 l1_1 x8_3).f2) > 1000000
              ·rw [if_pos c64] at H
               have c64b0 : decide (1000000 < ((rd_T50 l1_1 x8_3).f2)) = true := decide_eq_true c64
               clear c64
               obtain rfl := Option.some.inj H
               have hnb65 := NB129_128.out
               have hnc65 := NB128_129.out
               obtain ⟨hcz66_0, hcz66_1, hfz66_0, hfz66_1⟩ := bs2_ BK129
               have p137 : 0 ≤ (x8_3 : Int) := od_
               have q137 : x8_3 < (l1_1.length : Int) := od_
               obtain ⟨ad137, e137, hx137_0, hx137_1, hx137_2⟩ := at_T50 HR1_1.out x8_3 p137 q137
               cases e137
               replace hx137_0 := rr_ HB hx137_0
               replace hx137_1 := rr_ HB hx137_1
               replace hx137_2 := rr_ HB hx137_2
               replace p137 := eq_true p137
               replace q137 := eq_true q137
               go_wp2_with (first | ((with_reducible refine gate_dst (N := 9) rfl ?_); (try (refine gate_guard (by rfl) ?_; dsimp only)); refine box_event ?hg (N := 9) ?hd (cs := #[.string (⟨#[]⟩ : ByteArray), .string (⟨#[]⟩ : ByteArray), .int .i64 0]) (t := 50) ?hr ?_; (case hd => rfl); (case hg => rfl); (case hr => first | (go_simp; done) | (go_simp; rfl)); intro gb138 hg w67 hbox hb; have n0_ := bb_ BK128 hb; have n1_ := bb_ BK129 hb; have n2_ := hb_ HB hb; have n3_ := Aside0.mk (hbox); have n4_ := Aside0.mk ((by rw [hg]; exact (below_size (by repeat (first | (with_reducible first | exact HB.out | apply below_alloc | apply pw_below_drewN | apply below_drew1 | refine below_set ?_ GE128.out | refine below_set ?_ GE129.out) | exact HB.out))) : w.heap.size ≤ gb138)); have n5_ := Aside0.mk ((by rw [hg]; exact (below_size (by repeat (first | (with_reducible first | exact HB.out | apply below_alloc | apply pw_below_drewN | apply below_drew1 | refine below_set ?_ GE128.out | refine below_set ?_ GE129.out) | exact HB.out))) : w.heap.size ≤ gb138)); have n6_ := Aside0.mk ((by rw [hg]; exact Nat.ne_of_lt (blk_lt (g := gb128) (o := .cells #[.slice A0_0 l0_0.length c0_0, .slice A0_1 l0_1.length c0_1] 25 (0, 0)) (by (with_reducible repeat (first | refine blk_drewN ?_ _ | refine blk_drew ?_ | refine blk_alloc ?_ _)); exact BK128.out)) : gb128 ≠ gb138)); have n7_ := Aside0.mk ((by rw [hg]; exact Nat.ne_of_gt (blk_lt (g := gb128) (o := .cells #[.slice A0_0 l0_0.length c0_0, .slice A0_1 l0_1.length c0_1] 25 (0, 0)) (by (with_reducible repeat (first | refine blk_drewN ?_ _ | refine blk_drew ?_ | refine blk_alloc ?_ _)); exact BK128.out)) : gb138 ≠ gb128)); have n8_ := Aside0.mk ((by rw [hg]; exact Nat.ne_of_lt (blk_lt (g := gb129) (o := .cells #[.slice A1_0 l1_0.length c1_0, .slice (some ad137) l1_1.length c1_1] 54 (0, 0)) (by (with_reducible repeat (first | refine blk_drewN ?_ _ | refine blk_drew ?_ | refine blk_alloc ?_ _)); exact BK129.out)) : gb129 ≠ gb138)); have n9_ := Aside0.mk ((by rw [hg]; exact Nat.ne_of_gt (blk_lt (g := gb129) (o := .cells #[.slice A1_0 l1_0.length c1_0, .slice (some ad137) l1_1.length c1_1] 54 (0, 0)) (by (with_reducible repeat (first | refine blk_drewN ?_ _ | refine blk_drew ?_ | refine blk_alloc ?_ _)); exact BK129.out)) : gb138 ≠ gb129)); clear BK128; clear BK129; clear HB; have BK128 := n0_; have BK129 := n1_; have HB := n2_; have BK138 := n3_; have GW138 := n4_; have GE138 := n5_; have NB128_138 := n6_; have NB138_128 := n7_; have NB129_138 := n8_; have NB138_129 := n9_; clear n0_ n1_ n2_ n3_ n4_ n5_ n6_ n7_ n8_ n9_; clear hb hbox hg; have hnb68 := NB138_128.out; have hnc68 := NB128_138.out; have hnb69 := NB138_129.out; have hnc69 := NB129_138.out; obtain ⟨hcz70_0, hcz70_1, hcz70_2, hfz70_0, hfz70_1, hfz70_2⟩ := bs3_ BK138; obtain ⟨hcz71_0, hcz71_1, hfz71_0, hfz71_1⟩ := bs2_ BK128) | ((with_reducible refine gate_callee (f := 29) rfl ?_); refine gl_ (some 95) Try.func29 #[.slice A0_0 l0_0.length c0_0, .string ((rd_T50 l1_1 x8_3).f0)] ?_; (with_reducible refine (sentryref4_File.calls k3 _ _ l0_0 ((rd_T50 l1_1 x8_3).f0) true _ ?side1 ?side2 A42.out).mono ?_); (case side1 => exact Kd.C_below HR0_0.out (by repeat (first | (with_reducible first | exact HB.out | apply below_alloc | apply pw_below_drewN | apply below_drew1 | refine below_set ?_ GE128.out | refine below_set ?_ GE129.out | refine below_set ?_ GE138.out) | exact HB.out))); (case side2 => exact HC0_0.out); rintro e w' ⟨rfl, ⟨nd, rfl⟩⟩; refine ⟨_, rfl, ?_⟩) | (go_at_call 75; (with_reducible refine (sentryref4_Op.calls k3 ((rd_T50 l1_1 x8_3).f1) t140 _ A44.out).mono ?_); rintro e w72 ⟨rfl, hb⟩; have n0_ := Aside0.mk (blk_below (g := gb128) (o := .cells #[.slice A0_0 l0_0.length c0_0, .slice A0_1 l0_1.length c0_1] 25 (0, 0)) (by (with_reducible repeat (first | refine blk_drewN ?_ _ | refine blk_drew ?_ | refine blk_alloc ?_ _)); refine blk_far ?_ NB128_138.out _; (with_reducible repeat (first | refine blk_drewN ?_ _ | refine blk_drew ?_ | refine blk_alloc ?_ _)); refine blk_far ?_ NB128_138.out _; (with_reducible repeat (first | refine blk_drewN ?_ _ | refine blk_drew ?_ | refine blk_alloc ?_ _)); refine blk_far ?_ NB128_138.out _; (with_reducible repeat (first | refine blk_drewN ?_ _ | refine blk_drew ?_ | refine blk_alloc ?_ _)); exact BK128.out) hb); have n1_ := Aside0.mk (blk_below (g := gb129) (o := .cells #[.slice A1_0 l1_0.length c1_0, .slice (some ad137) l1_1.length c1_1] 54 (0, 0)) (by (with_reducible repeat (first | refine blk_drewN ?_ _ | refine blk_drew ?_ | refine blk_alloc ?_ _)); refine blk_far ?_ NB129_138.out _; (with_reducible repeat (first | refine blk_drewN ?_ _ | refine blk_drew ?_ | refine blk_alloc ?_ _)); refine blk_far ?_ NB129_138.out _; (with_reducible repeat (first | refine blk_drewN ?_ _ | refine blk_drew ?_ | refine blk_alloc ?_ _)); refine blk_far ?_ NB129_138.out _; (with_reducible repeat (first | refine blk_drewN ?_ _ | refine blk_drew ?_ | refine blk_alloc ?_ _)); exact BK129.out) hb); have n2_ := Aside0.mk (blk_below (g := gb138) (o := .cells #[.string ((rd_T50 l1_1 x8_3).f0), .string ((rd_T50 l1_1 x8_3).f1), .int .i64 ((rd_T50 l1_1 x8_3).f2)] 50 (0, 0)) (by (with_reducible repeat (first | refine blk_drewN ?_ _ | refine blk_drew ?_ | refine blk_alloc ?_ _)); refine blk_put (cs := #[.string ((rd_T50 l1_1 x8_3).f0), .string ((rd_T50 l1_1 x8_3).f1), .int .i64 0]) ?_ 2 _ rfl; (with_reducible repeat (first | refine blk_drewN ?_ _ | refine blk_drew ?_ | refine blk_alloc ?_ _)); refine blk_put (cs := #[.string ((rd_T50 l1_1 x8_3).f0), .string (⟨#[]⟩ : ByteArray), .int .i64 0]) ?_ 1 _ rfl; (with_reducible repeat (first | refine blk_drewN ?_ _ | refine blk_drew ?_ | refine blk_alloc ?_ _)); refine blk_put (cs := #[.string (⟨#[]⟩ : ByteArray), .string (⟨#[]⟩ : ByteArray), .int .i64 0]) ?_ 0 _ rfl; (with_reducible repeat (first | refine blk_drewN ?_ _ | refine blk_drew ?_ | refine blk_alloc ?_ _)); exact BK138.out) hb); have n3_ := hb_ HB hb; clear BK128; clear BK129; clear BK138; clear HB; have BK128 := n0_; have BK129 := n1_; have BK138 := n2_; have HB := n3_; clear n0_ n1_ n2_ n3_; (try clear hb); (try clear hb2); (try clear hk); (try clear hi); obtain ⟨hcz73_0, hcz73_1, hcz73_2, hfz73_0, hfz73_1, hfz73_2⟩ := bs3_ BK138))
               go_ret
               exact ⟨er_, hf_⟩
              ·rw [if_neg c64] at H
               have c64b0 : decide (1000000 < ((rd_T50 l1_1 x8_3).f2)) = false := decide_eq_false c64
               clear c64
               have H' := Aside0.mk H
               clear H
               have hnb74 := NB129_128.out
               have hnc74 := NB128_129.out
               obtain ⟨hcz75_0, hcz75_1, hfz75_0, hfz75_1⟩ := bs2_ BK129
               have p137 : 0 ≤ (x8_3 : Int) := od_
               have q137 : x8_3 < (l1_1.length : Int) := od_
               obtain ⟨ad137, e137, hx137_0, hx137_1, hx137_2⟩ := at_T50 HR1_1.out x8_3 p137 q137
               cases e137
               replace hx137_0 := rr_ HB hx137_0
               replace hx137_1 := rr_ HB hx137_1
               replace hx137_2 := rr_ HB hx137_2
               replace p137 := eq_true p137
               replace q137 := eq_true q137
               go_wp2_with (first | ((with_reducible refine gate_dst (N := 9) rfl ?_); (try (refine gate_guard (by rfl) ?_; dsimp only)); refine box_event ?hg (N := 9) ?hd (cs := #[.string (⟨#[]⟩ : ByteArray), .string (⟨#[]⟩ : ByteArray), .int .i64 0]) (t := 50) ?hr ?_; (case hd => rfl); (case hg => rfl); (case hr => first | (go_simp; done) | (go_simp; rfl)); intro gb138 hg w76 hbox hb; have n0_ := bb_ BK128 hb; have n1_ := bb_ BK129 hb; have n2_ := hb_ HB hb; have n3_ := Aside0.mk (hbox); have n4_ := Aside0.mk ((by rw [hg]; exact (below_size (by repeat (first | (with_reducible first | exact HB.out | apply below_alloc | apply pw_below_drewN | apply below_drew1 | refine below_set ?_ GE128.out | refine below_set ?_ GE129.out) | exact HB.out))) : w.heap.size ≤ gb138)); have n5_ := Aside0.mk ((by rw [hg]; exact (below_size (by repeat (first | (with_reducible first | exact HB.out | apply below_alloc | apply pw_below_drewN | apply below_drew1 | refine below_set ?_ GE128.out | refine below_set ?_ GE129.out) | exact HB.out))) : w.heap.size ≤ gb138)); have n6_ := Aside0.mk ((by rw [hg]; exact Nat.ne_of_lt (blk_lt (g := gb128) (o := .cells #[.slice A0_0 l0_0.length c0_0, .slice A0_1 l0_1.length c0_1] 25 (0, 0)) (by (with_reducible repeat (first | refine blk_drewN ?_ _ | refine blk_drew ?_ | refine blk_alloc ?_ _)); exact BK128.out)) : gb128 ≠ gb138)); have n7_ := Aside0.mk ((by rw [hg]; exact Nat.ne_of_gt (blk_lt (g := gb128) (o := .cells #[.slice A0_0 l0_0.length c0_0, .slice A0_1 l0_1.length c0_1] 25 (0, 0)) (by (with_reducible repeat (first | refine blk_drewN ?_ _ | refine blk_drew ?_ | refine blk_alloc ?_ _)); exact BK128.out)) : gb138 ≠ gb128)); have n8_ := Aside0.mk ((by rw [hg]; exact Nat.ne_of_lt (blk_lt (g := gb129) (o := .cells #[.slice A1_0 l1_0.length c1_0, .slice (some ad137) l1_1.length c1_1] 54 (0, 0)) (by (with_reducible repeat (first | refine blk_drewN ?_ _ | refine blk_drew ?_ | refine blk_alloc ?_ _)); exact BK129.out)) : gb129 ≠ gb138)); have n9_ := Aside0.mk ((by rw [hg]; exact Nat.ne_of_gt (blk_lt (g := gb129) (o := .cells #[.slice A1_0 l1_0.length c1_0, .slice (some ad137) l1_1.length c1_1] 54 (0, 0)) (by (with_reducible repeat (first | refine blk_drewN ?_ _ | refine blk_drew ?_ | refine blk_alloc ?_ _)); exact BK129.out)) : gb138 ≠ gb129)); clear BK128; clear BK129; clear HB; have BK128 := n0_; have BK129 := n1_; have HB := n2_; have BK138 := n3_; have GW138 := n4_; have GE138 := n5_; have NB128_138 := n6_; have NB138_128 := n7_; have NB129_138 := n8_; have NB138_129 := n9_; clear n0_ n1_ n2_ n3_ n4_ n5_ n6_ n7_ n8_ n9_; clear hb hbox hg; have hnb77 := NB138_128.out; have hnc77 := NB128_138.out; have hnb78 := NB138_129.out; have hnc78 := NB129_138.out; obtain ⟨hcz79_0, hcz79_1, hcz79_2, hfz79_0, hfz79_1, hfz79_2⟩ := bs3_ BK138; obtain ⟨hcz80_0, hcz80_1, hfz80_0, hfz80_1⟩ := bs2_ BK128) | ((with_reducible refine gate_callee (f := 29) rfl ?_); refine gl_ (some 95) Try.func29 #[.slice A0_0 l0_0.length c0_0, .string ((rd_T50 l1_1 x8_3).f0)] ?_; (with_reducible refine (sentryref4_File.calls k3 _ _ l0_0 ((rd_T50 l1_1 x8_3).f0) true _ ?side1 ?side2 A42.out).mono ?_); (case side1 => exact Kd.C_below HR0_0.out (by repeat (first | (with_reducible first | exact HB.out | apply below_alloc | apply pw_below_drewN | apply below_drew1 | refine below_set ?_ GE128.out | refine below_set ?_ GE129.out | refine below_set ?_ GE138.out) | exact HB.out))); (case side2 => exact HC0_0.out); rintro e w' ⟨rfl, ⟨nd, rfl⟩⟩; refine ⟨_, rfl, ?_⟩) | (go_at_call 75; (with_reducible refine (sentryref4_Op.calls k3 ((rd_T50 l1_1 x8_3).f1) t140 _ A44.out).mono ?_); rintro e w81 ⟨rfl, hb⟩; have n0_ := Aside0.mk (blk_below (g := gb128) (o := .cells #[.slice A0_0 l0_0.length c0_0, .slice A0_1 l0_1.length c0_1] 25 (0, 0)) (by (with_reducible repeat (first | refine blk_drewN ?_ _ | refine blk_drew ?_ | refine blk_alloc ?_ _)); refine blk_far ?_ NB128_138.out _; (with_reducible repeat (first | refine blk_drewN ?_ _ | refine blk_drew ?_ | refine blk_alloc ?_ _)); refine blk_far ?_ NB128_138.out _; (with_reducible repeat (first | refine blk_drewN ?_ _ | refine blk_drew ?_ | refine blk_alloc ?_ _)); refine blk_far ?_ NB128_138.out _; (with_reducible repeat (first | refine blk_drewN ?_ _ | refine blk_drew ?_ | refine blk_alloc ?_ _)); exact BK128.out) hb); have n1_ := Aside0.mk (blk_below (g := gb129) (o := .cells #[.slice A1_0 l1_0.length c1_0, .slice (some ad137) l1_1.length c1_1] 54 (0, 0)) (by (with_reducible repeat (first | refine blk_drewN ?_ _ | refine blk_drew ?_ | refine blk_alloc ?_ _)); refine blk_far ?_ NB129_138.out _; (with_reducible repeat (first | refine blk_drewN ?_ _ | refine blk_drew ?_ | refine blk_alloc ?_ _)); refine blk_far ?_ NB129_138.out _; (with_reducible repeat (first | refine blk_drewN ?_ _ | refine blk_drew ?_ | refine blk_alloc ?_ _)); refine blk_far ?_ NB129_138.out _; (with_reducible repeat (first | refine blk_drewN ?_ _ | refine blk_drew ?_ | refine blk_alloc ?_ _)); exact BK129.out) hb); have n2_ := Aside0.mk (blk_below (g := gb138) (o := .cells #[.string ((rd_T50 l1_1 x8_3).f0), .string ((rd_T50 l1_1 x8_3).f1), .int .i64 ((rd_T50 l1_1 x8_3).f2)] 50 (0, 0)) (by (with_reducible repeat (first | refine blk_drewN ?_ _ | refine blk_drew ?_ | refine blk_alloc ?_ _)); refine blk_put (cs := #[.string ((rd_T50 l1_1 x8_3).f0), .string ((rd_T50 l1_1 x8_3).f1), .int .i64 0]) ?_ 2 _ rfl; (with_reducible repeat (first | refine blk_drewN ?_ _ | refine blk_drew ?_ | refine blk_alloc ?_ _)); refine blk_put (cs := #[.string ((rd_T50 l1_1 x8_3).f0), .string (⟨#[]⟩ : ByteArray), .int .i64 0]) ?_ 1 _ rfl; (with_reducible repeat (first | refine blk_drewN ?_ _ | refine blk_drew ?_ | refine blk_alloc ?_ _)); refine blk_put (cs := #[.string (⟨#[]⟩ : ByteArray), .string (⟨#[]⟩ : ByteArray), .int .i64 0]) ?_ 0 _ rfl; (with_reducible repeat (first | refine blk_drewN ?_ _ | refine blk_drew ?_ | refine blk_alloc ?_ _)); exact BK138.out) hb); have n3_ := hb_ HB hb; clear BK128; clear BK129; clear BK138; clear HB; have BK128 := n0_; have BK129 := n1_; have BK138 := n2_; have HB := n3_; clear n0_ n1_ n2_ n3_; (try clear hb); (try clear hb2); (try clear hk); (try clear hi); obtain ⟨hcz82_0, hcz82_1, hcz82_2, hfz82_0, hfz82_1, hfz82_2⟩ := bs3_ BK138))
               go_roundg k3
               case measure => have := HJ2.out; have := HK2.out; have := HK3.out; omega
               case rel => exact ⟨(wrap64 (x8_3 + 1)), (by first | rfl | (simp; done) | (simp [*]; done)), H', ⟨by have := HJ2.out; have := HK2.out; have := HK3.out; omega⟩, ⟨gx_ BK128⟩, ⟨gx_ BK129⟩, ⟨hf_⟩⟩
           ·replace c43 := Bool.eq_false_iff.mpr c43
            subst c43
            have H1 : (some false) = some r := by rw [if_neg (show ¬ (false = true) by decide)] at H; exact H
            clear H
            have H := H1
            clear H1
            obtain rfl := Option.some.inj H
            have hnb83 := NB129_128.out
            have hnc83 := NB128_129.out
            obtain ⟨hcz84_0, hcz84_1, hfz84_0, hfz84_1⟩ := bs2_ BK129
            have p137 : 0 ≤ (x8_3 : Int) := od_
            have q137 : x8_3 < (l1_1.length : Int) := od_
            obtain ⟨ad137, e137, hx137_0, hx137_1, hx137_2⟩ := at_T50 HR1_1.out x8_3 p137 q137
            cases e137
            replace hx137_0 := rr_ HB hx137_0
            replace hx137_1 := rr_ HB hx137_1
            replace hx137_2 := rr_ HB hx137_2
            replace p137 := eq_true p137
            replace q137 := eq_true q137
            go_wp2_with (first | ((with_reducible refine gate_dst (N := 9) rfl ?_); (try (refine gate_guard (by rfl) ?_; dsimp only)); refine box_event ?hg (N := 9) ?hd (cs := #[.string (⟨#[]⟩ : ByteArray), .string (⟨#[]⟩ : ByteArray), .int .i64 0]) (t := 50) ?hr ?_; (case hd => rfl); (case hg => rfl); (case hr => first | (go_simp; done) | (go_simp; rfl)); intro gb138 hg w85 hbox hb; have n0_ := bb_ BK128 hb; have n1_ := bb_ BK129 hb; have n2_ := hb_ HB hb; have n3_ := Aside0.mk (hbox); have n4_ := Aside0.mk ((by rw [hg]; exact (below_size (by repeat (first | (with_reducible first | exact HB.out | apply below_alloc | apply pw_below_drewN | apply below_drew1 | refine below_set ?_ GE128.out | refine below_set ?_ GE129.out) | exact HB.out))) : w.heap.size ≤ gb138)); have n5_ := Aside0.mk ((by rw [hg]; exact (below_size (by repeat (first | (with_reducible first | exact HB.out | apply below_alloc | apply pw_below_drewN | apply below_drew1 | refine below_set ?_ GE128.out | refine below_set ?_ GE129.out) | exact HB.out))) : w.heap.size ≤ gb138)); have n6_ := Aside0.mk ((by rw [hg]; exact Nat.ne_of_lt (blk_lt (g := gb128) (o := .cells #[.slice A0_0 l0_0.length c0_0, .slice A0_1 l0_1.length c0_1] 25 (0, 0)) (by (with_reducible repeat (first | refine blk_drewN ?_ _ | refine blk_drew ?_ | refine blk_alloc ?_ _)); exact BK128.out)) : gb128 ≠ gb138)); have n7_ := Aside0.mk ((by rw [hg]; exact Nat.ne_of_gt (blk_lt (g := gb128) (o := .cells #[.slice A0_0 l0_0.length c0_0, .slice A0_1 l0_1.length c0_1] 25 (0, 0)) (by (with_reducible repeat (first | refine blk_drewN ?_ _ | refine blk_drew ?_ | refine blk_alloc ?_ _)); exact BK128.out)) : gb138 ≠ gb128)); have n8_ := Aside0.mk ((by rw [hg]; exact Nat.ne_of_lt (blk_lt (g := gb129) (o := .cells #[.slice A1_0 l1_0.length c1_0, .slice (some ad137) l1_1.length c1_1] 54 (0, 0)) (by (with_reducible repeat (first | refine blk_drewN ?_ _ | refine blk_drew ?_ | refine blk_alloc ?_ _)); exact BK129.out)) : gb129 ≠ gb138)); have n9_ := Aside0.mk ((by rw [hg]; exact Nat.ne_of_gt (blk_lt (g := gb129) (o := .cells #[.slice A1_0 l1_0.length c1_0, .slice (some ad137) l1_1.length c1_1] 54 (0, 0)) (by (with_reducible repeat (first | refine blk_drewN ?_ _ | refine blk_drew ?_ | refine blk_alloc ?_ _)); exact BK129.out)) : gb138 ≠ gb129)); clear BK128; clear BK129; clear HB; have BK128 := n0_; have BK129 := n1_; have HB := n2_; have BK138 := n3_; have GW138 := n4_; have GE138 := n5_; have NB128_138 := n6_; have NB138_128 := n7_; have NB129_138 := n8_; have NB138_129 := n9_; clear n0_ n1_ n2_ n3_ n4_ n5_ n6_ n7_ n8_ n9_; clear hb hbox hg; have hnb86 := NB138_128.out; have hnc86 := NB128_138.out; have hnb87 := NB138_129.out; have hnc87 := NB129_138.out; obtain ⟨hcz88_0, hcz88_1, hcz88_2, hfz88_0, hfz88_1, hfz88_2⟩ := bs3_ BK138; obtain ⟨hcz89_0, hcz89_1, hfz89_0, hfz89_1⟩ := bs2_ BK128) | ((with_reducible refine gate_callee (f := 29) rfl ?_); refine gl_ (some 95) Try.func29 #[.slice A0_0 l0_0.length c0_0, .string ((rd_T50 l1_1 x8_3).f0)] ?_; (with_reducible refine (sentryref4_File.calls k3 _ _ l0_0 ((rd_T50 l1_1 x8_3).f0) false _ ?side1 ?side2 A42.out).mono ?_); (case side1 => exact Kd.C_below HR0_0.out (by repeat (first | (with_reducible first | exact HB.out | apply below_alloc | apply pw_below_drewN | apply below_drew1 | refine below_set ?_ GE128.out | refine below_set ?_ GE129.out | refine below_set ?_ GE138.out) | exact HB.out))); (case side2 => exact HC0_0.out); rintro e w' ⟨rfl, ⟨nd, rfl⟩⟩; refine ⟨_, rfl, ?_⟩))
            go_ret
            exact ⟨er_, hf_⟩
          ·rw [if_neg c41] at H
           exact absurd H (by simp)
         ·rw [if_neg c40] at H
          have c40b0 : decide (x8_3 < (l1_1.length : Int)) = false := decide_eq_false c40
          clear c40
          obtain rfl := Option.some.inj H
          have hnb90 := NB129_128.out
          have hnc90 := NB128_129.out
          obtain ⟨hcz91_0, hcz91_1, hfz91_0, hfz91_1⟩ := bs2_ BK129
          go_wp2
          go_ret
          exact ⟨er_, hf_⟩
end Go.Proofs.Ytaiglhfmmdajdaa.Pm
end
section
namespace Go.Proofs.Ytaiglhfmmdajdaa.Pm
open Go.RowKit Go.Proofs.YtaiglhfmmdajdaaW.PrintWords Go.Proofs.YtaiglhfmmdajdaaW.PrintLast Go.Proofs.YtaiglhfmmdajdaaW.PrintMore
attribute [local go_sem] max2_int min2_int max_two min_two max_three min_three max_four min_four   -- for this text's walks alone
set_option linter.unusedVariables false
set_option linter.unusedSimpArgs false
def sentryref4_sentries.l0 : Nat → List (S54) → Int → List ByteArray → List (S48) → Option (Bool)
 | 0, _, _, _, _ => none
 | k + 1, x1, x5, x142000, x142001 => if x5 < (x1.length : Int) then (if 0 ≤ x5 then ((sentryref4_sentry.f k x142000 x142001 ((rd_T54 x1 x5).f0) ((rd_T54 x1 x5).f1)).bind fun t143 => (if t143 = true then (sentryref4_sentries.l0 k x1 (wrap64 (x5 + 1)) x142000 x142001) else (some false))) else (none)) else (some (decide ((x1.length : Int) ≤ 3)))
def sentryref4_sentries.f (k : Nat) (l0_0 : List ByteArray) (l0_1 : List (S48)) (l1 : List (S54)) : Option (Bool) := sentryref4_sentries.l0 k l1 0 l0_0 l0_1
theorem sentryref4_sentries.mono_l : ∀ k, (∀ y0 y1 y2 y3, LeO (sentryref4_sentries.l0 k y0 y1 y2 y3) (sentryref4_sentries.l0 (k + 1) y0 y1 y2 y3))
 | 0 => fun _ _ _ _ r h => by simp [sentryref4_sentries.l0] at h
 | k + 1 => by
  have ih0 := sentryref4_sentries.mono_l k
  ·intro y0 y1 y2 y3
   unfold sentryref4_sentries.l0
   repeat' first
   | (with_reducible exact ih0 _ _ _ _)
   | (with_reducible exact sentryref4_sentry.mono _ _ _ _ _)
   | (with_reducible exact LeO.refl _)
   | (with_reducible exact LeO.none _)
   | (with_reducible refine LeO.ite ?_ ?_)
   | (with_reducible refine LeO.bind ?_ (fun _ => ?_))
   | exact ih0 _ _ _ _
   | exact sentryref4_sentry.mono _ _ _ _ _
   | exact LeO.none _
   | refine LeO.ite ?_ ?_
   | refine LeO.bind ?_ (fun _ => ?_)
theorem sentryref4_sentries.mono : ∀ a0 a1 a2 k, LeO (sentryref4_sentries.f k a0 a1 a2) (sentryref4_sentries.f (k + 1) a0 a1 a2) := by
 intro a0 a1 a2 k
 have ih0 := sentryref4_sentries.mono_l k
 unfold sentryref4_sentries.f
 repeat' first
   | (with_reducible exact ih0 _ _ _ _)
   | (with_reducible exact sentryref4_sentry.mono _ _ _ _ _)
   | (with_reducible exact LeO.refl _)
   | (with_reducible exact LeO.none _)
   | (with_reducible refine LeO.ite ?_ ?_)
   | (with_reducible refine LeO.bind ?_ (fun _ => ?_))
   | exact ih0 _ _ _ _
   | exact sentryref4_sentry.mono _ _ _ _ _
   | exact LeO.none _
   | refine LeO.ite ?_ ?_
   | refine LeO.bind ?_ (fun _ => ?_)
set_option maxHeartbeats 8000000 in
set_option maxRecDepth 100000 in
theorem sentryref4_sentries.calls (k : Nat) (A0_0 : Option Addr) (c0_0 : Nat) (l0_0 : List ByteArray) (A0_1 : Option Addr) (c0_1 : Nat) (l0_1 : List (S48)) (A1 : Option Addr) (c1 : Nat) (l1 : List (S54)) (r : Bool) (w : World) (hr0_0 : Kd.C Kd.string w A0_0 l0_0.length l0_0) (hc0_0 : l0_0.length ≤ c0_0) (hr0_1 : Kd.C k48 w A0_1 l0_1.length l0_1) (hc0_1 : l0_1.length ≤ c0_1) (hr1 : Kd.C k54 w A1 l1.length l1) (hc1 : l1.length ≤ c1) (h : sentryref4_sentries.f k l0_0 l0_1 l1 = some r) :
  Calls Try.prog 31 #[.agg #[.slice A0_0 l0_0.length c0_0, .slice A0_1 l0_1.length c0_1], .slice A1 l1.length c1] w fun e w' => e = .returned (.bool r) ∧ Below w.heap.size w w' := by
 have hu25 := Try.underlying25
 have hu54 := Try.underlying54
 have HR0_0 := Aside0.mk hr0_0
 have HC0_0 := Aside0.mk hc0_0
 clear hr0_0 hc0_0
 have HR0_1 := Aside0.mk hr0_1
 have HC0_1 := Aside0.mk hc0_1
 clear hr0_1 hc0_1
 have HR1 := Aside0.mk hr1
 have HC1 := Aside0.mk hc1
 clear hr1 hc1
 have HB := Aside0.mk (Below.refl w.heap.size w)
 have H : (sentryref4_sentries.l0 k l1 0 l0_0 l0_1) = some r := h
 clear h
 have H' := Aside0.mk H
 clear H
 go_enter Try.func31, Try.ntmps31
 go_wp2_with (first | ((with_reducible refine gate_dst (N := 2) rfl ?_); refine box_event ?hg (N := 2) ?hd (cs := #[.slice A0_0 l0_0.length c0_0, .slice A0_1 l0_1.length c0_1]) (t := 25) ?hr ?_; (case hd => rfl); (case hg => rfl); (case hr => first | (go_simp; done) | (go_simp; rfl)); intro gb141 hg w3 hbox hb; have n0_ := hb_ HB hb; have n1_ := Aside0.mk (hbox); have n2_ := Aside0.mk ((by rw [hg]; exact (below_size (by repeat (first | (with_reducible first | exact HB.out | apply below_alloc | apply pw_below_drewN | apply below_drew1) | exact HB.out))) : w.heap.size ≤ gb141)); have n3_ := Aside0.mk ((by rw [hg]; exact (below_size (by repeat (first | (with_reducible first | exact HB.out | apply below_alloc | apply pw_below_drewN | apply below_drew1) | exact HB.out))) : w.heap.size ≤ gb141)); clear HB; have HB := n0_; have BK141 := n1_; have GW141 := n2_; have GE141 := n3_; clear n0_ n1_ n2_ n3_; clear hb hbox hg))
 go_loopg [5] k (fun kq v5 w' => ∃ (x5_1 : Int), v5 = .int .i64 x5_1 ∧ Aside0 (sentryref4_sentries.l0 kq l1 x5_1 l0_0 l0_1 = some r) ∧ Aside0 (kq ≤ k) ∧ Aside0 (w'.heap[gb141]? = some (.cells #[(.slice A0_0 l0_0.length c0_0), (.slice A0_1 l0_1.length c0_1)] 25 (0, 0))) ∧ Aside0 (Below w.heap.size w w'))
 case atStart => exact ⟨(0), (by first | rfl | (simp; done) | (simp [*]; done)), H', ⟨Nat.le_refl _⟩, ⟨gx_ BK141⟩, ⟨hf_⟩⟩
 case round =>
  clear H'
  (try clear c1); (try clear p2); (try clear c3)
  obtain ⟨x5_1, rfl, HA, HK1, BK141, HB⟩ := hrel
  cases gk with
  | zero => exact absurd HA.out (by simp [sentryref4_sentries.l0])
  | succ k1 =>
   have H := HA.out
   clear HA
   simp only [sentryref4_sentries.l0] at H
   by_cases c4 : x5_1 < (l1.length : Int)
   ·rw [if_pos c4] at H
    have c4b0 : decide (x5_1 < (l1.length : Int)) = true := decide_eq_true c4
    clear c4
    by_cases c5 : 0 ≤ x5_1
    ·rw [if_pos c5] at H
     have c5b0 : decide (0 ≤ x5_1) = true := decide_eq_true c5
     clear c5
     replace H := Option.bind_eq_some_iff.mp H
     obtain ⟨t143, A60, H⟩ := H
     replace H : (if t143 = true then (sentryref4_sentries.l0 k1 l1 (wrap64 (x5_1 + 1)) l0_0 l0_1) else (some false)) = some r := H
     have A6 := Aside0.mk A60
     clear A60
     by_cases c7 : t143 = true
     ·subst c7
      have H1 : (sentryref4_sentries.l0 k1 l1 (wrap64 (x5_1 + 1)) l0_0 l0_1) = some r := by rw [if_pos rfl] at H; exact H
      clear H
      have H := H1
      clear H1
      have H' := Aside0.mk H
      clear H
      try go_wp2
      replace BK141 := Aside0.mk (blk_drew BK141.out)
      replace HB := Aside0.mk (below_drew1 HB.out)
      have p142 : 0 ≤ (x5_1 : Int) := od_
      have q142 : x5_1 < (l1.length : Int) := od_
      obtain ⟨ad142, A142_0, c142_0, A142_1, c142_1, e142, hx142_0, hx142_1, hl142_0, hi142_0, hl142_1, hi142_1⟩ := at_T54 HR1.out x5_1 p142 q142
      have hw142_1 := hx142_1
      have hw142_0 := hx142_0
      cases e142
      replace hx142_0 := rr_ HB hx142_0
      replace hx142_1 := rr_ HB hx142_1
      have HR142_0 := Aside0.mk hi142_0
      have HC142_0 := Aside0.mk hl142_0
      clear hi142_0 hl142_0
      have HR142_1 := Aside0.mk hi142_1
      have HC142_1 := Aside0.mk hl142_1
      clear hi142_1 hl142_1
      replace p142 := eq_true p142
      replace q142 := eq_true q142
      refine start_ (n := 7) (S := fun w' => w'.cell? ⟨gb141, 0, none⟩ = some (.slice A0_0 l0_0.length c0_0) ∧ w'.cell? ⟨gb141, 1, none⟩ = some (.slice A0_1 l0_1.length c0_1) ∧ w'.cell? (ad142.add ((x5_1).toNat * 2)) = some (.slice A142_0 ((rd_T54 l1 x5_1).f0).length c142_0) ∧ w'.cell? ⟨(ad142.add ((x5_1).toNat * 2)).block, (ad142.add ((x5_1).toNat * 2)).off + 1, none⟩ = some (.slice A142_1 ((rd_T54 l1 x5_1).f1).length c142_1)) (ds := []) #[false, false, false, false, false, false, false] (by kernel_rfl) rfl rfl ⟨(bk0_ BK141 :), (bk1_ BK141 :), (rr_ HB hw142_0 :), (rr_ HB hw142_1 :)⟩ (fun hHeld => ?_)
      generalize wr.drew = w8 at BK141 HB HR142_0 HR142_1 hx142_0 hx142_1 hHeld ⊢
      refine pure_ (i := 1) (N := some 13) (v := ?_) (a' := ?_) #[false, true, false, false, false, false, false] rfl rfl (by kernel_rfl) (fun _ _ _ h => h) (Or.inl ⟨by rfl, ?_⟩) ?_ ?_
      rotate_left
      ·intro w'
       go_simp
       with_reducible rfl
      rotate_left
      ·simp only [Act.put, List.setIfInBounds_toArray, List.set_cons_zero, List.set_cons_succ, i64_w, i32_w]
       rfl
      refine pure_ (i := 2) (N := some 14) (v := ?_) (a' := ?_) #[false, true, true, false, false, false, false] rfl rfl (by kernel_rfl) (fun _ _ _ h => h) (Or.inl ⟨by rfl, ?_⟩) ?_ ?_
      rotate_left
      ·intro w'
       go_simp
       with_reducible rfl
      rotate_left
      ·simp only [Act.put, List.setIfInBounds_toArray, List.set_cons_zero, List.set_cons_succ, i64_w, i32_w]
       rfl
      refine pure_ (i := 3) (N := some 15) (v := ?_) (a' := ?_) #[false, true, true, true, false, false, false] rfl rfl (by kernel_rfl) (fun _ _ _ h => h) (Or.inl ⟨by rfl, ?_⟩) ?_ ?_
      rotate_left
      ·intro w'
       go_simp
       with_reducible rfl
      rotate_left
      ·simp only [Act.put, List.setIfInBounds_toArray, List.set_cons_zero, List.set_cons_succ, i64_w, i32_w]
       rfl
      refine take_ (i := 0) (N := some 12) (v := ?_) (a' := ?_) #[true, true, true, true, false, false, false] rfl rfl (by kernel_rfl) (fun _ _ _ h => h) (Or.inl ⟨by rfl, ?_⟩) hHeld ?_ ?_
      rotate_left
      ·rintro w' ⟨s0, s1, s2, s3⟩
       go_simp
       with_reducible rfl
      rotate_left
      ·simp only [Act.put, List.setIfInBounds_toArray, List.set_cons_zero, List.set_cons_succ, i64_w, i32_w]
       rfl
      refine take_ (i := 4) (N := some 16) (v := ?_) (a' := ?_) #[true, true, true, true, true, false, false] rfl rfl (by kernel_rfl) (fun _ _ _ h => h) (Or.inl ⟨by rfl, ?_⟩) hHeld ?_ ?_
      rotate_left
      ·rintro w' ⟨s0, s1, s2, s3⟩
       go_simp
       with_reducible rfl
      rotate_left
      ·simp only [Act.put, List.setIfInBounds_toArray, List.set_cons_zero, List.set_cons_succ, i64_w, i32_w]
       rfl
      refine one_ (i := 5) (N := some 17) #[true, true, true, true, true, true, false] rfl rfl (by kernel_rfl) (by decide) (fun K hK => ?_)
      refine go_s_ Try.func60 #[.agg #[.slice A0_0 l0_0.length c0_0, .slice A0_1 l0_1.length c0_1], .agg #[.slice A142_0 ((rd_T54 l1 x5_1).f0).length c142_0, .slice A142_1 ((rd_T54 l1 x5_1).f1).length c142_1]] ?_
      with_reducible refine (sentryref4_sentry.calls k1 _ _ l0_0 _ _ l0_1 _ _ ((rd_T54 l1 x5_1).f0) _ _ ((rd_T54 l1 x5_1).f1) true _ ?side1 ?side2 ?side3 ?side4 ?side5 ?side6 ?side7 ?side8 A6.out).mono ?_
      (case side1 => exact kc_ HR0_0 HB)
      (case side2 => exact HC0_0.out)
      (case side3 => exact kc_ HR0_1 HB)
      (case side4 => exact HC0_1.out)
      (case side5 => exact kc_ HR142_0 HB)
      (case side6 => exact HC142_0.out)
      (case side7 => exact kc_ HR142_1 HB)
      (case side8 => exact HC142_1.out)
      rintro e w9 ⟨rfl, hb⟩
      refine ⟨_, rfl, ?_⟩
      replace BK141 := bb_ BK141 hb
      replace HB := hb_ HB hb
      (try clear hb); (try clear hb2); (try clear hk); (try clear hi)
      refine hK.out _ _ ⟨(bk0_ BK141 :), (bk1_ BK141 :), (rr_ HB hw142_0 :), (rr_ HB hw142_1 :)⟩ (fun hHeld => ?_)
      clear hK K
      refine nz_ (some 17) ?_
      refine pure_ (i := 6) (N := some 18) (v := ?_) (a' := ?_) #[true, true, true, true, true, true, true] rfl rfl (by kernel_rfl) (fun _ _ _ h => h) (Or.inl ⟨by rfl, ?_⟩) ?_ ?_
      rotate_left
      ·intro w'
       go_simp
       with_reducible rfl
      rotate_left
      ·simp only [Act.put, List.setIfInBounds_toArray, List.set_cons_zero, List.set_cons_succ, i64_w, i32_w]
       rfl
      refine done_ (by kernel_rfl) ?_
      try go_wp2
      go_roundg k1
      case measure => have := HK1.out; omega
      case rel => exact ⟨(wrap64 (x5_1 + 1)), (by first | rfl | (simp; done) | (simp [*]; done)), H', ⟨by have := HK1.out; omega⟩, ⟨gx_ BK141⟩, ⟨hf_⟩⟩
     ·replace c7 := Bool.eq_false_iff.mpr c7
      subst c7
      have H1 : (some false) = some r := by rw [if_neg (show ¬ (false = true) by decide)] at H; exact H
      clear H
      have H := H1
      clear H1
      obtain rfl := Option.some.inj H
      try go_wp2
      replace BK141 := Aside0.mk (blk_drew BK141.out)
      replace HB := Aside0.mk (below_drew1 HB.out)
      have p142 : 0 ≤ (x5_1 : Int) := od_
      have q142 : x5_1 < (l1.length : Int) := od_
      obtain ⟨ad142, A142_0, c142_0, A142_1, c142_1, e142, hx142_0, hx142_1, hl142_0, hi142_0, hl142_1, hi142_1⟩ := at_T54 HR1.out x5_1 p142 q142
      have hw142_1 := hx142_1
      have hw142_0 := hx142_0
      cases e142
      replace hx142_0 := rr_ HB hx142_0
      replace hx142_1 := rr_ HB hx142_1
      have HR142_0 := Aside0.mk hi142_0
      have HC142_0 := Aside0.mk hl142_0
      clear hi142_0 hl142_0
      have HR142_1 := Aside0.mk hi142_1
      have HC142_1 := Aside0.mk hl142_1
      clear hi142_1 hl142_1
      replace p142 := eq_true p142
      replace q142 := eq_true q142
      refine start_ (n := 7) (S := fun w' => w'.cell? ⟨gb141, 0, none⟩ = some (.slice A0_0 l0_0.length c0_0) ∧ w'.cell? ⟨gb141, 1, none⟩ = some (.slice A0_1 l0_1.length c0_1) ∧ w'.cell? (ad142.add ((x5_1).toNat * 2)) = some (.slice A142_0 ((rd_T54 l1 x5_1).f0).length c142_0) ∧ w'.cell? ⟨(ad142.add ((x5_1).toNat * 2)).block, (ad142.add ((x5_1).toNat * 2)).off + 1, none⟩ = some (.slice A142_1 ((rd_T54 l1 x5_1).f1).length c142_1)) (ds := []) #[false, false, false, false, false, false, false] (by kernel_rfl) rfl rfl ⟨(bk0_ BK141 :), (bk1_ BK141 :), (rr_ HB hw142_0 :), (rr_ HB hw142_1 :)⟩ (fun hHeld => ?_)
      generalize wr.drew = w10 at BK141 HB HR142_0 HR142_1 hx142_0 hx142_1 hHeld ⊢
      refine pure_ (i := 1) (N := some 13) (v := ?_) (a' := ?_) #[false, true, false, false, false, false, false] rfl rfl (by kernel_rfl) (fun _ _ _ h => h) (Or.inl ⟨by rfl, ?_⟩) ?_ ?_
      rotate_left
      ·intro w'
       go_simp
       with_reducible rfl
      rotate_left
      ·simp only [Act.put, List.setIfInBounds_toArray, List.set_cons_zero, List.set_cons_succ, i64_w, i32_w]
       rfl
      refine pure_ (i := 2) (N := some 14) (v := ?_) (a' := ?_) #[false, true, true, false, false, false, false] rfl rfl (by kernel_rfl) (fun _ _ _ h => h) (Or.inl ⟨by rfl, ?_⟩) ?_ ?_
      rotate_left
      ·intro w'
       go_simp
       with_reducible rfl
      rotate_left
      ·simp only [Act.put, List.setIfInBounds_toArray, List.set_cons_zero, List.set_cons_succ, i64_w, i32_w]
       rfl
      refine pure_ (i := 3) (N := some 15) (v := ?_) (a' := ?_) #[false, true, true, true, false, false, false] rfl rfl (by kernel_rfl) (fun _ _ _ h => h) (Or.inl ⟨by rfl, ?_⟩) ?_ ?_
      rotate_left
      ·intro w'
       go_simp
       with_reducible rfl
      rotate_left
      ·simp only [Act.put, List.setIfInBounds_toArray, List.set_cons_zero, List.set_cons_succ, i64_w, i32_w]
       rfl
      refine take_ (i := 0) (N := some 12) (v := ?_) (a' := ?_) #[true, true, true, true, false, false, false] rfl rfl (by kernel_rfl) (fun _ _ _ h => h) (Or.inl ⟨by rfl, ?_⟩) hHeld ?_ ?_
      rotate_left
      ·rintro w' ⟨s0, s1, s2, s3⟩
       go_simp
       with_reducible rfl
      rotate_left
      ·simp only [Act.put, List.setIfInBounds_toArray, List.set_cons_zero, List.set_cons_succ, i64_w, i32_w]
       rfl
      refine take_ (i := 4) (N := some 16) (v := ?_) (a' := ?_) #[true, true, true, true, true, false, false] rfl rfl (by kernel_rfl) (fun _ _ _ h => h) (Or.inl ⟨by rfl, ?_⟩) hHeld ?_ ?_
      rotate_left
      ·rintro w' ⟨s0, s1, s2, s3⟩
       go_simp
       with_reducible rfl
      rotate_left
      ·simp only [Act.put, List.setIfInBounds_toArray, List.set_cons_zero, List.set_cons_succ, i64_w, i32_w]
       rfl
      refine one_ (i := 5) (N := some 17) #[true, true, true, true, true, true, false] rfl rfl (by kernel_rfl) (by decide) (fun K hK => ?_)
      refine go_s_ Try.func60 #[.agg #[.slice A0_0 l0_0.length c0_0, .slice A0_1 l0_1.length c0_1], .agg #[.slice A142_0 ((rd_T54 l1 x5_1).f0).length c142_0, .slice A142_1 ((rd_T54 l1 x5_1).f1).length c142_1]] ?_
      with_reducible refine (sentryref4_sentry.calls k1 _ _ l0_0 _ _ l0_1 _ _ ((rd_T54 l1 x5_1).f0) _ _ ((rd_T54 l1 x5_1).f1) false _ ?side1 ?side2 ?side3 ?side4 ?side5 ?side6 ?side7 ?side8 A6.out).mono ?_
      (case side1 => exact kc_ HR0_0 HB)
      (case side2 => exact HC0_0.out)
      (case side3 => exact kc_ HR0_1 HB)
      (case side4 => exact HC0_1.out)
      (case side5 => exact kc_ HR142_0 HB)
      (case side6 => exact HC142_0.out)
      (case side7 => exact kc_ HR142_1 HB)
      (case side8 => exact HC142_1.out)
      rintro e w11 ⟨rfl, hb⟩
      refine ⟨_, rfl, ?_⟩
      replace BK141 := bb_ BK141 hb
      replace HB := hb_ HB hb
      (try clear hb); (try clear hb2); (try clear hk); (try clear hi)
      refine hK.out _ _ ⟨(bk0_ BK141 :), (bk1_ BK141 :), (rr_ HB hw142_0 :), (rr_ HB hw142_1 :)⟩ (fun hHeld => ?_)
      clear hK K
      refine nz_ (some 17) ?_
      refine pure_ (i := 6) (N := some 18) (v := ?_) (a' := ?_) #[true, true, true, true, true, true, true] rfl rfl (by kernel_rfl) (fun _ _ _ h => h) (Or.inl ⟨by rfl, ?_⟩) ?_ ?_
      rotate_left
      ·intro w'
       go_simp
       with_reducible rfl
      rotate_left
      ·simp only [Act.put, List.setIfInBounds_toArray, List.set_cons_zero, List.set_cons_succ, i64_w, i32_w]
       rfl
      refine done_ (by kernel_rfl) ?_
      try go_wp2
      go_ret
      exact ⟨er_, hf_⟩
    ·rw [if_neg c5] at H
     exact absurd H (by simp)
   ·rw [if_neg c4] at H
    have c4b0 : decide (x5_1 < (l1.length : Int)) = false := decide_eq_false c4
    clear c4
    obtain rfl := Option.some.inj H
    go_wp2
    go_ret
    exact ⟨er_, hf_⟩
end Go.Proofs.Ytaiglhfmmdajdaa.Pm
end
section
namespace Go.Proofs.Ytaiglhfmmdajdaa.Pm
open Go.RowKit Go.Proofs.YtaiglhfmmdajdaaW.PrintWords Go.Proofs.YtaiglhfmmdajdaaW.PrintLast Go.Proofs.YtaiglhfmmdajdaaW.PrintMore
attribute [local go_sem] max2_int min2_int max_two min_two max_three min_three max_four min_four   -- for this text's walks alone
set_option linter.unusedVariables false
set_option linter.unusedSimpArgs false
mutual
def sentryref4_Is.j0 : Nat → Bool → List ByteArray → List (S48) → Option (Bool)
 | 0, _, _, _ => none
 | k + 1, x21, x145000, x145001 => if x21 = true then (some false) else (sentryref4_Is.l0 k 0 x145000 x145001)
def sentryref4_Is.l0 : Nat → Int → List ByteArray → List (S48) → Option (Bool)
 | 0, _, _, _ => none
 | k + 1, x3, x145000, x145001 => if x3 < (x145000.length : Int) then (if 0 ≤ x3 then ((sentryref1_Is.f k (rdOf ByteArray.empty x145000 x3)).bind fun t146 => (if t146 = true then (if x3 ≤ (x145000.length : Int) then ((sentryref4_File.f k (x145000.take (x3 : Int).toNat) (rdOf ByteArray.empty x145000 x3)).bind fun t149 => (if t149 = true then (some false) else (sentryref4_Is.l0 k (wrap64 (x3 + 1)) x145000 x145001))) else (none)) else (some false))) else (none)) else (sentryref4_Is.l1 k 0 x145000 x145001)
def sentryref4_Is.l1 : Nat → Int → List ByteArray → List (S48) → Option (Bool)
 | 0, _, _, _ => none
 | k + 1, x4, x145000, x145001 => if x4 < (x145001.length : Int) then ((sentryref4_item.f k x145000 x145001 x4).bind fun t150 => (if t150 = true then (sentryref4_Is.l1 k (wrap64 (x4 + 1)) x145000 x145001) else (some false))) else (sentryref4_Is.l2 k 0 x145000 x145001)
def sentryref4_Is.l2 : Nat → Int → List ByteArray → List (S48) → Option (Bool)
 | 0, _, _, _ => none
 | k + 1, x5, x145000, x145001 => if x5 < (x145001.length : Int) then (if 0 ≤ x5 then ((sentryref4_sentries.f k x145000 x145001 ((rd_T48 x145001 x5).f5)).bind fun t152 => (if t152 = true then ((sentryref4_sentries.f k x145000 x145001 ((rd_T48 x145001 x5).f6)).bind fun t154 => (if t154 = true then (sentryref4_Is.l2 k (wrap64 (x5 + 1)) x145000 x145001) else (some false))) else (some false))) else (none)) else (some true)
end
def sentryref4_Is.f (k : Nat) (l0_0 : List ByteArray) (l0_1 : List (S48)) : Option (Bool) := if (l0_0.length : Int) > 6 then (sentryref4_Is.j0 k true l0_0 l0_1) else (if (l0_1.length : Int) < 1 then (sentryref4_Is.j0 k true l0_0 l0_1) else (sentryref4_Is.j0 k (decide ((l0_1.length : Int) > 16)) l0_0 l0_1))
theorem sentryref4_Is.mono_l : ∀ k, (∀ y0 y1 y2, LeO (sentryref4_Is.j0 k y0 y1 y2) (sentryref4_Is.j0 (k + 1) y0 y1 y2)) ∧ (∀ y0 y1 y2, LeO (sentryref4_Is.l0 k y0 y1 y2) (sentryref4_Is.l0 (k + 1) y0 y1 y2)) ∧ (∀ y0 y1 y2, LeO (sentryref4_Is.l1 k y0 y1 y2) (sentryref4_Is.l1 (k + 1) y0 y1 y2)) ∧ (∀ y0 y1 y2, LeO (sentryref4_Is.l2 k y0 y1 y2) (sentryref4_Is.l2 (k + 1) y0 y1 y2))
 | 0 => ⟨fun _ _ _ r h => by simp [sentryref4_Is.j0] at h, fun _ _ _ r h => by simp [sentryref4_Is.l0] at h, fun _ _ _ r h => by simp [sentryref4_Is.l1] at h, fun _ _ _ r h => by simp [sentryref4_Is.l2] at h⟩
 | k + 1 => by
  obtain ⟨ih0, ih1, ih2, ih3⟩ := sentryref4_Is.mono_l k
  refine ⟨?_, ?_, ?_, ?_⟩
  intro y0 y1 y2
  unfold sentryref4_Is.j0
  rotate_left
  intro y0 y1 y2
  unfold sentryref4_Is.l0
  rotate_left
  intro y0 y1 y2
  unfold sentryref4_Is.l1
  rotate_left
  intro y0 y1 y2
  unfold sentryref4_Is.l2
  rotate_left
  all_goals repeat' first
   | (with_reducible exact ih0 _ _ _)
   | (with_reducible exact ih1 _ _ _)
   | (with_reducible exact ih2 _ _ _)
   | (with_reducible exact ih3 _ _ _)
   | (with_reducible exact sentryref1_Is.mono _ _)
   | (with_reducible exact sentryref4_File.mono _ _ _)
   | (with_reducible exact sentryref4_item.mono _ _ _ _)
   | (with_reducible exact sentryref4_sentries.mono _ _ _ _)
   | (with_reducible exact LeO.refl _)
   | (with_reducible exact LeO.none _)
   | (with_reducible refine LeO.ite ?_ ?_)
   | (with_reducible refine LeO.bind ?_ (fun _ => ?_))
   | exact ih0 _ _ _
   | exact ih1 _ _ _
   | exact ih2 _ _ _
   | exact ih3 _ _ _
   | exact sentryref1_Is.mono _ _
   | exact sentryref4_File.mono _ _ _
   | exact sentryref4_item.mono _ _ _ _
   | exact sentryref4_sentries.mono _ _ _ _
   | exact LeO.none _
   | refine LeO.ite ?_ ?_
   | refine LeO.bind ?_ (fun _ => ?_)
theorem sentryref4_Is.mono : ∀ a0 a1 k, LeO (sentryref4_Is.f k a0 a1) (sentryref4_Is.f (k + 1) a0 a1) := by
 intro a0 a1 k
 obtain ⟨ih0, ih1, ih2, ih3⟩ := sentryref4_Is.mono_l k
 unfold sentryref4_Is.f
 repeat' first
   | (with_reducible exact ih0 _ _ _)
   | (with_reducible exact ih1 _ _ _)
   | (with_reducible exact ih2 _ _ _)
   | (with_reducible exact ih3 _ _ _)
   | (with_reducible exact sentryref1_Is.mono _ _)
   | (with_reducible exact sentryref4_File.mono _ _ _)
   | (with_reducible exact sentryref4_item.mono _ _ _ _)
   | (with_reducible exact sentryref4_sentries.mono _ _ _ _)
   | (with_reducible exact LeO.refl _)
   | (with_reducible exact LeO.none _)
   | (with_reducible refine LeO.ite ?_ ?_)
   | (with_reducible refine LeO.bind ?_ (fun _ => ?_))
   | exact ih0 _ _ _
   | exact ih1 _ _ _
   | exact ih2 _ _ _
   | exact ih3 _ _ _
   | exact sentryref1_Is.mono _ _
   | exact sentryref4_File.mono _ _ _
   | exact sentryref4_item.mono _ _ _ _
   | exact sentryref4_sentries.mono _ _ _ _
   | exact LeO.none _
   | refine LeO.ite ?_ ?_
   | refine LeO.bind ?_ (fun _ => ?_)
def sentryref4_Is.T6 : Bool × List (List Nat × List Nat) := (true, [([], []), ([0], [0]), ([], []), ([1, 2], [1, 2]), ([3], [3]), ([4], [4]), ([5], [5]), ([6, 5], [6]), ([7], [7]), ([8, 7], [7, 8]), ([7], [7]), ([9, 10, 7], [7, 9, 10]), ([7], [7]), ([12, 7], [7, 12]), ([7], [7]), ([13, 14, 7], [7, 13, 14]), ([15, 7], [7, 15]), ([11, 16, 7, 7], [7, 11, 16]), ([7, 17], [7, 17])])
def sentryref4_Is.B6 : List Nat := [0, 1, 0, 7, 15, 31, 63, 127, 255, 511, 255, 2047, 255, 4351, 255, 28927, 61695, 131071, 262143]
theorem sentryref4_Is.tab6 : rtab .any (opsOf Try.f19 6) = sentryref4_Is.T6 := by kernel_rfl
theorem sentryref4_Is.bits6 : waitsOk sentryref4_Is.T6.2 sentryref4_Is.B6 = true := by kernel_rfl
def sentryref4_Is.T16 : Bool × List (List Nat × List Nat) := (true, [([], []), ([], []), ([1], [1]), ([], []), ([2, 3], [2, 3]), ([4], [4]), ([5], [5]), ([0, 6], [0, 6]), ([7], [7]), ([8, 7], [8]), ([9], [9]), ([9], [9]), ([11, 9], [9, 11]), ([9], [9]), ([12, 13, 9], [9, 12, 13]), ([14, 9], [9, 14]), ([15, 9], [9, 15]), ([10, 16, 9, 9], [9, 10, 16]), ([17, 9], [9, 17]), ([9, 18], [9, 18])])
def sentryref4_Is.B16 : List Nat := [0, 0, 2, 0, 14, 30, 62, 127, 255, 511, 1023, 1023, 3071, 1023, 15359, 31743, 64511, 131071, 262143, 524287]
theorem sentryref4_Is.tab16 : rtab .any (opsOf Try.f19 16) = sentryref4_Is.T16 := by kernel_rfl
theorem sentryref4_Is.bits16 : waitsOk sentryref4_Is.T16.2 sentryref4_Is.B16 = true := by kernel_rfl
set_option maxHeartbeats 8000000 in
set_option maxRecDepth 100000 in
theorem sentryref4_Is.calls (k : Nat) (A0_0 : Option Addr) (c0_0 : Nat) (l0_0 : List ByteArray) (A0_1 : Option Addr) (c0_1 : Nat) (l0_1 : List (S48)) (r : Bool) (w : World) (hr0_0 : Kd.C Kd.string w A0_0 l0_0.length l0_0) (hc0_0 : l0_0.length ≤ c0_0) (hr0_1 : Kd.C k48 w A0_1 l0_1.length l0_1) (hc0_1 : l0_1.length ≤ c0_1) (h : sentryref4_Is.f k l0_0 l0_1 = some r) :
  Calls Try.prog 19 #[.agg #[.slice A0_0 l0_0.length c0_0, .slice A0_1 l0_1.length c0_1]] w fun e w' => e = .returned (.bool r) ∧ Below w.heap.size w w' := by
 have hu25 := Try.underlying25
 have HR0_0 := Aside0.mk hr0_0
 have HC0_0 := Aside0.mk hc0_0
 clear hr0_0 hc0_0
 have HR0_1 := Aside0.mk hr0_1
 have HC0_1 := Aside0.mk hc0_1
 clear hr0_1 hc0_1
 have HB := Aside0.mk (Below.refl w.heap.size w)
 have H : (if (l0_0.length : Int) > 6 then (sentryref4_Is.j0 k true l0_0 l0_1) else (if (l0_1.length : Int) < 1 then (sentryref4_Is.j0 k true l0_0 l0_1) else (sentryref4_Is.j0 k (decide ((l0_1.length : Int) > 16)) l0_0 l0_1))) = some r := h
 clear h
 have HC2 := Aside0.mk H
 clear H
 go_enter Try.func19, Try.ntmps19
 go_upto_region 1 with (first | ((with_reducible refine gate_dst (N := 1) rfl ?_); (try (refine gate_guard (by rfl) ?_; dsimp only)); refine box_event ?hg (N := 1) ?hd (cs := #[.slice A0_0 l0_0.length c0_0, .slice A0_1 l0_1.length c0_1]) (t := 25) ?hr ?_; (case hd => rfl); (case hg => rfl); (case hr => first | (go_simp; done) | (go_simp; rfl)); intro gb144 hg w3 hbox hb; have n0_ := hb_ HB hb; have n1_ := Aside0.mk (hbox); have n2_ := Aside0.mk ((by rw [hg]; exact (below_size (by repeat (first | (with_reducible first | exact HB.out | apply below_alloc | apply pw_below_drewN | apply below_drew1) | exact HB.out))) : w.heap.size ≤ gb144)); have n3_ := Aside0.mk ((by rw [hg]; exact (below_size (by repeat (first | (with_reducible first | exact HB.out | apply below_alloc | apply pw_below_drewN | apply below_drew1) | exact HB.out))) : w.heap.size ≤ gb144)); clear HB; have HB := n0_; have BK144 := n1_; have GW144 := n2_; have GE144 := n3_; clear n0_ n1_ n2_ n3_; clear hb hbox hg))
 (try simp only [Act.put, List.setIfInBounds_toArray, List.set_cons_zero, List.set_cons_succ])
 go_cut [21] (fun v21 wc => ∃ (kq : Nat) (x21_1 : Bool), v21 = .bool x21_1 ∧ Aside0 (sentryref4_Is.j0 kq x21_1 l0_0 l0_1 = some r) ∧ Aside0 (kq ≤ k) ∧ Aside0 (wc.heap[gb144]? = some (.cells #[(.slice A0_0 l0_0.length c0_0), (.slice A0_1 l0_1.length c0_1)] 25 (0, 0))) ∧ Aside0 (Below w.heap.size w wc))
 case first =>
  have H := HC2.out
  clear HC2
  by_cases c4 : (l0_0.length : Int) > 6
  ·rw [if_pos c4] at H
   have c4b0 : decide (6 < (l0_0.length : Int)) = true := decide_eq_true c4
   have c4b1 : decide (6 < l0_0.length) = true := decide_eq_true (by omega)
   clear c4
   (first | rw [c4b0] | (simp only [i64_w, i32_w]; rw [c4b0]) | skip)
   have H' := Aside0.mk H
   clear H
   obtain ⟨hcz5_0, hcz5_1, hfz5_0, hfz5_1⟩ := bs2_ BK144
   go_wp2
   go_meet
   case rel => exact ⟨_, (true), (by first | rfl | (simp; done) | (simp [*]; done)), H', ⟨by first | omega | exact Nat.le_refl _⟩, ⟨gx_ BK144⟩, ⟨hf_⟩⟩
  ·rw [if_neg c4] at H
   have c4b0 : decide (6 < (l0_0.length : Int)) = false := decide_eq_false c4
   have c4b1 : decide (6 < l0_0.length) = false := decide_eq_false (by omega)
   clear c4
   (first | rw [c4b0] | (simp only [i64_w, i32_w]; rw [c4b0]) | skip)
   by_cases c6 : (l0_1.length : Int) < 1
   ·rw [if_pos c6] at H
    have c6b0 : decide ((l0_1.length : Int) < 1) = true := decide_eq_true c6
    have c6b1 : decide (l0_1.length < 1) = true := decide_eq_true (by omega)
    clear c6
    have H' := Aside0.mk H
    clear H
    obtain ⟨hcz7_0, hcz7_1, hfz7_0, hfz7_1⟩ := bs2_ BK144
    go_wp2
    go_meet
    case rel => exact ⟨_, (true), (by first | rfl | (simp; done) | (simp [*]; done)), H', ⟨by first | omega | exact Nat.le_refl _⟩, ⟨gx_ BK144⟩, ⟨hf_⟩⟩
   ·rw [if_neg c6] at H
    have c6b0 : decide ((l0_1.length : Int) < 1) = false := decide_eq_false c6
    have c6b1 : decide (l0_1.length < 1) = false := decide_eq_false (by omega)
    clear c6
    have H' := Aside0.mk H
    clear H
    obtain ⟨hcz8_0, hcz8_1, hfz8_0, hfz8_1⟩ := bs2_ BK144
    go_wp2
    go_meet
    case rel => exact ⟨_, (decide ((l0_1.length : Int) > 16)), (by first | rfl | (simp; done) | (simp [*]; done)), H', ⟨by first | omega | exact Nat.le_refl _⟩, ⟨gx_ BK144⟩, ⟨hf_⟩⟩
 case rest =>
  clear HC2
  (try clear c1); (try clear p2); (try clear c4); (try clear c4b0); (try clear c4b1); (try clear c6); (try clear c6b0); (try clear c6b1); (try clear hcz5_0); (try clear hcz5_1); (try clear hcz7_0); (try clear hcz7_1); (try clear hcz8_0); (try clear hcz8_1); (try clear hfz5_0); (try clear hfz5_1); (try clear hfz7_0); (try clear hfz7_1); (try clear hfz8_0); (try clear hfz8_1)
  obtain ⟨kq, x21_1, rfl, HA, HJ1, BK144, HB⟩ := hcut
  cases kq with
  | zero => exact absurd HA.out (by simp [sentryref4_Is.j0])
  | succ kj1 =>
   have H := HA.out
   clear HA
   simp only [sentryref4_Is.j0] at H
   by_cases c9 : x21_1 = true
   ·subst c9
    have H1 : (some false) = some r := by rw [if_pos rfl] at H; exact H
    clear H
    have H := H1
    clear H1
    obtain rfl := Option.some.inj H
    go_wp2
    go_ret
    exact ⟨er_, hf_⟩
   ·replace c9 := Bool.eq_false_iff.mpr c9
    subst c9
    have H1 : (sentryref4_Is.l0 kj1 0 l0_0 l0_1) = some r := by rw [if_neg (show ¬ (false = true) by decide)] at H; exact H
    clear H
    have H := H1
    clear H1
    have H' := Aside0.mk H
    clear H
    go_wp2
    go_loopg [3] kj1 (fun kq v3 w' => ∃ (x3_2 : Int), v3 = .int .i64 x3_2 ∧ Aside0 (sentryref4_Is.l0 kq x3_2 l0_0 l0_1 = some r) ∧ Aside0 (kq ≤ kj1) ∧ Aside0 (w'.heap[gb144]? = some (.cells #[(.slice A0_0 l0_0.length c0_0), (.slice A0_1 l0_1.length c0_1)] 25 (0, 0))) ∧ Aside0 (Below w.heap.size w w'))
    case atStart => exact ⟨(0), (by first | rfl | (simp; done) | (simp [*]; done)), H', ⟨Nat.le_refl _⟩, ⟨gx_ BK144⟩, ⟨hf_⟩⟩
    case round =>
     clear H'
     (try clear c1); (try clear p2); (try clear c4); (try clear c4b0); (try clear c4b1); (try clear c6); (try clear c6b0); (try clear c6b1); (try clear c9); (try clear hcz5_0); (try clear hcz5_1); (try clear hcz7_0); (try clear hcz7_1); (try clear hcz8_0); (try clear hcz8_1); (try clear hfz5_0); (try clear hfz5_1); (try clear hfz7_0); (try clear hfz7_1); (try clear hfz8_0); (try clear hfz8_1); (try clear p2)
     obtain ⟨x3_2, rfl, HA, HK2, BK144, HB⟩ := hrel
     cases gk with
     | zero => exact absurd HA.out (by simp [sentryref4_Is.l0])
     | succ k2 =>
      have H := HA.out
      clear HA
      simp only [sentryref4_Is.l0] at H
      by_cases c10 : x3_2 < (l0_0.length : Int)
      ·rw [if_pos c10] at H
       have c10b0 : decide (x3_2 < (l0_0.length : Int)) = true := decide_eq_true c10
       clear c10
       by_cases c11 : 0 ≤ x3_2
       ·rw [if_pos c11] at H
        have c11b0 : decide (0 ≤ x3_2) = true := decide_eq_true c11
        clear c11
        replace H := Option.bind_eq_some_iff.mp H
        obtain ⟨t146, A120, H⟩ := H
        replace H : (if t146 = true then (if x3_2 ≤ (l0_0.length : Int) then ((sentryref4_File.f k2 (l0_0.take (x3_2 : Int).toNat) (rdOf ByteArray.empty l0_0 x3_2)).bind fun t149 => (if t149 = true then (some false) else (sentryref4_Is.l0 k2 (wrap64 (x3_2 + 1)) l0_0 l0_1))) else (none)) else (some false)) = some r := H
        have A12 := Aside0.mk A120
        clear A120
        by_cases c13 : t146 = true
        ·subst c13
         have H1 : (if x3_2 ≤ (l0_0.length : Int) then ((sentryref4_File.f k2 (l0_0.take (x3_2 : Int).toNat) (rdOf ByteArray.empty l0_0 x3_2)).bind fun t149 => (if t149 = true then (some false) else (sentryref4_Is.l0 k2 (wrap64 (x3_2 + 1)) l0_0 l0_1))) else (none)) = some r := by rw [if_pos rfl] at H; exact H
         clear H
         have H := H1
         clear H1
         have c14b0 := eq_true (od_ : 0 ≤ x3_2)
         by_cases c15 : x3_2 ≤ (l0_0.length : Int)
         ·rw [if_pos c15] at H
          have c15b0 := eq_true c15
          have c15b1 : decide (x3_2 ≤ (l0_0.length : Int)) = true := decide_eq_true c15
          clear c15
          replace H := Option.bind_eq_some_iff.mp H
          obtain ⟨t149, A160, H⟩ := H
          replace H : (if t149 = true then (some false) else (sentryref4_Is.l0 k2 (wrap64 (x3_2 + 1)) l0_0 l0_1)) = some r := H
          have A16 := Aside0.mk A160
          clear A160
          by_cases c17 : t149 = true
          ·subst c17
           have H1 : (some false) = some r := by rw [if_pos rfl] at H; exact H
           clear H
           have H := H1
           clear H1
           obtain rfl := Option.some.inj H
           obtain ⟨hcz18_0, hcz18_1, hfz18_0, hfz18_1⟩ := bs2_ BK144
           try go_wp2
           replace BK144 := Aside0.mk (blk_drew BK144.out)
           replace HB := Aside0.mk (below_drew1 HB.out)
           have p145 : 0 ≤ (x3_2 : Int) := od_
           have q145 : x3_2 < (l0_0.length : Int) := od_
           obtain ⟨ad145, e145, hx145_0⟩ := Kd.at_string HR0_0.out x3_2 p145 q145
           have hw145_0 := hx145_0
           cases e145
           replace hx145_0 := rr_ HB hx145_0
           replace p145 := eq_true p145
           replace q145 := eq_true q145
           have p148 : 0 ≤ (x3_2 : Int) := od_
           have q148 : x3_2 < (l0_0.length : Int) := od_
           obtain ⟨ad148, e148, hx148_0⟩ := Kd.at_string HR0_0.out x3_2 p148 q148
           have hw148_0 := hx148_0
           obtain rfl : ad145 = ad148 := (by injection e148)
           replace hx148_0 := rr_ HB hx148_0
           replace p148 := eq_true p148
           replace q148 := eq_true q148
           refine start_ (n := 19) (S := fun w' => w'.cell? ⟨gb144, 0, none⟩ = some (.slice (some ad145) l0_0.length c0_0) ∧ w'.cell? ⟨gb144, 1, none⟩ = some (.slice A0_1 l0_1.length c0_1) ∧ w'.cell? (ad145.add (x3_2).toNat) = some (.string (rdOf ByteArray.empty l0_0 x3_2)) ∧ w'.cell? (ad145.add (x3_2).toNat) = some (.string (rdOf ByteArray.empty l0_0 x3_2))) (ds := []) #[false, false, false, false, false, false, false, false, false, false, false, false, false, false, false, false, false, false, false] (by kernel_rfl) rfl rfl ⟨(bk0_ BK144 :), (bk1_ BK144 :), (rr_ HB hw145_0 :), (rr_ HB hw148_0 :)⟩ (fun hHeld => ?_); refine with_tabW sentryref4_Is.tab6 sentryref4_Is.bits6 (fun HT_ HW_ => ?_)
           generalize wr.drew = w19 at BK144 HB hx145_0 hx148_0 hHeld ⊢
           refine pz_ 0 (some 29) (bits_ 19 1) HT_.out ?_
           refine pz_ 2 (some 31) (bits_ 19 5) HT_.out ?_
           refine tz_ 1 (some 30) (bits_ 19 7) HT_.out HW_.out hHeld ?_ (hy := by rintro w' ⟨s0, s1, s2, s3⟩; go_simp; with_reducible rfl)
           refine pz_ 3 (some 32) (bits_ 19 15) HT_.out ?_
           refine tz_ 4 (some 33) (bits_ 19 31) HT_.out HW_.out hHeld ?_ (hy := by rintro w' ⟨s0, s1, s2, s3⟩; go_simp; with_reducible rfl)
           refine oz_ 5 (some 34) (bits_ 19 63) HT_.out (fun K hK => ?_)
           refine go_s_ Try.func28 #[.string (rdOf ByteArray.empty l0_0 x3_2)] ?_
           with_reducible refine (sentryref1_Is.calls k2 (rdOf ByteArray.empty l0_0 x3_2) true _ A12.out).mono ?_
           rintro e w' ⟨rfl, ⟨nd, rfl⟩⟩
           refine ⟨_, rfl, ?_⟩
           obtain ⟨i020, hi020, _, hsz20, _⟩ := info_parts info9
           obtain ⟨hcut20, hA20, hC20⟩ := print_take_of (P := Try.prog) Value.string (⟨#[]⟩ : ByteArray) 22 9 .i64 Try.underlying22 hi020 hsz20 (some ad145) c0_0 l0_0 x3_2 (od_) (od_) HC0_0.out
           have HR147 := Aside0.mk (Kd.C_of_reads (h1 := fun _ => rfl) (hA20 _ (Kd.reads_of_C HR0_0.out)))
           have HC147 := Aside0.mk hC20
           clear hA20 hC20 hi020 hsz20
           refine hK.out _ _ ⟨(bk0_ BK144 :), (bk1_ BK144 :), (rr_ HB hw145_0 :), (rr_ HB hw148_0 :)⟩ (fun hHeld => ?_)
           clear hK K
           refine nz_ (some 34) ?_
           refine pz_ 6 (some 35) (bits_ 19 127) HT_.out ?_
           refine pz_ 7 (some 36) (bits_ 19 255) HT_.out ?_
           refine pz_ 8 (some 37) (bits_ 19 511) HT_.out ?_
           refine pz_ 10 (some 39) (bits_ 19 1535) HT_.out ?_
           refine pz_ 12 (some 41) (bits_ 19 5631) HT_.out ?_
           refine pz_ 14 (some 43) (bits_ 19 22015) HT_.out ?_
           refine tz_ 9 (some 38) (bits_ 19 22527) HT_.out HW_.out hHeld ?_ (hy := by rintro w' ⟨s0, s1, s2, s3⟩; go_simp; with_reducible rfl)
           refine pz_ 11 (some 40) (bits_ 19 24575) HT_.out ?_
           refine tz_ 13 (some 42) (bits_ 19 32767) HT_.out HW_.out hHeld ?_ (hy := by rintro w' ⟨s0, s1, s2, s3⟩; go_simp; with_reducible rfl)
           refine pz_ 15 (some 44) (bits_ 19 65535) HT_.out ?_
           refine tz_ 16 (some 45) (bits_ 19 131071) HT_.out HW_.out hHeld ?_ (hy := by rintro w' ⟨s0, s1, s2, s3⟩; go_simp; with_reducible rfl)
           refine oz_ 17 (some 46) (bits_ 19 262143) HT_.out (fun K hK => ?_)
           refine goes_ Try.func29 (by kernel_rfl) rfl #[.slice (some ad145) (l0_0.take (x3_2 : Int).toNat).length c0_0, .string (rdOf ByteArray.empty l0_0 x3_2)] (by rfl) rfl rfl (by (try simp only [List.map_toArray, List.map_cons, List.map_nil]); first | done | (rw [show (l0_0.take (x3_2 : Int).toNat).length = x3_2.toNat from (by rw [List.length_take]; have h_ : (x3_2 : Int) ≤ (l0_0.length : Int) := od_; omega)] <;> rfl) | rfl | (simp only [List.length_drop, List.length_take]; rfl)) ?_
           with_reducible refine (sentryref4_File.calls k2 _ _ (l0_0.take (x3_2 : Int).toNat) (rdOf ByteArray.empty l0_0 x3_2) true _ ?side1 ?side2 A16.out).mono ?_
           (case side1 => repeat (first | exact (Kd.C_below HR147.out (by repeat (first | (with_reducible first | exact HB.out | apply below_alloc | apply pw_below_drewN | apply below_drew1 | refine below_set ?_ GE144.out) | exact HB.out))) | (with_reducible refine Kd.C_alloc ?_ _) | (with_reducible refine Kd.C_drewN ?_ _) | (with_reducible refine Kd.C_drew ?_)))
           (case side2 => exact HC147.out)
           rintro e w' ⟨rfl, ⟨nd, rfl⟩⟩
           refine ⟨_, rfl, ?_⟩
           refine hK.out _ _ ⟨(bk0_ BK144 :), (bk1_ BK144 :), (rr_ HB hw145_0 :), (rr_ HB hw148_0 :)⟩ (fun hHeld => ?_)
           clear hK K
           refine nz_ (some 46) ?_
           refine pz_ 18 (some 47) (bits_ 19 524287) HT_.out ?_
           refine done_ (done_of HT_.out (by kernel_rfl)) ?_
           try go_wp2
           go_ret
           exact ⟨er_, hf_⟩
          ·replace c17 := Bool.eq_false_iff.mpr c17
           subst c17
           have H1 : (sentryref4_Is.l0 k2 (wrap64 (x3_2 + 1)) l0_0 l0_1) = some r := by rw [if_neg (show ¬ (false = true) by decide)] at H; exact H
           clear H
           have H := H1
           clear H1
           have H' := Aside0.mk H
           clear H
           obtain ⟨hcz21_0, hcz21_1, hfz21_0, hfz21_1⟩ := bs2_ BK144
           try go_wp2
           replace BK144 := Aside0.mk (blk_drew BK144.out)
           replace HB := Aside0.mk (below_drew1 HB.out)
           have p145 : 0 ≤ (x3_2 : Int) := od_
           have q145 : x3_2 < (l0_0.length : Int) := od_
           obtain ⟨ad145, e145, hx145_0⟩ := Kd.at_string HR0_0.out x3_2 p145 q145
           have hw145_0 := hx145_0
           cases e145
           replace hx145_0 := rr_ HB hx145_0
           replace p145 := eq_true p145
           replace q145 := eq_true q145
           have p148 : 0 ≤ (x3_2 : Int) := od_
           have q148 : x3_2 < (l0_0.length : Int) := od_
           obtain ⟨ad148, e148, hx148_0⟩ := Kd.at_string HR0_0.out x3_2 p148 q148
           have hw148_0 := hx148_0
           obtain rfl : ad145 = ad148 := (by injection e148)
           replace hx148_0 := rr_ HB hx148_0
           replace p148 := eq_true p148
           replace q148 := eq_true q148
           refine start_ (n := 19) (S := fun w' => w'.cell? ⟨gb144, 0, none⟩ = some (.slice (some ad145) l0_0.length c0_0) ∧ w'.cell? ⟨gb144, 1, none⟩ = some (.slice A0_1 l0_1.length c0_1) ∧ w'.cell? (ad145.add (x3_2).toNat) = some (.string (rdOf ByteArray.empty l0_0 x3_2)) ∧ w'.cell? (ad145.add (x3_2).toNat) = some (.string (rdOf ByteArray.empty l0_0 x3_2))) (ds := []) #[false, false, false, false, false, false, false, false, false, false, false, false, false, false, false, false, false, false, false] (by kernel_rfl) rfl rfl ⟨(bk0_ BK144 :), (bk1_ BK144 :), (rr_ HB hw145_0 :), (rr_ HB hw148_0 :)⟩ (fun hHeld => ?_); refine with_tabW sentryref4_Is.tab6 sentryref4_Is.bits6 (fun HT_ HW_ => ?_)
           generalize wr.drew = w22 at BK144 HB hx145_0 hx148_0 hHeld ⊢
           refine pz_ 0 (some 29) (bits_ 19 1) HT_.out ?_
           refine pz_ 2 (some 31) (bits_ 19 5) HT_.out ?_
           refine tz_ 1 (some 30) (bits_ 19 7) HT_.out HW_.out hHeld ?_ (hy := by rintro w' ⟨s0, s1, s2, s3⟩; go_simp; with_reducible rfl)
           refine pz_ 3 (some 32) (bits_ 19 15) HT_.out ?_
           refine tz_ 4 (some 33) (bits_ 19 31) HT_.out HW_.out hHeld ?_ (hy := by rintro w' ⟨s0, s1, s2, s3⟩; go_simp; with_reducible rfl)
           refine oz_ 5 (some 34) (bits_ 19 63) HT_.out (fun K hK => ?_)
           refine go_s_ Try.func28 #[.string (rdOf ByteArray.empty l0_0 x3_2)] ?_
           with_reducible refine (sentryref1_Is.calls k2 (rdOf ByteArray.empty l0_0 x3_2) true _ A12.out).mono ?_
           rintro e w' ⟨rfl, ⟨nd, rfl⟩⟩
           refine ⟨_, rfl, ?_⟩
           obtain ⟨i023, hi023, _, hsz23, _⟩ := info_parts info9
           obtain ⟨hcut23, hA23, hC23⟩ := print_take_of (P := Try.prog) Value.string (⟨#[]⟩ : ByteArray) 22 9 .i64 Try.underlying22 hi023 hsz23 (some ad145) c0_0 l0_0 x3_2 (od_) (od_) HC0_0.out
           have HR147 := Aside0.mk (Kd.C_of_reads (h1 := fun _ => rfl) (hA23 _ (Kd.reads_of_C HR0_0.out)))
           have HC147 := Aside0.mk hC23
           clear hA23 hC23 hi023 hsz23
           refine hK.out _ _ ⟨(bk0_ BK144 :), (bk1_ BK144 :), (rr_ HB hw145_0 :), (rr_ HB hw148_0 :)⟩ (fun hHeld => ?_)
           clear hK K
           refine nz_ (some 34) ?_
           refine pz_ 6 (some 35) (bits_ 19 127) HT_.out ?_
           refine pz_ 7 (some 36) (bits_ 19 255) HT_.out ?_
           refine pz_ 8 (some 37) (bits_ 19 511) HT_.out ?_
           refine pz_ 10 (some 39) (bits_ 19 1535) HT_.out ?_
           refine pz_ 12 (some 41) (bits_ 19 5631) HT_.out ?_
           refine pz_ 14 (some 43) (bits_ 19 22015) HT_.out ?_
           refine tz_ 9 (some 38) (bits_ 19 22527) HT_.out HW_.out hHeld ?_ (hy := by rintro w' ⟨s0, s1, s2, s3⟩; go_simp; with_reducible rfl)
           refine pz_ 11 (some 40) (bits_ 19 24575) HT_.out ?_
           refine tz_ 13 (some 42) (bits_ 19 32767) HT_.out HW_.out hHeld ?_ (hy := by rintro w' ⟨s0, s1, s2, s3⟩; go_simp; with_reducible rfl)
           refine pz_ 15 (some 44) (bits_ 19 65535) HT_.out ?_
           refine tz_ 16 (some 45) (bits_ 19 131071) HT_.out HW_.out hHeld ?_ (hy := by rintro w' ⟨s0, s1, s2, s3⟩; go_simp; with_reducible rfl)
           refine oz_ 17 (some 46) (bits_ 19 262143) HT_.out (fun K hK => ?_)
           refine goes_ Try.func29 (by kernel_rfl) rfl #[.slice (some ad145) (l0_0.take (x3_2 : Int).toNat).length c0_0, .string (rdOf ByteArray.empty l0_0 x3_2)] (by rfl) rfl rfl (by (try simp only [List.map_toArray, List.map_cons, List.map_nil]); first | done | (rw [show (l0_0.take (x3_2 : Int).toNat).length = x3_2.toNat from (by rw [List.length_take]; have h_ : (x3_2 : Int) ≤ (l0_0.length : Int) := od_; omega)] <;> rfl) | rfl | (simp only [List.length_drop, List.length_take]; rfl)) ?_
           with_reducible refine (sentryref4_File.calls k2 _ _ (l0_0.take (x3_2 : Int).toNat) (rdOf ByteArray.empty l0_0 x3_2) false _ ?side1 ?side2 A16.out).mono ?_
           (case side1 => repeat (first | exact (Kd.C_below HR147.out (by repeat (first | (with_reducible first | exact HB.out | apply below_alloc | apply pw_below_drewN | apply below_drew1 | refine below_set ?_ GE144.out) | exact HB.out))) | (with_reducible refine Kd.C_alloc ?_ _) | (with_reducible refine Kd.C_drewN ?_ _) | (with_reducible refine Kd.C_drew ?_)))
           (case side2 => exact HC147.out)
           rintro e w' ⟨rfl, ⟨nd, rfl⟩⟩
           refine ⟨_, rfl, ?_⟩
           refine hK.out _ _ ⟨(bk0_ BK144 :), (bk1_ BK144 :), (rr_ HB hw145_0 :), (rr_ HB hw148_0 :)⟩ (fun hHeld => ?_)
           clear hK K
           refine nz_ (some 46) ?_
           refine pz_ 18 (some 47) (bits_ 19 524287) HT_.out ?_
           refine done_ (done_of HT_.out (by kernel_rfl)) ?_
           try go_wp2
           go_roundg k2
           case measure => have := HJ1.out; have := HK2.out; omega
           case rel => exact ⟨(wrap64 (x3_2 + 1)), (by first | rfl | (simp; done) | (simp [*]; done)), H', ⟨by have := HJ1.out; have := HK2.out; omega⟩, ⟨gx_ BK144⟩, ⟨hf_⟩⟩
         ·rw [if_neg c15] at H
          exact absurd H (by simp)
        ·replace c13 := Bool.eq_false_iff.mpr c13
         subst c13
         have H1 : (some false) = some r := by rw [if_neg (show ¬ (false = true) by decide)] at H; exact H
         clear H
         have H := H1
         clear H1
         obtain rfl := Option.some.inj H
         obtain ⟨hcz24_0, hcz24_1, hfz24_0, hfz24_1⟩ := bs2_ BK144
         try go_wp2
         replace BK144 := Aside0.mk (blk_drew BK144.out)
         replace HB := Aside0.mk (below_drew1 HB.out)
         have p145 : 0 ≤ (x3_2 : Int) := od_
         have q145 : x3_2 < (l0_0.length : Int) := od_
         obtain ⟨ad145, e145, hx145_0⟩ := Kd.at_string HR0_0.out x3_2 p145 q145
         have hw145_0 := hx145_0
         cases e145
         replace hx145_0 := rr_ HB hx145_0
         replace p145 := eq_true p145
         replace q145 := eq_true q145
         refine start_ (n := 19) (S := fun w' => w'.cell? ⟨gb144, 0, none⟩ = some (.slice (some ad145) l0_0.length c0_0) ∧ w'.cell? ⟨gb144, 1, none⟩ = some (.slice A0_1 l0_1.length c0_1) ∧ w'.cell? (ad145.add (x3_2).toNat) = some (.string (rdOf ByteArray.empty l0_0 x3_2))) (ds := []) #[false, false, false, false, false, false, false, false, false, false, false, false, false, false, false, false, false, false, false] (by kernel_rfl) rfl rfl ⟨(bk0_ BK144 :), (bk1_ BK144 :), (rr_ HB hw145_0 :)⟩ (fun hHeld => ?_); refine with_tabW sentryref4_Is.tab6 sentryref4_Is.bits6 (fun HT_ HW_ => ?_)
         generalize wr.drew = w25 at BK144 HB hx145_0 hHeld ⊢
         refine pz_ 0 (some 29) (bits_ 19 1) HT_.out ?_
         refine pz_ 2 (some 31) (bits_ 19 5) HT_.out ?_
         refine tz_ 1 (some 30) (bits_ 19 7) HT_.out HW_.out hHeld ?_ (hy := by rintro w' ⟨s0, s1, s2⟩; go_simp; with_reducible rfl)
         refine pz_ 3 (some 32) (bits_ 19 15) HT_.out ?_
         refine tz_ 4 (some 33) (bits_ 19 31) HT_.out HW_.out hHeld ?_ (hy := by rintro w' ⟨s0, s1, s2⟩; go_simp; with_reducible rfl)
         refine oz_ 5 (some 34) (bits_ 19 63) HT_.out (fun K hK => ?_)
         refine go_s_ Try.func28 #[.string (rdOf ByteArray.empty l0_0 x3_2)] ?_
         with_reducible refine (sentryref1_Is.calls k2 (rdOf ByteArray.empty l0_0 x3_2) false _ A12.out).mono ?_
         rintro e w' ⟨rfl, ⟨nd, rfl⟩⟩
         refine ⟨_, rfl, ?_⟩
         refine hK.out _ _ ⟨(bk0_ BK144 :), (bk1_ BK144 :), (rr_ HB hw145_0 :)⟩ (fun hHeld => ?_)
         clear hK K
         refine nz_ (some 34) ?_
         refine pz_ 6 (some 35) (bits_ 19 127) HT_.out ?_
         refine pz_ 7 (some 36) (bits_ 19 255) HT_.out ?_
         refine sz_ 8 (some 37) (bits_ 19 511) HT_.out ?_
         refine sz_ 9 (some 38) (bits_ 19 1023) HT_.out ?_
         refine sz_ 10 (some 39) (bits_ 19 2047) HT_.out ?_
         refine sz_ 11 (some 40) (bits_ 19 4095) HT_.out ?_
         refine sz_ 12 (some 41) (bits_ 19 8191) HT_.out ?_
         refine sz_ 13 (some 42) (bits_ 19 16383) HT_.out ?_
         refine sz_ 14 (some 43) (bits_ 19 32767) HT_.out ?_
         refine sz_ 15 (some 44) (bits_ 19 65535) HT_.out ?_
         refine sz_ 16 (some 45) (bits_ 19 131071) HT_.out ?_
         refine sz_ 17 (some 46) (bits_ 19 262143) HT_.out ?_
         refine pz_ 18 (some 47) (bits_ 19 524287) HT_.out ?_
         refine done_ (done_of HT_.out (by kernel_rfl)) ?_
         try go_wp2
         go_ret
         exact ⟨er_, hf_⟩
       ·rw [if_neg c11] at H
        exact absurd H (by simp)
      ·rw [if_neg c10] at H
       have c10b0 : decide (x3_2 < (l0_0.length : Int)) = false := decide_eq_false c10
       clear c10
       have H' := Aside0.mk H
       clear H
       obtain ⟨hcz26_0, hcz26_1, hfz26_0, hfz26_1⟩ := bs2_ BK144
       go_wp2
       go_loopg [4] k2 (fun kq v4 w' => ∃ (x4_3 : Int), v4 = .int .i64 x4_3 ∧ Aside0 (sentryref4_Is.l1 kq x4_3 l0_0 l0_1 = some r) ∧ Aside0 (kq ≤ k2) ∧ Aside0 (w'.heap[gb144]? = some (.cells #[(.slice A0_0 l0_0.length c0_0), (.slice A0_1 l0_1.length c0_1)] 25 (0, 0))) ∧ Aside0 (Below w.heap.size w w'))
       case atStart => exact ⟨(0), (by first | rfl | (simp; done) | (simp [*]; done)), H', ⟨Nat.le_refl _⟩, ⟨gx_ BK144⟩, ⟨hf_⟩⟩
       case round =>
        clear H'
        (try clear c1); (try clear p1); (try clear q1); (try clear hx1); (try clear c2); (try clear p2); (try clear p6); (try clear c10); (try clear c10b0); (try clear c11); (try clear c13); (try clear c14); (try clear c14b0); (try clear p14); (try clear q14); (try clear hx14); (try clear c15); (try clear c15b0); (try clear c15b1); (try clear c17); (try clear hcz18_0); (try clear hcz18_1); (try clear hcz21_0); (try clear hcz21_1); (try clear hcz24_0); (try clear hcz24_1); (try clear hcz26_0); (try clear hcz26_1); (try clear hfz18_0); (try clear hfz18_1); (try clear hfz21_0); (try clear hfz21_1); (try clear hfz24_0); (try clear hfz24_1); (try clear hfz26_0); (try clear hfz26_1); (try clear hx145_0); (try clear hx148_0); (try clear p145); (try clear p148); (try clear q145); (try clear q148)
        obtain ⟨x4_3, rfl, HA, HK3, BK144, HB⟩ := hrel
        cases gk with
        | zero => exact absurd HA.out (by simp [sentryref4_Is.l1])
        | succ k3 =>
         have H := HA.out
         clear HA
         simp only [sentryref4_Is.l1] at H
         by_cases c27 : x4_3 < (l0_1.length : Int)
         ·rw [if_pos c27] at H
          have c27b0 : decide (x4_3 < (l0_1.length : Int)) = true := decide_eq_true c27
          clear c27
          replace H := Option.bind_eq_some_iff.mp H
          obtain ⟨t150, A280, H⟩ := H
          replace H : (if t150 = true then (sentryref4_Is.l1 k3 (wrap64 (x4_3 + 1)) l0_0 l0_1) else (some false)) = some r := H
          have A28 := Aside0.mk A280
          clear A280
          by_cases c29 : t150 = true
          ·subst c29
           have H1 : (sentryref4_Is.l1 k3 (wrap64 (x4_3 + 1)) l0_0 l0_1) = some r := by rw [if_pos rfl] at H; exact H
           clear H
           have H := H1
           clear H1
           have H' := Aside0.mk H
           clear H
           obtain ⟨hcz30_0, hcz30_1, hfz30_0, hfz30_1⟩ := bs2_ BK144
           go_wp2_with (first | ((with_reducible refine gate_callee (f := 30) rfl ?_); refine gl_ (some 57) Try.func30 #[.agg #[.slice A0_0 l0_0.length c0_0, .slice A0_1 l0_1.length c0_1], .int .i64 x4_3] ?_; (with_reducible refine (sentryref4_item.calls k3 _ _ l0_0 _ _ l0_1 x4_3 true _ ?side1 ?side2 ?side3 ?side4 A28.out).mono ?_); (case side1 => exact kc_ HR0_0 HB); (case side2 => exact HC0_0.out); (case side3 => exact kc_ HR0_1 HB); (case side4 => exact HC0_1.out); rintro e w31 ⟨rfl, hb⟩; refine ⟨_, rfl, ?_⟩; have n0_ := bb_ BK144 hb; have n1_ := hb_ HB hb; clear BK144; clear HB; have BK144 := n0_; have HB := n1_; clear n0_ n1_; (try clear hb); (try clear hb2); (try clear hk); (try clear hi)))
           go_roundg k3
           case measure => have := HJ1.out; have := HK2.out; have := HK3.out; omega
           case rel => exact ⟨(wrap64 (x4_3 + 1)), (by first | rfl | (simp; done) | (simp [*]; done)), H', ⟨by have := HJ1.out; have := HK2.out; have := HK3.out; omega⟩, ⟨gx_ BK144⟩, ⟨hf_⟩⟩
          ·replace c29 := Bool.eq_false_iff.mpr c29
           subst c29
           have H1 : (some false) = some r := by rw [if_neg (show ¬ (false = true) by decide)] at H; exact H
           clear H
           have H := H1
           clear H1
           obtain rfl := Option.some.inj H
           obtain ⟨hcz32_0, hcz32_1, hfz32_0, hfz32_1⟩ := bs2_ BK144
           go_wp2_with (first | ((with_reducible refine gate_callee (f := 30) rfl ?_); refine gl_ (some 57) Try.func30 #[.agg #[.slice A0_0 l0_0.length c0_0, .slice A0_1 l0_1.length c0_1], .int .i64 x4_3] ?_; (with_reducible refine (sentryref4_item.calls k3 _ _ l0_0 _ _ l0_1 x4_3 false _ ?side1 ?side2 ?side3 ?side4 A28.out).mono ?_); (case side1 => exact kc_ HR0_0 HB); (case side2 => exact HC0_0.out); (case side3 => exact kc_ HR0_1 HB); (case side4 => exact HC0_1.out); rintro e w33 ⟨rfl, hb⟩; refine ⟨_, rfl, ?_⟩; have n0_ := bb_ BK144 hb; have n1_ := hb_ HB hb; clear BK144; clear HB; have BK144 := n0_; have HB := n1_; clear n0_ n1_; (try clear hb); (try clear hb2); (try clear hk); (try clear hi)))
           go_ret
           exact ⟨er_, hf_⟩
         ·rw [if_neg c27] at H
          have c27b0 : decide (x4_3 < (l0_1.length : Int)) = false := decide_eq_false c27
          clear c27
          have H' := Aside0.mk H
          clear H
          obtain ⟨hcz34_0, hcz34_1, hfz34_0, hfz34_1⟩ := bs2_ BK144
          go_wp2
          go_loopg [5] k3 (fun kq v5 w' => ∃ (x5_4 : Int), v5 = .int .i64 x5_4 ∧ Aside0 (sentryref4_Is.l2 kq x5_4 l0_0 l0_1 = some r) ∧ Aside0 (kq ≤ k3) ∧ Aside0 (w'.heap[gb144]? = some (.cells #[(.slice A0_0 l0_0.length c0_0), (.slice A0_1 l0_1.length c0_1)] 25 (0, 0))) ∧ Aside0 (Below w.heap.size w w'))
          case atStart => exact ⟨(0), (by first | rfl | (simp; done) | (simp [*]; done)), H', ⟨Nat.le_refl _⟩, ⟨gx_ BK144⟩, ⟨hf_⟩⟩
          case round =>
           clear H'
           (try clear c1); (try clear p1); (try clear q1); (try clear hx1); (try clear c2); (try clear p2); (try clear c3); (try clear p6); (try clear c10); (try clear c10b0); (try clear c11); (try clear c13); (try clear c14); (try clear c14b0); (try clear p14); (try clear q14); (try clear hx14); (try clear c15); (try clear c15b0); (try clear c15b1); (try clear c17); (try clear c27); (try clear c27b0); (try clear c28); (try clear c29); (try clear c30); (try clear hcz18_0); (try clear hcz18_1); (try clear hcz21_0); (try clear hcz21_1); (try clear hcz24_0); (try clear hcz24_1); (try clear hcz26_0); (try clear hcz26_1); (try clear hcz30_0); (try clear hcz30_1); (try clear hcz32_0); (try clear hcz32_1); (try clear hcz34_0); (try clear hcz34_1); (try clear hfz18_0); (try clear hfz18_1); (try clear hfz21_0); (try clear hfz21_1); (try clear hfz24_0); (try clear hfz24_1); (try clear hfz26_0); (try clear hfz26_1); (try clear hfz30_0); (try clear hfz30_1); (try clear hfz32_0); (try clear hfz32_1); (try clear hfz34_0); (try clear hfz34_1); (try clear hx145_0); (try clear hx148_0); (try clear p1); (try clear p14); (try clear p145); (try clear p148); (try clear p2); (try clear p6); (try clear q1); (try clear q14); (try clear q145); (try clear q148)
           obtain ⟨x5_4, rfl, HA, HK4, BK144, HB⟩ := hrel
           cases gk with
           | zero => exact absurd HA.out (by simp [sentryref4_Is.l2])
           | succ k4 =>
            have H := HA.out
            clear HA
            simp only [sentryref4_Is.l2] at H
            by_cases c35 : x5_4 < (l0_1.length : Int)
            ·rw [if_pos c35] at H
             have c35b0 : decide (x5_4 < (l0_1.length : Int)) = true := decide_eq_true c35
             clear c35
             by_cases c36 : 0 ≤ x5_4
             ·rw [if_pos c36] at H
              have c36b0 : decide (0 ≤ x5_4) = true := decide_eq_true c36
              clear c36
              replace H := Option.bind_eq_some_iff.mp H
              obtain ⟨t152, A370, H⟩ := H
              replace H : (if t152 = true then ((sentryref4_sentries.f k4 l0_0 l0_1 ((rd_T48 l0_1 x5_4).f6)).bind fun t154 => (if t154 = true then (sentryref4_Is.l2 k4 (wrap64 (x5_4 + 1)) l0_0 l0_1) else (some false))) else (some false)) = some r := H
              have A37 := Aside0.mk A370
              clear A370
              by_cases c38 : t152 = true
              ·subst c38
               have H1 : ((sentryref4_sentries.f k4 l0_0 l0_1 ((rd_T48 l0_1 x5_4).f6)).bind fun t154 => (if t154 = true then (sentryref4_Is.l2 k4 (wrap64 (x5_4 + 1)) l0_0 l0_1) else (some false))) = some r := by rw [if_pos rfl] at H; exact H
               clear H
               have H := H1
               clear H1
               replace H := Option.bind_eq_some_iff.mp H
               obtain ⟨t154, A390, H⟩ := H
               replace H : (if t154 = true then (sentryref4_Is.l2 k4 (wrap64 (x5_4 + 1)) l0_0 l0_1) else (some false)) = some r := H
               have A39 := Aside0.mk A390
               clear A390
               by_cases c40 : t154 = true
               ·subst c40
                have H1 : (sentryref4_Is.l2 k4 (wrap64 (x5_4 + 1)) l0_0 l0_1) = some r := by rw [if_pos rfl] at H; exact H
                clear H
                have H := H1
                clear H1
                have H' := Aside0.mk H
                clear H
                obtain ⟨hcz41_0, hcz41_1, hfz41_0, hfz41_1⟩ := bs2_ BK144
                try go_wp2
                replace BK144 := Aside0.mk (blk_drew BK144.out)
                replace HB := Aside0.mk (below_drew1 HB.out)
                have p151 : 0 ≤ (x5_4 : Int) := od_
                have q151 : x5_4 < (l0_1.length : Int) := od_
                obtain ⟨ad151, A151_5, c151_5, A151_6, c151_6, e151, hx151_0, hx151_1, hx151_2, hx151_3, hx151_4, hx151_5, hx151_6, hl151_5, hi151_5, hl151_6, hi151_6⟩ := at_T48 HR0_1.out x5_4 p151 q151
                have hw151_6 := hx151_6
                have hw151_5 := hx151_5
                have hw151_4 := hx151_4
                have hw151_3 := hx151_3
                have hw151_2 := hx151_2
                have hw151_1 := hx151_1
                have hw151_0 := hx151_0
                cases e151
                replace hx151_0 := rr_ HB hx151_0
                replace hx151_1 := rr_ HB hx151_1
                replace hx151_2 := rr_ HB hx151_2
                replace hx151_3 := rr_ HB hx151_3
                replace hx151_4 := rr_ HB hx151_4
                replace hx151_5 := rr_ HB hx151_5
                replace hx151_6 := rr_ HB hx151_6
                have HR151_5 := Aside0.mk hi151_5
                have HC151_5 := Aside0.mk hl151_5
                clear hi151_5 hl151_5
                have HR151_6 := Aside0.mk hi151_6
                have HC151_6 := Aside0.mk hl151_6
                clear hi151_6 hl151_6
                replace p151 := eq_true p151
                replace q151 := eq_true q151
                have p153 : 0 ≤ (x5_4 : Int) := od_
                have q153 : x5_4 < (l0_1.length : Int) := od_
                obtain ⟨ad153, A153_5, c153_5, A153_6, c153_6, e153, hx153_0, hx153_1, hx153_2, hx153_3, hx153_4, hx153_5, hx153_6, hl153_5, hi153_5, hl153_6, hi153_6⟩ := at_T48 HR0_1.out x5_4 p153 q153
                have hw153_6 := hx153_6
                have hw153_5 := hx153_5
                have hw153_4 := hx153_4
                have hw153_3 := hx153_3
                have hw153_2 := hx153_2
                have hw153_1 := hx153_1
                have hw153_0 := hx153_0
                obtain rfl : ad151 = ad153 := (by injection e153)
                obtain ⟨rfl, rfl⟩ : A151_5 = A153_5 ∧ c151_5 = c153_5 := by (have z := Option.some.inj (hw151_5.symm.trans hw153_5); injection z with z1 z2 z3; exact ⟨z1, z3⟩)
                obtain ⟨rfl, rfl⟩ : A151_6 = A153_6 ∧ c151_6 = c153_6 := by (have z := Option.some.inj (hw151_6.symm.trans hw153_6); injection z with z1 z2 z3; exact ⟨z1, z3⟩)
                replace hx153_0 := rr_ HB hx153_0
                replace hx153_1 := rr_ HB hx153_1
                replace hx153_2 := rr_ HB hx153_2
                replace hx153_3 := rr_ HB hx153_3
                replace hx153_4 := rr_ HB hx153_4
                replace hx153_5 := rr_ HB hx153_5
                replace hx153_6 := rr_ HB hx153_6
                have HR153_5 := Aside0.mk hi153_5
                have HC153_5 := Aside0.mk hl153_5
                clear hi153_5 hl153_5
                have HR153_6 := Aside0.mk hi153_6
                have HC153_6 := Aside0.mk hl153_6
                clear hi153_6 hl153_6
                replace p153 := eq_true p153
                replace q153 := eq_true q153
                refine start_ (n := 20) (S := fun w' => w'.cell? ⟨gb144, 0, none⟩ = some (.slice A0_0 l0_0.length c0_0) ∧ w'.cell? ⟨gb144, 1, none⟩ = some (.slice (some ad151) l0_1.length c0_1) ∧ w'.cell? (ad151.add ((x5_4).toNat * 7)) = some (.string ((rd_T48 l0_1 x5_4).f0)) ∧ w'.cell? ⟨(ad151.add ((x5_4).toNat * 7)).block, (ad151.add ((x5_4).toNat * 7)).off + 1, none⟩ = some (.int .i64 ((rd_T48 l0_1 x5_4).f1)) ∧ w'.cell? ⟨(ad151.add ((x5_4).toNat * 7)).block, (ad151.add ((x5_4).toNat * 7)).off + 2, none⟩ = some (.string ((rd_T48 l0_1 x5_4).f2)) ∧ w'.cell? ⟨(ad151.add ((x5_4).toNat * 7)).block, (ad151.add ((x5_4).toNat * 7)).off + 3, none⟩ = some (.bool ((rd_T48 l0_1 x5_4).f3)) ∧ w'.cell? ⟨(ad151.add ((x5_4).toNat * 7)).block, (ad151.add ((x5_4).toNat * 7)).off + 4, none⟩ = some (.int .i64 ((rd_T48 l0_1 x5_4).f4)) ∧ w'.cell? ⟨(ad151.add ((x5_4).toNat * 7)).block, (ad151.add ((x5_4).toNat * 7)).off + 5, none⟩ = some (.slice A151_5 ((rd_T48 l0_1 x5_4).f5).length c151_5) ∧ w'.cell? ⟨(ad151.add ((x5_4).toNat * 7)).block, (ad151.add ((x5_4).toNat * 7)).off + 6, none⟩ = some (.slice A151_6 ((rd_T48 l0_1 x5_4).f6).length c151_6) ∧ w'.cell? (ad151.add ((x5_4).toNat * 7)) = some (.string ((rd_T48 l0_1 x5_4).f0)) ∧ w'.cell? ⟨(ad151.add ((x5_4).toNat * 7)).block, (ad151.add ((x5_4).toNat * 7)).off + 1, none⟩ = some (.int .i64 ((rd_T48 l0_1 x5_4).f1)) ∧ w'.cell? ⟨(ad151.add ((x5_4).toNat * 7)).block, (ad151.add ((x5_4).toNat * 7)).off + 2, none⟩ = some (.string ((rd_T48 l0_1 x5_4).f2)) ∧ w'.cell? ⟨(ad151.add ((x5_4).toNat * 7)).block, (ad151.add ((x5_4).toNat * 7)).off + 3, none⟩ = some (.bool ((rd_T48 l0_1 x5_4).f3)) ∧ w'.cell? ⟨(ad151.add ((x5_4).toNat * 7)).block, (ad151.add ((x5_4).toNat * 7)).off + 4, none⟩ = some (.int .i64 ((rd_T48 l0_1 x5_4).f4)) ∧ w'.cell? ⟨(ad151.add ((x5_4).toNat * 7)).block, (ad151.add ((x5_4).toNat * 7)).off + 5, none⟩ = some (.slice A151_5 ((rd_T48 l0_1 x5_4).f5).length c151_5) ∧ w'.cell? ⟨(ad151.add ((x5_4).toNat * 7)).block, (ad151.add ((x5_4).toNat * 7)).off + 6, none⟩ = some (.slice A151_6 ((rd_T48 l0_1 x5_4).f6).length c151_6)) (ds := []) #[false, false, false, false, false, false, false, false, false, false, false, false, false, false, false, false, false, false, false, false] (by kernel_rfl) rfl rfl ⟨(bk0_ BK144 :), (bk1_ BK144 :), (rr_ HB hw151_0 :), (rr_ HB hw151_1 :), (rr_ HB hw151_2 :), (rr_ HB hw151_3 :), (rr_ HB hw151_4 :), (rr_ HB hw151_5 :), (rr_ HB hw151_6 :), (rr_ HB hw153_0 :), (rr_ HB hw153_1 :), (rr_ HB hw153_2 :), (rr_ HB hw153_3 :), (rr_ HB hw153_4 :), (rr_ HB hw153_5 :), (rr_ HB hw153_6 :)⟩ (fun hHeld => ?_); refine with_tabW sentryref4_Is.tab16 sentryref4_Is.bits16 (fun HT_ HW_ => ?_)
                generalize wr.drew = w42 at BK144 HB HR151_5 HR151_6 HR153_5 HR153_6 hx151_0 hx151_1 hx151_2 hx151_3 hx151_4 hx151_5 hx151_6 hx153_0 hx153_1 hx153_2 hx153_3 hx153_4 hx153_5 hx153_6 hHeld ⊢
                refine pz_ 1 (some 67) (bits_ 20 2) HT_.out ?_
                refine pz_ 3 (some 69) (bits_ 20 10) HT_.out ?_
                refine tz_ 0 (some 66) (bits_ 20 11) HT_.out HW_.out hHeld ?_ (hy := by rintro w' ⟨s0, s1, s2, s3, s4, s5, s6, s7, s8, s9, s10, s11, s12, s13, s14, s15⟩; go_simp; with_reducible rfl)
                refine tz_ 2 (some 68) (bits_ 20 15) HT_.out HW_.out hHeld ?_ (hy := by rintro w' ⟨s0, s1, s2, s3, s4, s5, s6, s7, s8, s9, s10, s11, s12, s13, s14, s15⟩; go_simp; with_reducible rfl)
                refine pz_ 4 (some 70) (bits_ 20 31) HT_.out ?_
                refine pz_ 5 (some 71) (bits_ 20 63) HT_.out ?_
                refine tz_ 6 (some 72) (bits_ 20 127) HT_.out HW_.out hHeld ?_ (hy := by rintro w' ⟨s0, s1, s2, s3, s4, s5, s6, s7, s8, s9, s10, s11, s12, s13, s14, s15⟩; go_simp; with_reducible rfl)
                refine oz_ 7 (some 73) (bits_ 20 255) HT_.out (fun K hK => ?_)
                refine go_s_ Try.func31 #[.agg #[.slice A0_0 l0_0.length c0_0, .slice (some ad151) l0_1.length c0_1], .slice A151_5 ((rd_T48 l0_1 x5_4).f5).length c151_5] ?_
                with_reducible refine (sentryref4_sentries.calls k4 _ _ l0_0 _ _ l0_1 _ _ ((rd_T48 l0_1 x5_4).f5) true _ ?side1 ?side2 ?side3 ?side4 ?side5 ?side6 A37.out).mono ?_
                (case side1 => exact kc_ HR0_0 HB)
                (case side2 => exact HC0_0.out)
                (case side3 => exact kc_ HR0_1 HB)
                (case side4 => exact HC0_1.out)
                (case side5 => exact kc_ HR151_5 HB)
                (case side6 => exact HC151_5.out)
                rintro e w43 ⟨rfl, hb⟩
                refine ⟨_, rfl, ?_⟩
                replace BK144 := bb_ BK144 hb
                replace HB := hb_ HB hb
                (try clear hb); (try clear hb2); (try clear hk); (try clear hi)
                refine hK.out _ _ ⟨(bk0_ BK144 :), (bk1_ BK144 :), (rr_ HB hw151_0 :), (rr_ HB hw151_1 :), (rr_ HB hw151_2 :), (rr_ HB hw151_3 :), (rr_ HB hw151_4 :), (rr_ HB hw151_5 :), (rr_ HB hw151_6 :), (rr_ HB hw153_0 :), (rr_ HB hw153_1 :), (rr_ HB hw153_2 :), (rr_ HB hw153_3 :), (rr_ HB hw153_4 :), (rr_ HB hw153_5 :), (rr_ HB hw153_6 :)⟩ (fun hHeld => ?_)
                clear hK K
                refine nz_ (some 73) ?_
                refine pz_ 8 (some 74) (bits_ 20 511) HT_.out ?_
                refine pz_ 9 (some 75) (bits_ 20 1023) HT_.out ?_
                refine pz_ 11 (some 77) (bits_ 20 3071) HT_.out ?_
                refine pz_ 13 (some 79) (bits_ 20 11263) HT_.out ?_
                refine tz_ 10 (some 76) (bits_ 20 12287) HT_.out HW_.out hHeld ?_ (hy := by rintro w' ⟨s0, s1, s2, s3, s4, s5, s6, s7, s8, s9, s10, s11, s12, s13, s14, s15⟩; go_simp; with_reducible rfl)
                refine tz_ 12 (some 78) (bits_ 20 16383) HT_.out HW_.out hHeld ?_ (hy := by rintro w' ⟨s0, s1, s2, s3, s4, s5, s6, s7, s8, s9, s10, s11, s12, s13, s14, s15⟩; go_simp; with_reducible rfl)
                refine pz_ 14 (some 80) (bits_ 20 32767) HT_.out ?_
                refine pz_ 15 (some 81) (bits_ 20 65535) HT_.out ?_
                refine tz_ 16 (some 82) (bits_ 20 131071) HT_.out HW_.out hHeld ?_ (hy := by rintro w' ⟨s0, s1, s2, s3, s4, s5, s6, s7, s8, s9, s10, s11, s12, s13, s14, s15⟩; go_simp; with_reducible rfl)
                refine oz_ 17 (some 83) (bits_ 20 262143) HT_.out (fun K hK => ?_)
                refine go_s_ Try.func31 #[.agg #[.slice A0_0 l0_0.length c0_0, .slice (some ad151) l0_1.length c0_1], .slice A151_6 ((rd_T48 l0_1 x5_4).f6).length c151_6] ?_
                with_reducible refine (sentryref4_sentries.calls k4 _ _ l0_0 _ _ l0_1 _ _ ((rd_T48 l0_1 x5_4).f6) true _ ?side1 ?side2 ?side3 ?side4 ?side5 ?side6 A39.out).mono ?_
                (case side1 => exact kc_ HR0_0 HB)
                (case side2 => exact HC0_0.out)
                (case side3 => exact kc_ HR0_1 HB)
                (case side4 => exact HC0_1.out)
                (case side5 => exact kc_ HR153_6 HB)
                (case side6 => exact HC153_6.out)
                rintro e w44 ⟨rfl, hb⟩
                refine ⟨_, rfl, ?_⟩
                replace BK144 := bb_ BK144 hb
                replace HB := hb_ HB hb
                (try clear hb); (try clear hb2); (try clear hk); (try clear hi)
                refine hK.out _ _ ⟨(bk0_ BK144 :), (bk1_ BK144 :), (rr_ HB hw151_0 :), (rr_ HB hw151_1 :), (rr_ HB hw151_2 :), (rr_ HB hw151_3 :), (rr_ HB hw151_4 :), (rr_ HB hw151_5 :), (rr_ HB hw151_6 :), (rr_ HB hw153_0 :), (rr_ HB hw153_1 :), (rr_ HB hw153_2 :), (rr_ HB hw153_3 :), (rr_ HB hw153_4 :), (rr_ HB hw153_5 :), (rr_ HB hw153_6 :)⟩ (fun hHeld => ?_)
                clear hK K
                refine nz_ (some 83) ?_
                refine pz_ 18 (some 84) (bits_ 20 524287) HT_.out ?_
                refine pz_ 19 (some 85) (bits_ 20 1048575) HT_.out ?_
                refine done_ (done_of HT_.out (by kernel_rfl)) ?_
                try go_wp2
                go_roundg k4
                case measure => have := HJ1.out; have := HK2.out; have := HK3.out; have := HK4.out; omega
                case rel => exact ⟨(wrap64 (x5_4 + 1)), (by first | rfl | (simp; done) | (simp [*]; done)), H', ⟨by have := HJ1.out; have := HK2.out; have := HK3.out; have := HK4.out; omega⟩, ⟨gx_ BK144⟩, ⟨hf_⟩⟩
               ·replace c40 := Bool.eq_false_iff.mpr c40
                subst c40
                have H1 : (some false) = some r := by rw [if_neg (show ¬ (false = true) by decide)] at H; exact H
                clear H
                have H := H1
                clear H1
                obtain rfl := Option.some.inj H
                obtain ⟨hcz45_0, hcz45_1, hfz45_0, hfz45_1⟩ := bs2_ BK144
                try go_wp2
                replace BK144 := Aside0.mk (blk_drew BK144.out)
                replace HB := Aside0.mk (below_drew1 HB.out)
                have p151 : 0 ≤ (x5_4 : Int) := od_
                have q151 : x5_4 < (l0_1.length : Int) := od_
                obtain ⟨ad151, A151_5, c151_5, A151_6, c151_6, e151, hx151_0, hx151_1, hx151_2, hx151_3, hx151_4, hx151_5, hx151_6, hl151_5, hi151_5, hl151_6, hi151_6⟩ := at_T48 HR0_1.out x5_4 p151 q151
                have hw151_6 := hx151_6
                have hw151_5 := hx151_5
                have hw151_4 := hx151_4
                have hw151_3 := hx151_3
                have hw151_2 := hx151_2
                have hw151_1 := hx151_1
                have hw151_0 := hx151_0
                cases e151
                replace hx151_0 := rr_ HB hx151_0
                replace hx151_1 := rr_ HB hx151_1
                replace hx151_2 := rr_ HB hx151_2
                replace hx151_3 := rr_ HB hx151_3
                replace hx151_4 := rr_ HB hx151_4
                replace hx151_5 := rr_ HB hx151_5
                replace hx151_6 := rr_ HB hx151_6
                have HR151_5 := Aside0.mk hi151_5
                have HC151_5 := Aside0.mk hl151_5
                clear hi151_5 hl151_5
                have HR151_6 := Aside0.mk hi151_6
                have HC151_6 := Aside0.mk hl151_6
                clear hi151_6 hl151_6
                replace p151 := eq_true p151
                replace q151 := eq_true q151
                have p153 : 0 ≤ (x5_4 : Int) := od_
                have q153 : x5_4 < (l0_1.length : Int) := od_
                obtain ⟨ad153, A153_5, c153_5, A153_6, c153_6, e153, hx153_0, hx153_1, hx153_2, hx153_3, hx153_4, hx153_5, hx153_6, hl153_5, hi153_5, hl153_6, hi153_6⟩ := at_T48 HR0_1.out x5_4 p153 q153
                have hw153_6 := hx153_6
                have hw153_5 := hx153_5
                have hw153_4 := hx153_4
                have hw153_3 := hx153_3
                have hw153_2 := hx153_2
                have hw153_1 := hx153_1
                have hw153_0 := hx153_0
                obtain rfl : ad151 = ad153 := (by injection e153)
                obtain ⟨rfl, rfl⟩ : A151_5 = A153_5 ∧ c151_5 = c153_5 := by (have z := Option.some.inj (hw151_5.symm.trans hw153_5); injection z with z1 z2 z3; exact ⟨z1, z3⟩)
                obtain ⟨rfl, rfl⟩ : A151_6 = A153_6 ∧ c151_6 = c153_6 := by (have z := Option.some.inj (hw151_6.symm.trans hw153_6); injection z with z1 z2 z3; exact ⟨z1, z3⟩)
                replace hx153_0 := rr_ HB hx153_0
                replace hx153_1 := rr_ HB hx153_1
                replace hx153_2 := rr_ HB hx153_2
                replace hx153_3 := rr_ HB hx153_3
                replace hx153_4 := rr_ HB hx153_4
                replace hx153_5 := rr_ HB hx153_5
                replace hx153_6 := rr_ HB hx153_6
                have HR153_5 := Aside0.mk hi153_5
                have HC153_5 := Aside0.mk hl153_5
                clear hi153_5 hl153_5
                have HR153_6 := Aside0.mk hi153_6
                have HC153_6 := Aside0.mk hl153_6
                clear hi153_6 hl153_6
                replace p153 := eq_true p153
                replace q153 := eq_true q153
                refine start_ (n := 20) (S := fun w' => w'.cell? ⟨gb144, 0, none⟩ = some (.slice A0_0 l0_0.length c0_0) ∧ w'.cell? ⟨gb144, 1, none⟩ = some (.slice (some ad151) l0_1.length c0_1) ∧ w'.cell? (ad151.add ((x5_4).toNat * 7)) = some (.string ((rd_T48 l0_1 x5_4).f0)) ∧ w'.cell? ⟨(ad151.add ((x5_4).toNat * 7)).block, (ad151.add ((x5_4).toNat * 7)).off + 1, none⟩ = some (.int .i64 ((rd_T48 l0_1 x5_4).f1)) ∧ w'.cell? ⟨(ad151.add ((x5_4).toNat * 7)).block, (ad151.add ((x5_4).toNat * 7)).off + 2, none⟩ = some (.string ((rd_T48 l0_1 x5_4).f2)) ∧ w'.cell? ⟨(ad151.add ((x5_4).toNat * 7)).block, (ad151.add ((x5_4).toNat * 7)).off + 3, none⟩ = some (.bool ((rd_T48 l0_1 x5_4).f3)) ∧ w'.cell? ⟨(ad151.add ((x5_4).toNat * 7)).block, (ad151.add ((x5_4).toNat * 7)).off + 4, none⟩ = some (.int .i64 ((rd_T48 l0_1 x5_4).f4)) ∧ w'.cell? ⟨(ad151.add ((x5_4).toNat * 7)).block, (ad151.add ((x5_4).toNat * 7)).off + 5, none⟩ = some (.slice A151_5 ((rd_T48 l0_1 x5_4).f5).length c151_5) ∧ w'.cell? ⟨(ad151.add ((x5_4).toNat * 7)).block, (ad151.add ((x5_4).toNat * 7)).off + 6, none⟩ = some (.slice A151_6 ((rd_T48 l0_1 x5_4).f6).length c151_6) ∧ w'.cell? (ad151.add ((x5_4).toNat * 7)) = some (.string ((rd_T48 l0_1 x5_4).f0)) ∧ w'.cell? ⟨(ad151.add ((x5_4).toNat * 7)).block, (ad151.add ((x5_4).toNat * 7)).off + 1, none⟩ = some (.int .i64 ((rd_T48 l0_1 x5_4).f1)) ∧ w'.cell? ⟨(ad151.add ((x5_4).toNat * 7)).block, (ad151.add ((x5_4).toNat * 7)).off + 2, none⟩ = some (.string ((rd_T48 l0_1 x5_4).f2)) ∧ w'.cell? ⟨(ad151.add ((x5_4).toNat * 7)).block, (ad151.add ((x5_4).toNat * 7)).off + 3, none⟩ = some (.bool ((rd_T48 l0_1 x5_4).f3)) ∧ w'.cell? ⟨(ad151.add ((x5_4).toNat * 7)).block, (ad151.add ((x5_4).toNat * 7)).off + 4, none⟩ = some (.int .i64 ((rd_T48 l0_1 x5_4).f4)) ∧ w'.cell? ⟨(ad151.add ((x5_4).toNat * 7)).block, (ad151.add ((x5_4).toNat * 7)).off + 5, none⟩ = some (.slice A151_5 ((rd_T48 l0_1 x5_4).f5).length c151_5) ∧ w'.cell? ⟨(ad151.add ((x5_4).toNat * 7)).block, (ad151.add ((x5_4).toNat * 7)).off + 6, none⟩ = some (.slice A151_6 ((rd_T48 l0_1 x5_4).f6).length c151_6)) (ds := []) #[false, false, false, false, false, false, false, false, false, false, false, false, false, false, false, false, false, false, false, false] (by kernel_rfl) rfl rfl ⟨(bk0_ BK144 :), (bk1_ BK144 :), (rr_ HB hw151_0 :), (rr_ HB hw151_1 :), (rr_ HB hw151_2 :), (rr_ HB hw151_3 :), (rr_ HB hw151_4 :), (rr_ HB hw151_5 :), (rr_ HB hw151_6 :), (rr_ HB hw153_0 :), (rr_ HB hw153_1 :), (rr_ HB hw153_2 :), (rr_ HB hw153_3 :), (rr_ HB hw153_4 :), (rr_ HB hw153_5 :), (rr_ HB hw153_6 :)⟩ (fun hHeld => ?_); refine with_tabW sentryref4_Is.tab16 sentryref4_Is.bits16 (fun HT_ HW_ => ?_)
                generalize wr.drew = w46 at BK144 HB HR151_5 HR151_6 HR153_5 HR153_6 hx151_0 hx151_1 hx151_2 hx151_3 hx151_4 hx151_5 hx151_6 hx153_0 hx153_1 hx153_2 hx153_3 hx153_4 hx153_5 hx153_6 hHeld ⊢
                refine pz_ 1 (some 67) (bits_ 20 2) HT_.out ?_
                refine pz_ 3 (some 69) (bits_ 20 10) HT_.out ?_
                refine tz_ 0 (some 66) (bits_ 20 11) HT_.out HW_.out hHeld ?_ (hy := by rintro w' ⟨s0, s1, s2, s3, s4, s5, s6, s7, s8, s9, s10, s11, s12, s13, s14, s15⟩; go_simp; with_reducible rfl)
                refine tz_ 2 (some 68) (bits_ 20 15) HT_.out HW_.out hHeld ?_ (hy := by rintro w' ⟨s0, s1, s2, s3, s4, s5, s6, s7, s8, s9, s10, s11, s12, s13, s14, s15⟩; go_simp; with_reducible rfl)
                refine pz_ 4 (some 70) (bits_ 20 31) HT_.out ?_
                refine pz_ 5 (some 71) (bits_ 20 63) HT_.out ?_
                refine tz_ 6 (some 72) (bits_ 20 127) HT_.out HW_.out hHeld ?_ (hy := by rintro w' ⟨s0, s1, s2, s3, s4, s5, s6, s7, s8, s9, s10, s11, s12, s13, s14, s15⟩; go_simp; with_reducible rfl)
                refine oz_ 7 (some 73) (bits_ 20 255) HT_.out (fun K hK => ?_)
                refine go_s_ Try.func31 #[.agg #[.slice A0_0 l0_0.length c0_0, .slice (some ad151) l0_1.length c0_1], .slice A151_5 ((rd_T48 l0_1 x5_4).f5).length c151_5] ?_
                with_reducible refine (sentryref4_sentries.calls k4 _ _ l0_0 _ _ l0_1 _ _ ((rd_T48 l0_1 x5_4).f5) true _ ?side1 ?side2 ?side3 ?side4 ?side5 ?side6 A37.out).mono ?_
                (case side1 => exact kc_ HR0_0 HB)
                (case side2 => exact HC0_0.out)
                (case side3 => exact kc_ HR0_1 HB)
                (case side4 => exact HC0_1.out)
                (case side5 => exact kc_ HR151_5 HB)
                (case side6 => exact HC151_5.out)
                rintro e w47 ⟨rfl, hb⟩
                refine ⟨_, rfl, ?_⟩
                replace BK144 := bb_ BK144 hb
                replace HB := hb_ HB hb
                (try clear hb); (try clear hb2); (try clear hk); (try clear hi)
                refine hK.out _ _ ⟨(bk0_ BK144 :), (bk1_ BK144 :), (rr_ HB hw151_0 :), (rr_ HB hw151_1 :), (rr_ HB hw151_2 :), (rr_ HB hw151_3 :), (rr_ HB hw151_4 :), (rr_ HB hw151_5 :), (rr_ HB hw151_6 :), (rr_ HB hw153_0 :), (rr_ HB hw153_1 :), (rr_ HB hw153_2 :), (rr_ HB hw153_3 :), (rr_ HB hw153_4 :), (rr_ HB hw153_5 :), (rr_ HB hw153_6 :)⟩ (fun hHeld => ?_)
                clear hK K
                refine nz_ (some 73) ?_
                refine pz_ 8 (some 74) (bits_ 20 511) HT_.out ?_
                refine pz_ 9 (some 75) (bits_ 20 1023) HT_.out ?_
                refine pz_ 11 (some 77) (bits_ 20 3071) HT_.out ?_
                refine pz_ 13 (some 79) (bits_ 20 11263) HT_.out ?_
                refine tz_ 10 (some 76) (bits_ 20 12287) HT_.out HW_.out hHeld ?_ (hy := by rintro w' ⟨s0, s1, s2, s3, s4, s5, s6, s7, s8, s9, s10, s11, s12, s13, s14, s15⟩; go_simp; with_reducible rfl)
                refine tz_ 12 (some 78) (bits_ 20 16383) HT_.out HW_.out hHeld ?_ (hy := by rintro w' ⟨s0, s1, s2, s3, s4, s5, s6, s7, s8, s9, s10, s11, s12, s13, s14, s15⟩; go_simp; with_reducible rfl)
                refine pz_ 14 (some 80) (bits_ 20 32767) HT_.out ?_
                refine pz_ 15 (some 81) (bits_ 20 65535) HT_.out ?_
                refine tz_ 16 (some 82) (bits_ 20 131071) HT_.out HW_.out hHeld ?_ (hy := by rintro w' ⟨s0, s1, s2, s3, s4, s5, s6, s7, s8, s9, s10, s11, s12, s13, s14, s15⟩; go_simp; with_reducible rfl)
                refine oz_ 17 (some 83) (bits_ 20 262143) HT_.out (fun K hK => ?_)
                refine go_s_ Try.func31 #[.agg #[.slice A0_0 l0_0.length c0_0, .slice (some ad151) l0_1.length c0_1], .slice A151_6 ((rd_T48 l0_1 x5_4).f6).length c151_6] ?_
                with_reducible refine (sentryref4_sentries.calls k4 _ _ l0_0 _ _ l0_1 _ _ ((rd_T48 l0_1 x5_4).f6) false _ ?side1 ?side2 ?side3 ?side4 ?side5 ?side6 A39.out).mono ?_
                (case side1 => exact kc_ HR0_0 HB)
                (case side2 => exact HC0_0.out)
                (case side3 => exact kc_ HR0_1 HB)
                (case side4 => exact HC0_1.out)
                (case side5 => exact kc_ HR153_6 HB)
                (case side6 => exact HC153_6.out)
                rintro e w48 ⟨rfl, hb⟩
                refine ⟨_, rfl, ?_⟩
                replace BK144 := bb_ BK144 hb
                replace HB := hb_ HB hb
                (try clear hb); (try clear hb2); (try clear hk); (try clear hi)
                refine hK.out _ _ ⟨(bk0_ BK144 :), (bk1_ BK144 :), (rr_ HB hw151_0 :), (rr_ HB hw151_1 :), (rr_ HB hw151_2 :), (rr_ HB hw151_3 :), (rr_ HB hw151_4 :), (rr_ HB hw151_5 :), (rr_ HB hw151_6 :), (rr_ HB hw153_0 :), (rr_ HB hw153_1 :), (rr_ HB hw153_2 :), (rr_ HB hw153_3 :), (rr_ HB hw153_4 :), (rr_ HB hw153_5 :), (rr_ HB hw153_6 :)⟩ (fun hHeld => ?_)
                clear hK K
                refine nz_ (some 83) ?_
                refine pz_ 18 (some 84) (bits_ 20 524287) HT_.out ?_
                refine pz_ 19 (some 85) (bits_ 20 1048575) HT_.out ?_
                refine done_ (done_of HT_.out (by kernel_rfl)) ?_
                try go_wp2
                go_ret
                exact ⟨er_, hf_⟩
              ·replace c38 := Bool.eq_false_iff.mpr c38
               subst c38
               have H1 : (some false) = some r := by rw [if_neg (show ¬ (false = true) by decide)] at H; exact H
               clear H
               have H := H1
               clear H1
               obtain rfl := Option.some.inj H
               obtain ⟨hcz49_0, hcz49_1, hfz49_0, hfz49_1⟩ := bs2_ BK144
               try go_wp2
               replace BK144 := Aside0.mk (blk_drew BK144.out)
               replace HB := Aside0.mk (below_drew1 HB.out)
               have p151 : 0 ≤ (x5_4 : Int) := od_
               have q151 : x5_4 < (l0_1.length : Int) := od_
               obtain ⟨ad151, A151_5, c151_5, A151_6, c151_6, e151, hx151_0, hx151_1, hx151_2, hx151_3, hx151_4, hx151_5, hx151_6, hl151_5, hi151_5, hl151_6, hi151_6⟩ := at_T48 HR0_1.out x5_4 p151 q151
               have hw151_6 := hx151_6
               have hw151_5 := hx151_5
               have hw151_4 := hx151_4
               have hw151_3 := hx151_3
               have hw151_2 := hx151_2
               have hw151_1 := hx151_1
               have hw151_0 := hx151_0
               cases e151
               replace hx151_0 := rr_ HB hx151_0
               replace hx151_1 := rr_ HB hx151_1
               replace hx151_2 := rr_ HB hx151_2
               replace hx151_3 := rr_ HB hx151_3
               replace hx151_4 := rr_ HB hx151_4
               replace hx151_5 := rr_ HB hx151_5
               replace hx151_6 := rr_ HB hx151_6
               have HR151_5 := Aside0.mk hi151_5
               have HC151_5 := Aside0.mk hl151_5
               clear hi151_5 hl151_5
               have HR151_6 := Aside0.mk hi151_6
               have HC151_6 := Aside0.mk hl151_6
               clear hi151_6 hl151_6
               replace p151 := eq_true p151
               replace q151 := eq_true q151
               refine start_ (n := 20) (S := fun w' => w'.cell? ⟨gb144, 0, none⟩ = some (.slice A0_0 l0_0.length c0_0) ∧ w'.cell? ⟨gb144, 1, none⟩ = some (.slice (some ad151) l0_1.length c0_1) ∧ w'.cell? (ad151.add ((x5_4).toNat * 7)) = some (.string ((rd_T48 l0_1 x5_4).f0)) ∧ w'.cell? ⟨(ad151.add ((x5_4).toNat * 7)).block, (ad151.add ((x5_4).toNat * 7)).off + 1, none⟩ = some (.int .i64 ((rd_T48 l0_1 x5_4).f1)) ∧ w'.cell? ⟨(ad151.add ((x5_4).toNat * 7)).block, (ad151.add ((x5_4).toNat * 7)).off + 2, none⟩ = some (.string ((rd_T48 l0_1 x5_4).f2)) ∧ w'.cell? ⟨(ad151.add ((x5_4).toNat * 7)).block, (ad151.add ((x5_4).toNat * 7)).off + 3, none⟩ = some (.bool ((rd_T48 l0_1 x5_4).f3)) ∧ w'.cell? ⟨(ad151.add ((x5_4).toNat * 7)).block, (ad151.add ((x5_4).toNat * 7)).off + 4, none⟩ = some (.int .i64 ((rd_T48 l0_1 x5_4).f4)) ∧ w'.cell? ⟨(ad151.add ((x5_4).toNat * 7)).block, (ad151.add ((x5_4).toNat * 7)).off + 5, none⟩ = some (.slice A151_5 ((rd_T48 l0_1 x5_4).f5).length c151_5) ∧ w'.cell? ⟨(ad151.add ((x5_4).toNat * 7)).block, (ad151.add ((x5_4).toNat * 7)).off + 6, none⟩ = some (.slice A151_6 ((rd_T48 l0_1 x5_4).f6).length c151_6)) (ds := []) #[false, false, false, false, false, false, false, false, false, false, false, false, false, false, false, false, false, false, false, false] (by kernel_rfl) rfl rfl ⟨(bk0_ BK144 :), (bk1_ BK144 :), (rr_ HB hw151_0 :), (rr_ HB hw151_1 :), (rr_ HB hw151_2 :), (rr_ HB hw151_3 :), (rr_ HB hw151_4 :), (rr_ HB hw151_5 :), (rr_ HB hw151_6 :)⟩ (fun hHeld => ?_); refine with_tabW sentryref4_Is.tab16 sentryref4_Is.bits16 (fun HT_ HW_ => ?_)
               generalize wr.drew = w50 at BK144 HB HR151_5 HR151_6 hx151_0 hx151_1 hx151_2 hx151_3 hx151_4 hx151_5 hx151_6 hHeld ⊢
               refine pz_ 1 (some 67) (bits_ 20 2) HT_.out ?_
               refine pz_ 3 (some 69) (bits_ 20 10) HT_.out ?_
               refine tz_ 0 (some 66) (bits_ 20 11) HT_.out HW_.out hHeld ?_ (hy := by rintro w' ⟨s0, s1, s2, s3, s4, s5, s6, s7, s8⟩; go_simp; with_reducible rfl)
               refine tz_ 2 (some 68) (bits_ 20 15) HT_.out HW_.out hHeld ?_ (hy := by rintro w' ⟨s0, s1, s2, s3, s4, s5, s6, s7, s8⟩; go_simp; with_reducible rfl)
               refine pz_ 4 (some 70) (bits_ 20 31) HT_.out ?_
               refine pz_ 5 (some 71) (bits_ 20 63) HT_.out ?_
               refine tz_ 6 (some 72) (bits_ 20 127) HT_.out HW_.out hHeld ?_ (hy := by rintro w' ⟨s0, s1, s2, s3, s4, s5, s6, s7, s8⟩; go_simp; with_reducible rfl)
               refine oz_ 7 (some 73) (bits_ 20 255) HT_.out (fun K hK => ?_)
               refine go_s_ Try.func31 #[.agg #[.slice A0_0 l0_0.length c0_0, .slice (some ad151) l0_1.length c0_1], .slice A151_5 ((rd_T48 l0_1 x5_4).f5).length c151_5] ?_
               with_reducible refine (sentryref4_sentries.calls k4 _ _ l0_0 _ _ l0_1 _ _ ((rd_T48 l0_1 x5_4).f5) false _ ?side1 ?side2 ?side3 ?side4 ?side5 ?side6 A37.out).mono ?_
               (case side1 => exact kc_ HR0_0 HB)
               (case side2 => exact HC0_0.out)
               (case side3 => exact kc_ HR0_1 HB)
               (case side4 => exact HC0_1.out)
               (case side5 => exact kc_ HR151_5 HB)
               (case side6 => exact HC151_5.out)
               rintro e w51 ⟨rfl, hb⟩
               refine ⟨_, rfl, ?_⟩
               replace BK144 := bb_ BK144 hb
               replace HB := hb_ HB hb
               (try clear hb); (try clear hb2); (try clear hk); (try clear hi)
               refine hK.out _ _ ⟨(bk0_ BK144 :), (bk1_ BK144 :), (rr_ HB hw151_0 :), (rr_ HB hw151_1 :), (rr_ HB hw151_2 :), (rr_ HB hw151_3 :), (rr_ HB hw151_4 :), (rr_ HB hw151_5 :), (rr_ HB hw151_6 :)⟩ (fun hHeld => ?_)
               clear hK K
               refine nz_ (some 73) ?_
               refine pz_ 8 (some 74) (bits_ 20 511) HT_.out ?_
               refine pz_ 9 (some 75) (bits_ 20 1023) HT_.out ?_
               refine sz_ 10 (some 76) (bits_ 20 2047) HT_.out ?_
               refine sz_ 11 (some 77) (bits_ 20 4095) HT_.out ?_
               refine sz_ 12 (some 78) (bits_ 20 8191) HT_.out ?_
               refine sz_ 13 (some 79) (bits_ 20 16383) HT_.out ?_
               refine sz_ 14 (some 80) (bits_ 20 32767) HT_.out ?_
               refine sz_ 15 (some 81) (bits_ 20 65535) HT_.out ?_
               refine sz_ 16 (some 82) (bits_ 20 131071) HT_.out ?_
               refine sz_ 17 (some 83) (bits_ 20 262143) HT_.out ?_
               refine sz_ 18 (some 84) (bits_ 20 524287) HT_.out ?_
               refine pz_ 19 (some 85) (bits_ 20 1048575) HT_.out ?_
               refine done_ (done_of HT_.out (by kernel_rfl)) ?_
               try go_wp2
               go_ret
               exact ⟨er_, hf_⟩
             ·rw [if_neg c36] at H
              exact absurd H (by simp)
            ·rw [if_neg c35] at H
             have c35b0 : decide (x5_4 < (l0_1.length : Int)) = false := decide_eq_false c35
             clear c35
             obtain rfl := Option.some.inj H
             obtain ⟨hcz52_0, hcz52_1, hfz52_0, hfz52_1⟩ := bs2_ BK144
             go_wp2
             go_ret
             exact ⟨er_, hf_⟩
end Go.Proofs.Ytaiglhfmmdajdaa.Pm
end
section
namespace Go.Proofs.Ytaiglhfmmdajdaa.Pm
open Go.RowKit Go.Proofs.YtaiglhfmmdajdaaW.PrintWords Go.Proofs.YtaiglhfmmdajdaaW.PrintLast Go.Proofs.YtaiglhfmmdajdaaW.PrintMore
attribute [local go_sem] max2_int min2_int max_two min_two max_three min_three max_four min_four   -- for this text's walks alone
set_option linter.unusedVariables false
set_option linter.unusedSimpArgs false
theorem eqA50 (d : Nat) (w : World) (x0 y0 : ByteArray) (x1 y1 : ByteArray) (x2 y2 : Int) :
    (Op.equalIn (d + 2) 50 (.agg #[.string x0, .string x1, .int .i64 x2]) (.agg #[.string y0, .string y1, .int .i64 y2])).run Try.prog w = .ok (x0.toList == y0.toList && (x1.toList == y1.toList && (x2 == y2))) w := by
  refine eqA_of Try.underlying50 (by kernel_rfl) ?_
  refine eqf_cons (by rfl) (by go_simp; rfl) (by go_simp; rfl) (by go_simp) ?_
  refine eqf_cons (by rfl) (by go_simp; rfl) (by go_simp; rfl) (by go_simp) ?_
  exact eqf_last (by rfl) (by go_simp; rfl) (by go_simp; rfl) (by go_simp)
end Go.Proofs.Ytaiglhfmmdajdaa.Pm
end
section
namespace Go.Proofs.Ytaiglhfmmdajdaa.Pm
open Go.RowKit Go.Proofs.YtaiglhfmmdajdaaW.PrintWords Go.Proofs.YtaiglhfmmdajdaaW.PrintLast Go.Proofs.YtaiglhfmmdajdaaW.PrintMore
attribute [local go_sem] max2_int min2_int max_two min_two max_three min_three max_four min_four   -- for this text's walks alone
set_option linter.unusedVariables false
set_option linter.unusedSimpArgs false
attribute [local go_sem high] eqA50 eqA103
mutual
def sentryref4_SameSentries.l0 : Nat → List (S54) → List (S54) → Int → Option (Bool)
 | 0, _, _, _ => none
 | k + 1, x0, x1, x5 => if x5 < (x0.length : Int) then (if 0 ≤ x5 then (if x5 < (x1.length : Int) then (if (((rd_T54 x0 x5).f0).length : Int) = (((rd_T54 x1 x5).f0).length : Int) then (sentryref4_SameSentries.j1 k x0 x1 x5 ((((rd_T54 x0 x5).f1).length : Int) != (((rd_T54 x1 x5).f1).length : Int))) else (sentryref4_SameSentries.j1 k x0 x1 x5 true)) else (none)) else (none)) else (some true)
def sentryref4_SameSentries.j1 : Nat → List (S54) → List (S54) → Int → Bool → Option (Bool)
 | 0, _, _, _, _ => none
 | k + 1, x0, x1, x5, x46 => if x46 = true then (some false) else (sentryref4_SameSentries.l1 k x0 x1 x5 0)
def sentryref4_SameSentries.l1 : Nat → List (S54) → List (S54) → Int → Int → Option (Bool)
 | 0, _, _, _, _ => none
 | k + 1, x0, x1, x5, x6 => if 0 ≤ x5 then (if x5 < (x0.length : Int) then (if x6 < (((rd_T54 x0 x5).f0).length : Int) then (if 0 ≤ x6 then (if x5 < (x1.length : Int) then (if x6 < (((rd_T54 x1 x5).f0).length : Int) then (if (!((((rd_T103 ((rd_T54 x0 x5).f0) x6).f0).toList) == (((rd_T103 ((rd_T54 x1 x5).f0) x6).f0).toList)) || (!(((rd_T103 ((rd_T54 x0 x5).f0) x6).f1) == ((rd_T103 ((rd_T54 x1 x5).f0) x6).f1)))) = true then (some false) else (sentryref4_SameSentries.l1 k x0 x1 x5 (wrap64 (x6 + 1)))) else (none)) else (none)) else (none)) else (sentryref4_SameSentries.l2 k x0 x1 x5 0)) else (none)) else (none)
def sentryref4_SameSentries.l2 : Nat → List (S54) → List (S54) → Int → Int → Option (Bool)
 | 0, _, _, _, _ => none
 | k + 1, x0, x1, x5, x7 => if 0 ≤ x5 then (if x5 < (x0.length : Int) then (if x7 < (((rd_T54 x0 x5).f1).length : Int) then (if 0 ≤ x7 then (if x5 < (x1.length : Int) then (if x7 < (((rd_T54 x1 x5).f1).length : Int) then (if (!((((rd_T50 ((rd_T54 x0 x5).f1) x7).f0).toList) == (((rd_T50 ((rd_T54 x1 x5).f1) x7).f0).toList)) || (!((((rd_T50 ((rd_T54 x0 x5).f1) x7).f1).toList) == (((rd_T50 ((rd_T54 x1 x5).f1) x7).f1).toList)) || (!(((rd_T50 ((rd_T54 x0 x5).f1) x7).f2) == ((rd_T50 ((rd_T54 x1 x5).f1) x7).f2))))) = true then (some false) else (sentryref4_SameSentries.l2 k x0 x1 x5 (wrap64 (x7 + 1)))) else (none)) else (none)) else (none)) else (sentryref4_SameSentries.l0 k x0 x1 (wrap64 (x5 + 1)))) else (none)) else (none)
end
def sentryref4_SameSentries.f (k : Nat) (l0 : List (S54)) (l1 : List (S54)) : Option (Bool) := if (l0.length : Int) = (l1.length : Int) then (sentryref4_SameSentries.l0 k l0 l1 0) else (some false)
theorem sentryref4_SameSentries.mono_l : ∀ k, (∀ y0 y1 y2, LeO (sentryref4_SameSentries.l0 k y0 y1 y2) (sentryref4_SameSentries.l0 (k + 1) y0 y1 y2)) ∧ (∀ y0 y1 y2 y3, LeO (sentryref4_SameSentries.j1 k y0 y1 y2 y3) (sentryref4_SameSentries.j1 (k + 1) y0 y1 y2 y3)) ∧ (∀ y0 y1 y2 y3, LeO (sentryref4_SameSentries.l1 k y0 y1 y2 y3) (sentryref4_SameSentries.l1 (k + 1) y0 y1 y2 y3)) ∧ (∀ y0 y1 y2 y3, LeO (sentryref4_SameSentries.l2 k y0 y1 y2 y3) (sentryref4_SameSentries.l2 (k + 1) y0 y1 y2 y3))
 | 0 => ⟨fun _ _ _ r h => by simp [sentryref4_SameSentries.l0] at h, fun _ _ _ _ r h => by simp [sentryref4_SameSentries.j1] at h, fun _ _ _ _ r h => by simp [sentryref4_SameSentries.l1] at h, fun _ _ _ _ r h => by simp [sentryref4_SameSentries.l2] at h⟩
 | k + 1 => by
  obtain ⟨ih0, ih1, ih2, ih3⟩ := sentryref4_SameSentries.mono_l k
  refine ⟨?_, ?_, ?_, ?_⟩
  intro y0 y1 y2
  unfold sentryref4_SameSentries.l0
  rotate_left
  intro y0 y1 y2 y3
  unfold sentryref4_SameSentries.j1
  rotate_left
  intro y0 y1 y2 y3
  unfold sentryref4_SameSentries.l1
  rotate_left
  intro y0 y1 y2 y3
  unfold sentryref4_SameSentries.l2
  rotate_left
  all_goals repeat' first
   | (with_reducible exact ih0 _ _ _)
   | (with_reducible exact ih1 _ _ _ _)
   | (with_reducible exact ih2 _ _ _ _)
   | (with_reducible exact ih3 _ _ _ _)
   | (with_reducible exact LeO.refl _)
   | (with_reducible exact LeO.none _)
   | (with_reducible refine LeO.ite ?_ ?_)
   | (with_reducible refine LeO.bind ?_ (fun _ => ?_))
   | exact ih0 _ _ _
   | exact ih1 _ _ _ _
   | exact ih2 _ _ _ _
   | exact ih3 _ _ _ _
   | exact LeO.none _
   | refine LeO.ite ?_ ?_
   | refine LeO.bind ?_ (fun _ => ?_)
theorem sentryref4_SameSentries.mono : ∀ a0 a1 k, LeO (sentryref4_SameSentries.f k a0 a1) (sentryref4_SameSentries.f (k + 1) a0 a1) := by
 intro a0 a1 k
 obtain ⟨ih0, ih1, ih2, ih3⟩ := sentryref4_SameSentries.mono_l k
 unfold sentryref4_SameSentries.f
 repeat' first
   | (with_reducible exact ih0 _ _ _)
   | (with_reducible exact ih1 _ _ _ _)
   | (with_reducible exact ih2 _ _ _ _)
   | (with_reducible exact ih3 _ _ _ _)
   | (with_reducible exact LeO.refl _)
   | (with_reducible exact LeO.none _)
   | (with_reducible refine LeO.ite ?_ ?_)
   | (with_reducible refine LeO.bind ?_ (fun _ => ?_))
   | exact ih0 _ _ _
   | exact ih1 _ _ _ _
   | exact ih2 _ _ _ _
   | exact ih3 _ _ _ _
   | exact LeO.none _
   | refine LeO.ite ?_ ?_
   | refine LeO.bind ?_ (fun _ => ?_)
set_option maxHeartbeats 8000000 in
set_option maxRecDepth 100000 in
theorem sentryref4_SameSentries.calls (k : Nat) (A0 : Option Addr) (c0 : Nat) (l0 : List (S54)) (A1 : Option Addr) (c1 : Nat) (l1 : List (S54)) (r : Bool) (w : World) (hr0 : Kd.C k54 w A0 l0.length l0) (hc0 : l0.length ≤ c0) (hr1 : Kd.C k54 w A1 l1.length l1) (hc1 : l1.length ≤ c1) (h : sentryref4_SameSentries.f k l0 l1 = some r) :
  Calls Try.prog 78 #[.slice A0 l0.length c0, .slice A1 l1.length c1] w fun e w' => e = .returned (.bool r) ∧ Drawn0 w w' := by
 have hu103 := Try.underlying103
 have hu50 := Try.underlying50
 have HR0 := Aside0.mk hr0
 have HC0 := Aside0.mk hc0
 clear hr0 hc0
 have HR1 := Aside0.mk hr1
 have HC1 := Aside0.mk hc1
 clear hr1 hc1
 have H : (if (l0.length : Int) = (l1.length : Int) then (sentryref4_SameSentries.l0 k l0 l1 0) else (some false)) = some r := h
 clear h
 by_cases c3 : (l0.length : Int) = (l1.length : Int)
 ·rw [if_pos c3] at H
  have c3b0 : ((l0.length : Int) == (l1.length : Int)) = true := beq_iff_eq.mpr c3
  have c3b1 : ((l0.length : Int) != (l1.length : Int)) = false := bne_eq_false_iff_eq.mpr c3
  have c3b2 : (l0.length == l1.length) = true := by first | simpa using c3 | (simp at c3 ⊢; omega)
  clear c3
  have H' := Aside0.mk H
  clear H
  go_enter Try.func78, Try.ntmps78
  go_wp2
  repeat (go_quiet (fail); try go_wp2)
  go_loopg [5] k (fun kq v5 w' => ∃ (x5_1 : Int), v5 = .int .i64 x5_1 ∧ Aside0 (sentryref4_SameSentries.l0 kq l0 l1 x5_1 = some r) ∧ Aside0 (kq ≤ k) ∧ Drawn0 w w')
  case atStart => exact ⟨(0), (by first | rfl | (simp; done) | (simp [*]; done)), H', ⟨Nat.le_refl _⟩, by repeat (first | exact Drawn0.refl _ | apply Drawn0.step)⟩
  case round =>
   clear H'
   (try clear c1); (try clear p2); (try clear c3); (try clear c3b0); (try clear c3b1); (try clear c3b2)
   obtain ⟨x5_1, rfl, HA, HK1, ⟨m1, rfl⟩⟩ := hrel
   cases gk with
   | zero => exact absurd HA.out (by simp [sentryref4_SameSentries.l0])
   | succ k1 =>
    have H := HA.out
    clear HA
    simp only [sentryref4_SameSentries.l0] at H
    by_cases c4 : x5_1 < (l0.length : Int)
    ·rw [if_pos c4] at H
     have c4b0 : decide (x5_1 < (l0.length : Int)) = true := decide_eq_true c4
     clear c4
     have HC5 := Aside0.mk H
     clear H
     go_upto_region 6 with (fail)
     repeat (go_quiet (fail); go_upto_region 6 with (fail))
     go_cut [46] (fun v46 wc => ∃ (kq : Nat) (x46_4 : Bool), v46 = .bool x46_4 ∧ Aside0 (sentryref4_SameSentries.j1 kq l0 l1 x5_1 x46_4 = some r) ∧ Aside0 (kq ≤ k1) ∧ Drawn0 w wc)
     case first =>
      have H := HC5.out
      clear HC5
      by_cases c6 : 0 ≤ x5_1
      ·rw [if_pos c6] at H
       have c6b0 : decide (0 ≤ x5_1) = true := decide_eq_true c6
       clear c6
       (first | rw [c6b0] | (simp only [i64_w, i32_w]; rw [c6b0]) | skip)
       by_cases c7 : x5_1 < (l1.length : Int)
       ·rw [if_pos c7] at H
        have c7b0 : decide (x5_1 < (l1.length : Int)) = true := decide_eq_true c7
        clear c7
        by_cases c8 : (((rd_T54 l0 x5_1).f0).length : Int) = (((rd_T54 l1 x5_1).f0).length : Int)
        ·rw [if_pos c8] at H
         have c8b0 : ((((rd_T54 l0 x5_1).f0).length : Int) == (((rd_T54 l1 x5_1).f0).length : Int)) = true := beq_iff_eq.mpr c8
         have c8b1 : ((((rd_T54 l0 x5_1).f0).length : Int) != (((rd_T54 l1 x5_1).f0).length : Int)) = false := bne_eq_false_iff_eq.mpr c8
         have c8b2 : (((rd_T54 l0 x5_1).f0).length == ((rd_T54 l1 x5_1).f0).length) = true := by first | simpa using c8 | (simp at c8 ⊢; omega)
         clear c8
         have H' := Aside0.mk H
         clear H
         have p345 : 0 ≤ (x5_1 : Int) := od_
         have q345 : x5_1 < (l0.length : Int) := od_
         obtain ⟨ad345, A345_0, c345_0, A345_1, c345_1, e345, hx345_0, hx345_1, hl345_0, hi345_0, hl345_1, hi345_1⟩ := at_T54 HR0.out x5_1 p345 q345
         cases e345
         have HR345_0 := Aside0.mk hi345_0
         have HC345_0 := Aside0.mk hl345_0
         clear hi345_0 hl345_0
         have HR345_1 := Aside0.mk hi345_1
         have HC345_1 := Aside0.mk hl345_1
         clear hi345_1 hl345_1
         replace p345 := eq_true p345
         replace q345 := eq_true q345
         have p346 : 0 ≤ (x5_1 : Int) := od_
         have q346 : x5_1 < (l1.length : Int) := od_
         obtain ⟨ad346, A346_0, c346_0, A346_1, c346_1, e346, hx346_0, hx346_1, hl346_0, hi346_0, hl346_1, hi346_1⟩ := at_T54 HR1.out x5_1 p346 q346
         cases e346
         have HR346_0 := Aside0.mk hi346_0
         have HC346_0 := Aside0.mk hl346_0
         clear hi346_0 hl346_0
         have HR346_1 := Aside0.mk hi346_1
         have HC346_1 := Aside0.mk hl346_1
         clear hi346_1 hl346_1
         replace p346 := eq_true p346
         replace q346 := eq_true q346
         have p347 : 0 ≤ (x5_1 : Int) := od_
         have q347 : x5_1 < (l0.length : Int) := od_
         obtain ⟨ad347, A347_0, c347_0, A347_1, c347_1, e347, hx347_0, hx347_1, hl347_0, hi347_0, hl347_1, hi347_1⟩ := at_T54 HR0.out x5_1 p347 q347
         obtain rfl : ad345 = ad347 := (by injection e347)
         have HR347_0 := Aside0.mk hi347_0
         have HC347_0 := Aside0.mk hl347_0
         clear hi347_0 hl347_0
         have HR347_1 := Aside0.mk hi347_1
         have HC347_1 := Aside0.mk hl347_1
         clear hi347_1 hl347_1
         replace p347 := eq_true p347
         replace q347 := eq_true q347
         have ea_ := Option.some.inj (hx345_0.symm.trans hx347_0)
         injection ea_ with ea_ en_ ec_
         subst ea_
         subst ec_
         clear en_
         have ea_ := Option.some.inj (hx345_1.symm.trans hx347_1)
         injection ea_ with ea_ en_ ec_
         subst ea_
         subst ec_
         clear en_
         have p348 : 0 ≤ (x5_1 : Int) := od_
         have q348 : x5_1 < (l1.length : Int) := od_
         obtain ⟨ad348, A348_0, c348_0, A348_1, c348_1, e348, hx348_0, hx348_1, hl348_0, hi348_0, hl348_1, hi348_1⟩ := at_T54 HR1.out x5_1 p348 q348
         obtain rfl : ad346 = ad348 := (by injection e348)
         have HR348_0 := Aside0.mk hi348_0
         have HC348_0 := Aside0.mk hl348_0
         clear hi348_0 hl348_0
         have HR348_1 := Aside0.mk hi348_1
         have HC348_1 := Aside0.mk hl348_1
         clear hi348_1 hl348_1
         replace p348 := eq_true p348
         replace q348 := eq_true q348
         have ea_ := Option.some.inj (hx346_0.symm.trans hx348_0)
         injection ea_ with ea_ en_ ec_
         subst ea_
         subst ec_
         clear en_
         have ea_ := Option.some.inj (hx346_1.symm.trans hx348_1)
         injection ea_ with ea_ en_ ec_
         subst ea_
         subst ec_
         clear en_
         go_wp2
         repeat (go_quiet (fail); try go_wp2)
         go_meet
         case rel => exact ⟨_, (((((rd_T54 l0 x5_1).f1).length : Int) != (((rd_T54 l1 x5_1).f1).length : Int))), (by first | rfl | (simp; done) | (simp [*]; done)), H', ⟨by have := HK1.out; first | omega | exact Nat.le_refl _⟩, by repeat (first | exact Drawn0.refl _ | apply Drawn0.step)⟩
        ·rw [if_neg c8] at H
         have c8b0 : ((((rd_T54 l0 x5_1).f0).length : Int) == (((rd_T54 l1 x5_1).f0).length : Int)) = false := beq_eq_false_iff_ne.mpr c8
         have c8b1 : ((((rd_T54 l0 x5_1).f0).length : Int) != (((rd_T54 l1 x5_1).f0).length : Int)) = true := bne_iff_ne.mpr c8
         have c8b2 : (((rd_T54 l0 x5_1).f0).length == ((rd_T54 l1 x5_1).f0).length) = false := by first | simpa using c8 | (simp at c8 ⊢; omega)
         have H' := Aside0.mk H
         clear H
         have p345 : 0 ≤ (x5_1 : Int) := od_
         have q345 : x5_1 < (l0.length : Int) := od_
         obtain ⟨ad345, A345_0, c345_0, A345_1, c345_1, e345, hx345_0, hx345_1, hl345_0, hi345_0, hl345_1, hi345_1⟩ := at_T54 HR0.out x5_1 p345 q345
         cases e345
         have HR345_0 := Aside0.mk hi345_0
         have HC345_0 := Aside0.mk hl345_0
         clear hi345_0 hl345_0
         have HR345_1 := Aside0.mk hi345_1
         have HC345_1 := Aside0.mk hl345_1
         clear hi345_1 hl345_1
         replace p345 := eq_true p345
         replace q345 := eq_true q345
         have p346 : 0 ≤ (x5_1 : Int) := od_
         have q346 : x5_1 < (l1.length : Int) := od_
         obtain ⟨ad346, A346_0, c346_0, A346_1, c346_1, e346, hx346_0, hx346_1, hl346_0, hi346_0, hl346_1, hi346_1⟩ := at_T54 HR1.out x5_1 p346 q346
         cases e346
         have HR346_0 := Aside0.mk hi346_0
         have HC346_0 := Aside0.mk hl346_0
         clear hi346_0 hl346_0
         have HR346_1 := Aside0.mk hi346_1
         have HC346_1 := Aside0.mk hl346_1
         clear hi346_1 hl346_1
         replace p346 := eq_true p346
         replace q346 := eq_true q346
         go_wp2
         repeat (go_quiet (fail); try go_wp2)
         go_meet
         case rel => exact ⟨_, (true), (by first | rfl | (simp; done) | (simp [*]; done)), H', ⟨by have := HK1.out; first | omega | exact Nat.le_refl _⟩, by repeat (first | exact Drawn0.refl _ | apply Drawn0.step)⟩
       ·rw [if_neg c7] at H
        exact absurd H (by simp)
      ·rw [if_neg c6] at H
       exact absurd H (by simp)
     case rest =>
      clear HC5
      (try clear c1); (try clear p2); (try clear c3); (try clear c3b0); (try clear c3b1); (try clear c3b2); (try clear p3); (try clear q3); (try clear hx3); (try clear c4); (try clear c4b0); (try clear c6); (try clear c6b0); (try clear c7); (try clear c7b0); (try clear c8); (try clear c8b0); (try clear c8b1); (try clear c8b2); (try clear hx345_0); (try clear hx345_1); (try clear hx346_0); (try clear hx346_1); (try clear hx347_0); (try clear hx347_1); (try clear hx348_0); (try clear hx348_1); (try clear p2); (try clear p345); (try clear p346); (try clear p347); (try clear p348); (try clear q345); (try clear q346); (try clear q347); (try clear q348)
      obtain ⟨kq, x46_4, rfl, HA, HJ4, ⟨mc4, rfl⟩⟩ := hcut
      cases kq with
      | zero => exact absurd HA.out (by simp [sentryref4_SameSentries.j1])
      | succ kj4 =>
       have H := HA.out
       clear HA
       simp only [sentryref4_SameSentries.j1] at H
       by_cases c9 : x46_4 = true
       ·subst c9
        have H1 : (some false) = some r := by rw [if_pos rfl] at H; exact H
        clear H
        have H := H1
        clear H1
        obtain rfl := Option.some.inj H
        go_wp2
        repeat (go_quiet (fail); try go_wp2)
        go_ret
        exact ⟨by first | rfl | (simp; done) | (simp [*]; done), by repeat (first | exact Drawn0.refl _ | apply Drawn0.step)⟩
       ·replace c9 := Bool.eq_false_iff.mpr c9
        subst c9
        have H1 : (sentryref4_SameSentries.l1 kj4 l0 l1 x5_1 0) = some r := by rw [if_neg (show ¬ (false = true) by decide)] at H; exact H
        clear H
        have H := H1
        clear H1
        have H' := Aside0.mk H
        clear H
        go_wp2
        repeat (go_quiet (fail); try go_wp2)
        go_loopg [6] kj4 (fun kq v6 w' => ∃ (x6_3 : Int), v6 = .int .i64 x6_3 ∧ Aside0 (sentryref4_SameSentries.l1 kq l0 l1 x5_1 x6_3 = some r) ∧ Aside0 (kq ≤ kj4) ∧ Drawn0 w w')
        case atStart => exact ⟨(0), (by first | rfl | (simp; done) | (simp [*]; done)), H', ⟨Nat.le_refl _⟩, by repeat (first | exact Drawn0.refl _ | apply Drawn0.step)⟩
        case round =>
         clear H'
         (try clear c1); (try clear p2); (try clear c3); (try clear c3b0); (try clear c3b1); (try clear c3b2); (try clear p3); (try clear q3); (try clear hx3); (try clear c4); (try clear c4b0); (try clear c6); (try clear c6b0); (try clear c7); (try clear c7b0); (try clear c8); (try clear c8b0); (try clear c8b1); (try clear c8b2); (try clear c9); (try clear hx345_0); (try clear hx345_1); (try clear hx346_0); (try clear hx346_1); (try clear hx347_0); (try clear hx347_1); (try clear hx348_0); (try clear hx348_1); (try clear p2); (try clear p3); (try clear p345); (try clear p346); (try clear p347); (try clear p348); (try clear q3); (try clear q345); (try clear q346); (try clear q347); (try clear q348)
         obtain ⟨x6_3, rfl, HA, HK3, ⟨m3, rfl⟩⟩ := hrel
         cases gk with
         | zero => exact absurd HA.out (by simp [sentryref4_SameSentries.l1])
         | succ k3 =>
          have H := HA.out
          clear HA
          simp only [sentryref4_SameSentries.l1] at H
          by_cases c10 : 0 ≤ x5_1
          ·rw [if_pos c10] at H
           have c10b0 : decide (0 ≤ x5_1) = true := decide_eq_true c10
           clear c10
           by_cases c11 : x5_1 < (l0.length : Int)
           ·rw [if_pos c11] at H
            have c11b0 : decide (x5_1 < (l0.length : Int)) = true := decide_eq_true c11
            clear c11
            by_cases c12 : x6_3 < (((rd_T54 l0 x5_1).f0).length : Int)
            ·rw [if_pos c12] at H
             have c12b0 : decide (x6_3 < (((rd_T54 l0 x5_1).f0).length : Int)) = true := decide_eq_true c12
             clear c12
             by_cases c13 : 0 ≤ x6_3
             ·rw [if_pos c13] at H
              have c13b0 : decide (0 ≤ x6_3) = true := decide_eq_true c13
              clear c13
              by_cases c14 : x5_1 < (l1.length : Int)
              ·rw [if_pos c14] at H
               have c14b0 : decide (x5_1 < (l1.length : Int)) = true := decide_eq_true c14
               clear c14
               by_cases c15 : x6_3 < (((rd_T54 l1 x5_1).f0).length : Int)
               ·rw [if_pos c15] at H
                have c15b0 : decide (x6_3 < (((rd_T54 l1 x5_1).f0).length : Int)) = true := decide_eq_true c15
                clear c15
                by_cases c16 : (!((((rd_T103 ((rd_T54 l0 x5_1).f0) x6_3).f0).toList) == (((rd_T103 ((rd_T54 l1 x5_1).f0) x6_3).f0).toList)) || (!(((rd_T103 ((rd_T54 l0 x5_1).f0) x6_3).f1) == ((rd_T103 ((rd_T54 l1 x5_1).f0) x6_3).f1)))) = true
                ·rw [if_pos c16] at H
                 have c16b0 : (!((((rd_T103 ((rd_T54 l0 x5_1).f0) x6_3).f0).toList) == (((rd_T103 ((rd_T54 l1 x5_1).f0) x6_3).f0).toList)) || (!(((rd_T103 ((rd_T54 l0 x5_1).f0) x6_3).f1) == ((rd_T103 ((rd_T54 l1 x5_1).f0) x6_3).f1)))) = true := c16
                 clear c16
                 obtain rfl := Option.some.inj H
                 have p349 : 0 ≤ (x5_1 : Int) := od_
                 have q349 : x5_1 < (l0.length : Int) := od_
                 obtain ⟨ad349, A349_0, c349_0, A349_1, c349_1, e349, hx349_0, hx349_1, hl349_0, hi349_0, hl349_1, hi349_1⟩ := at_T54 HR0.out x5_1 p349 q349
                 cases e349
                 have HR349_0 := Aside0.mk hi349_0
                 have HC349_0 := Aside0.mk hl349_0
                 clear hi349_0 hl349_0
                 have HR349_1 := Aside0.mk hi349_1
                 have HC349_1 := Aside0.mk hl349_1
                 clear hi349_1 hl349_1
                 replace p349 := eq_true p349
                 replace q349 := eq_true q349
                 have p350 : 0 ≤ (x5_1 : Int) := od_
                 have q350 : x5_1 < (l0.length : Int) := od_
                 obtain ⟨ad350, A350_0, c350_0, A350_1, c350_1, e350, hx350_0, hx350_1, hl350_0, hi350_0, hl350_1, hi350_1⟩ := at_T54 HR0.out x5_1 p350 q350
                 obtain rfl : ad349 = ad350 := (by injection e350)
                 have HR350_0 := Aside0.mk hi350_0
                 have HC350_0 := Aside0.mk hl350_0
                 clear hi350_0 hl350_0
                 have HR350_1 := Aside0.mk hi350_1
                 have HC350_1 := Aside0.mk hl350_1
                 clear hi350_1 hl350_1
                 replace p350 := eq_true p350
                 replace q350 := eq_true q350
                 have ea_ := Option.some.inj (hx349_0.symm.trans hx350_0)
                 injection ea_ with ea_ en_ ec_
                 subst ea_
                 subst ec_
                 clear en_
                 have ea_ := Option.some.inj (hx349_1.symm.trans hx350_1)
                 injection ea_ with ea_ en_ ec_
                 subst ea_
                 subst ec_
                 clear en_
                 have p351 : 0 ≤ (x6_3 : Int) := od_
                 have q351 : x6_3 < (((rd_T54 l0 x5_1).f0).length : Int) := od_
                 obtain ⟨ad351, e351, hx351_0, hx351_1⟩ := at_T103 HR350_0.out x6_3 p351 q351
                 cases e351
                 replace p351 := eq_true p351
                 replace q351 := eq_true q351
                 have p352 : 0 ≤ (x5_1 : Int) := od_
                 have q352 : x5_1 < (l1.length : Int) := od_
                 obtain ⟨ad352, A352_0, c352_0, A352_1, c352_1, e352, hx352_0, hx352_1, hl352_0, hi352_0, hl352_1, hi352_1⟩ := at_T54 HR1.out x5_1 p352 q352
                 cases e352
                 have HR352_0 := Aside0.mk hi352_0
                 have HC352_0 := Aside0.mk hl352_0
                 clear hi352_0 hl352_0
                 have HR352_1 := Aside0.mk hi352_1
                 have HC352_1 := Aside0.mk hl352_1
                 clear hi352_1 hl352_1
                 replace p352 := eq_true p352
                 replace q352 := eq_true q352
                 have p353 : 0 ≤ (x6_3 : Int) := od_
                 have q353 : x6_3 < (((rd_T54 l1 x5_1).f0).length : Int) := od_
                 obtain ⟨ad353, e353, hx353_0, hx353_1⟩ := at_T103 HR352_0.out x6_3 p353 q353
                 cases e353
                 replace p353 := eq_true p353
                 replace q353 := eq_true q353
                 go_wp2
                 repeat (go_quiet (fail); try go_wp2)
                 go_ret
                 exact ⟨by first | rfl | (simp; done) | (simp [*]; done), by repeat (first | exact Drawn0.refl _ | apply Drawn0.step)⟩
                ·rw [if_neg c16] at H
                 have c16b0 : (!((((rd_T103 ((rd_T54 l0 x5_1).f0) x6_3).f0).toList) == (((rd_T103 ((rd_T54 l1 x5_1).f0) x6_3).f0).toList)) || (!(((rd_T103 ((rd_T54 l0 x5_1).f0) x6_3).f1) == ((rd_T103 ((rd_T54 l1 x5_1).f0) x6_3).f1)))) = false := by simpa using c16
                 clear c16
                 have H' := Aside0.mk H
                 clear H
                 have p349 : 0 ≤ (x5_1 : Int) := od_
                 have q349 : x5_1 < (l0.length : Int) := od_
                 obtain ⟨ad349, A349_0, c349_0, A349_1, c349_1, e349, hx349_0, hx349_1, hl349_0, hi349_0, hl349_1, hi349_1⟩ := at_T54 HR0.out x5_1 p349 q349
                 cases e349
                 have HR349_0 := Aside0.mk hi349_0
                 have HC349_0 := Aside0.mk hl349_0
                 clear hi349_0 hl349_0
                 have HR349_1 := Aside0.mk hi349_1
                 have HC349_1 := Aside0.mk hl349_1
                 clear hi349_1 hl349_1
                 replace p349 := eq_true p349
                 replace q349 := eq_true q349
                 have p350 : 0 ≤ (x5_1 : Int) := od_
                 have q350 : x5_1 < (l0.length : Int) := od_
                 obtain ⟨ad350, A350_0, c350_0, A350_1, c350_1, e350, hx350_0, hx350_1, hl350_0, hi350_0, hl350_1, hi350_1⟩ := at_T54 HR0.out x5_1 p350 q350
                 obtain rfl : ad349 = ad350 := (by injection e350)
                 have HR350_0 := Aside0.mk hi350_0
                 have HC350_0 := Aside0.mk hl350_0
                 clear hi350_0 hl350_0
                 have HR350_1 := Aside0.mk hi350_1
                 have HC350_1 := Aside0.mk hl350_1
                 clear hi350_1 hl350_1
                 replace p350 := eq_true p350
                 replace q350 := eq_true q350
                 have ea_ := Option.some.inj (hx349_0.symm.trans hx350_0)
                 injection ea_ with ea_ en_ ec_
                 subst ea_
                 subst ec_
                 clear en_
                 have ea_ := Option.some.inj (hx349_1.symm.trans hx350_1)
                 injection ea_ with ea_ en_ ec_
                 subst ea_
                 subst ec_
                 clear en_
                 have p351 : 0 ≤ (x6_3 : Int) := od_
                 have q351 : x6_3 < (((rd_T54 l0 x5_1).f0).length : Int) := od_
                 obtain ⟨ad351, e351, hx351_0, hx351_1⟩ := at_T103 HR350_0.out x6_3 p351 q351
                 cases e351
                 replace p351 := eq_true p351
                 replace q351 := eq_true q351
                 have p352 : 0 ≤ (x5_1 : Int) := od_
                 have q352 : x5_1 < (l1.length : Int) := od_
                 obtain ⟨ad352, A352_0, c352_0, A352_1, c352_1, e352, hx352_0, hx352_1, hl352_0, hi352_0, hl352_1, hi352_1⟩ := at_T54 HR1.out x5_1 p352 q352
                 cases e352
                 have HR352_0 := Aside0.mk hi352_0
                 have HC352_0 := Aside0.mk hl352_0
                 clear hi352_0 hl352_0
                 have HR352_1 := Aside0.mk hi352_1
                 have HC352_1 := Aside0.mk hl352_1
                 clear hi352_1 hl352_1
                 replace p352 := eq_true p352
                 replace q352 := eq_true q352
                 have p353 : 0 ≤ (x6_3 : Int) := od_
                 have q353 : x6_3 < (((rd_T54 l1 x5_1).f0).length : Int) := od_
                 obtain ⟨ad353, e353, hx353_0, hx353_1⟩ := at_T103 HR352_0.out x6_3 p353 q353
                 cases e353
                 replace p353 := eq_true p353
                 replace q353 := eq_true q353
                 go_wp2
                 repeat (go_quiet (fail); try go_wp2)
                 go_roundg k3
                 case measure => have := HK1.out; have := HJ4.out; have := HK3.out; omega
                 case rel => exact ⟨(wrap64 (x6_3 + 1)), (by first | rfl | (simp; done) | (simp [*]; done)), H', ⟨by have := HK1.out; have := HJ4.out; have := HK3.out; omega⟩, by repeat (first | exact Drawn0.refl _ | apply Drawn0.step)⟩
               ·rw [if_neg c15] at H
                exact absurd H (by simp)
              ·rw [if_neg c14] at H
               exact absurd H (by simp)
             ·rw [if_neg c13] at H
              exact absurd H (by simp)
            ·rw [if_neg c12] at H
             have c12b0 : decide (x6_3 < (((rd_T54 l0 x5_1).f0).length : Int)) = false := decide_eq_false c12
             clear c12
             have H' := Aside0.mk H
             clear H
             have p349 : 0 ≤ (x5_1 : Int) := od_
             have q349 : x5_1 < (l0.length : Int) := od_
             obtain ⟨ad349, A349_0, c349_0, A349_1, c349_1, e349, hx349_0, hx349_1, hl349_0, hi349_0, hl349_1, hi349_1⟩ := at_T54 HR0.out x5_1 p349 q349
             cases e349
             have HR349_0 := Aside0.mk hi349_0
             have HC349_0 := Aside0.mk hl349_0
             clear hi349_0 hl349_0
             have HR349_1 := Aside0.mk hi349_1
             have HC349_1 := Aside0.mk hl349_1
             clear hi349_1 hl349_1
             replace p349 := eq_true p349
             replace q349 := eq_true q349
             go_wp2
             repeat (go_quiet (fail); try go_wp2)
             go_loopg [7] k3 (fun kq v7 w' => ∃ (x7_4 : Int), v7 = .int .i64 x7_4 ∧ Aside0 (sentryref4_SameSentries.l2 kq l0 l1 x5_1 x7_4 = some r) ∧ Aside0 (kq ≤ k3) ∧ Drawn0 w w')
             case atStart => exact ⟨(0), (by first | rfl | (simp; done) | (simp [*]; done)), H', ⟨Nat.le_refl _⟩, by repeat (first | exact Drawn0.refl _ | apply Drawn0.step)⟩
             case round =>
              clear H'
              (try clear c1); (try clear p2); (try clear c3); (try clear c3b0); (try clear c3b1); (try clear c3b2); (try clear p3); (try clear q3); (try clear hx3); (try clear c4); (try clear c4b0); (try clear c6); (try clear c6b0); (try clear p6); (try clear c7); (try clear c7b0); (try clear c8); (try clear c8b0); (try clear c8b1); (try clear c8b2); (try clear c9); (try clear c10); (try clear c10b0); (try clear c11); (try clear c11b0); (try clear c12); (try clear c12b0); (try clear c13); (try clear c13b0); (try clear c14); (try clear c14b0); (try clear c15); (try clear c15b0); (try clear c16); (try clear c16b0); (try clear hx345_0); (try clear hx345_1); (try clear hx346_0); (try clear hx346_1); (try clear hx347_0); (try clear hx347_1); (try clear hx348_0); (try clear hx348_1); (try clear hx349_0); (try clear hx349_1); (try clear hx350_0); (try clear hx350_1); (try clear hx351_0); (try clear hx351_1); (try clear hx352_0); (try clear hx352_1); (try clear hx353_0); (try clear hx353_1); (try clear p2); (try clear p3); (try clear p345); (try clear p346); (try clear p347); (try clear p348); (try clear p349); (try clear p350); (try clear p351); (try clear p352); (try clear p353); (try clear q3); (try clear q345); (try clear q346); (try clear q347); (try clear q348); (try clear q349); (try clear q350); (try clear q351); (try clear q352); (try clear q353)
              obtain ⟨x7_4, rfl, HA, HK4, ⟨m4, rfl⟩⟩ := hrel
              cases gk with
              | zero => exact absurd HA.out (by simp [sentryref4_SameSentries.l2])
              | succ k4 =>
               have H := HA.out
               clear HA
               simp only [sentryref4_SameSentries.l2] at H
               by_cases c17 : 0 ≤ x5_1
               ·rw [if_pos c17] at H
                have c17b0 : decide (0 ≤ x5_1) = true := decide_eq_true c17
                clear c17
                by_cases c18 : x5_1 < (l0.length : Int)
                ·rw [if_pos c18] at H
                 have c18b0 : decide (x5_1 < (l0.length : Int)) = true := decide_eq_true c18
                 clear c18
                 by_cases c19 : x7_4 < (((rd_T54 l0 x5_1).f1).length : Int)
                 ·rw [if_pos c19] at H
                  have c19b0 : decide (x7_4 < (((rd_T54 l0 x5_1).f1).length : Int)) = true := decide_eq_true c19
                  clear c19
                  by_cases c20 : 0 ≤ x7_4
                  ·rw [if_pos c20] at H
                   have c20b0 : decide (0 ≤ x7_4) = true := decide_eq_true c20
                   clear c20
                   by_cases c21 : x5_1 < (l1.length : Int)
                   ·rw [if_pos c21] at H
                    have c21b0 : decide (x5_1 < (l1.length : Int)) = true := decide_eq_true c21
                    clear c21
                    by_cases c22 : x7_4 < (((rd_T54 l1 x5_1).f1).length : Int)
                    ·rw [if_pos c22] at H
                     have c22b0 : decide (x7_4 < (((rd_T54 l1 x5_1).f1).length : Int)) = true := decide_eq_true c22
                     clear c22
                     by_cases c23 : (!((((rd_T50 ((rd_T54 l0 x5_1).f1) x7_4).f0).toList) == (((rd_T50 ((rd_T54 l1 x5_1).f1) x7_4).f0).toList)) || (!((((rd_T50 ((rd_T54 l0 x5_1).f1) x7_4).f1).toList) == (((rd_T50 ((rd_T54 l1 x5_1).f1) x7_4).f1).toList)) || (!(((rd_T50 ((rd_T54 l0 x5_1).f1) x7_4).f2) == ((rd_T50 ((rd_T54 l1 x5_1).f1) x7_4).f2))))) = true
                     ·rw [if_pos c23] at H
                      have c23b0 : (!((((rd_T50 ((rd_T54 l0 x5_1).f1) x7_4).f0).toList) == (((rd_T50 ((rd_T54 l1 x5_1).f1) x7_4).f0).toList)) || (!((((rd_T50 ((rd_T54 l0 x5_1).f1) x7_4).f1).toList) == (((rd_T50 ((rd_T54 l1 x5_1).f1) x7_4).f1).toList)) || (!(((rd_T50 ((rd_T54 l0 x5_1).f1) x7_4).f2) == ((rd_T50 ((rd_T54 l1 x5_1).f1) x7_4).f2))))) = true := c23
                      clear c23
                      obtain rfl := Option.some.inj H
                      have p354 : 0 ≤ (x5_1 : Int) := od_
                      have q354 : x5_1 < (l0.length : Int) := od_
                      obtain ⟨ad354, A354_0, c354_0, A354_1, c354_1, e354, hx354_0, hx354_1, hl354_0, hi354_0, hl354_1, hi354_1⟩ := at_T54 HR0.out x5_1 p354 q354
                      obtain rfl : ad349 = ad354 := (by injection e354)
                      have HR354_0 := Aside0.mk hi354_0
                      have HC354_0 := Aside0.mk hl354_0
                      clear hi354_0 hl354_0
                      have HR354_1 := Aside0.mk hi354_1
                      have HC354_1 := Aside0.mk hl354_1
                      clear hi354_1 hl354_1
                      replace p354 := eq_true p354
                      replace q354 := eq_true q354
                      have p355 : 0 ≤ (x5_1 : Int) := od_
                      have q355 : x5_1 < (l0.length : Int) := od_
                      obtain ⟨ad355, A355_0, c355_0, A355_1, c355_1, e355, hx355_0, hx355_1, hl355_0, hi355_0, hl355_1, hi355_1⟩ := at_T54 HR0.out x5_1 p355 q355
                      obtain rfl : ad349 = ad355 := (by injection e355)
                      have HR355_0 := Aside0.mk hi355_0
                      have HC355_0 := Aside0.mk hl355_0
                      clear hi355_0 hl355_0
                      have HR355_1 := Aside0.mk hi355_1
                      have HC355_1 := Aside0.mk hl355_1
                      clear hi355_1 hl355_1
                      replace p355 := eq_true p355
                      replace q355 := eq_true q355
                      have ea_ := Option.some.inj (hx354_0.symm.trans hx355_0)
                      injection ea_ with ea_ en_ ec_
                      subst ea_
                      subst ec_
                      clear en_
                      have ea_ := Option.some.inj (hx354_1.symm.trans hx355_1)
                      injection ea_ with ea_ en_ ec_
                      subst ea_
                      subst ec_
                      clear en_
                      have p356 : 0 ≤ (x7_4 : Int) := od_
                      have q356 : x7_4 < (((rd_T54 l0 x5_1).f1).length : Int) := od_
                      obtain ⟨ad356, e356, hx356_0, hx356_1, hx356_2⟩ := at_T50 HR355_1.out x7_4 p356 q356
                      cases e356
                      replace p356 := eq_true p356
                      replace q356 := eq_true q356
                      have p357 : 0 ≤ (x5_1 : Int) := od_
                      have q357 : x5_1 < (l1.length : Int) := od_
                      obtain ⟨ad357, A357_0, c357_0, A357_1, c357_1, e357, hx357_0, hx357_1, hl357_0, hi357_0, hl357_1, hi357_1⟩ := at_T54 HR1.out x5_1 p357 q357
                      cases e357
                      have HR357_0 := Aside0.mk hi357_0
                      have HC357_0 := Aside0.mk hl357_0
                      clear hi357_0 hl357_0
                      have HR357_1 := Aside0.mk hi357_1
                      have HC357_1 := Aside0.mk hl357_1
                      clear hi357_1 hl357_1
                      replace p357 := eq_true p357
                      replace q357 := eq_true q357
                      have p358 : 0 ≤ (x7_4 : Int) := od_
                      have q358 : x7_4 < (((rd_T54 l1 x5_1).f1).length : Int) := od_
                      obtain ⟨ad358, e358, hx358_0, hx358_1, hx358_2⟩ := at_T50 HR357_1.out x7_4 p358 q358
                      cases e358
                      replace p358 := eq_true p358
                      replace q358 := eq_true q358
                      go_wp2
                      repeat (go_quiet (fail); try go_wp2)
                      go_ret
                      exact ⟨by first | rfl | (simp; done) | (simp [*]; done), by repeat (first | exact Drawn0.refl _ | apply Drawn0.step)⟩
                     ·rw [if_neg c23] at H
                      have c23b0 : (!((((rd_T50 ((rd_T54 l0 x5_1).f1) x7_4).f0).toList) == (((rd_T50 ((rd_T54 l1 x5_1).f1) x7_4).f0).toList)) || (!((((rd_T50 ((rd_T54 l0 x5_1).f1) x7_4).f1).toList) == (((rd_T50 ((rd_T54 l1 x5_1).f1) x7_4).f1).toList)) || (!(((rd_T50 ((rd_T54 l0 x5_1).f1) x7_4).f2) == ((rd_T50 ((rd_T54 l1 x5_1).f1) x7_4).f2))))) = false := by simpa using c23
                      clear c23
                      have H' := Aside0.mk H
                      clear H
                      have p354 : 0 ≤ (x5_1 : Int) := od_
                      have q354 : x5_1 < (l0.length : Int) := od_
                      obtain ⟨ad354, A354_0, c354_0, A354_1, c354_1, e354, hx354_0, hx354_1, hl354_0, hi354_0, hl354_1, hi354_1⟩ := at_T54 HR0.out x5_1 p354 q354
                      obtain rfl : ad349 = ad354 := (by injection e354)
                      have HR354_0 := Aside0.mk hi354_0
                      have HC354_0 := Aside0.mk hl354_0
                      clear hi354_0 hl354_0
                      have HR354_1 := Aside0.mk hi354_1
                      have HC354_1 := Aside0.mk hl354_1
                      clear hi354_1 hl354_1
                      replace p354 := eq_true p354
                      replace q354 := eq_true q354
                      have p355 : 0 ≤ (x5_1 : Int) := od_
                      have q355 : x5_1 < (l0.length : Int) := od_
                      obtain ⟨ad355, A355_0, c355_0, A355_1, c355_1, e355, hx355_0, hx355_1, hl355_0, hi355_0, hl355_1, hi355_1⟩ := at_T54 HR0.out x5_1 p355 q355
                      obtain rfl : ad349 = ad355 := (by injection e355)
                      have HR355_0 := Aside0.mk hi355_0
                      have HC355_0 := Aside0.mk hl355_0
                      clear hi355_0 hl355_0
                      have HR355_1 := Aside0.mk hi355_1
                      have HC355_1 := Aside0.mk hl355_1
                      clear hi355_1 hl355_1
                      replace p355 := eq_true p355
                      replace q355 := eq_true q355
                      have ea_ := Option.some.inj (hx354_0.symm.trans hx355_0)
                      injection ea_ with ea_ en_ ec_
                      subst ea_
                      subst ec_
                      clear en_
                      have ea_ := Option.some.inj (hx354_1.symm.trans hx355_1)
                      injection ea_ with ea_ en_ ec_
                      subst ea_
                      subst ec_
                      clear en_
                      have p356 : 0 ≤ (x7_4 : Int) := od_
                      have q356 : x7_4 < (((rd_T54 l0 x5_1).f1).length : Int) := od_
                      obtain ⟨ad356, e356, hx356_0, hx356_1, hx356_2⟩ := at_T50 HR355_1.out x7_4 p356 q356
                      cases e356
                      replace p356 := eq_true p356
                      replace q356 := eq_true q356
                      have p357 : 0 ≤ (x5_1 : Int) := od_
                      have q357 : x5_1 < (l1.length : Int) := od_
                      obtain ⟨ad357, A357_0, c357_0, A357_1, c357_1, e357, hx357_0, hx357_1, hl357_0, hi357_0, hl357_1, hi357_1⟩ := at_T54 HR1.out x5_1 p357 q357
                      cases e357
                      have HR357_0 := Aside0.mk hi357_0
                      have HC357_0 := Aside0.mk hl357_0
                      clear hi357_0 hl357_0
                      have HR357_1 := Aside0.mk hi357_1
                      have HC357_1 := Aside0.mk hl357_1
                      clear hi357_1 hl357_1
                      replace p357 := eq_true p357
                      replace q357 := eq_true q357
                      have p358 : 0 ≤ (x7_4 : Int) := od_
                      have q358 : x7_4 < (((rd_T54 l1 x5_1).f1).length : Int) := od_
                      obtain ⟨ad358, e358, hx358_0, hx358_1, hx358_2⟩ := at_T50 HR357_1.out x7_4 p358 q358
                      cases e358
                      replace p358 := eq_true p358
                      replace q358 := eq_true q358
                      go_wp2
                      repeat (go_quiet (fail); try go_wp2)
                      go_roundg k4
                      case measure => have := HK1.out; have := HJ4.out; have := HK3.out; have := HK4.out; omega
                      case rel => exact ⟨(wrap64 (x7_4 + 1)), (by first | rfl | (simp; done) | (simp [*]; done)), H', ⟨by have := HK1.out; have := HJ4.out; have := HK3.out; have := HK4.out; omega⟩, by repeat (first | exact Drawn0.refl _ | apply Drawn0.step)⟩
                    ·rw [if_neg c22] at H
                     exact absurd H (by simp)
                   ·rw [if_neg c21] at H
                    exact absurd H (by simp)
                  ·rw [if_neg c20] at H
                   exact absurd H (by simp)
                 ·rw [if_neg c19] at H
                  have c19b0 : decide (x7_4 < (((rd_T54 l0 x5_1).f1).length : Int)) = false := decide_eq_false c19
                  clear c19
                  have H' := Aside0.mk H
                  clear H
                  have p354 : 0 ≤ (x5_1 : Int) := od_
                  have q354 : x5_1 < (l0.length : Int) := od_
                  obtain ⟨ad354, A354_0, c354_0, A354_1, c354_1, e354, hx354_0, hx354_1, hl354_0, hi354_0, hl354_1, hi354_1⟩ := at_T54 HR0.out x5_1 p354 q354
                  obtain rfl : ad349 = ad354 := (by injection e354)
                  have HR354_0 := Aside0.mk hi354_0
                  have HC354_0 := Aside0.mk hl354_0
                  clear hi354_0 hl354_0
                  have HR354_1 := Aside0.mk hi354_1
                  have HC354_1 := Aside0.mk hl354_1
                  clear hi354_1 hl354_1
                  replace p354 := eq_true p354
                  replace q354 := eq_true q354
                  go_wp2
                  repeat (go_quiet (fail); try go_wp2)
                  go_roundg k4
                  case measure => have := HK1.out; have := HJ4.out; have := HK3.out; have := HK4.out; omega
                  case rel => exact ⟨(wrap64 (x5_1 + 1)), (by first | rfl | (simp; done) | (simp [*]; done)), H', ⟨by have := HK1.out; have := HJ4.out; have := HK3.out; have := HK4.out; omega⟩, by repeat (first | exact Drawn0.refl _ | apply Drawn0.step)⟩
                ·rw [if_neg c18] at H
                 exact absurd H (by simp)
               ·rw [if_neg c17] at H
                exact absurd H (by simp)
           ·rw [if_neg c11] at H
            exact absurd H (by simp)
          ·rw [if_neg c10] at H
           exact absurd H (by simp)
    ·rw [if_neg c4] at H
     have c4b0 : decide (x5_1 < (l0.length : Int)) = false := decide_eq_false c4
     clear c4
     obtain rfl := Option.some.inj H
     go_wp2
     repeat (go_quiet (fail); try go_wp2)
     go_ret
     exact ⟨by first | rfl | (simp; done) | (simp [*]; done), by repeat (first | exact Drawn0.refl _ | apply Drawn0.step)⟩
 ·rw [if_neg c3] at H
  have c3b0 : ((l0.length : Int) == (l1.length : Int)) = false := beq_eq_false_iff_ne.mpr c3
  have c3b1 : ((l0.length : Int) != (l1.length : Int)) = true := bne_iff_ne.mpr c3
  have c3b2 : (l0.length == l1.length) = false := by first | simpa using c3 | (simp at c3 ⊢; omega)
  obtain rfl := Option.some.inj H
  go_enter Try.func78, Try.ntmps78
  go_wp2
  repeat (go_quiet (fail); try go_wp2)
  go_ret
  exact ⟨by first | rfl | (simp; done) | (simp [*]; done), by repeat (first | exact Drawn0.refl _ | apply Drawn0.step)⟩
end Go.Proofs.Ytaiglhfmmdajdaa.Pm
end
