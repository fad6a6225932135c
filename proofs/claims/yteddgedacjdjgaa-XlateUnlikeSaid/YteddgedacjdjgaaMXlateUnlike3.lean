/- Walks and plain laws on the way to the law XlateUnlike: several texts of this workplace and of the kit's printer, merged; what is not used is struck, by a program. No condition. -/
import Derived.Test.YteddgedacjdjgaaMXlateUnlike1
import Derived.Test.YteddgedacjdjgaaMXlateUnlike0
import Derived.Lib.Hide
import Derived.Test.YteddgedacjdjgaaMXlateUnlike2
import Derived.Deep.Slices
import Derived.Lib.SmallJoins
import Derived.SizedLaws
import Derived.Lib.SliceRun
section
namespace Go.Proofs.Yteddgedacjdjgaa.Pm
open Go.RowKit Go.Proofs.YteddgedacjdjgaaW.PrintWords Go.Proofs.YteddgedacjdjgaaW.PrintLast Go.Proofs.YteddgedacjdjgaaW.PrintMore
attribute [local go_sem] max2_int min2_int max_two min_two max_three min_three max_four min_four   -- for this text's walks alone
set_option linter.unusedVariables false
set_option linter.unusedSimpArgs false
def q38.j0 : Nat → Bool → ByteArray → Int → ByteArray → Bool → Int → List (S45) → List (S45) → Option (Bool)
 | 0, _, _, _, _, _, _, _, _ => none
 | k + 1, x29, x205000, x205001, x205002, x205003, x205004, x205005, x205006 => if x29 = true then (some false) else (if x205001 = 5 then (if x205001 = 4 then (if x205004 ≥ 1 then (if x205004 ≤ 100 then (if x205003 = true then (some (!true)) else (some (!(decide ((x205005.length : Int) > 0))))) else (some false)) else (some false)) else (if x205004 ≥ 1 then (if x205004 ≤ 100 then (if x205003 = true then (some (!true)) else (some (!(decide ((x205005.length : Int) > 0))))) else (some false)) else (some false))) else (if x205001 = 4 then (if x205004 ≥ 0 then (if x205004 ≤ 0 then (if x205003 = true then (some (!true)) else (some (!(decide ((x205005.length : Int) > 0))))) else (some false)) else (some false)) else (if x205004 ≥ 0 then (if x205004 ≤ 0 then (some (!false)) else (some false)) else (some false))))
def q38.f (k : Nat) (l0_0 : List ByteArray) (l0_1 : List (S41)) (a1_0 : ByteArray) (a1_1 : Int) (a1_2 : ByteArray) (a1_3 : Bool) (a1_4 : Int) (l1_5 : List (S45)) (l1_6 : List (S45)) : Option (Bool) := if a1_1 < 1 then (q38.j0 k true a1_0 a1_1 a1_2 a1_3 a1_4 l1_5 l1_6) else (if a1_1 > 5 then (q38.j0 k true a1_0 a1_1 a1_2 a1_3 a1_4 l1_5 l1_6) else ((q21.f l0_0 l0_1 l1_5).bind fun t205 => (if t205 = true then ((q21.f l0_0 l0_1 l1_6).bind fun t206 => (q38.j0 k (!t206) a1_0 a1_1 a1_2 a1_3 a1_4 l1_5 l1_6)) else (q38.j0 k true a1_0 a1_1 a1_2 a1_3 a1_4 l1_5 l1_6))))
theorem q38.mono_l : ∀ k, (∀ y0 y1 y2 y3 y4 y5 y6 y7, LeO (q38.j0 k y0 y1 y2 y3 y4 y5 y6 y7) (q38.j0 (k + 1) y0 y1 y2 y3 y4 y5 y6 y7))
 | 0 => fun _ _ _ _ _ _ _ _ r h => by simp [q38.j0] at h
 | k + 1 => by
  have ih0 := q38.mono_l k
  ·intro y0 y1 y2 y3 y4 y5 y6 y7
   unfold q38.j0
   repeat' first
   | (with_reducible exact ih0 _ _ _ _ _ _ _ _)
   | (with_reducible exact LeO.refl _)
   | (with_reducible exact LeO.none _)
   | (with_reducible refine LeO.ite ?_ ?_)
   | (with_reducible refine LeO.bind ?_ (fun _ => ?_))
   | exact ih0 _ _ _ _ _ _ _ _
   | exact LeO.none _
   | refine LeO.ite ?_ ?_
   | refine LeO.bind ?_ (fun _ => ?_)
theorem q38.mono : ∀ a0 a1 a2 a3 a4 a5 a6 a7 a8 k, LeO (q38.f k a0 a1 a2 a3 a4 a5 a6 a7 a8) (q38.f (k + 1) a0 a1 a2 a3 a4 a5 a6 a7 a8) := by
 intro a0 a1 a2 a3 a4 a5 a6 a7 a8 k
 have ih0 := q38.mono_l k
 unfold q38.f
 repeat' first
  | (with_reducible exact ih0 _ _ _ _ _ _ _ _)
  | (with_reducible exact LeO.refl _)
  | (with_reducible exact LeO.none _)
  | (with_reducible refine LeO.ite ?_ ?_)
  | (with_reducible refine LeO.bind ?_ (fun _ => ?_))
  | exact ih0 _ _ _ _ _ _ _ _
  | exact LeO.none _
  | refine LeO.ite ?_ ?_
  | refine LeO.bind ?_ (fun _ => ?_)
set_option maxHeartbeats 8000000 in
set_option maxRecDepth 100000 in
theorem q38.calls (k : Nat) (A0_0 : Option Addr) (c0_0 : Nat) (l0_0 : List ByteArray) (A0_1 : Option Addr) (c0_1 : Nat) (l0_1 : List (S41)) (a1_0 : ByteArray) (a1_1 : Int) (a1_2 : ByteArray) (a1_3 : Bool) (a1_4 : Int) (A1_5 : Option Addr) (c1_5 : Nat) (l1_5 : List (S45)) (A1_6 : Option Addr) (c1_6 : Nat) (l1_6 : List (S45)) (r : Bool) (w : World) (hr0_0 : Kd.C Kd.string w A0_0 l0_0.length l0_0) (hc0_0 : l0_0.length ≤ c0_0) (hr0_1 : Kd.C k41 w A0_1 l0_1.length l0_1) (hc0_1 : l0_1.length ≤ c0_1) (hr1_5 : Kd.C k45 w A1_5 l1_5.length l1_5) (hc1_5 : l1_5.length ≤ c1_5) (hr1_6 : Kd.C k45 w A1_6 l1_6.length l1_6) (hc1_6 : l1_6.length ≤ c1_6) (h : q38.f k l0_0 l0_1 a1_0 a1_1 a1_2 a1_3 a1_4 l1_5 l1_6 = some r) :
 Calls Try.prog 61 #[.agg #[.slice A0_0 l0_0.length c0_0, .slice A0_1 l0_1.length c0_1], .agg #[.string a1_0, .int .i64 a1_1, .string a1_2, .bool a1_3, .int .i64 a1_4, .slice A1_5 l1_5.length c1_5, .slice A1_6 l1_6.length c1_6]] w fun e w' => e = .returned (.bool r) ∧ Below w.heap.size w w' := by
 have hu25 := Try.underlying25
 have hu41 := Try.underlying41
 have HR0_0 := q56.mk hr0_0
 have HC0_0 := q56.mk hc0_0
 clear hr0_0 hc0_0
 have HR0_1 := q56.mk hr0_1
 have HC0_1 := q56.mk hc0_1
 clear hr0_1 hc0_1
 have HR1_5 := q56.mk hr1_5
 have HC1_5 := q56.mk hc1_5
 clear hr1_5 hc1_5
 have HR1_6 := q56.mk hr1_6
 have HC1_6 := q56.mk hc1_6
 clear hr1_6 hc1_6
 have HB := q56.mk (Below.refl w.heap.size w)
 unfold q38.f at h
 have H := h
 clear h
 have HC3 := q56.mk H
 clear H
 go_enter Try.func61, Try.ntmps61
 go_upto_region 1 with (first | ((with_reducible refine q71 (N := 2) rfl ?_); (try (refine gate_guard (by rfl) ?_; dsimp only)); refine bx_ 2 #[.slice A0_0 l0_0.length c0_0, .slice A0_1 l0_1.length c0_1] 25 ?_; intro gb203 hg w4 hbox hb; have BK203 := q56.mk (hbox); have GW203 := zz_ (w := w) hg; have GE203 := zz_ (w := w) hg; replace HB := hb_ HB hb;  clear hb hbox hg) | ((with_reducible refine q71 (N := 3) rfl ?_); (try (refine gate_guard (by rfl) ?_; dsimp only)); refine bx_ 3 #[.string a1_0, .int .i64 a1_1, .string a1_2, .bool a1_3, .int .i64 a1_4, .slice A1_5 l1_5.length c1_5, .slice A1_6 l1_6.length c1_6] 41 ?_; intro gb204 hg w5 hbox hb; have BK204 := q56.mk (hbox); have GW204 := zz_ (w := w) hg; have GE204 := zz_ (w := w) hg; replace HB := hb_ HB hb; have NB203_204 := ne1_ hg BK203; have NB204_203 := ne2_ hg BK203; replace BK203 := bb_ BK203 hb;  clear hb hbox hg))
 (try simp only [Act.put, List.setIfInBounds_toArray, List.set_cons_zero, List.set_cons_succ])
 go_cut [29] (fun v29 wc => ∃ (kq : Nat) (x29_2 : Bool), v29 = .bool x29_2 ∧ q56 (q38.j0 kq x29_2 a1_0 a1_1 a1_2 a1_3 a1_4 l1_5 l1_6 = some r) ∧ q56 (kq ≤ k) ∧ q56 (wc.heap[gb203]? = some (.cells #[(.slice A0_0 l0_0.length c0_0), (.slice A0_1 l0_1.length c0_1)] 25 (0, 0))) ∧ q56 (wc.heap[gb204]? = some (.cells #[.string a1_0, .int .i64 a1_1, .string a1_2, .bool a1_3, .int .i64 a1_4, (.slice A1_5 l1_5.length c1_5), (.slice A1_6 l1_6.length c1_6)] 41 (0, 0))) ∧ q56 (Below w.heap.size w wc))
 case first =>
  have H := HC3.out
  clear HC3
  by_cases c6 : a1_1 < 1
  ·rw [if_pos c6] at H
   have c6b0 := decide_eq_true c6
   clear c6
   (first | rw [c6b0] | (simp only [i64_w, i32_w]; rw [c6b0]) | skip)
   have H' := q56.mk H
   clear H
   have hnb7 := NB204_203.out
   have hnc7 := NB203_204.out
   obtain ⟨hcz8_0, hcz8_1, hcz8_2, hcz8_3, hcz8_4, hcz8_5, hcz8_6, hfz8_0, hfz8_1, hfz8_2, hfz8_3, hfz8_4, hfz8_5, hfz8_6⟩ := bs7_ BK204
   go_wp2
   go_meet
   case rel => exact ⟨_, (true), rf_, H', ⟨by first | omega | exact Nat.le_refl _⟩, ⟨gx_ BK203⟩, ⟨gx_ BK204⟩, ⟨hf_⟩⟩
  rw [if_neg c6] at H
  have c6b0 := decide_eq_false c6
  clear c6
  (first | rw [c6b0] | (simp only [i64_w, i32_w]; rw [c6b0]) | skip)
  by_cases c9 : a1_1 > 5
  ·rw [if_pos c9] at H
   replace c9 := decide_eq_true c9
   have H' := q56.mk H
   clear H
   have hnb10 := NB204_203.out
   have hnc10 := NB203_204.out
   obtain ⟨hcz11_0, hcz11_1, hcz11_2, hcz11_3, hcz11_4, hcz11_5, hcz11_6, hfz11_0, hfz11_1, hfz11_2, hfz11_3, hfz11_4, hfz11_5, hfz11_6⟩ := bs7_ BK204
   go_wp2
   go_meet
   case rel => exact ⟨_, (true), rf_, H', ⟨by first | omega | exact Nat.le_refl _⟩, ⟨gx_ BK203⟩, ⟨gx_ BK204⟩, ⟨hf_⟩⟩
  rw [if_neg c9] at H
  replace c9 := decide_eq_false c9
  replace H := bd_ H
  obtain ⟨t205, A12, H⟩ := H
  by_cases c13 : t205 = true
  ·subst c13
   replace H := it_ H
   replace H := bd_ H
   obtain ⟨t206, A14, H⟩ := H
   have H' := q56.mk H
   clear H
   have hnb15 := NB204_203.out
   have hnc15 := NB203_204.out
   obtain ⟨hcz16_0, hcz16_1, hcz16_2, hcz16_3, hcz16_4, hcz16_5, hcz16_6, hfz16_0, hfz16_1, hfz16_2, hfz16_3, hfz16_4, hfz16_5, hfz16_6⟩ := bs7_ BK204
   obtain ⟨hcz17_0, hcz17_1, hfz17_0, hfz17_1⟩ := bs2_ BK203
   go_wp2_with (first | (go_at_call 87; (with_reducible refine (q21.calls _ _ l0_0 _ _ l0_1 _ _ l1_5 true _ ?side1 ?side2 ?side3 ?side4 ?side5 ?side6 A12.out).mono ?_); (case side1 => exact kc_ HR0_0 HB); (case side2 => exact HC0_0.out); (case side3 => exact kc_ HR0_1 HB); (case side4 => exact HC0_1.out); (case side5 => exact kc_ HR1_5 HB); (case side6 => exact HC1_5.out); rintro e w18 ⟨rfl, hb⟩; replace BK203 := bb_ BK203 hb; replace BK204 := bb_ BK204 hb; replace HB := hb_ HB hb;  (try clear hb); obtain ⟨hcz19_0, hcz19_1, hfz19_0, hfz19_1⟩ := bs2_ BK203; obtain ⟨hcz20_0, hcz20_1, hcz20_2, hcz20_3, hcz20_4, hcz20_5, hcz20_6, hfz20_0, hfz20_1, hfz20_2, hfz20_3, hfz20_4, hfz20_5, hfz20_6⟩ := bs7_ BK204) | (go_at_call 87; (with_reducible refine (q21.calls _ _ l0_0 _ _ l0_1 _ _ l1_6 t206 _ ?side1 ?side2 ?side3 ?side4 ?side5 ?side6 A14.out).mono ?_); (case side1 => exact kc_ HR0_0 HB); (case side2 => exact HC0_0.out); (case side3 => exact kc_ HR0_1 HB); (case side4 => exact HC0_1.out); (case side5 => exact kc_ HR1_6 HB); (case side6 => exact HC1_6.out); rintro e w21 ⟨rfl, hb⟩; replace BK203 := bb_ BK203 hb; replace BK204 := bb_ BK204 hb; replace HB := hb_ HB hb;  (try clear hb)))
   go_meet
   case rel => exact ⟨_, (!t206), rf_, H', ⟨by first | omega | exact Nat.le_refl _⟩, ⟨gx_ BK203⟩, ⟨gx_ BK204⟩, ⟨hf_⟩⟩
  replace c13 := Bool.eq_false_iff.mpr c13
  subst c13
  replace H := ie_ H
  have H' := q56.mk H
  clear H
  have hnb22 := NB204_203.out
  have hnc22 := NB203_204.out
  obtain ⟨hcz23_0, hcz23_1, hcz23_2, hcz23_3, hcz23_4, hcz23_5, hcz23_6, hfz23_0, hfz23_1, hfz23_2, hfz23_3, hfz23_4, hfz23_5, hfz23_6⟩ := bs7_ BK204
  obtain ⟨hcz24_0, hcz24_1, hfz24_0, hfz24_1⟩ := bs2_ BK203
  go_wp2_with (first | (go_at_call 87; (with_reducible refine (q21.calls _ _ l0_0 _ _ l0_1 _ _ l1_5 false _ ?side1 ?side2 ?side3 ?side4 ?side5 ?side6 A12.out).mono ?_); (case side1 => exact kc_ HR0_0 HB); (case side2 => exact HC0_0.out); (case side3 => exact kc_ HR0_1 HB); (case side4 => exact HC0_1.out); (case side5 => exact kc_ HR1_5 HB); (case side6 => exact HC1_5.out); rintro e w25 ⟨rfl, hb⟩; replace BK203 := bb_ BK203 hb; replace BK204 := bb_ BK204 hb; replace HB := hb_ HB hb;  (try clear hb)))
  go_meet
  case rel => exact ⟨_, (true), rf_, H', ⟨by first | omega | exact Nat.le_refl _⟩, ⟨gx_ BK203⟩, ⟨gx_ BK204⟩, ⟨hf_⟩⟩
 case rest =>
 clear HC3
 obtain ⟨kq, x29_2, rfl, HA, HJ2, BK203, BK204, HB⟩ := hcut
 cases kq with
 | zero => exact absurd HA.out (by simp [q38.j0])
 | succ kj2 =>
 have H := HA.out
 clear HA
 simp only [q38.j0] at H
 by_cases c26 : x29_2 = true
 ·subst c26
  replace H := it_ H
  obtain rfl := Option.some.inj H
  go_wp2
  go_ret
  exact ⟨er_, hf_⟩
 replace c26 := Bool.eq_false_iff.mpr c26
 subst c26
 replace H := ie_ H
 by_cases c27 : a1_1 = 5
 rotate_left
 ·rw [if_neg c27] at H
  have c27b0 : (a1_1 == 5) = false := beq_eq_false_iff_ne.mpr c27
  have c27b1 : (a1_1 != 5) = true := bne_iff_ne.mpr c27
  by_cases c51 : a1_1 = 4
  rotate_left
  ·rw [if_neg c51] at H
   have c51b0 : (a1_1 == 4) = false := beq_eq_false_iff_ne.mpr c51
   have c51b1 : (a1_1 != 4) = true := bne_iff_ne.mpr c51
   by_cases c63 : a1_4 ≥ 0
   rotate_left
   ·rw [if_neg c63] at H
    replace c63 := decide_eq_false c63
    obtain rfl := Option.some.inj H
    have hnb69 := NB204_203.out
    have hnc69 := NB203_204.out
    obtain ⟨hcz70_0, hcz70_1, hcz70_2, hcz70_3, hcz70_4, hcz70_5, hcz70_6, hfz70_0, hfz70_1, hfz70_2, hfz70_3, hfz70_4, hfz70_5, hfz70_6⟩ := bs7_ BK204
    go_wp2
    go_ret
    exact ⟨er_, hf_⟩
   rw [if_pos c63] at H
   replace c63 := decide_eq_true c63
   by_cases c64 : a1_4 ≤ 0
   ·rw [if_pos c64] at H
    replace c64 := decide_eq_true c64
    obtain rfl := Option.some.inj H
    have hnb65 := NB204_203.out
    have hnc65 := NB203_204.out
    obtain ⟨hcz66_0, hcz66_1, hcz66_2, hcz66_3, hcz66_4, hcz66_5, hcz66_6, hfz66_0, hfz66_1, hfz66_2, hfz66_3, hfz66_4, hfz66_5, hfz66_6⟩ := bs7_ BK204
    go_wp2
    go_ret
    exact ⟨er_, hf_⟩
   rw [if_neg c64] at H
   replace c64 := decide_eq_false c64
   obtain rfl := Option.some.inj H
   have hnb67 := NB204_203.out
   have hnc67 := NB203_204.out
   obtain ⟨hcz68_0, hcz68_1, hcz68_2, hcz68_3, hcz68_4, hcz68_5, hcz68_6, hfz68_0, hfz68_1, hfz68_2, hfz68_3, hfz68_4, hfz68_5, hfz68_6⟩ := bs7_ BK204
   go_wp2
   go_ret
   exact ⟨er_, hf_⟩
  rw [if_pos c51] at H
  have c51b0 : (a1_1 == 4) = true := beq_iff_eq.mpr c51
  have c51b1 : (a1_1 != 4) = false := bne_eq_false_iff_eq.mpr c51
  clear c51
  by_cases c52 : a1_4 ≥ 0
  rotate_left
  ·rw [if_neg c52] at H
   replace c52 := decide_eq_false c52
   obtain rfl := Option.some.inj H
   have hnb61 := NB204_203.out
   have hnc61 := NB203_204.out
   obtain ⟨hcz62_0, hcz62_1, hcz62_2, hcz62_3, hcz62_4, hcz62_5, hcz62_6, hfz62_0, hfz62_1, hfz62_2, hfz62_3, hfz62_4, hfz62_5, hfz62_6⟩ := bs7_ BK204
   go_wp2
   go_ret
   exact ⟨er_, hf_⟩
  rw [if_pos c52] at H
  replace c52 := decide_eq_true c52
  by_cases c53 : a1_4 ≤ 0
  rotate_left
  ·rw [if_neg c53] at H
   replace c53 := decide_eq_false c53
   obtain rfl := Option.some.inj H
   have hnb59 := NB204_203.out
   have hnc59 := NB203_204.out
   obtain ⟨hcz60_0, hcz60_1, hcz60_2, hcz60_3, hcz60_4, hcz60_5, hcz60_6, hfz60_0, hfz60_1, hfz60_2, hfz60_3, hfz60_4, hfz60_5, hfz60_6⟩ := bs7_ BK204
   go_wp2
   go_ret
   exact ⟨er_, hf_⟩
  rw [if_pos c53] at H
  replace c53 := decide_eq_true c53
  by_cases c54 : a1_3 = true
  ·subst c54
   replace H := it_ H
   obtain rfl := Option.some.inj H
   have hnb55 := NB204_203.out
   have hnc55 := NB203_204.out
   obtain ⟨hcz56_0, hcz56_1, hcz56_2, hcz56_3, hcz56_4, hcz56_5, hcz56_6, hfz56_0, hfz56_1, hfz56_2, hfz56_3, hfz56_4, hfz56_5, hfz56_6⟩ := bs7_ BK204
   go_wp2
   go_ret
   exact ⟨er_, hf_⟩
  replace c54 := Bool.eq_false_iff.mpr c54
  subst c54
  replace H := ie_ H
  obtain rfl := Option.some.inj H
  have hnb57 := NB204_203.out
  have hnc57 := NB203_204.out
  obtain ⟨hcz58_0, hcz58_1, hcz58_2, hcz58_3, hcz58_4, hcz58_5, hcz58_6, hfz58_0, hfz58_1, hfz58_2, hfz58_3, hfz58_4, hfz58_5, hfz58_6⟩ := bs7_ BK204
  go_wp2
  go_ret
  exact ⟨er_, hf_⟩
 rw [if_pos c27] at H
 have c27b0 : (a1_1 == 5) = true := beq_iff_eq.mpr c27
 have c27b1 : (a1_1 != 5) = false := bne_eq_false_iff_eq.mpr c27
 clear c27
 by_cases c28 : a1_1 = 4
 ·rw [if_pos c28] at H
  have c28b0 : (a1_1 == 4) = true := beq_iff_eq.mpr c28
  have c28b1 : (a1_1 != 4) = false := bne_eq_false_iff_eq.mpr c28
  clear c28
  by_cases c29 : a1_4 ≥ 1
  rotate_left
  ·rw [if_neg c29] at H
   replace c29 := decide_eq_false c29
   obtain rfl := Option.some.inj H
   have hnb38 := NB204_203.out
   have hnc38 := NB203_204.out
   obtain ⟨hcz39_0, hcz39_1, hcz39_2, hcz39_3, hcz39_4, hcz39_5, hcz39_6, hfz39_0, hfz39_1, hfz39_2, hfz39_3, hfz39_4, hfz39_5, hfz39_6⟩ := bs7_ BK204
   go_wp2
   go_ret
   exact ⟨er_, hf_⟩
  rw [if_pos c29] at H
  replace c29 := decide_eq_true c29
  by_cases c30 : a1_4 ≤ 100
  rotate_left
  ·rw [if_neg c30] at H
   replace c30 := decide_eq_false c30
   obtain rfl := Option.some.inj H
   have hnb36 := NB204_203.out
   have hnc36 := NB203_204.out
   obtain ⟨hcz37_0, hcz37_1, hcz37_2, hcz37_3, hcz37_4, hcz37_5, hcz37_6, hfz37_0, hfz37_1, hfz37_2, hfz37_3, hfz37_4, hfz37_5, hfz37_6⟩ := bs7_ BK204
   go_wp2
   go_ret
   exact ⟨er_, hf_⟩
  rw [if_pos c30] at H
  replace c30 := decide_eq_true c30
  by_cases c31 : a1_3 = true
  ·subst c31
   replace H := it_ H
   obtain rfl := Option.some.inj H
   have hnb32 := NB204_203.out
   have hnc32 := NB203_204.out
   obtain ⟨hcz33_0, hcz33_1, hcz33_2, hcz33_3, hcz33_4, hcz33_5, hcz33_6, hfz33_0, hfz33_1, hfz33_2, hfz33_3, hfz33_4, hfz33_5, hfz33_6⟩ := bs7_ BK204
   go_wp2
   go_ret
   exact ⟨er_, hf_⟩
  replace c31 := Bool.eq_false_iff.mpr c31
  subst c31
  replace H := ie_ H
  obtain rfl := Option.some.inj H
  have hnb34 := NB204_203.out
  have hnc34 := NB203_204.out
  obtain ⟨hcz35_0, hcz35_1, hcz35_2, hcz35_3, hcz35_4, hcz35_5, hcz35_6, hfz35_0, hfz35_1, hfz35_2, hfz35_3, hfz35_4, hfz35_5, hfz35_6⟩ := bs7_ BK204
  go_wp2
  go_ret
  exact ⟨er_, hf_⟩
 rw [if_neg c28] at H
 have c28b0 : (a1_1 == 4) = false := beq_eq_false_iff_ne.mpr c28
 have c28b1 : (a1_1 != 4) = true := bne_iff_ne.mpr c28
 by_cases c40 : a1_4 ≥ 1
 rotate_left
 ·rw [if_neg c40] at H
  replace c40 := decide_eq_false c40
  obtain rfl := Option.some.inj H
  have hnb49 := NB204_203.out
  have hnc49 := NB203_204.out
  obtain ⟨hcz50_0, hcz50_1, hcz50_2, hcz50_3, hcz50_4, hcz50_5, hcz50_6, hfz50_0, hfz50_1, hfz50_2, hfz50_3, hfz50_4, hfz50_5, hfz50_6⟩ := bs7_ BK204
  go_wp2
  go_ret
  exact ⟨er_, hf_⟩
 rw [if_pos c40] at H
 replace c40 := decide_eq_true c40
 by_cases c41 : a1_4 ≤ 100
 rotate_left
 ·rw [if_neg c41] at H
  replace c41 := decide_eq_false c41
  obtain rfl := Option.some.inj H
  have hnb47 := NB204_203.out
  have hnc47 := NB203_204.out
  obtain ⟨hcz48_0, hcz48_1, hcz48_2, hcz48_3, hcz48_4, hcz48_5, hcz48_6, hfz48_0, hfz48_1, hfz48_2, hfz48_3, hfz48_4, hfz48_5, hfz48_6⟩ := bs7_ BK204
  go_wp2
  go_ret
  exact ⟨er_, hf_⟩
 rw [if_pos c41] at H
 replace c41 := decide_eq_true c41
 by_cases c42 : a1_3 = true
 ·subst c42
  replace H := it_ H
  obtain rfl := Option.some.inj H
  have hnb43 := NB204_203.out
  have hnc43 := NB203_204.out
  obtain ⟨hcz44_0, hcz44_1, hcz44_2, hcz44_3, hcz44_4, hcz44_5, hcz44_6, hfz44_0, hfz44_1, hfz44_2, hfz44_3, hfz44_4, hfz44_5, hfz44_6⟩ := bs7_ BK204
  go_wp2
  go_ret
  exact ⟨er_, hf_⟩
 replace c42 := Bool.eq_false_iff.mpr c42
 subst c42
 replace H := ie_ H
 obtain rfl := Option.some.inj H
 have hnb45 := NB204_203.out
 have hnc45 := NB203_204.out
 obtain ⟨hcz46_0, hcz46_1, hcz46_2, hcz46_3, hcz46_4, hcz46_5, hcz46_6, hfz46_0, hfz46_1, hfz46_2, hfz46_3, hfz46_4, hfz46_5, hfz46_6⟩ := bs7_ BK204
 go_wp2
 go_ret
 exact ⟨er_, hf_⟩
def q36.f (a0_0 : ByteArray) (a0_1 : Int) (a0_2 : ByteArray) (a0_3 : Bool) (a0_4 : Int) (l0_5 : List (S45)) (l0_6 : List (S45)) : Option (Bool) := if a0_1 = 1 then (if a0_2.toList = ([] : List UInt8) then (if a0_3 = true then (some false) else (some ((wrap64 ((l0_5.length : Int) + (l0_6.length : Int))) == 0))) else (some false)) else (some false)
set_option maxHeartbeats 8000000 in
set_option maxRecDepth 100000 in
theorem q36.calls (a0_0 : ByteArray) (a0_1 : Int) (a0_2 : ByteArray) (a0_3 : Bool) (a0_4 : Int) (A0_5 : Option Addr) (c0_5 : Nat) (l0_5 : List (S45)) (A0_6 : Option Addr) (c0_6 : Nat) (l0_6 : List (S45)) (r : Bool) (w : World) (hr0_5 : Kd.C k45 w A0_5 l0_5.length l0_5) (hc0_5 : l0_5.length ≤ c0_5) (hr0_6 : Kd.C k45 w A0_6 l0_6.length l0_6) (hc0_6 : l0_6.length ≤ c0_6) (h : q36.f a0_0 a0_1 a0_2 a0_3 a0_4 l0_5 l0_6 = some r) :
 Calls Try.prog 57 #[.agg #[.string a0_0, .int .i64 a0_1, .string a0_2, .bool a0_3, .int .i64 a0_4, .slice A0_5 l0_5.length c0_5, .slice A0_6 l0_6.length c0_6]] w fun e w' => e = .returned (.bool r) ∧ Below w.heap.size w w' := by
 have hu41 := Try.underlying41
 have HR0_5 := q56.mk hr0_5
 have HC0_5 := q56.mk hc0_5
 clear hr0_5 hc0_5
 have HR0_6 := q56.mk hr0_6
 have HC0_6 := q56.mk hc0_6
 clear hr0_6 hc0_6
 have HB := q56.mk (Below.refl w.heap.size w)
 unfold q36.f at h
 have H := h
 clear h
 by_cases c2 : a0_1 = 1
 rotate_left
 ·rw [if_neg c2] at H
  have c2b0 : (a0_1 == 1) = false := beq_eq_false_iff_ne.mpr c2
  have c2b1 : (a0_1 != 1) = true := bne_iff_ne.mpr c2
  obtain rfl := Option.some.inj H
  go_enter Try.func57, Try.ntmps57
  go_wp2_with (first | ((with_reducible refine q71 (N := 1) rfl ?_); (try (refine gate_guard (by rfl) ?_; dsimp only)); refine bx_ 1 #[.string a0_0, .int .i64 a0_1, .string a0_2, .bool a0_3, .int .i64 a0_4, .slice A0_5 l0_5.length c0_5, .slice A0_6 l0_6.length c0_6] 41 ?_; intro gb212 hg w11 hbox hb; have BK212 := q56.mk (hbox); have GW212 := zz_ (w := w) hg; have GE212 := zz_ (w := w) hg; replace HB := hb_ HB hb;  clear hb hbox hg; obtain ⟨hcz12_0, hcz12_1, hcz12_2, hcz12_3, hcz12_4, hcz12_5, hcz12_6, hfz12_0, hfz12_1, hfz12_2, hfz12_3, hfz12_4, hfz12_5, hfz12_6⟩ := bs7_ BK212))
  go_ret
  exact ⟨er_, hf_⟩
 rw [if_pos c2] at H
 have c2b0 : (a0_1 == 1) = true := beq_iff_eq.mpr c2
 have c2b1 : (a0_1 != 1) = false := bne_eq_false_iff_eq.mpr c2
 clear c2
 by_cases c3 : a0_2.toList = ([] : List UInt8)
 ·rw [if_pos c3] at H
  have c3b0 : (a0_2.toList == ([] : List UInt8)) = true := beq_iff_eq.mpr c3
  have c3b1 : (a0_2.toList != ([] : List UInt8)) = false := bne_eq_false_iff_eq.mpr c3
  clear c3
  by_cases c4 : a0_3 = true
  ·subst c4
   replace H := it_ H
   obtain rfl := Option.some.inj H
   go_enter Try.func57, Try.ntmps57
   go_wp2_with (first | ((with_reducible refine q71 (N := 1) rfl ?_); (try (refine gate_guard (by rfl) ?_; dsimp only)); refine bx_ 1 #[.string a0_0, .int .i64 a0_1, .string a0_2, .bool true, .int .i64 a0_4, .slice A0_5 l0_5.length c0_5, .slice A0_6 l0_6.length c0_6] 41 ?_; intro gb212 hg w5 hbox hb; have BK212 := q56.mk (hbox); have GW212 := zz_ (w := w) hg; have GE212 := zz_ (w := w) hg; replace HB := hb_ HB hb;  clear hb hbox hg; obtain ⟨hcz6_0, hcz6_1, hcz6_2, hcz6_3, hcz6_4, hcz6_5, hcz6_6, hfz6_0, hfz6_1, hfz6_2, hfz6_3, hfz6_4, hfz6_5, hfz6_6⟩ := bs7_ BK212))
   go_ret
   exact ⟨er_, hf_⟩
  replace c4 := Bool.eq_false_iff.mpr c4
  subst c4
  replace H := ie_ H
  obtain rfl := Option.some.inj H
  go_enter Try.func57, Try.ntmps57
  go_wp2_with (first | ((with_reducible refine q71 (N := 1) rfl ?_); (try (refine gate_guard (by rfl) ?_; dsimp only)); refine bx_ 1 #[.string a0_0, .int .i64 a0_1, .string a0_2, .bool false, .int .i64 a0_4, .slice A0_5 l0_5.length c0_5, .slice A0_6 l0_6.length c0_6] 41 ?_; intro gb212 hg w7 hbox hb; have BK212 := q56.mk (hbox); have GW212 := zz_ (w := w) hg; have GE212 := zz_ (w := w) hg; replace HB := hb_ HB hb;  clear hb hbox hg; obtain ⟨hcz8_0, hcz8_1, hcz8_2, hcz8_3, hcz8_4, hcz8_5, hcz8_6, hfz8_0, hfz8_1, hfz8_2, hfz8_3, hfz8_4, hfz8_5, hfz8_6⟩ := bs7_ BK212))
  go_ret
  exact ⟨er_, hf_⟩
 rw [if_neg c3] at H
 have c3b0 : (a0_2.toList == ([] : List UInt8)) = false := beq_eq_false_iff_ne.mpr c3
 have c3b1 : (a0_2.toList != ([] : List UInt8)) = true := bne_iff_ne.mpr c3
 obtain rfl := Option.some.inj H
 go_enter Try.func57, Try.ntmps57
 go_wp2_with (first | ((with_reducible refine q71 (N := 1) rfl ?_); (try (refine gate_guard (by rfl) ?_; dsimp only)); refine bx_ 1 #[.string a0_0, .int .i64 a0_1, .string a0_2, .bool a0_3, .int .i64 a0_4, .slice A0_5 l0_5.length c0_5, .slice A0_6 l0_6.length c0_6] 41 ?_; intro gb212 hg w9 hbox hb; have BK212 := q56.mk (hbox); have GW212 := zz_ (w := w) hg; have GE212 := zz_ (w := w) hg; replace HB := hb_ HB hb;  clear hb hbox hg; obtain ⟨hcz10_0, hcz10_1, hcz10_2, hcz10_3, hcz10_4, hcz10_5, hcz10_6, hfz10_0, hfz10_1, hfz10_2, hfz10_3, hfz10_4, hfz10_5, hfz10_6⟩ := bs7_ BK212))
 go_ret
 exact ⟨er_, hf_⟩
def q33.f (a0 : Int) : Option (Bool) := if a0 ≥ 97 then (if a0 ≤ 122 then (some true) else (if a0 ≥ 65 then (if a0 ≤ 90 then (some true) else (some (a0 == 95))) else (some (a0 == 95)))) else (if a0 ≥ 65 then (if a0 ≤ 90 then (some true) else (some (a0 == 95))) else (some (a0 == 95)))
set_option maxHeartbeats 8000000 in
set_option maxRecDepth 100000 in
theorem q33.calls (a0 : Int) (r : Bool) (w : World) (h : q33.f a0 = some r) :
 Calls Try.prog 92 #[.int .u8 a0] w fun e w' => e = .returned (.bool r) ∧ Drawn0 w w' := by
 unfold q33.f at h
 have H := h
 clear h
 by_cases c2 : a0 ≥ 97
 ·rw [if_pos c2] at H
  replace c2 := decide_eq_true c2
  by_cases c3 : a0 ≤ 122
  ·rw [if_pos c3] at H
   replace c3 := decide_eq_true c3
   obtain rfl := Option.some.inj H
   go_enter Try.func92, Try.ntmps92
   go_wp2
   go_ret
   exact ⟨by first | rfl | (simp; done) | (simp [*]; done), by repeat (first | exact Drawn0.refl _ | apply Drawn0.step)⟩
  rw [if_neg c3] at H
  replace c3 := decide_eq_false c3
  by_cases c4 : a0 ≥ 65
  ·rw [if_pos c4] at H
   replace c4 := decide_eq_true c4
   by_cases c5 : a0 ≤ 90
   ·rw [if_pos c5] at H
    replace c5 := decide_eq_true c5
    obtain rfl := Option.some.inj H
    go_enter Try.func92, Try.ntmps92
    go_wp2
    go_ret
    exact ⟨by first | rfl | (simp; done) | (simp [*]; done), by repeat (first | exact Drawn0.refl _ | apply Drawn0.step)⟩
   rw [if_neg c5] at H
   replace c5 := decide_eq_false c5
   obtain rfl := Option.some.inj H
   go_enter Try.func92, Try.ntmps92
   go_wp2
   go_ret
   exact ⟨by first | rfl | (simp; done) | (simp [*]; done), by repeat (first | exact Drawn0.refl _ | apply Drawn0.step)⟩
  rw [if_neg c4] at H
  replace c4 := decide_eq_false c4
  obtain rfl := Option.some.inj H
  go_enter Try.func92, Try.ntmps92
  go_wp2
  go_ret
  exact ⟨by first | rfl | (simp; done) | (simp [*]; done), by repeat (first | exact Drawn0.refl _ | apply Drawn0.step)⟩
 rw [if_neg c2] at H
 replace c2 := decide_eq_false c2
 by_cases c6 : a0 ≥ 65
 ·rw [if_pos c6] at H
  replace c6 := decide_eq_true c6
  by_cases c7 : a0 ≤ 90
  ·rw [if_pos c7] at H
   replace c7 := decide_eq_true c7
   obtain rfl := Option.some.inj H
   go_enter Try.func92, Try.ntmps92
   go_wp2
   go_ret
   exact ⟨by first | rfl | (simp; done) | (simp [*]; done), by repeat (first | exact Drawn0.refl _ | apply Drawn0.step)⟩
  rw [if_neg c7] at H
  replace c7 := decide_eq_false c7
  obtain rfl := Option.some.inj H
  go_enter Try.func92, Try.ntmps92
  go_wp2
  go_ret
  exact ⟨by first | rfl | (simp; done) | (simp [*]; done), by repeat (first | exact Drawn0.refl _ | apply Drawn0.step)⟩
 rw [if_neg c6] at H
 replace c6 := decide_eq_false c6
 obtain rfl := Option.some.inj H
 go_enter Try.func92, Try.ntmps92
 go_wp2
 go_ret
 exact ⟨by first | rfl | (simp; done) | (simp [*]; done), by repeat (first | exact Drawn0.refl _ | apply Drawn0.step)⟩
def q42.f (a0 : Int) : Option (Bool) := (q33.f a0).bind fun t211 => (if t211 = true then (some true) else (if a0 ≥ 48 then (if a0 ≤ 57 then (some true) else (if a0 = 45 then (some true) else (some (a0 == 46)))) else (if a0 = 45 then (some true) else (some (a0 == 46)))))
set_option maxHeartbeats 8000000 in
set_option maxRecDepth 100000 in
theorem q42.calls (a0 : Int) (r : Bool) (w : World) (h : q42.f a0 = some r) :
 Calls Try.prog 93 #[.int .u8 a0] w fun e w' => e = .returned (.bool r) ∧ Drawn0 w w' := by
 unfold q42.f at h
 have H := h
 clear h
 replace H := bd_ H
 obtain ⟨t211, A2, H⟩ := H
 by_cases c3 : t211 = true
 ·subst c3
  replace H := it_ H
  obtain rfl := Option.some.inj H
  go_enter Try.func93, Try.ntmps93
  go_wp2_with (first | ((with_reducible refine q70 (f := 92) rfl ?_); refine gl_ (some 4) Try.func92 #[.int .u8 a0] ?_; (with_reducible refine (q33.calls a0 true _ A2.out).mono ?_); rintro e w' ⟨rfl, ⟨nd, rfl⟩⟩; refine ⟨_, rfl, ?_⟩))
  go_ret
  exact ⟨by first | rfl | (simp; done) | (simp [*]; done), by repeat (first | exact Drawn0.refl _ | apply Drawn0.step)⟩
 replace c3 := Bool.eq_false_iff.mpr c3
 subst c3
 replace H := ie_ H
 by_cases c4 : a0 ≥ 48
 ·rw [if_pos c4] at H
  replace c4 := decide_eq_true c4
  by_cases c5 : a0 ≤ 57
  ·rw [if_pos c5] at H
   replace c5 := decide_eq_true c5
   obtain rfl := Option.some.inj H
   go_enter Try.func93, Try.ntmps93
   go_wp2_with (first | ((with_reducible refine q70 (f := 92) rfl ?_); refine gl_ (some 4) Try.func92 #[.int .u8 a0] ?_; (with_reducible refine (q33.calls a0 false _ A2.out).mono ?_); rintro e w' ⟨rfl, ⟨nd, rfl⟩⟩; refine ⟨_, rfl, ?_⟩))
   go_ret
   exact ⟨by first | rfl | (simp; done) | (simp [*]; done), by repeat (first | exact Drawn0.refl _ | apply Drawn0.step)⟩
  rw [if_neg c5] at H
  replace c5 := decide_eq_false c5
  by_cases c6 : a0 = 45
  ·rw [if_pos c6] at H
   have c6b0 : (a0 == 45) = true := beq_iff_eq.mpr c6
   have c6b1 : (a0 != 45) = false := bne_eq_false_iff_eq.mpr c6
   clear c6
   obtain rfl := Option.some.inj H
   go_enter Try.func93, Try.ntmps93
   go_wp2_with (first | ((with_reducible refine q70 (f := 92) rfl ?_); refine gl_ (some 4) Try.func92 #[.int .u8 a0] ?_; (with_reducible refine (q33.calls a0 false _ A2.out).mono ?_); rintro e w' ⟨rfl, ⟨nd, rfl⟩⟩; refine ⟨_, rfl, ?_⟩))
   go_ret
   exact ⟨by first | rfl | (simp; done) | (simp [*]; done), by repeat (first | exact Drawn0.refl _ | apply Drawn0.step)⟩
  rw [if_neg c6] at H
  have c6b0 : (a0 == 45) = false := beq_eq_false_iff_ne.mpr c6
  have c6b1 : (a0 != 45) = true := bne_iff_ne.mpr c6
  obtain rfl := Option.some.inj H
  go_enter Try.func93, Try.ntmps93
  go_wp2_with (first | ((with_reducible refine q70 (f := 92) rfl ?_); refine gl_ (some 4) Try.func92 #[.int .u8 a0] ?_; (with_reducible refine (q33.calls a0 false _ A2.out).mono ?_); rintro e w' ⟨rfl, ⟨nd, rfl⟩⟩; refine ⟨_, rfl, ?_⟩))
  go_ret
  exact ⟨by first | rfl | (simp; done) | (simp [*]; done), by repeat (first | exact Drawn0.refl _ | apply Drawn0.step)⟩
 rw [if_neg c4] at H
 replace c4 := decide_eq_false c4
 by_cases c7 : a0 = 45
 ·rw [if_pos c7] at H
  have c7b0 : (a0 == 45) = true := beq_iff_eq.mpr c7
  have c7b1 : (a0 != 45) = false := bne_eq_false_iff_eq.mpr c7
  clear c7
  obtain rfl := Option.some.inj H
  go_enter Try.func93, Try.ntmps93
  go_wp2_with (first | ((with_reducible refine q70 (f := 92) rfl ?_); refine gl_ (some 4) Try.func92 #[.int .u8 a0] ?_; (with_reducible refine (q33.calls a0 false _ A2.out).mono ?_); rintro e w' ⟨rfl, ⟨nd, rfl⟩⟩; refine ⟨_, rfl, ?_⟩))
  go_ret
  exact ⟨by first | rfl | (simp; done) | (simp [*]; done), by repeat (first | exact Drawn0.refl _ | apply Drawn0.step)⟩
 rw [if_neg c7] at H
 have c7b0 : (a0 == 45) = false := beq_eq_false_iff_ne.mpr c7
 have c7b1 : (a0 != 45) = true := bne_iff_ne.mpr c7
 obtain rfl := Option.some.inj H
 go_enter Try.func93, Try.ntmps93
 go_wp2_with (first | ((with_reducible refine q70 (f := 92) rfl ?_); refine gl_ (some 4) Try.func92 #[.int .u8 a0] ?_; (with_reducible refine (q33.calls a0 false _ A2.out).mono ?_); rintro e w' ⟨rfl, ⟨nd, rfl⟩⟩; refine ⟨_, rfl, ?_⟩))
 go_ret
 exact ⟨by first | rfl | (simp; done) | (simp [*]; done), by repeat (first | exact Drawn0.refl _ | apply Drawn0.step)⟩
def letterB (a : Int) : Bool := decide ((97 ≤ a ∧ a ≤ 122) ∨ (65 ≤ a ∧ a ≤ 90) ∨ a = 95)
def moreB (a : Int) : Bool := letterB a || decide ((48 ≤ a ∧ a ≤ 57) ∨ a = 45 ∨ a = 46)
theorem letter_eq (a : Int) : q33.f a = some (letterB a) := by
 unfold q33.f letterB
 by_cases h1 : a ≥ 97 <;> by_cases h2 : a ≤ 122 <;> by_cases h3 : a ≥ 65 <;> by_cases h4 : a ≤ 90 <;> simp [h1, h2, h3, h4] <;> first | omega | (by_cases h5 : a = 95 <;> simp [h5] <;> omega)
theorem more_eq (a : Int) : q42.f a = some (moreB a) := by
  unfold q42.f moreB
  rw [letter_eq, Option.bind_some]
  cases letterB a with
  | true => simp
  | false =>
    by_cases h1 : a ≥ 48 <;> by_cases h2 : a ≤ 57 <;> by_cases h3 : a = 45 <;> simp [h1, h2, h3] <;> first | omega | (by_cases h5 : a = 46 <;> simp [h5] <;> omega)
def byteAt (s : ByteArray) (i : Nat) : Int := ((s.data.toList.getD i 0).toNat : Int)
def nameB (s : ByteArray) : Bool := decide (1 ≤ s.size ∧ s.size ≤ 12) && letterB (byteAt s 0) && (List.range s.size).all (fun i => moreB (byteAt s i))
def q55.f (a0 : ByteArray) : Option Bool := some (nameB a0)
theorem empty_size (s : ByteArray) : s.toList.isEmpty = decide (s.size = 0) := by
 rw [ByteArray.toList_eq, ← data_length]
 cases s.data.toList with
 | nil => rfl
 | cons x l => simp
theorem byteAt_get (s : ByteArray) (h : 0 < s.size) : ((s[0]'h).toNat : Int) = byteAt s 0 := by
 simp only [byteAt, List.getD_eq_getElem?_getD]
 rw [List.getElem?_eq_getElem (by simpa using h)]
 rfl
set_option maxHeartbeats 4000000 in
set_option maxRecDepth 100000 in
theorem q55.calls (a0 : ByteArray) (r : Bool) (w : World) (h : q55.f a0 = some r) :
    Calls Try.prog 84 #[.string a0] w fun e w' => e = .returned (.bool r) ∧ Below w.heap.size w w' := by
  obtain rfl := Option.some.inj h
  clear h
  by_cases h0 : a0.size = 0
  · have e1 : a0.toList.isEmpty = true := by rw [empty_size]; exact decide_eq_true h0
    have e2 : nameB a0 = false := by simp [nameB, h0]
    rw [e2]
    clear e2 h0
    go_enter Try.func84, Try.ntmps84
    go_wp2
    go_ret
    exact ⟨rfl, Below.refl _ _⟩
  have e1 : a0.toList.isEmpty = false := by rw [empty_size]; exact decide_eq_false h0
  by_cases h12 : 12 < a0.size
  · have e2 : nameB a0 = false := by simp [nameB]; omega
    rw [e2]
    clear e2 h0
    have h12' : (12 : Int) < a0.size := by omega
    go_enter Try.func84, Try.ntmps84
    go_wp2
    go_ret
    exact ⟨rfl, Below.refl _ _⟩
  have h12' : ¬ (12 : Int) < a0.size := by omega
  have hp : 0 < a0.size := by omega
  have hp' : (0 : Int) < a0.size := by omega
  have hl := fun (W : World) => q33.calls (byteAt a0 0) _ W (letter_eq _)
  have HL := Lib.hid hl
  clear hl
  have hb0 := byteAt_get a0 hp
  cases hq : letterB (byteAt a0 0) with
  | false =>
    have e2 : nameB a0 = false := by simp [nameB, hq]
    have hl := HL.out w
    rw [hq] at hl
    rw [e2]
    clear e2 hq h0 HL
    go_enter Try.func84, Try.ntmps84
    go_wp2_with (go_at_call 92; refine hl.mono ?_; rintro e w' ⟨rfl, ⟨nd, rfl⟩⟩)
    go_ret
    exact ⟨rfl, q75 (Below.refl _ _) _⟩
  | true =>
    have hl := HL.out w
    rw [hq] at hl
    have hconv := fun (W : World) => Lib.run_convert_string_bytes (P := Try.prog) W 9 119 5 a0 Try.underlying9 Try.underlying119 Try.underlying5
    obtain ⟨n, hn⟩ : ∃ n, n = a0.size := ⟨_, rfl⟩
    obtain ⟨T, hT⟩ : ∃ T, T = nameB a0 := ⟨_, rfl⟩
    have HT : Hid (T = (List.range n).all (fun i => moreB (byteAt a0 i))) := Lib.hid (by rw [hT, hn]; simp [nameB, hq]; omega)
    rw [← hT]
    clear hT hq
    have HN := Lib.hid hn
    clear hn
    go_enter Try.func84, Try.ntmps84
    go_wp2_with (go_at_call 92; refine hl.mono ?_; rintro e w' ⟨rfl, ⟨nd, rfl⟩⟩)
    have hs := Lib.bytesWorld_size (w.drewN nd) 5 a0
    obtain ⟨W1, hW1⟩ : ∃ W1, W1 = Lib.bytesWorld (w.drewN nd) 5 a0 := ⟨_, rfl⟩
    have B1 : Below w.heap.size w W1 := by
      rw [hW1]
      refine ⟨rfl, rfl, rfl, ?_, fun i hi => ?_⟩
      · rw [hs]; simp
      · exact Lib.bytesWorld_at_old (w.drewN nd) _ a0 i hi
    have C1 : ∀ j, j < n → W1.cell? ⟨w.heap.size, j, none⟩ = some (.int .u8 (byteAt a0 j)) := by
      intro j hj
      rw [hW1]
      exact Lib.bytesWorld_cell (w.drewN nd) 5 a0 j (by rw [← HN.out]; exact hj)
    have hlt1 : w.heap.size < W1.heap.size := by rw [hW1, hs]; simp
    rw [← hW1]
    rw [← HN.out] at h12' ⊢
    have hn12 : n ≤ 12 := by omega
    have BB := Lib.hid (And.intro B1 C1)
    clear hs hW1 B1 C1 hl hconv HL hb0 h12 hp hp' h0
    generalize grownCap (w.drewN nd) n 0 5 = cap
    go_loopg [21] n (fun gg s21 wr => ∃ kk : Nat, kk ≤ n ∧ n - kk ≤ gg ∧ s21 = .int .i64 kk ∧ Aside (Below W1.heap.size W1 wr) ∧ Aside (∀ j, j < kk → moreB (byteAt a0 j) = true))
    case atStart => exact ⟨0, Nat.zero_le _, by omega, rfl, Below.refl _ _, fun j hj => absurd hj (Nat.not_lt_zero _)⟩
    case round =>
      obtain ⟨kk, hkk, hg, rfl, BW, A⟩ := hrel
      have BE : Below w.heap.size w wr := q60 BB.out.1 BB.out.1.size BW.out
      have BEH := Lib.hid BE
      clear BE
      by_cases hlt : kk < n
      · have hltz : (kk : Int) < (n : Int) := by omega
        have hk12 : (kk : Int) ≤ 12 := by omega
        have hx : wr.cell? ⟨w.heap.size, kk, none⟩ = some (.int .u8 (byteAt a0 kk)) := (BW.out.cell hlt1).trans (BB.out.2 kk hlt)
        have hm := q42.calls (byteAt a0 kk) _ wr (more_eq _)
        cases hq : moreB (byteAt a0 kk) with
        | false =>
          rw [hq] at hm
          have e2 : T = false := by
            rw [HT.out, List.all_eq_false]
            exact ⟨kk, List.mem_range.2 hlt, by rw [hq]; simp⟩
          have HE := Lib.hid e2
          clear e2 hq
          go_wp2_with (go_at_call 93; refine hm.mono ?_; rintro e w' ⟨rfl, ⟨nd2, rfl⟩⟩)
          go_ret
          exact ⟨by rw [HE.out]; rfl, q75 BEH.out _⟩
        | true =>
          rw [hq] at hm
          have HQ := Lib.hid hq
          clear hq
          go_wp2_with (go_at_call 93; refine hm.mono ?_; rintro e w' ⟨rfl, ⟨nd2, rfl⟩⟩)
          go_roundg (n - (kk + 1))
          case measure => omega
          case rel =>
            refine ⟨kk + 1, by omega, by omega, by go_num, (show Aside _ from q75 BW.out _), (show Aside _ from fun j hj => ?_)⟩
            by_cases e : j = kk
            · subst e; exact HQ.out
            · exact A.out j (by omega)
      · have hltz : ¬ (kk : Int) < (n : Int) := by omega
        obtain rfl : kk = n := by omega
        have e2 : T = true := by
          rw [HT.out, List.all_eq_true]
          intro j hj
          exact A.out j (List.mem_range.1 hj)
        have HE := Lib.hid e2
        clear e2
        go_wp2
        go_ret
        exact ⟨by rw [HE.out]; rfl, BEH.out⟩
def nameOk (l : List ByteArray) (i : Nat) : Bool := nameB (rdOf ByteArray.empty l (i : Int)) && !memB (l.take i) (rdOf ByteArray.empty l (i : Int))
def namesB (l : List ByteArray) : Bool := (List.range l.length).all (nameOk l)
def q31.f (l0 : List ByteArray) : Option Bool := some (namesB l0)
set_option maxHeartbeats 8000000 in
set_option maxRecDepth 100000 in
theorem q31.calls (A0 : Option Addr) (c0 : Nat) (l0 : List ByteArray) (r : Bool) (w : World) (hr0 : Kd.C Kd.string w A0 l0.length l0) (hc0 : l0.length ≤ c0) (h : q31.f l0 = some r) :
    Calls Try.prog 55 #[.slice A0 l0.length c0] w fun e w' => e = .returned (.bool r) ∧ Below w.heap.size w w' := by
  obtain rfl := Option.some.inj h
  clear h
  have HR := Lib.hid hr0
  have hbig : l0.length ≤ 9223372036854775807 := hr0.2.1
  clear hr0
  obtain ⟨n, hn⟩ : ∃ n, n = l0.length := ⟨_, rfl⟩
  have HN := Lib.hid hn
  rw [← hn] at hc0 hbig ⊢
  clear hn
  go_enter Try.func55, Try.ntmps55
  go_wp2
  go_loopg [7] n (fun gg s7 wr => ∃ i : Nat, s7 = .int .i64 i ∧ i ≤ n ∧ n - i ≤ gg ∧ Hid (Below w.heap.size w wr ∧ ∀ j, j < i → nameOk l0 j = true))
  case atStart => exact ⟨0, rfl, Nat.zero_le _, by omega, Lib.hid ⟨Below.refl _ _, fun j hj => by omega⟩⟩
  case round =>
    obtain ⟨i, rfl, hin, hig, X⟩ := hrel
    by_cases hlt : i < n
    case neg =>
      have hltz : ¬ (i : Int) < (n : Int) := by omega
      obtain rfl : i = n := by omega
      have he : namesB l0 = true := by unfold namesB; rw [List.all_eq_true, ← HN.out]; intro j hj; exact X.out.2 j (List.mem_range.1 hj)
      have HE := Lib.hid he
      clear he
      go_wp2
      go_ret
      exact ⟨by rw [HE.out]; rfl, X.out.1⟩
    have hltz : (i : Int) < (n : Int) := by omega
    obtain ⟨ad, e, hx⟩ := Kd.at_string HR.out (i : Int) (by omega) (by have := HN.out; omega)
    cases e
    simp only [Int.toNat_natCast] at hx
    replace hx := q73 X.out.1 hx
    obtain ⟨x, hxx⟩ : ∃ x, x = rdOf ByteArray.empty l0 (i : Int) := ⟨_, rfl⟩
    rw [← hxx] at hx
    have hok : nameOk l0 i = (nameB x && !memB (l0.take i) x) := by rw [hxx]; rfl
    have HOK := Lib.hid hok
    clear hxx hok
    have hnm := q55.calls x _ wr rfl
    have hic : i ≤ c0 := by omega
    have hic2 : (i : Int) ≤ (c0 : Int) := by omega
    have hi0 : (0 : Int) ≤ (i : Int) := by omega
    cases hq : nameB x with
    | false =>
      have he : namesB l0 = false := by unfold namesB; exact List.all_eq_false.2 ⟨i, List.mem_range.2 (by have := HN.out; omega), by rw [HOK.out, hq]; simp⟩
      have HE := Lib.hid he
      rw [hq] at hnm
      clear he hq
      go_wp2_with (go_at_call 84; refine hnm.mono ?_; rintro e w' ⟨rfl, hb'⟩)
      go_ret
      exact ⟨by rw [HE.out]; rfl, q72 hb' X.out.1⟩
    | true =>
      rw [hq] at hnm HOK
      clear hq
      go_wp2_with fail
      go_at_call 84
      refine hnm.mono ?_
      rintro e w' ⟨rfl, hb'⟩
      have el : (l0.take i).length = i := by rw [List.length_take]; have := HN.out; omega
      have hct := q7.calls (n + 1) (some ad) c0 (l0.take i) x _ w' (Kd.C_below (Kd.C_below (Kd.C_take HR.out (show i ≤ l0.length by have := HN.out; omega)) X.out.1) hb') (by rw [el]; omega) (contains_eq (l0.take i) x (by rw [el]; omega) (n + 1) (by rw [el]; omega))
      rw [el] at hct
      have HB := Lib.hid (q72 hb' X.out.1)
      clear hb' el hnm
      cases hq2 : memB (l0.take i) x with
      | true =>
        have he : namesB l0 = false := by unfold namesB; exact List.all_eq_false.2 ⟨i, List.mem_range.2 (by have := HN.out; omega), by rw [HOK.out, hq2]; simp⟩
        have HE := Lib.hid he
        rw [hq2] at hct
        clear he hq2
        go_wp2_with (go_at_call 85; refine hct.mono ?_; rintro e w2 ⟨rfl, ⟨nd, rfl⟩⟩)
        go_ret
        exact ⟨by rw [HE.out]; rfl, q75 HB.out _⟩
      | false =>
        rw [hq2] at hct HOK
        clear hq2
        go_wp2_with (go_at_call 85; refine hct.mono ?_; rintro e w2 ⟨rfl, ⟨nd, rfl⟩⟩)
        go_roundg (n - (i + 1))
        case measure => omega
        case rel =>
          refine ⟨i + 1, by go_num, by omega, by omega, Lib.hid ⟨q75 HB.out _, fun j hj => ?_⟩⟩
          by_cases e : j = i
          · subst e; rw [HOK.out]; rfl
          · exact X.out.2 j (by omega)
def idxP (s : ByteArray) (y : ByteArray) : Bool := s.toList == y.toList
theorem index_at (l : List ByteArray) (s : ByteArray) (hn : l.length ≤ 9223372036854775807) (d : Nat) : ∀ (i k : Nat), i + d = l.length → d < k → (∀ j, j < i → idxP s (l.getD j ByteArray.empty) = false) → q8.l0 k l s l.length i = some (fidx (idxP s) l) := by
  induction d with
  | zero =>
    intro i k hi hk hno
    obtain ⟨k, rfl⟩ : ∃ m, k = m + 1 := ⟨k - 1, by omega⟩
    simp only [q8.l0]
    rw [if_neg (by omega), fidx_miss (idxP s) l ByteArray.empty (fun j hj => hno j (by omega))]
  | succ d ih =>
    intro i k hi hk hno
    obtain ⟨k, rfl⟩ : ∃ m, k = m + 1 := ⟨k - 1, by omega⟩
    have hlt : i < l.length := by omega
    have hg : l.getD i ByteArray.empty = l[i] := by rw [List.getD_eq_getElem?_getD, List.getElem?_eq_getElem hlt]; rfl
    simp only [q8.l0]
    rw [if_pos (by omega), if_pos (by omega), if_pos (by omega), rdOf_get _ _ _ hlt]
    by_cases he : s.toList = l[i].toList
    · rw [if_pos he, fidx_hit (idxP s) l i ByteArray.empty hlt (by rw [hg]; simpa [idxP] using he) hno]
    · rw [if_neg he, wrap_lt (n := (l.length : Int)) (by omega) (by omega) (by omega)]
      refine ih (i + 1) k (by omega) (by omega) (fun j hj => ?_)
      by_cases e : j = i
      · subst e; rw [hg]; simpa [idxP] using he
      · exact hno j (by omega)
theorem index_eq (l : List ByteArray) (s : ByteArray) (hn : l.length ≤ 9223372036854775807) (k : Nat) (hk : l.length < k) : q8.f k l s = some (fidx (idxP s) l) :=
 index_at l s hn l.length 0 k (by omega) hk (fun j hj => by omega)
def stkStep (l : List (S41)) (i : Nat) (st : List ByteArray) : Option (List ByteArray) :=
 if i = 0 then some (st ++ [(q81 l i).f0]) else
  let t := st.take (fidx (idxP (q81 l i).f2) st + 1).toNat
  if t.length = 0 ∨ 5 < t.length ∨ (q81 l (q74 l (q81 l i).f2)).f1 ≠ 1 then none else some (t ++ [(q81 l i).f0])
def stk (l : List (S41)) : Nat → Option (List ByteArray)
 | 0 => some []
 | i + 1 => (stk l i).bind (stkStep l i)
def standsB (l : List (S41)) : Bool := (stk l l.length).isSome
def q37.f (l0_0 : List ByteArray) (l0_1 : List (S41)) : Option Bool := some (standsB l0_1)
theorem stk_none (l : List (S41)) (i : Nat) (h : stk l i = none) : ∀ d, stk l (i + d) = none := by
 intro d
 induction d with
 | zero => exact h
 | succ d ih => show (stk l (i + d)).bind _ = none; rw [ih]; rfl
theorem stk_false (l : List (S41)) (i : Nat) (hi : i < l.length) (st : List ByteArray) (h : stk l i = some st) (h2 : stkStep l i st = none) : standsB l = false := by
 have h3 : stk l (i + 1) = none := by show (stk l i).bind _ = none; rw [h]; exact h2
 have h4 := stk_none l (i + 1) h3 (l.length - (i + 1))
 rw [show i + 1 + (l.length - (i + 1)) = l.length by omega] at h4
 unfold standsB
 rw [h4]; rfl
theorem stkStep_length (l : List (S41)) (i : Nat) (st st' : List ByteArray) (h : stkStep l i st = some st') (hs : i = 0 → st = []) : 0 < st'.length ∧ st'.length ≤ 6 := by
 unfold stkStep at h
 split at h
 ·rename_i h0
  obtain rfl := Option.some.inj h
  rw [hs h0]; simp
 simp only at h
 split at h
 ·cases h
 rename_i h1
 obtain rfl := Option.some.inj h
 simp only [List.length_append, List.length_singleton]
 omega
theorem stkStep_mem (l : List (S41)) (i : Nat) (hi : i < l.length) (st st' : List ByteArray) (h : stkStep l i st = some st') (hm : ∀ s ∈ st, ∃ y ∈ l, y.f0 = s) : ∀ s ∈ st', ∃ y ∈ l, y.f0 = s := by
 have hx : q81 l (i : Int) ∈ l := by
  simp [q81, List.getD_eq_getElem?_getD, List.getElem?_eq_getElem hi]
 unfold stkStep at h
 split at h
 ·obtain rfl := Option.some.inj h
  intro s hs
  rcases List.mem_append.1 hs with hs | hs
  ·exact hm s hs
  ·rw [List.mem_singleton.1 hs]; exact ⟨_, hx, rfl⟩
 simp only at h
 split at h
 ·cases h
 obtain rfl := Option.some.inj h
 intro s hs
 rcases List.mem_append.1 hs with hs | hs
 ·exact hm s (List.mem_of_mem_take hs)
 ·rw [List.mem_singleton.1 hs]; exact ⟨_, hx, rfl⟩
theorem stk_facts (l : List (S41)) (i : Nat) (hi : i ≤ l.length) (st : List ByteArray) (h : stk l i = some st) : st.length ≤ 6 ∧ (0 < i → 0 < st.length) ∧ (i = 0 → st = []) ∧ ∀ s ∈ st, ∃ y ∈ l, y.f0 = s := by
  induction i generalizing st with
  | zero =>
    obtain rfl := Option.some.inj h
    exact ⟨by simp, by omega, fun _ => rfl, by simp⟩
  | succ i ih =>
    have h' : (stk l i).bind (stkStep l i) = some st := h
    obtain ⟨s0, hs0, h2⟩ := Option.bind_eq_some_iff.1 h'
    obtain ⟨_, _, h0, hm⟩ := ih (by omega) s0 hs0
    have hl := stkStep_length l i s0 st h2 h0
    exact ⟨hl.2, fun _ => hl.1, by omega, stkStep_mem l i (by omega) s0 st h2 hm⟩
theorem place_mem (l : List (S41)) (id : ByteArray) (h : ∃ y ∈ l, y.f0.toList = id.toList) : 0 ≤ q74 l id := by
 obtain ⟨y, hy, he⟩ := h
 have ha := fidx_any (q39.p id) l
 have h2 : l.any (q39.p id) = true := List.any_eq_true.2 ⟨y, hy, by simpa [q39.p] using he⟩
 rw [h2] at ha
 exact of_decide_eq_true ha
theorem stk_hit (l : List (S41)) (s : ByteArray) (st : List ByteArray) (hm : ∀ s ∈ st, ∃ y ∈ l, y.f0 = s) (j : Nat) (hj : fidx (idxP s) st = j) : j < st.length ∧ 0 ≤ q74 l s := by
  have hlt := fidx_lt (idxP s) st
  have hjl : j < st.length := by omega
  refine ⟨hjl, place_mem l s ?_⟩
  unfold fidx at hj
  cases h : st.findIdx? (idxP s) with
  | none => rw [h] at hj; simp only at hj; omega
  | some q =>
    obtain ⟨hq, hp, _⟩ := List.findIdx?_eq_some_iff_getElem.1 h
    obtain ⟨y, hy, he⟩ := hm st[q] (List.getElem_mem hq)
    exact ⟨y, hy, by rw [he]; unfold idxP at hp; exact (by simpa using hp : s.toList = st[q].toList).symm⟩
theorem info_str : (Try.prog.info? 9).map (fun i => (i.zero, i.size, i.bytes)) = some (some (.string ⟨#[]⟩), 1, 16) := by kernel_rfl
theorem append_full (B : Nat) (W : World) (A : Option Addr) (st : List ByteArray) (x : ByteArray) (hC : Kd.C Kd.string W A st.length st) (hs : st.length ≤ 6) (hB : B ≤ W.heap.size) :
    ∃ v' w', (Builtin.append_ #[22, 22] 22 #[.slice A st.length st.length, .slice (some ⟨W.heap.size, 0, none⟩) 1 1]).run Try.prog (W.alloc (.cells #[.string x] 9)) = .ok v' w' ∧ Kd.R Kd.string 9 w' B (fun _ => True) v' (st ++ [x]) ∧ Below W.heap.size W w' := by
  obtain ⟨i0, hi0, hz0, hz1, hz2⟩ := info_parts info_str
  have hnew : ∀ (j : Nat) (u : Value), [Value.string x][j]? = some u → (W.alloc (.cells #[.string x] 9)).cell? ((⟨W.heap.size, 0, none⟩ : Addr).add j) = some u := World.news_of_block (cs := #[.string x]) (t := 9) (fr := (0, 0)) (heap_alloc_new W _)
  have hsz : (W.alloc (.cells #[.string x] 9)).heap.size = W.heap.size + 1 := by simp
  have hba := q57 (Below.refl W.heap.size W) (.cells #[.string x] 9)
  cases A with
  | none =>
    have h0 : st.length = 0 := by
      rcases Nat.eq_zero_or_pos st.length with h0 | h0
      · exact h0
      · obtain ⟨ad, h, _⟩ := hC.2.2 h0
        cases h
    obtain rfl := List.eq_nil_of_length_eq_zero h0
    obtain ⟨v', w', hr, ho, hg, _, hat⟩ := run_append_own_at (P := Try.prog) (w := W.alloc (.cells #[.string x] 9)) B 22 22 9 i0 (.string ⟨#[]⟩) 1 16 Try.underlying22 hi0 hz0 hz1 hz2 rfl (by decide) (.slice none 0 0) 0 [] (World.ownsRow_nil _ _ _ _) ⟨W.heap.size, 0, none⟩ 1 1 [.string x] rfl hnew (by simp [Value.oneCell']) (by simp [maxLen]) (by omega) (by omega)
    refine ⟨v', w', hr, Kd.R_of_own (by simpa [encs] using ho) (fun _ _ => trivial), ?_⟩
    exact hba.grown hg (by omega) (by simp [Value.ownBlock])
  | some ad =>
    have hold : ∀ (j : Nat) (u : Value), (encs Value.string st)[j]? = some u → (W.alloc (.cells #[.string x] 9)).cell? (ad.add j) = some u := by
      intro j u hj
      have hjl : j < st.length := by simpa [encs] using (List.getElem?_eq_some_iff.1 hj).1
      obtain ⟨ad', c, e, _, hK, hcc⟩ := Kd.C_get hC ByteArray.empty (j : Int) (by omega) (by omega)
      cases e
      obtain rfl : c = [.string (st.getD j ByteArray.empty)] := hK
      have h1 := hcc 0 _ rfl
      have hu : u = .string (st.getD j ByteArray.empty) := by
        simp [encs, List.getElem?_map, List.getElem?_eq_getElem hjl] at hj
        rw [List.getD_eq_getElem?_getD, List.getElem?_eq_getElem hjl]
        exact hj.symm
      rw [hu]
      exact q73 hba (by simpa [Kd.string, Kd.scalar] using h1)
    obtain ⟨v', w', hr, ho, hg⟩ := run_append_arg_grows (P := Try.prog) (w := W.alloc (.cells #[.string x] 9)) 22 22 9 i0 (.string ⟨#[]⟩) 1 16 Try.underlying22 hi0 hz0 hz1 hz2 rfl (by decide) ad st.length st.length (encs Value.string st) (by simp [encs]) hold ⟨W.heap.size, 0, none⟩ 1 1 [.string x] rfl hnew (by omega) (by simp [maxLen]; omega) (by omega)
    refine ⟨v', w', hr, Kd.R_of_own (own_weaken (by simpa [encs] using ho) (by omega)) (fun _ _ => trivial), ?_⟩
    exact hba.grown hg (by omega) (by simp)
theorem app_event {P : Program} {o : Oper} {a : Act} {W w1 : World} {s x : Operand} {t : TypeId} {v u v1 : Value} (ho : o.op = .call { callee := .builtin .append, args := #[s, x], argTypes := #[t, t] }) (hs : a.eval s = v) (hx : a.eval x = u) (hr : (Builtin.append_ #[t, t] o.type #[v, u]).run P W = .ok v1 w1) : (execOp a.eval o).run P W = .ok (.value v1) w1 := by
 unfold execOp
 simp only [ho, resolve, invoke, builtin, Sem.run_bind, Sem.run_pure, Result.andThen_ok, List.map_toArray, List.map_cons, List.map_nil, hs, hx, hr]
theorem fidx_neg {α : Type} (p : α → Bool) (l : List α) (h : fidx p l < 0) : fidx p l = -1 := by
 unfold fidx at h ⊢
 cases e : l.findIdx? p with
 | none => rfl
 | some i => rw [e] at h; simp only at h; omega
set_option maxHeartbeats 16000000 in
set_option maxRecDepth 100000 in
theorem q37.calls (A0_0 : Option Addr) (c0_0 : Nat) (l0_0 : List ByteArray) (A0_1 : Option Addr) (c0_1 : Nat) (l0_1 : List (S41)) (r : Bool) (w : World) (hr0_0 : Kd.C Kd.string w A0_0 l0_0.length l0_0) (hc0_0 : l0_0.length ≤ c0_0) (hr0_1 : Kd.C k41 w A0_1 l0_1.length l0_1) (hc0_1 : l0_1.length ≤ c0_1) (h : q37.f l0_0 l0_1 = some r) :
 Calls Try.prog 58 #[.agg #[.slice A0_0 l0_0.length c0_0, .slice A0_1 l0_1.length c0_1]] w fun e w' => e = .returned (.bool r) ∧ Below w.heap.size w w' := by
 obtain rfl := Option.some.inj h
 clear h
 have hu36 := Try.underlying25
 have hu32 := Try.underlying41
 have HR := Lib.hid (And.intro hr0_0 hr0_1)
 have hbig : l0_1.length ≤ 9223372036854775807 := hr0_1.2.1
 clear hr0_0 hr0_1
 obtain ⟨n, hn⟩ : ∃ n, n = l0_1.length := ⟨_, rfl⟩
 have HN := Lib.hid hn
 rw [← hn] at hc0_1 hbig ⊢
 clear hn
 go_enter Try.func58, Try.ntmps58
 go_wp2
 obtain ⟨W1, hW1⟩ : ∃ W1, W1 = w.alloc (.cells #[.slice A0_0 l0_0.length c0_0, .slice A0_1 n c0_1] 25) := ⟨_, rfl⟩
 have hb1 : Below w.heap.size w W1 := by rw [hW1]; exact q57 (Below.refl _ _) _
 have hm0 : W1.cell? ⟨w.heap.size, 0, none⟩ = some (.slice A0_0 l0_0.length c0_0) := by rw [hW1]; simp
 have hm1 : W1.cell? ⟨w.heap.size, 1, none⟩ = some (.slice A0_1 n c0_1) := by rw [hW1]; simp
 have hsz : W1.heap.size = w.heap.size + 1 := by rw [hW1]; simp
 rw [← hW1]
 have H1 := Lib.hid (And.intro hb1 (And.intro hm0 (And.intro hm1 hsz)))
 clear hW1 hb1 hm0 hm1 hsz
 go_loopg [3, 9] n (fun gg s3 s9 wr => ∃ (i : Nat) (v : Value) (st : List ByteArray), s9 = .int .i64 i ∧ s3 = v ∧ i ≤ n ∧ n - i ≤ gg ∧ Hid (stk l0_1 i = some st ∧ Kd.R Kd.string 9 wr W1.heap.size (fun _ => True) v st ∧ Below W1.heap.size W1 wr))
 case atStart => exact ⟨0, _, [], rfl, rfl, Nat.zero_le _, by omega, Lib.hid ⟨rfl, Kd.R_nil _ _ _ _ _, Below.refl _ _⟩⟩
 case round =>
 obtain ⟨i, v, st, rfl, rfl, hin, hig, X⟩ := hrel
 have hbw : Below w.heap.size w wr := q60 H1.out.1 H1.out.1.size X.out.2.2
 have HBW := Lib.hid hbw
 clear hbw
 by_cases hlt : i < n
 case neg =>
  have hltz : ¬ (i : Int) < (n : Int) := by omega
  obtain rfl : i = n := by omega
  have he : standsB l0_1 = true := by unfold standsB; rw [← HN.out, X.out.1]; rfl
  have HE := Lib.hid he
  clear he
  go_wp2
  go_ret
  exact ⟨by rw [HE.out]; rfl, HBW.out⟩
 have hltz : (i : Int) < (n : Int) := by omega
 obtain ⟨ad, B5, d5, B6, d6, e, hx0, hx1, hx2, hx3, hx4, hx5, hx6, _, _, _, _⟩ := at_T41 HR.out.2 (i : Int) (by omega) (by have := HN.out; omega)
 cases e
 simp only [Int.toNat_natCast] at hx0 hx1 hx2 hx3 hx4 hx5 hx6
 obtain ⟨x, hx⟩ : ∃ x, x = q81 l0_1 (i : Int) := ⟨_, rfl⟩
 rw [← hx] at hx0 hx1 hx2 hx3 hx4 hx5 hx6
 have HX := Lib.hid hx
 clear hx
 replace hx0 := q73 HBW.out hx0
 replace hx1 := q73 HBW.out hx1
 replace hx2 := q73 HBW.out hx2
 replace hx3 := q73 HBW.out hx3
 replace hx4 := q73 HBW.out hx4
 replace hx5 := q73 HBW.out hx5
 replace hx6 := q73 HBW.out hx6
 obtain ⟨st1, st2, st3, st4⟩ := stk_facts l0_1 i (by have := HN.out; omega) st X.out.1
 have HS := Lib.hid (And.intro st1 (And.intro st2 (And.intro st3 st4)))
 clear st1 st2 st3 st4
 obtain ⟨A, cc, rfl, hlc, hCst⟩ := Kd.R_reads X.out.2.1
 have HC := Lib.hid hCst
 clear hCst
 have hsl : (st.length : Int) ≤ 6 := by have := HS.out.1; omega
 -- the world behind the box of x, and what it holds
 have key : ∃ W2, W2 = wr.alloc (.cells #[.string x.f0, .int .i64 x.f1, .string x.f2, .bool x.f3, .int .i64 x.f4, .slice B5 x.f5.length d5, .slice B6 x.f6.length d6] 41) ∧ Below wr.heap.size wr W2 ∧ W2.cell? ⟨wr.heap.size, 0, none⟩ = some (.string x.f0) ∧ W2.cell? ⟨wr.heap.size, 2, none⟩ = some (.string x.f2) := ⟨_, rfl, q57 (Below.refl _ _) _, by simp, by simp⟩
 obtain ⟨W2, hW2, hb2, hid0, hp2⟩ := key
 have hlo : w.heap.size + 1 ≤ wr.heap.size := by have := X.out.2.2.size; have := H1.out.2.2.2; omega
 have hm0 : W2.cell? ⟨w.heap.size, 0, none⟩ = some (.slice A0_0 l0_0.length c0_0) := q73 hb2 ((X.out.2.2.cell (p := ⟨_, _, none⟩) (by simp only; have := H1.out.2.2.2; omega)).trans H1.out.2.1)
 have hm1 : W2.cell? ⟨w.heap.size, 1, none⟩ = some (.slice (some ad) n c0_1) := q73 hb2 ((X.out.2.2.cell (p := ⟨_, _, none⟩) (by simp only; have := H1.out.2.2.2; omega)).trans H1.out.2.2.1)
 have hbw2 : Below w.heap.size w W2 := q72 hb2 HBW.out
 have F2 := Lib.hid (And.intro hb2 (And.intro hm0 (And.intro hm1 (And.intro hbw2 (And.intro hid0 hp2)))))
 have HW2 := Lib.hid hW2
 clear hb2 hid0 hp2 hm0 hm1 hbw2 hW2
 by_cases hi0 : i = 0
 ·have hnp : ¬ 0 < i := by omega
  have HI := Lib.hid hi0
  clear hi0
  obtain ⟨m, hm⟩ : ∃ m, m = st.length := ⟨_, rfl⟩
  have HM := Lib.hid hm
  rw [← hm] at hlc hsl ⊢
  clear hm
  have hm6 : m ≤ cc := hlc
  have hmz : (0 : Int) ≤ (m : Int) := by omega
  have hmc : (m : Int) ≤ (cc : Int) := by omega
  go_wp2
  rw [← HW2.out]
  clear hx0 hx1 hx2 hx3 hx4 hx5 hx6
  obtain ⟨W5, hW5⟩ : ∃ W, W = W2 := ⟨_, rfl⟩
  have hid0 : W5.cell? ⟨wr.heap.size, 0, none⟩ = some (.string x.f0) := by rw [hW5]; exact F2.out.2.2.2.2.1
  have hb5 : Below wr.heap.size wr W5 := by rw [hW5]; exact F2.out.1
  rw [← hW5]
  clear hW5
  have happ := fun (W6 : World) (h6 : Below W5.heap.size W5 W6) => append_full W1.heap.size W6 A st x.f0 (Kd.C_below (Kd.C_below HC.out hb5) h6) (by have := HS.out.1; omega) (by have := X.out.2.2.size; have := hb5.size; have := h6.size; omega)
  rw [← HM.out] at happ
  refine st_ (fun w' => w'.cell? ⟨wr.heap.size, 0, none⟩ = some (.string x.f0) ∧ Below W5.heap.size W5 w') 11 ⟨hid0, q58 (Below.refl _ _)⟩ (fun hHeld => ?_)
  generalize W5.drew = W6 at hHeld ⊢
  refine pu_ 0 (some 43) ?_
  refine pu_ 1 (some 44) ?_
  refine pu_ 2 (some 45) ?_
  refine pu_ 3 (some 46) ?_
  refine pu_ 4 (some 47) ?_
  refine pu_ 5 (some 48) ?_
  refine pu_ 6 (some 49) ?_
  refine tk_ 7 (some 50) hHeld ?_ (hy := by rintro w' ⟨s0, _⟩; go_simp; with_reducible rfl)
  refine oN_ 8 (some 51) (fun K hK => ?_)
  refine event_step (by rfl) (v := .slice (some ⟨W6.heap.size, 0, none⟩) 1 1) (w1 := W6.alloc (.cells #[.string x.f0] 9)) ?_ ?_
  ·go_simp
  refine hK.out _ _ ⟨q73 (q57 (Below.refl _ _) _) hHeld.1, q72 (q57 (Below.refl _ _) _) hHeld.2⟩ (fun hHeld2 => ?_)
  clear hK K
  refine nz_ (some 51) ?_
  obtain ⟨v9, w9, hrun9, hR9, hB9⟩ := happ W6 hHeld.2
  refine oN_ 9 (some 52) (fun K hK => ?_)
  refine event_step (by rfl) (v := v9) (w1 := w9) ?_ ?_
  ·exact app_event rfl rfl rfl hrun9
  refine hK.out _ _ ⟨q73 hB9 hHeld.1, q72 hB9 hHeld.2⟩ (fun hHeld3 => ?_)
  clear hK K
  refine nz_ (some 52) ?_
  refine pu_ 10 (some 3) ?_
  refine dn_ ?_
  have hnext : stk l0_1 (i + 1) = some (st ++ [x.f0]) := by
   show (stk l0_1 i).bind _ = _
   rw [X.out.1]
   show stkStep l0_1 i st = _
   unfold stkStep
   rw [if_pos HI.out, ← HX.out]
  have hbe : Below W1.heap.size W1 w9 := q60 (q60 X.out.2.2 X.out.2.2.size hb5) (q60 X.out.2.2 X.out.2.2.size hb5).size hHeld3.2
  have XX := Lib.hid (And.intro hnext (And.intro hR9 hbe))
  clear hnext hbe hHeld hHeld2 hHeld3 hrun9 hR9 hB9 happ hid0
  go_wp2
  go_roundg (n - (i + 1))
  case measure => omega
  case rel => exact ⟨i + 1, v9, st ++ [x.f0], by go_num, rfl, by omega, by omega, XX⟩
 have hipos : 0 < i := by omega
 clear hi0
 have hidx := q8.calls (st.length + 1) A cc st x.f2 _ W2 (Kd.C_below HC.out F2.out.1) hlc (index_eq st x.f2 (by have := HS.out.1; omega) (st.length + 1) (by omega))
 by_cases hneg : fidx (idxP x.f2) st < 0
 ·have e1 := fidx_neg _ _ hneg
  have he : standsB l0_1 = false := stk_false l0_1 i (by have := HN.out; omega) st X.out.1 (by
   unfold stkStep
   rw [if_neg (by omega), ← HX.out, e1]
   simp)
  have HE := Lib.hid he
  rw [e1] at hidx
  clear e1 hneg he
  go_wp2_with fail
  rw [← HW2.out]
  clear hx0 hx1 hx2 hx3 hx4 hx5 hx6
  refine hidx.mono ?_
  rintro e w3 ⟨rfl, ⟨nd, rfl⟩⟩
  obtain ⟨W3, hW3⟩ : ∃ W, W = W2.drewN nd := ⟨_, rfl⟩
  have hb3 : Below W2.heap.size W2 W3 := by rw [hW3]; exact q75 (Below.refl _ _) _
  rw [← hW3]
  clear hW3
  have hm0 := q73 hb3 F2.out.2.1
  have hm1 := q73 hb3 F2.out.2.2.1
  have hp2 := q73 hb3 F2.out.2.2.2.2.2
  have hbw3 := q72 hb3 F2.out.2.2.2.1
  have HB3 := Lib.hid hbw3
  clear hidx hb3 hbw3
  go_wp2
  refine st_ (fun w' => (w'.cell? ⟨w.heap.size, 0, none⟩ = some (.slice A0_0 l0_0.length c0_0) ∧ w'.cell? ⟨w.heap.size, 1, none⟩ = some (.slice (some ad) n c0_1) ∧ w'.cell? ⟨wr.heap.size, 2, none⟩ = some (.string x.f2)) ∧ Below W3.heap.size W3 w') 20 ⟨⟨hm0, hm1, hp2⟩, q58 (Below.refl _ _)⟩ (fun hHeld => ?_)
  generalize W3.drew = W4 at hHeld ⊢
  refine pu_ 0 (some 23) ?_
  refine pu_ 1 (some 24) ?_
  refine pu_ 2 (some 25) ?_
  refine pu_ 3 (some 26) ?_
  refine sk_ 4 (some 27) ?_
  refine sk_ 5 (some 28) ?_
  refine sk_ 6 (some 29) ?_
  refine pu_ 7 (some 30) ?_
  refine pu_ 8 (some 31) ?_
  refine sk_ 9 (some 32) ?_
  refine sk_ 10 (some 33) ?_
  refine sk_ 11 (some 34) ?_
  refine sk_ 12 (some 35) ?_
  refine sk_ 13 (some 36) ?_
  refine sk_ 14 (some 37) ?_
  refine sk_ 15 (some 38) ?_
  refine sk_ 16 (some 39) ?_
  refine sk_ 17 (some 40) ?_
  refine sk_ 18 (some 41) ?_
  refine pu_ 19 (some 42) ?_
  refine dn_ ?_
  have hfin := q72 hHeld.2 HB3.out
  have HF := Lib.hid hfin
  clear hHeld hfin
  go_wp2
  go_ret
  exact ⟨by rw [HE.out]; rfl, HF.out⟩
 obtain ⟨j, hj⟩ : ∃ j : Nat, fidx (idxP x.f2) st = j := ⟨(fidx (idxP x.f2) st).toNat, by omega⟩
 obtain ⟨hjl, hpl0⟩ := stk_hit l0_1 x.f2 st HS.out.2.2.2 j hj
 rw [hj] at hidx
 have HJ := Lib.hid hj
 clear hj hneg
 have htk : (st.take (fidx (idxP x.f2) st + 1).toNat) = st.take (j + 1) := by rw [HJ.out]; congr 1
 have hlen : (st.take (j + 1)).length = j + 1 := by rw [List.length_take]; omega
 have HT := Lib.hid (And.intro htk hlen)
 clear htk hlen
 have hj0 : (0 : Int) ≤ (j : Int) := by omega
 have hj6 : (j : Int) < 6 := by have := HS.out.1; omega
 have hjs : j + 1 ≤ st.length := by omega
 have hjs2 : (j : Int) + 1 ≤ (st.length : Int) := by omega
 have hjc : j + 1 ≤ cc := by omega
 have hjc2 : (j : Int) + 1 ≤ (cc : Int) := by omega
 have hd0 : ((j : Int) + 1 == 0) = false := by
  have : (j : Int) + 1 ≠ 0 := by omega
  simpa using this
 go_wp2_with fail
 rw [← HW2.out]
 clear hx0 hx1 hx2 hx3 hx4 hx5 hx6
 refine hidx.mono ?_
 rintro e w3 ⟨rfl, ⟨nd, rfl⟩⟩
 obtain ⟨W3, hW3⟩ : ∃ W, W = W2.drewN nd := ⟨_, rfl⟩
 have hb3 : Below W2.heap.size W2 W3 := by rw [hW3]; exact q75 (Below.refl _ _) _
 rw [← hW3]
 clear hW3
 have hm0 := q73 hb3 F2.out.2.1
 have hm1 := q73 hb3 F2.out.2.2.1
 have hp2 := q73 hb3 F2.out.2.2.2.2.2
 have hbw3 := q72 hb3 F2.out.2.2.2.1
 have HB3 := Lib.hid (And.intro hb3 hbw3)
 clear hidx hb3
 go_wp2
 by_cases h5 : 5 < j + 1
 ·have hd5 : decide (5 < (j : Int) + 1) = true := decide_eq_true (by omega)
  have he : standsB l0_1 = false := stk_false l0_1 i (by have := HN.out; omega) st X.out.1 (by
   unfold stkStep
   rw [if_neg (by omega), ← HX.out]
   simp only
   rw [HT.out.1, HT.out.2, if_pos (.inr (.inl h5))])
  have HE := Lib.hid he
  clear he
  refine st_ (fun w' => (w'.cell? ⟨w.heap.size, 0, none⟩ = some (.slice A0_0 l0_0.length c0_0) ∧ w'.cell? ⟨w.heap.size, 1, none⟩ = some (.slice (some ad) n c0_1) ∧ w'.cell? ⟨wr.heap.size, 2, none⟩ = some (.string x.f2)) ∧ Below W3.heap.size W3 w') 20 ⟨⟨hm0, hm1, hp2⟩, q58 (Below.refl _ _)⟩ (fun hHeld => ?_)
  generalize W3.drew = W4 at hHeld ⊢
  refine pu_ 0 (some 23) ?_
  refine pu_ 1 (some 24) ?_
  refine pu_ 2 (some 25) ?_
  refine pu_ 3 (some 26) ?_
  refine pu_ 4 (some 27) ?_
  refine pu_ 5 (some 28) ?_
  refine pu_ 6 (some 29) ?_
  refine pu_ 7 (some 30) ?_
  refine pu_ 8 (some 31) ?_
  refine sk_ 9 (some 32) ?_
  refine sk_ 10 (some 33) ?_
  refine sk_ 11 (some 34) ?_
  refine sk_ 12 (some 35) ?_
  refine sk_ 13 (some 36) ?_
  refine sk_ 14 (some 37) ?_
  refine sk_ 15 (some 38) ?_
  refine sk_ 16 (some 39) ?_
  refine sk_ 17 (some 40) ?_
  refine sk_ 18 (some 41) ?_
  refine pu_ 19 (some 42) ?_
  refine dn_ ?_
  have hfin := q72 hHeld.2 HB3.out.2
  have HF := Lib.hid hfin
  clear hHeld hfin hbw3
  go_wp2
  go_ret
  exact ⟨by rw [HE.out]; rfl, HF.out⟩
 have hd5 : decide (5 < (j : Int) + 1) = false := decide_eq_false (by omega)
 obtain ⟨p, hp⟩ : ∃ p : Nat, q74 l0_1 x.f2 = p := ⟨(q74 l0_1 x.f2).toNat, by omega⟩
 have hpn : p < n := by have := placeI_lt l0_1 x.f2; have := HN.out; omega
 have hpl := fun (W : World) (hb : Below w.heap.size w W) => q39.calls A0_0 c0_0 l0_0 _ c0_1 l0_1 x.f2 _ W (Kd.C_below HR.out.1 hb) hc0_0 (Kd.C_below HR.out.2 hb) (by have := HN.out; omega) (show q39.f l0_0 l0_1 x.f2 = some (p : Int) by rw [← hp]; rfl)
 rw [← HN.out] at hpl
 obtain ⟨ad', _, _, _, _, e, _, hk1, _⟩ := at_T41 HR.out.2 (p : Int) (by omega) (by have := HN.out; omega)
 cases e
 simp only [Int.toNat_natCast] at hk1
 obtain ⟨y1, hy1⟩ : ∃ y, y = (q81 l0_1 (p : Int)).f1 := ⟨_, rfl⟩
 rw [← hy1] at hk1
 have hky := q73 hbw3 hk1
 have HP := Lib.hid (And.intro hp hy1)
 have hpz : (0 : Int) ≤ (p : Int) := by omega
 have hpn2 : (p : Int) < (n : Int) := by omega
 clear hk1 hp hy1 hpl0
 refine st_ (fun w' => (w'.cell? ⟨w.heap.size, 0, none⟩ = some (.slice A0_0 l0_0.length c0_0) ∧ w'.cell? ⟨w.heap.size, 1, none⟩ = some (.slice (some ad) n c0_1) ∧ w'.cell? ⟨wr.heap.size, 2, none⟩ = some (.string x.f2) ∧ w'.cell? ⟨(ad.add (p * 7)).block, (ad.add (p * 7)).off + 1, none⟩ = some (.int .i64 y1)) ∧ Below W3.heap.size W3 w') 20 ⟨⟨hm0, hm1, hp2, hky⟩, q58 (Below.refl _ _)⟩ (fun hHeld => ?_)
 generalize W3.drew = W4 at hHeld ⊢
 refine pu_ 0 (some 23) ?_
 refine pu_ 1 (some 24) ?_
 refine pu_ 2 (some 25) ?_
 refine pu_ 3 (some 26) ?_
 refine pu_ 4 (some 27) ?_
 refine pu_ 5 (some 28) ?_
 refine pu_ 6 (some 29) ?_
 refine pu_ 7 (some 30) ?_
 refine pu_ 8 (some 31) ?_
 refine pu_ 9 (some 32) ?_
 refine tk_ 10 (some 33) hHeld ?_ (hy := by rintro w' ⟨⟨s0, s1, s2, s3⟩, _⟩; go_simp; with_reducible rfl)
 refine tk_ 11 (some 34) hHeld ?_ (hy := by rintro w' ⟨⟨s0, s1, s2, s3⟩, _⟩; go_simp; with_reducible rfl)
 refine pu_ 12 (some 35) ?_
 refine tk_ 13 (some 36) hHeld ?_ (hy := by rintro w' ⟨⟨s0, s1, s2, s3⟩, _⟩; go_simp; with_reducible rfl)
 refine oN_ 14 (some 37) (fun K hK => ?_)
 refine goes_ Try.func45 (by kernel_rfl) rfl #[.agg #[.slice A0_0 l0_0.length c0_0, .slice (some ad) n c0_1], .string x.f2] (by rfl) rfl rfl (by (try simp only [List.map_toArray, List.map_cons, List.map_nil]); first | done | rfl) ?_
 with_reducible refine (hpl _ (q72 hHeld.2 hbw3)).mono ?_
 rintro e w' ⟨rfl, hb'⟩
 refine ⟨_, rfl, ?_⟩
 refine hK.out _ _ ⟨⟨q73 hb' hHeld.1.1, q73 hb' hHeld.1.2.1, q73 hb' hHeld.1.2.2.1, q73 hb' hHeld.1.2.2.2⟩, q72 hb' hHeld.2⟩ (fun hHeld => ?_)
 clear hK K
 refine nz_ (some 37) ?_
 refine pu_ 15 (some 38) ?_
 refine pu_ 16 (some 39) ?_
 refine tk_ 17 (some 40) hHeld ?_ (hy := by rintro w' ⟨⟨s0, s1, s2, s3⟩, _⟩; go_simp; with_reducible rfl)
 refine pu_ 18 (some 41) ?_
 refine pu_ 19 (some 42) ?_
 refine dn_ ?_
 have HH := Lib.hid hHeld
 have hfin := q72 hHeld.2 HB3.out.2
 have HF := Lib.hid hfin
 clear hHeld hfin hbw3 hky hpl hm0 hm1 hp2 hd0 hd5 hjs hjs2 hpz hpn2
 by_cases hy : y1 = 1
 rotate_left
 ·have hyb : (y1 != 1) = true := by simpa using hy
  have he : standsB l0_1 = false := stk_false l0_1 i (by have := HN.out; omega) st X.out.1 (by
   unfold stkStep
   rw [if_neg (by omega), ← HX.out]
   simp only
   rw [HT.out.1, HT.out.2, HP.out.1, ← HP.out.2, if_pos (.inr (.inr hy))])
  have HE := Lib.hid he
  clear he hy
  go_wp2
  go_ret
  exact ⟨by rw [HE.out]; rfl, HF.out⟩
 have hyb : (y1 != 1) = false := by simp [hy]
 have HY := Lib.hid hy
 clear hy
 go_wp2
 obtain ⟨W5, hW5⟩ : ∃ W, W = w' := ⟨_, rfl⟩
 have hb5 : Below W2.heap.size W2 W5 := by rw [hW5]; exact q60 HB3.out.1 HB3.out.1.size HH.out.2
 have hb5' : Below wr.heap.size wr W5 := q60 F2.out.1 F2.out.1.size hb5
 have hid0 : W5.cell? ⟨wr.heap.size, 0, none⟩ = some (.string x.f0) := q73 hb5 F2.out.2.2.2.2.1
 rw [← hW5]
 clear hW5
 have happ := fun (W6 : World) (h6 : Below W5.heap.size W5 W6) => append_full W1.heap.size W6 A (st.take (j + 1)) x.f0 (Kd.C_below (Kd.C_below (Kd.C_take HC.out (by have := HT.out.2; rw [List.length_take] at this; omega)) hb5') h6) (by have := HT.out.2; omega) (by have := X.out.2.2.size; have := hb5'.size; have := h6.size; omega)
 rw [HT.out.2] at happ
 have hj1 : (0 : Int) ≤ (j : Int) + 1 := by omega
 refine st_ (fun w' => w'.cell? ⟨wr.heap.size, 0, none⟩ = some (.string x.f0) ∧ Below W5.heap.size W5 w') 11 ⟨hid0, q58 (Below.refl _ _)⟩ (fun hHeld => ?_)
 generalize W5.drew = W6 at hHeld ⊢
 refine pu_ 0 (some 43) ?_
 refine pu_ 1 (some 44) ?_
 refine pu_ 2 (some 45) ?_
 refine pu_ 3 (some 46) ?_
 refine pu_ 4 (some 47) ?_
 refine pu_ 5 (some 48) ?_
 refine pu_ 6 (some 49) ?_
 refine tk_ 7 (some 50) hHeld ?_ (hy := by rintro w' ⟨s0, _⟩; go_simp; with_reducible rfl)
 refine oN_ 8 (some 51) (fun K hK => ?_)
 refine event_step (by rfl) (v := .slice (some ⟨W6.heap.size, 0, none⟩) 1 1) (w1 := W6.alloc (.cells #[.string x.f0] 9)) ?_ ?_
 ·go_simp
 refine hK.out _ _ ⟨q73 (q57 (Below.refl _ _) _) hHeld.1, q72 (q57 (Below.refl _ _) _) hHeld.2⟩ (fun hHeld2 => ?_)
 clear hK K
 refine nz_ (some 51) ?_
 obtain ⟨v9, w9, hrun9, hR9, hB9⟩ := happ W6 hHeld.2
 refine oN_ 9 (some 52) (fun K hK => ?_)
 refine event_step (by rfl) (v := v9) (w1 := w9) ?_ ?_
 ·exact app_event rfl rfl rfl hrun9
 refine hK.out _ _ ⟨q73 hB9 hHeld.1, q72 hB9 hHeld.2⟩ (fun hHeld3 => ?_)
 clear hK K
 refine nz_ (some 52) ?_
 refine pu_ 10 (some 3) ?_
 refine dn_ ?_
 have hnext : stk l0_1 (i + 1) = some (st.take (j + 1) ++ [x.f0]) := by
  show (stk l0_1 i).bind _ = _
  rw [X.out.1]
  show stkStep l0_1 i st = _
  unfold stkStep
  rw [if_neg (by omega), ← HX.out]
  simp only
  rw [HT.out.1, HT.out.2, HP.out.1, ← HP.out.2, HY.out, if_neg (by omega)]
 have hbe : Below W1.heap.size W1 w9 := q60 (q60 X.out.2.2 X.out.2.2.size hb5') (q60 X.out.2.2 X.out.2.2.size hb5').size hHeld3.2
 have XX := Lib.hid (And.intro hnext (And.intro hR9 hbe))
 clear hnext hbe hHeld hHeld2 hHeld3 hrun9 hR9 hB9 happ hid0
 go_wp2
 go_roundg (n - (i + 1))
 case measure => omega
 case rel => exact ⟨i + 1, v9, st.take (j + 1) ++ [x.f0], by go_num, rfl, by omega, by omega, XX⟩
theorem ids_at (fs : List ByteArray) (l : List (S41)) (hn : l.length ≤ 8796093022208) (d : Nat) : ∀ (i k : Nat) (acc : List ByteArray), i + d = l.length → d < k → acc.length = i → q52.l0 k acc l l.length i = some (acc ++ (l.drop i).map (·.f0)) := by
  induction d with
  | zero =>
    intro i k acc hi hk ha
    obtain ⟨k, rfl⟩ : ∃ m, k = m + 1 := ⟨k - 1, by omega⟩
    simp only [q52.l0]
    rw [if_neg (by omega), List.drop_of_length_le (by omega)]
    simp
  | succ d ih =>
    intro i k acc hi hk ha
    obtain ⟨k, rfl⟩ : ∃ m, k = m + 1 := ⟨k - 1, by omega⟩
    have hlt : i < l.length := by omega
    have hrd : q81 l (i : Int) = l[i] := by simp [q81, List.getD_eq_getElem?_getD, List.getElem?_eq_getElem hlt]
    simp only [q52.l0]
    rw [if_pos (by omega), if_pos (by omega), if_pos (by omega), if_pos (by omega), wrap_lt (n := (l.length : Int)) (by omega) (by omega) (by omega), hrd]
    have := ih (i + 1) k (acc ++ [l[i].f0]) (by omega) (by omega) (by simp [ha])
    rw [show ((i + 1 : Nat) : Int) = (i : Int) + 1 by omega] at this
    rw [this, List.drop_eq_getElem_cons hlt, List.map_cons, List.append_assoc]
    rfl
theorem ids_eq (fs : List ByteArray) (l : List (S41)) (hn : l.length ≤ 8796093022208) (k : Nat) (hk : l.length < k) : q52.f k fs l = some (l.map (·.f0)) := by
 have := ids_at fs l hn l.length 0 k [] (by omega) hk rfl
 unfold q52.f
 simpa using this
def planB (kind : Int) (parent : ByteArray) (req : Bool) (en ex : Nat) : Bool := decide (kind = 1) && (decide (parent.toList = []) && (!req && decide (en + ex = 0)))
theorem isPlan_eq (a0 : ByteArray) (a1 : Int) (a2 : ByteArray) (a3 : Bool) (a4 : Int) (l5 l6 : List (S45)) (h5 : l5.length ≤ 9223372036854775807) (h6 : l6.length ≤ 9223372036854775807) : q36.f a0 a1 a2 a3 a4 l5 l6 = some (planB a1 a2 a3 l5.length l6.length) := by
  unfold q36.f planB
  by_cases h1 : a1 = 1
  · by_cases h2 : a2.toList = []
    · cases a3 with
      | true => simp [h1, h2]
      | false =>
        simp only [h1, h2, if_true, Bool.false_eq_true, if_false, decide_true, Bool.true_and, Bool.not_false]
        congr 1
        rw [Bool.eq_iff_iff, beq_iff_eq, decide_eq_true_iff]
        unfold wrap64
        omega
    · simp [h1, h2]
  · simp [h1]
def itemB (fs : List ByteArray) (l : List (S41)) (kind : Int) (req : Bool) (ticks : Int) (en ex : List (S45)) : Bool :=
 decide (1 ≤ kind ∧ kind ≤ 5) && (sentsB fs l en && (sentsB fs l ex && ((if kind = 5 then decide (1 ≤ ticks ∧ ticks ≤ 100) else decide (ticks = 0)) && !(decide (kind = 4 ∨ kind = 5) && (req || decide (0 < en.length))))))
theorem isItem_eq (fs : List ByteArray) (l : List (S41)) (a0 : ByteArray) (a1 : Int) (a2 : ByteArray) (a3 : Bool) (a4 : Int) (l5 l6 : List (S45)) : q38.f 1 fs l a0 a1 a2 a3 a4 l5 l6 = some (itemB fs l a1 a3 a4 l5 l6) := by
  unfold q38.f itemB q21.f
  by_cases h1 : a1 < 1
  · rw [if_pos h1, decide_eq_false (by omega)]; simp [q38.j0]
  rw [if_neg h1]
  by_cases h2 : a1 > 5
  · rw [if_pos h2, decide_eq_false (by omega)]; simp [q38.j0]
  rw [if_neg h2, decide_eq_true (by omega), Option.bind_some]
  cases sentsB fs l l5 with
  | false => simp [q38.j0]
  | true =>
    rw [if_pos rfl, Option.bind_some]
    cases sentsB fs l l6 with
    | false => simp [q38.j0]
    | true =>
      simp only [q38.j0, Bool.not_true, Bool.false_eq_true, if_false, Bool.true_and]
      by_cases h5 : a1 = 5
      · subst h5
        by_cases ha : a4 ≥ 1 <;> by_cases hb : a4 ≤ 100 <;> cases a3 <;> simp [ha, hb] <;> omega
      · by_cases h4 : a1 = 4
        · subst h4
          by_cases ha : a4 ≥ 0 <;> by_cases hb : a4 ≤ 0 <;> cases a3 <;> simp [ha, hb] <;> omega
        · rw [if_neg h5, if_neg h4, if_neg h5]
          by_cases ha : a4 ≥ 0 <;> by_cases hb : a4 ≤ 0 <;> simp [ha, hb, h4, h5] <;> omega
def isB (fs : List ByteArray) (l : List (S41)) : Bool :=
 decide (fs.length ≤ 6 ∧ 1 ≤ l.length ∧ l.length ≤ 16) && (namesB fs && (namesB (l.map (·.f0)) && (planB (q81 l 0).f1 (q81 l 0).f2 (q81 l 0).f3 (q81 l 0).f5.length (q81 l 0).f6.length && (standsB l && !l.any (fun x => !itemB fs l x.f1 x.f3 x.f4 x.f5 x.f6)))))
end Go.Proofs.Yteddgedacjdjgaa.Pm
end
section
namespace Go.Proofs.Yteddgedacjdjgaa.OpenKd
open Go Go.RowKit Go.ChangeShapes Go.WideShapes Go.Deep Go.Proofs.YteddgedacjdjgaaW.PrintWords
set_option linter.unusedVariables false
set_option linter.unusedSectionVars false
section
variable {H : Type} {enc : TypeId × Value → H} {P : Program} {w : World} {α β : Type}
theorem weights_mem_all {e : TypeId} : ∀ {ds : List (DataW H)} {d : DataW H}, d ∈ ds → ∀ n ∈ d.weights P e, n ∈ DataW.weightsAll P e ds
  | [], _, h, _, _ => by simp at h
  | x :: ds, d, h, n, hn => by
    rcases List.mem_cons.1 h with rfl | h
    · simp [DataW.weightsAll, hn]
    · simp [DataW.weightsAll, weights_mem_all h n hn]
def Light (P : Program) (t : TypeId) (d : DataW H) : Prop := ∀ n ∈ d.weights P t, n ≤ reachBytes
structure Opens (enc : TypeId × Value → H) (P : Program) (w : World) (t : TypeId) (d : Kd α) (good : α → Prop) : Prop where
 cells : P.cellsOf t = d.sz
 go : ∀ (fuel : Nat) (cs : List Value) (x : DataW H × List MemPlace), DataW.trod enc P w 0 (fun _ => true) true fuel t cs = some x → Light P t x.1 → ∃ a, d.K w a cs ∧ good a
theorem opens_int {t : TypeId} {k : IntKind} (hu : P.underlying t = some (.int k)) (hc : P.cellsOf t = 1) : Opens enc P w t (Kd.int k) (fun n => (Lit.int k n).wf = true) :=
 ⟨hc, fun fuel cs x h _ => by
  obtain ⟨n, rfl, _, hw⟩ := DataW.trod_int hu h
  exact ⟨n, rfl, hw⟩⟩
theorem opens_bool {t : TypeId} (hu : P.underlying t = some .bool) (hc : P.cellsOf t = 1) : Opens enc P w t Kd.bool (fun _ => True) :=
 ⟨hc, fun fuel cs x h _ => by
  obtain ⟨n, rfl, _⟩ := DataW.trod_bool hu h
  exact ⟨n, rfl, trivial⟩⟩
theorem opens_string {t : TypeId} (hu : P.underlying t = some .string) (hc : P.cellsOf t = 1) : Opens enc P w t Kd.string (fun s => s.size ≤ 140737488351232) :=
 ⟨hc, fun fuel cs x h hl => by
  obtain ⟨s, rfl, rfl, _⟩ := DataW.trod_string hu h
  refine ⟨s, rfl, ?_⟩
  have := hl s.data.toList.length (by simp [DataW.weights])
  simpa [reachBytes] using this⟩
theorem opens_slice {t e : TypeId} {d : Kd α} {good : α → Prop} (hu : P.underlying t = some (.slice e)) (hc : P.cellsOf t = 1) (h : Opens enc P w e d good) : Opens enc P w t (Kd.slice e d) (fun xs => xs.length * P.bytesOf e ≤ 140737488351232 ∧ ∀ x ∈ xs, good x) :=
  ⟨hc, fun fuel cs x hx hl => by
    rcases open_slice hu hx with ⟨rfl, rfl⟩ | ⟨a, len, cap, m, n, D, Pl, rfl, hb, hlc, hcm, hm, rfl, hel⟩
    · exact ⟨[], ⟨none, 0, rfl, Nat.le_refl _, ⟨rfl, by simp, fun h => by simp at h⟩⟩, by simp, by simp⟩
    · have hle : len ≤ m := by rw [hm]; split <;> omega
      have hmem : ∀ i, i < m → D i ∈ (List.range len).map D ∨ D i ∈ (List.range (m - len)).map fun j => D (len + j) := by
        intro i hi
        by_cases h1 : i < len
        · exact .inl (List.mem_map.2 ⟨i, List.mem_range.2 h1, rfl⟩)
        · exact .inr (List.mem_map.2 ⟨i - len, List.mem_range.2 (by omega), by congr 1; omega⟩)
      have hlight : ∀ i, i < m → Light P e (D i) := by
        intro i hi q hq
        refine hl q ?_
        simp only [DataW.weights, hu]
        rcases hmem i hi with h1 | h1
        · exact List.mem_cons_of_mem _ (List.mem_append_left _ (weights_mem_all h1 q hq))
        · exact List.mem_cons_of_mem _ (List.mem_append_right _ (weights_mem_all h1 q hq))
      have hall : ∀ i, i < len → ∃ x : α, good x ∧ ∃ c, c.length = d.sz ∧ d.K w x c ∧ ∀ j u, c[j]? = some u → w.cell? (a.add (i * d.sz + j)) = some u := by
        intro i hi
        obtain ⟨cs', hcs, htr⟩ := hel i (by omega)
        obtain ⟨y, hK, hg⟩ := h.go n cs' _ htr (hlight i (by omega))
        obtain ⟨_, hcl, hcc⟩ := World.cells?_some hcs
        refine ⟨y, hg, cs', by rw [hcl, h.cells], hK, fun j u hj => ?_⟩
        have hjl : j < P.cellsOf e := by rw [← hcl]; exact (List.getElem?_eq_some_iff.1 hj).1
        have := hcc j hjl
        rw [hj, Deep.add_add, h.cells] at this
        exact this
      have hlist : ∃ xs : List α, xs.length = len ∧ ∀ i (x : α), xs[i]? = some x → good x ∧ ∃ c, c.length = d.sz ∧ d.K w x c ∧ ∀ j u, c[j]? = some u → w.cell? (a.add (i * d.sz + j)) = some u := by
        clear hmem hlight hle hlc hl hel hx hm
        induction len with
        | zero => exact ⟨[], rfl, fun i x h => by simp at h⟩
        | succ len ih =>
          obtain ⟨xs, hxl, hxs⟩ := ih (fun i hi => hall i (by omega))
          obtain ⟨y, hy⟩ := hall len (by omega)
          refine ⟨xs ++ [y], by simp [hxl], fun i x hi => ?_⟩
          by_cases h1 : i < xs.length
          · rw [List.getElem?_append_left h1] at hi
            exact hxs i x hi
          · rw [List.getElem?_append_right (by omega)] at hi
            have h2 : i = xs.length := by
              have := (List.getElem?_eq_some_iff.1 hi).1
              simp at this
              omega
            subst h2
            simp at hi
            subst hi
            rw [hxl]
            exact hy
      obtain ⟨xs, hxl, hxs⟩ := hlist
      subst hxl
      refine ⟨xs, ⟨some a, cap, rfl, hlc, rfl, by have := hcm; unfold maxLen at this; omega, fun _ => ⟨a, rfl, fun j p hj => (hxs j p hj).2⟩⟩, ?_, fun x hx => ?_⟩
      · have hw := hl ((((List.range xs.length).map D).length + ((List.range (m - xs.length)).map fun j => D (xs.length + j)).length) * P.bytesOf e) (by simp [DataW.weights, hu])
        simp only [List.length_map, List.length_range] at hw
        have h2 : xs.length * P.bytesOf e ≤ (xs.length + (m - xs.length)) * P.bytesOf e := Nat.mul_le_mul_right _ (by omega)
        unfold reachBytes at hw
        omega
      · obtain ⟨i, hi, rfl⟩ := List.getElem_of_mem hx
        exact (hxs i _ (List.getElem?_eq_getElem hi)).1⟩
structure OpensF (enc : TypeId × Value → H) (P : Program) (w : World) (fs : List Field) (o : Nat) (d : Kd α) (good : α → Prop) : Prop where
 go : ∀ (n : Nat) (cs : List Value) (xs : List (DataW H × List MemPlace)), (∀ (i : Nat) (f : Field), fs[i]? = some f → DataW.trod enc P w 0 (fun _ => true) true n f.type ((cs.drop f.offset).take (P.cellsOf f.type)) = xs[i]?) →
  xs.length = fs.length → cs.length = o + d.sz → (∀ q ∈ DataW.weightsEach P (fs.map (·.type)) (xs.map (·.1)), q ≤ reachBytes) → ∃ a, d.K w a (cs.drop o) ∧ good a
theorem opens_last {f : Field} {o : Nat} {d : Kd α} {good : α → Prop} (ho : f.offset = o) (h : Opens enc P w f.type d good) : OpensF enc P w [f] o d good :=
  ⟨fun n cs xs hx hxl hcl hw => by
    match xs, hxl with
    | [x], _ =>
      have h0 := hx 0 f rfl
      rw [ho, h.cells, List.take_of_length_le (by rw [List.length_drop]; omega)] at h0
      exact h.go n _ x (by simpa using h0) (fun q hq => hw q (by simp [DataW.weightsEach, hq]))⟩
theorem opens_cons {f : Field} {fs : List Field} {o o2 : Nat} {a : Kd α} {b : Kd β} {ga : α → Prop} {gb : β → Prop} (ho : f.offset = o) (h : Opens enc P w f.type a ga) (ho2 : o2 = o + a.sz) (h2 : OpensF enc P w fs o2 b gb) :
    OpensF enc P w (f :: fs) o (Kd.pair a b) (fun p => ga p.1 ∧ gb p.2) :=
  ⟨fun n cs xs hx hxl hcl hw => by
    match xs, hxl with
    | x :: xs, hxl =>
      have h0 := hx 0 f rfl
      rw [ho, h.cells] at h0
      have hcl' : cs.length = o + (a.sz + b.sz) := hcl
      obtain ⟨x1, hK1, hg1⟩ := h.go n _ x (by simpa using h0) (fun q hq => hw q (by simp [DataW.weightsEach, hq]))
      obtain ⟨x2, hK2, hg2⟩ := h2.go n cs xs (fun i f' hf => by simpa using hx (i + 1) f' (by simpa using hf)) (by simpa using hxl) (by omega) (fun q hq => hw q (by
        simp only [List.map_cons, DataW.weightsEach]
        exact List.mem_append_right _ hq))
      refine ⟨(x1, x2), ⟨(cs.drop o).take a.sz, cs.drop o2, ?_, hK1, hK2⟩, hg1, hg2⟩
      have h3 := List.take_append_drop a.sz (cs.drop o)
      rw [List.drop_drop] at h3
      rw [ho2]
      exact h3.symm⟩
theorem opens_struct {t : TypeId} {fs : Array Field} {d : Kd α} {good : α → Prop} (hu : P.underlying t = some (.struct fs)) (hc : P.cellsOf t = d.sz) (h : OpensF enc P w fs.toList 0 d good) {f : β → α} (g : α → β) (hg : ∀ a, f (g a) = a) :
 Opens enc P w t (Kd.iso d f) (fun y => good (f y)) :=
 ⟨hc, fun fuel cs x hx hl => by
  obtain ⟨xs, n, _, rfl, hcl, hxl, hxs⟩ := DataW.trod_struct hu hx
  obtain ⟨a, hK, hga⟩ := h.go n cs xs (fun i f' hf => hxs i f' (by rw [← Array.getElem?_toList]; exact hf)) (by simpa using hxl) (by rw [hcl, hc]; omega) (fun q hq => hl q (by simpa [DataW.weights, hu] using hq))
  refine ⟨g a, ?_, by rw [hg]; exact hga⟩
  show d.K w (f (g a)) cs
  rw [hg]
  simpa using hK⟩
end
end Go.Proofs.Yteddgedacjdjgaa.OpenKd
end
section
namespace Go.Proofs.Yteddgedacjdjgaa.Pm
open Go.RowKit Go.Proofs.YteddgedacjdjgaaW.PrintWords Go.Proofs.YteddgedacjdjgaaW.PrintLast Go.Proofs.YteddgedacjdjgaaW.PrintMore
attribute [local go_sem] max2_int min2_int max_two min_two max_three min_three max_four min_four   -- for this text's walks alone
set_option linter.unusedVariables false
set_option linter.unusedSimpArgs false
open OpenKd
def goodSentry (x : S45) : Prop := x.f0.length ≤ 140737488351232 ∧ x.f1.length ≤ 140737488351232
def goodItem (x : S41) : Prop := x.f0.size ≤ 140737488351232 ∧ x.f2.size ≤ 140737488351232 ∧ x.f5.length ≤ 140737488351232 ∧ x.f6.length ≤ 140737488351232 ∧ (∀ s ∈ x.f5, goodSentry s) ∧ ∀ s ∈ x.f6, goodSentry s
theorem Opens.imp {H : Type} {enc : TypeId × Value → H} {P : Program} {w : World} {t : TypeId} {α : Type} {d : Kd α} {g g' : α → Prop} (h : Opens enc P w t d g) (hg : ∀ x, g x → g' x) : Opens enc P w t d g' :=
 ⟨h.cells, fun n cs x hx hl => let ⟨a, hK, ha⟩ := h.go n cs x hx hl; ⟨a, hK, hg a ha⟩⟩
section
variable {H : Type} {enc : TypeId × Value → H} {w : World}
set_option maxRecDepth 100000 in
theorem opens_on : Opens enc Try.prog w 101 k101 (fun _ => True) :=
 Opens.imp (opens_struct Try.underlying101 (by kernel_rfl) (opens_cons rfl (opens_string Try.underlying9 (by kernel_rfl)) rfl (opens_last rfl (opens_int Try.underlying3 (by kernel_rfl)))) (fun a => ⟨a.1, a.2⟩) (fun _ => rfl)) (fun _ _ => trivial)
set_option maxRecDepth 100000 in
theorem opens_cond : Opens enc Try.prog w 90 k90 (fun _ => True) :=
 Opens.imp (opens_struct Try.underlying90 (by kernel_rfl) (opens_cons rfl (opens_string Try.underlying9 (by kernel_rfl)) rfl (opens_cons rfl (opens_string Try.underlying9 (by kernel_rfl)) rfl (opens_last rfl (opens_int Try.underlying3 (by kernel_rfl))))) (fun a => ⟨a.1, a.2.1, a.2.2⟩) (fun _ => rfl)) (fun _ _ => trivial)
set_option maxRecDepth 100000 in
theorem opens_ons : Opens enc Try.prog w 42 (Kd.slice 101 k101) (fun xs => xs.length ≤ 140737488351232) :=
 Opens.imp (opens_slice Try.underlying42 (by kernel_rfl) opens_on) (fun xs h => by have := h.1; rw [show Try.prog.bytesOf 101 = 24 by kernel_rfl] at this; omega)
set_option maxRecDepth 100000 in
theorem opens_conds : Opens enc Try.prog w 43 (Kd.slice 90 k90) (fun xs => xs.length ≤ 140737488351232) :=
 Opens.imp (opens_slice Try.underlying43 (by kernel_rfl) opens_cond) (fun xs h => by have := h.1; rw [show Try.prog.bytesOf 90 = 40 by kernel_rfl] at this; omega)
set_option maxRecDepth 100000 in
theorem opens_sentry : Opens enc Try.prog w 45 k45 goodSentry :=
 Opens.imp (opens_struct Try.underlying45 (by kernel_rfl) (opens_cons rfl opens_ons rfl (opens_last rfl opens_conds)) (fun a => ⟨a.1, a.2⟩) (fun _ => rfl)) (fun _ h => h)
set_option maxRecDepth 100000 in
theorem opens_sentries : Opens enc Try.prog w 39 (Kd.slice 45 k45) (fun xs => xs.length ≤ 140737488351232 ∧ ∀ s ∈ xs, goodSentry s) :=
 Opens.imp (opens_slice Try.underlying39 (by kernel_rfl) opens_sentry) (fun xs h => ⟨by have := h.1; rw [show Try.prog.bytesOf 45 = 48 by kernel_rfl] at this; omega, h.2⟩)
set_option maxRecDepth 100000 in
theorem opens_item : Opens enc Try.prog w 41 k41 goodItem :=
 Opens.imp (opens_struct Try.underlying41 (by kernel_rfl) (opens_cons rfl (opens_string Try.underlying9 (by kernel_rfl)) rfl (opens_cons rfl (opens_int Try.underlying3 (by kernel_rfl)) rfl (opens_cons rfl (opens_string Try.underlying9 (by kernel_rfl)) rfl (opens_cons rfl (opens_bool Try.underlying4 (by kernel_rfl)) rfl (opens_cons rfl (opens_int Try.underlying3 (by kernel_rfl)) rfl (opens_cons rfl opens_sentries rfl (opens_last rfl opens_sentries)))))))
  (fun a => ⟨a.1, a.2.1, a.2.2.1, a.2.2.2.1, a.2.2.2.2.1, a.2.2.2.2.2.1, a.2.2.2.2.2.2⟩) (fun _ => rfl)) (fun x h => ⟨h.1, h.2.2.1, h.2.2.2.2.2.1.1, h.2.2.2.2.2.2.1, h.2.2.2.2.2.1.2, h.2.2.2.2.2.2.2⟩)
set_option maxRecDepth 100000 in
theorem opens_items : Opens enc Try.prog w 23 (Kd.slice 41 k41) (fun xs => xs.length ≤ 140737488351232 ∧ ∀ x ∈ xs, goodItem x) :=
 Opens.imp (opens_slice Try.underlying23 (by kernel_rfl) opens_item) (fun xs h => ⟨by have := h.1; rw [show Try.prog.bytesOf 41 = 104 by kernel_rfl] at this; omega, h.2⟩)
set_option maxRecDepth 100000 in
theorem opens_files : Opens enc Try.prog w 22 (Kd.slice 9 Kd.string) (fun xs => xs.length ≤ 140737488351232) :=
 Opens.imp (opens_slice Try.underlying22 (by kernel_rfl) (opens_string Try.underlying9 (by kernel_rfl))) (fun xs h => by have := h.1; rw [show Try.prog.bytesOf 9 = 16 by kernel_rfl] at this; omega)
set_option maxRecDepth 100000 in
theorem opens_model : Opens enc Try.prog w 25 (Kd.iso (Kd.pair (Kd.slice 9 Kd.string) (Kd.slice 41 k41)) (fun (p : List ByteArray × List (S41)) => p)) (fun p => p.1.length ≤ 140737488351232 ∧ p.2.length ≤ 140737488351232 ∧ ∀ x ∈ p.2, goodItem x) :=
 opens_struct Try.underlying25 (by kernel_rfl) (opens_cons rfl opens_files rfl (opens_last rfl opens_items)) (fun a => a) (fun _ => rfl)
set_option maxRecDepth 100000 in
theorem open_model {b0 : Nat} {v : Value} {d : DataW H} {p : List MemPlace} (hv : Value.okWide Try.prog w .any b0 25 v) (h : DataW.Trod enc Try.prog w 0 (fun _ => true) true 25 v d p) (hl : Light Try.prog 25 d) :
 ∃ A0 c0 fs A1 c1 l, v = .agg #[.slice A0 fs.length c0, .slice A1 l.length c1] ∧ Kd.C Kd.string w A0 fs.length fs ∧ fs.length ≤ c0 ∧ Kd.C k41 w A1 l.length l ∧ l.length ≤ c1 ∧ fs.length ≤ 140737488351232 ∧ l.length ≤ 140737488351232 ∧ ∀ x ∈ l, goodItem x := by
 obtain ⟨cs, rfl, hsz⟩ := Go.WideShapes.okWide_struct Try.underlying25 hv
 obtain ⟨fuel, hf⟩ := h
 obtain ⟨⟨fs, l⟩, hK, h1, h2, h3⟩ := opens_model.go fuel _ _ hf hl
 obtain ⟨z0, z1, hz, ⟨A0, c0, rfl, q1, q2⟩, ⟨A1, c1, rfl, q3, q4⟩⟩ := hK
 have hz' : cs = #[.slice A0 fs.length c0, .slice A1 l.length c1] := by
  have : cs.toList = [.slice A0 fs.length c0, .slice A1 l.length c1] := by simpa [Value.cells] using hz
  rw [← Array.toArray_toList (xs := cs), this]
 exact ⟨A0, c0, fs, A1, c1, l, by rw [hz'], q2, q1, q4, q3, h1, h2, h3⟩
set_option maxRecDepth 100000 in
theorem light_of {ts : List TypeId} {ds : List (DataW H)} (h : (DataW.weightsEach Try.prog ts ds).all (· ≤ reachBytes) = true) {j : Nat} {t : TypeId} {d : DataW H} (ht : ts[j]? = some t) (hd : ds[j]? = some d) : Light Try.prog t d := by
 intro n hn
 have := List.all_eq_true.1 h n (DataW.weights_mem_each ht hd n hn)
 simpa using this
end
end Go.Proofs.Yteddgedacjdjgaa.Pm
end
section
namespace Go.Proofs.Yteddgedacjdjgaa.Pm
open Go.RowKit Go.Proofs.YteddgedacjdjgaaW.PrintWords Go.Proofs.YteddgedacjdjgaaW.PrintLast Go.Proofs.YteddgedacjdjgaaW.PrintMore
attribute [local go_sem] max2_int min2_int max_two min_two max_three min_three max_four min_four   -- for this text's walks alone
set_option linter.unusedVariables false
set_option linter.unusedSimpArgs false
theorem bt_at (s : ByteArray) (i : Nat) (h : i < s.size) : bt s (i : Int) = byteAt s i := by
 unfold bt byteAt
 rw [dif_pos (by simpa using h), List.getD_eq_getElem?_getD, List.getElem?_eq_getElem (by simpa using h)]
 rfl
theorem first_eq (a : Int) : q24.f a = some (letterB a) := letter_eq a
theorem rbyte_eq (a : Int) : q27.f a = some (moreB a) := more_eq a
theorem ref_name_at (s : ByteArray) (hs : s.size ≤ 12) (d : Nat) : ∀ i k, i + d = s.size → d < k → q34.l0 k s (i : Nat) = some ((List.range' i d).all (fun j => moreB (byteAt s j))) := by
  induction d with
  | zero =>
    intro i k hi hk
    obtain ⟨k, rfl⟩ : ∃ m, k = m + 1 := ⟨k - 1, by omega⟩
    simp only [q34.l0]
    rw [if_neg (by omega)]
    rfl
  | succ d ih =>
    intro i k hi hk
    obtain ⟨k, rfl⟩ : ∃ m, k = m + 1 := ⟨k - 1, by omega⟩
    simp only [q34.l0]
    rw [if_pos (by omega), if_pos (by omega), bt_at s i (by omega), rbyte_eq, Option.bind_some, List.range'_succ, List.all_cons]
    cases moreB (byteAt s i) with
    | false => simp
    | true =>
      rw [if_pos rfl, wrap_lt (n := (s.size : Int)) (by omega) (by omega) (by omega), Bool.true_and]
      exact ih (i + 1) k (by omega) (by omega)
theorem ref_name (s : ByteArray) (k : Nat) (hk : 15 ≤ k) : q34.f k s = some (nameB s) := by
  obtain ⟨k, rfl⟩ : ∃ m, k = m + 1 := ⟨k - 1, by omega⟩
  unfold q34.f nameB
  by_cases h1 : s.size < 1
  · rw [if_pos (by omega), decide_eq_false (by omega)]; simp [q34.j0]
  by_cases h2 : s.size > 12
  · rw [if_neg (by omega), if_pos (by omega), decide_eq_false (by omega)]; simp [q34.j0]
  rw [if_neg (by omega), if_neg (by omega), if_pos (by omega), decide_eq_true (by omega), show (0 : Int) = ((0 : Nat) : Int) from rfl, bt_at s 0 (by omega), first_eq, Option.bind_some]
  cases letterB (byteAt s 0) with
  | false => simp [q34.j0]
  | true =>
    simp only [q34.j0, Bool.not_true, Bool.false_eq_true, if_false]
    rw [show (0 : Int) = ((0 : Nat) : Int) from rfl, ref_name_at s (by omega) s.size 0 k (by omega) (by omega), List.range_eq_range']
    rfl
theorem mem_any_at (l : List ByteArray) (s : ByteArray) (hn : l.length ≤ 9223372036854775807) (d : Nat) : ∀ (i k : Nat), i + d = l.length → d < k → q29.l0 k l s (i : Nat) = some ((l.drop i).any (fun x => s.toList == x.toList)) := by
  induction d with
  | zero =>
    intro i k hi hk
    obtain ⟨k, rfl⟩ : ∃ m, k = m + 1 := ⟨k - 1, by omega⟩
    simp only [q29.l0]
    rw [if_neg (by omega), List.drop_of_length_le (by omega)]
    rfl
  | succ d ih =>
    intro i k hi hk
    obtain ⟨k, rfl⟩ : ∃ m, k = m + 1 := ⟨k - 1, by omega⟩
    have hlt : i < l.length := by omega
    simp only [q29.l0]
    rw [if_pos (by omega), if_pos (by omega), rdOf_get _ _ _ hlt, List.drop_eq_getElem_cons hlt, List.any_cons]
    by_cases he : l[i].toList = s.toList
    · rw [if_pos he, show (s.toList == l[i].toList) = true by rw [he]; simp]; rfl
    · rw [if_neg he, show (s.toList == l[i].toList) = false by simpa using Ne.symm he, Bool.false_or, wrap_lt (n := (l.length : Int)) (by omega) (by omega) (by omega)]
      exact ih (i + 1) k (by omega) (by omega)
theorem ref_file (l : List ByteArray) (s : ByteArray) (hn : l.length ≤ 9223372036854775807) (k : Nat) (hk : l.length < k) : q29.f k l s = some (memB l s) := mem_any_at l s hn l.length 0 k (by omega) hk
theorem ref_op_at (s : ByteArray) (l : List ByteArray) (hn : l.length ≤ 9223372036854775807) (d : Nat) : ∀ (i k : Nat), i + d = l.length → d < k → ∃ r, q32.l0 k s l (i : Nat) = some r ∧ decide (r < 0) = !((l.drop i).any (fun x => s.toList == x.toList)) := by
  induction d with
  | zero =>
    intro i k hi hk
    obtain ⟨k, rfl⟩ : ∃ m, k = m + 1 := ⟨k - 1, by omega⟩
    refine ⟨-1, ?_, ?_⟩
    · simp only [q32.l0]
      rw [if_neg (by omega)]
    · rw [List.drop_of_length_le (by omega)]; rfl
  | succ d ih =>
    intro i k hi hk
    obtain ⟨k, rfl⟩ : ∃ m, k = m + 1 := ⟨k - 1, by omega⟩
    have hlt : i < l.length := by omega
    simp only [q32.l0]
    rw [if_pos (by omega), if_pos (by omega), rdOf_get _ _ _ hlt, List.drop_eq_getElem_cons hlt, List.any_cons]
    by_cases he : l[i].toList = s.toList
    · rw [if_pos he]
      refine ⟨i, rfl, ?_⟩
      rw [show (s.toList == l[i].toList) = true by rw [he]; simp, decide_eq_false (by omega)]; rfl
    · rw [if_neg he, show (s.toList == l[i].toList) = false by simpa using Ne.symm he, Bool.false_or, wrap_lt (n := (l.length : Int)) (by omega) (by omega) (by omega)]
      exact ih (i + 1) k (by omega) (by omega)
theorem ref_op (s : ByteArray) (k : Nat) (hk : 6 < k) : ∃ r, q32.f k s = some r ∧ decide (r < 0) = !memB opsL s := ref_op_at s opsL (by decide) 6 0 k (by decide) hk
theorem ref_place_at (fs : List ByteArray) (l : List (S41)) (id : ByteArray) (hn : l.length ≤ 9223372036854775807) (d : Nat) : ∀ (i k : Nat), i + d = l.length → d < k → (∀ j, j < i → q39.p id (l.getD j z41) = false) → q22.l0 k id (i : Nat) fs l = some (q74 l id) := by
  induction d with
  | zero =>
    intro i k hi hk hno
    obtain ⟨k, rfl⟩ : ∃ m, k = m + 1 := ⟨k - 1, by omega⟩
    simp only [q22.l0]
    rw [if_neg (by omega)]
    unfold q74
    rw [fidx_miss _ l z41 (fun j hj => hno j (by omega))]
  | succ d ih =>
    intro i k hi hk hno
    obtain ⟨k, rfl⟩ : ∃ m, k = m + 1 := ⟨k - 1, by omega⟩
    have hlt : i < l.length := by omega
    have hrd : q81 l (i : Int) = l.getD i z41 := rfl
    simp only [q22.l0]
    rw [if_pos (by omega), if_pos (by omega), hrd]
    by_cases he : (l.getD i z41).f0.toList = id.toList
    · rw [if_pos he]
      unfold q74
      rw [fidx_hit _ l i z41 hlt (by unfold q39.p; simpa using he) hno]
    · rw [if_neg he, wrap_lt (n := (l.length : Int)) (by omega) (by omega) (by omega)]
      refine ih (i + 1) k (by omega) (by omega) (fun j hj => ?_)
      by_cases e : j = i
      · subst e; unfold q39.p; simpa using he
      · exact hno j (by omega)
theorem ref_place (fs : List ByteArray) (l : List (S41)) (id : ByteArray) (hn : l.length ≤ 9223372036854775807) (k : Nat) (hk : l.length < k) : q22.f k fs l id = some (q74 l id) := ref_place_at fs l id hn l.length 0 k (by omega) hk (fun j hj => by omega)
theorem refLegal3 (a b : Int) : q25.f 3 a b = some (legalB a b) := by
 unfold q25.f legalB
 by_cases h1 : a < 1
 ·rw [if_pos h1]
  simp only [q25.j0, if_true]
  by_cases h15 : b = 1 ∨ b = 5
  ·rw [if_pos h15, decide_eq_false (by omega)]
  rw [if_neg h15]
  by_cases h23 : b = 2 ∨ b = 3
  ·rw [if_pos h23, decide_eq_false (by omega)]
  rw [if_neg h23]
  by_cases h4 : b = 4
  ·rw [if_pos h4, decide_eq_false (by omega)]
  ·rw [if_neg h4]
 rw [if_neg h1]
 by_cases h5 : a > 5
 ·rw [decide_eq_true h5]
  simp only [q25.j0, if_true]
  by_cases h15 : b = 1 ∨ b = 5
  ·rw [if_pos h15, decide_eq_false (by omega)]
  rw [if_neg h15]
  by_cases h23 : b = 2 ∨ b = 3
  ·rw [if_pos h23, decide_eq_false (by omega)]
  rw [if_neg h23]
  by_cases h4 : b = 4
  ·rw [if_pos h4, decide_eq_false (by omega)]
  ·rw [if_neg h4]
 rw [decide_eq_false h5]
 simp only [q25.j0, Bool.false_eq_true, if_false]
 by_cases e1 : b = 1
 ·subst e1; simp [q25.j1]; omega
 rw [if_neg e1]
 by_cases e5 : b = 5
 ·subst e5; simp [q25.j1]; omega
 rw [show (b == 5) = false by simpa using e5, if_neg (by omega)]
 simp only [q25.j1, Bool.false_eq_true, if_false]
 by_cases e2 : b = 2
 ·subst e2; simp [q25.j2]; rw [Bool.eq_iff_iff]; simp; omega
 rw [if_neg e2]
 by_cases e3 : b = 3
 ·subst e3; simp [q25.j2]; rw [Bool.eq_iff_iff]; simp; omega
 rw [show (b == 3) = false by simpa using e3, if_neg (by omega)]
 simp only [q25.j2, Bool.false_eq_true, if_false]
 by_cases e4 : b = 4
 ·subst e4; simp; rw [Bool.eq_iff_iff]; simp; omega
 ·simp [e4]
theorem Ev.at {α : Type} {g : Nat → Option α} {r : α} (K : Nat) (h : ∀ k, K ≤ k → g k = some r) : Ev g r := ⟨K, h⟩
theorem ev_place (fs : List ByteArray) (l : List (S41)) (id : ByteArray) (hn : l.length ≤ 9223372036854775807) : Ev (fun k => q22.f k fs l id) (q74 l id) := Ev.at (l.length + 1) (fun k hk => ref_place fs l id hn k (by omega))
theorem ev_l2 (fs : List ByteArray) (l : List (S41)) (on : List (S101)) (ifs : List (S90)) (hf : fs.length ≤ 9223372036854775807) (hn : ifs.length ≤ 9223372036854775807) (d : Nat) : ∀ i : Nat, i + d = ifs.length → Ev (fun k => q20.l2 k (i : Int) fs l on ifs) ((ifs.drop i).all (fun c => ifB fs c.f0 c.f1 c.f2)) := by
  induction d with
  | zero =>
    intro i hi
    refine Ev.step (f := fun _ => some true) (fun k => ?_) ?_
    · simp only [q20.l2]
      rw [if_neg (by omega)]
    · rw [List.drop_of_length_le (by omega)]
      exact Ev.now true
  | succ d ih =>
    intro i hi
    have hlt : i < ifs.length := by omega
    have hrd : q84 ifs (i : Int) = ifs[i] := by simp [q84, List.getD_eq_getElem?_getD, List.getElem?_eq_getElem hlt]
    refine Ev.step (f := fun k => (q29.f k fs (ifs[i]).f0).bind fun t => (if t = true then ((q32.f k (ifs[i]).f1).bind fun t2 => (if t2 < 0 then (some false) else (if (ifs[i]).f2 < (-1000000) then (some false) else (if (ifs[i]).f2 > 1000000 then (some false) else (q20.l2 k (((i + 1 : Nat)) : Int) fs l on ifs))))) else (some false))) (fun k => ?_) ?_
    · simp only [q20.l2]
      rw [if_pos (by omega), if_pos (by omega), hrd, wrap_lt (n := (ifs.length : Int)) (by omega) (by omega) (by omega)]
      rfl
    · rw [List.drop_eq_getElem_cons hlt, List.all_cons]
      refine Ev.bind (Ev.at (fs.length + 1) (fun k hk => ref_file fs _ hf k (by omega))) ?_
      unfold ifB
      cases memB fs (ifs[i]).f0 with
      | false =>
        refine Ev.congr (fun k => if_neg (by simp)) ?_
        rw [Bool.false_and, Bool.and_false, Bool.false_and]
        exact Ev.now false
      | true =>
        refine Ev.congr (fun k => if_pos rfl) ?_
        obtain ⟨r, hr, hd⟩ := ref_op (ifs[i]).f1 7 (by omega)
        refine Ev.bind (Ev.at 7 (fun k hk => at_rounds (fun k => q32.mono _ k) hk hr)) ?_
        by_cases h0 : r < 0
        · have : memB opsL (ifs[i]).f1 = false := by rw [decide_eq_true h0] at hd; simpa using hd.symm
          rw [this, Bool.false_and, Bool.false_and]
          refine Ev.congr (fun k => if_pos h0) (Ev.now false)
        · have : memB opsL (ifs[i]).f1 = true := by rw [decide_eq_false h0] at hd; simpa using hd.symm
          rw [this, Bool.true_and, Bool.true_and]
          refine Ev.congr (fun k => if_neg h0) ?_
          by_cases h1 : (ifs[i]).f2 < -1000000
          · rw [decide_eq_false (by omega), Bool.false_and]
            exact Ev.congr (fun k => if_pos h1) (Ev.now false)
          · by_cases h2 : (ifs[i]).f2 > 1000000
            · rw [decide_eq_false (by omega), Bool.false_and]
              exact Ev.congr (fun k => (if_neg h1).trans (if_pos h2)) (Ev.now false)
            · rw [decide_eq_true (by omega), Bool.true_and]
              exact Ev.congr (fun k => (if_neg h1).trans (if_neg h2)) (ih (i + 1) (by omega))
theorem ev_l1 (fs : List ByteArray) (l : List (S41)) (on : List (S101)) (ifs : List (S90)) (hn : on.length ≤ 9223372036854775807) (i : Nat) (hi : i < on.length) (R : Bool) (hR : Ev (fun k => q20.l0 k (((i + 1 : Nat)) : Int) fs l on ifs) R) (d : Nat) : ∀ j : Nat, j + d = i → Ev (fun k => q20.l1 k (i : Int) (j : Int) fs l on ifs) (!(((on.take i).drop j).any (hasOn_p (q76 on i).f0 (q76 on i).f1)) && R) := by
  induction d with
  | zero =>
    intro j hj
    refine Ev.step (f := fun k => q20.l0 k (((i + 1 : Nat)) : Int) fs l on ifs) (fun k => ?_) ?_
    · simp only [q20.l1]
      rw [if_neg (by omega), wrap_lt (n := (on.length : Int)) (by omega) (by omega) (by omega)]
      rfl
    · rw [List.drop_of_length_le (by rw [List.length_take]; omega)]
      simpa using hR
  | succ d ih =>
    intro j hj
    have hjl : j < (on.take i).length := by rw [List.length_take]; omega
    have hrd : q76 on (j : Int) = (on.take i)[j] := by simp [q76, List.getD_eq_getElem?_getD, List.getElem?_eq_getElem (show j < on.length by omega)]
    rw [List.drop_eq_getElem_cons hjl, List.any_cons]
    have hsym : ((((on.take i)[j]).f0.toList == (q76 on i).f0.toList) && (((on.take i)[j]).f1 == (q76 on i).f1)) = hasOn_p (q76 on i).f0 (q76 on i).f1 (on.take i)[j] := by
      unfold hasOn_p
      rw [Bool.eq_iff_iff]
      simp only [Bool.and_eq_true, beq_iff_eq]
      exact ⟨fun h => ⟨h.1.symm, h.2.symm⟩, fun h => ⟨h.1.symm, h.2.symm⟩⟩
    refine Ev.step (f := fun k => if hasOn_p (q76 on i).f0 (q76 on i).f1 (on.take i)[j] = true then some false else q20.l1 k (i : Int) (((j + 1 : Nat)) : Int) fs l on ifs) (fun k => ?_) ?_
    · simp only [q20.l1]
      rw [if_pos (by omega), if_pos (by omega), if_pos (by omega), if_pos (by omega), if_pos (by omega), hrd, hsym, wrap_lt (n := (on.length : Int)) (by omega) (by omega) (by omega)]
      rfl
    · cases hq : hasOn_p (q76 on i).f0 (q76 on i).f1 (on.take i)[j] with
      | true => exact Ev.congr (fun k => if_pos rfl) (by simpa using Ev.now false)
      | false => exact Ev.congr (fun k => if_neg (by simp)) (by simpa using ih (j + 1) (by omega))
theorem ev_l0 (fs : List ByteArray) (l : List (S41)) (on : List (S101)) (ifs : List (S90)) (hf : fs.length ≤ 9223372036854775807) (hl : l.length ≤ 9223372036854775807) (hn : on.length ≤ 9223372036854775807) (hi2 : ifs.length ≤ 9223372036854775807) (d : Nat) : ∀ i : Nat, i + d = on.length → Ev (fun k => q20.l0 k (i : Int) fs l on ifs) ((List.range' i d).all (onOk l on) && ifs.all (fun c => ifB fs c.f0 c.f1 c.f2)) := by
  induction d with
  | zero =>
    intro i hi
    refine Ev.step (f := fun k => q20.l2 k ((0 : Nat) : Int) fs l on ifs) (fun k => ?_) ?_
    · simp only [q20.l0]
      rw [if_neg (by omega)]
      rfl
    · simpa using ev_l2 fs l on ifs hf hi2 ifs.length 0 (by omega)
  | succ d ih =>
    intro i hi
    have hlt : i < on.length := by omega
    rw [List.range'_succ, List.all_cons]
    have hok : onOk l on i = (onB l (q76 on i).f0 (q76 on i).f1 && !hasOn (on.take i) (q76 on i).f0 (q76 on i).f1) := rfl
    rw [hok]
    refine Ev.step (f := fun k => (q22.f k fs l (q76 on i).f0).bind fun t => (if t < 0 then (q20.j2 k (i : Int) true fs l on ifs) else (if 0 ≤ t then (if t < (l.length : Int) then ((q25.f k ((q81 l t).f1) ((q76 on i).f1)).bind fun t2 => (q20.j2 k (i : Int) (!t2) fs l on ifs)) else (none)) else (none)))) (fun k => ?_) ?_
    · simp only [q20.l0]
      rw [if_pos (by omega), if_pos (by omega)]
    · refine Ev.bind (ev_place fs l _ hl) ?_
      have hj2f : Ev (fun k => q20.j2 k (i : Int) true fs l on ifs) false := Ev.step (f := fun _ => some false) (fun k => by simp [q20.j2]) (Ev.now false)
      have hj2t : Ev (fun k => q20.j2 k (i : Int) false fs l on ifs) (!hasOn (on.take i) (q76 on i).f0 (q76 on i).f1 && ((List.range' (i + 1) d).all (onOk l on) && ifs.all (fun c => ifB fs c.f0 c.f1 c.f2))) := by
        refine Ev.step (f := fun k => q20.l1 k (i : Int) ((0 : Nat) : Int) fs l on ifs) (fun k => by simp [q20.j2]) ?_
        have := ev_l1 fs l on ifs hn i hlt _ (ih (i + 1) (by omega)) i 0 (by omega)
        simpa [hasOn] using this
      unfold onB
      by_cases hp : 0 ≤ q74 l (q76 on i).f0
      · rw [if_pos hp]
        refine Ev.congr (fun k => (if_neg (by omega)).trans ((if_pos hp).trans (if_pos (placeI_lt l _)))) ?_
        refine Ev.bind (Ev.at 3 (fun k hk => at_rounds (fun k => q25.mono _ _ k) hk (refLegal3 _ _))) ?_
        cases legalB (q81 l (q74 l (q76 on i).f0)).f1 (q76 on i).f1 with
        | true => simpa [Bool.and_assoc] using hj2t
        | false => simpa using hj2f
      · rw [if_neg hp]
        exact Ev.congr (fun k => if_pos (by omega)) (by simpa using hj2f)
theorem ev_sentry (fs : List ByteArray) (l : List (S41)) (on : List (S101)) (ifs : List (S90)) (hf : fs.length ≤ 9223372036854775807) (hl : l.length ≤ 9223372036854775807) (hn : on.length ≤ 9223372036854775807) (hi2 : ifs.length ≤ 9223372036854775807) : Ev (fun k => q20.f k fs l on ifs) (sentryB fs l on ifs) := by
 have hjf : Ev (fun k => q20.j0 k true fs l on ifs) false := Ev.step (f := fun _ => some false) (fun k => by simp [q20.j0]) (Ev.now false)
 unfold q20.f sentryB
 by_cases h3 : on.length > 3
 ·rw [decide_eq_false (by omega), Bool.false_and]
  exact Ev.congr (fun k => if_pos (by omega)) hjf
 by_cases h2 : ifs.length > 2
 ·rw [decide_eq_false (by omega), Bool.false_and]
  exact Ev.congr (fun k => (if_neg (by omega)).trans (if_pos (by omega))) hjf
 refine Ev.congr (fun k => (if_neg (by omega)).trans (if_neg (by omega))) ?_
 have hw : wrap64 ((on.length : Int) + (ifs.length : Int)) = (on.length : Int) + (ifs.length : Int) := by unfold wrap64; omega
 rw [hw]
 by_cases h0 : on.length + ifs.length = 0
 ·rw [decide_eq_false (by omega), Bool.false_and, show (((on.length : Int) + (ifs.length : Int)) == 0) = true by simp; omega]
  exact hjf
 rw [decide_eq_true (by omega), Bool.true_and, show (((on.length : Int) + (ifs.length : Int)) == 0) = false by
  have : (on.length : Int) + (ifs.length : Int) ≠ 0 := by omega
  simpa using this]
 refine Ev.step (f := fun k => q20.l0 k ((0 : Nat) : Int) fs l on ifs) (fun k => by simp [q20.j0]) ?_
 have := ev_l0 fs l on ifs hf hl hn hi2 on.length 0 (by omega)
 rw [List.range_eq_range']
 have he : ifsOk fs ifs = ifs.all (fun c => ifB fs c.f0 c.f1 c.f2) := by unfold ifsOk; rw [List.not_any_eq_all_not]; simp
 rw [he]
 exact this
theorem ev_sentries_at (fs : List ByteArray) (l : List (S41)) (ss : List (S45)) (hf : fs.length ≤ 9223372036854775807) (hl : l.length ≤ 9223372036854775807) (hs : ss.length ≤ 9223372036854775807) (hg : ∀ s ∈ ss, s.f0.length ≤ 9223372036854775807 ∧ s.f1.length ≤ 9223372036854775807) (d : Nat) : ∀ i : Nat, i + d = ss.length → Ev (fun k => q16.l0 k ss (i : Int) fs l) ((ss.drop i).all (fun s => sentryB fs l s.f0 s.f1) && decide (ss.length ≤ 3)) := by
  induction d with
  | zero =>
    intro i hi
    refine Ev.step (f := fun _ => some (decide ((ss.length : Int) ≤ 3))) (fun k => ?_) ?_
    · simp only [q16.l0]
      rw [if_neg (by omega)]
    · rw [List.drop_of_length_le (by omega), List.all_nil, Bool.true_and, show decide (ss.length ≤ 3) = decide ((ss.length : Int) ≤ 3) by rw [decide_eq_decide]; omega]
      exact Ev.now _
  | succ d ih =>
    intro i hi
    have hlt : i < ss.length := by omega
    have hrd : q82 ss (i : Int) = ss[i] := by simp [q82, List.getD_eq_getElem?_getD, List.getElem?_eq_getElem hlt]
    rw [List.drop_eq_getElem_cons hlt, List.all_cons]
    refine Ev.step (f := fun k => (q20.f k fs l (ss[i]).f0 (ss[i]).f1).bind fun t => (if t = true then (q16.l0 k ss (((i + 1 : Nat)) : Int) fs l) else (some false))) (fun k => ?_) ?_
    · simp only [q16.l0]
      rw [if_pos (by omega), if_pos (by omega), hrd, wrap_lt (n := (ss.length : Int)) (by omega) (by omega) (by omega)]
      rfl
    · have hgi := hg ss[i] (List.getElem_mem hlt)
      refine Ev.bind (ev_sentry fs l _ _ hf hl hgi.1 hgi.2) ?_
      cases sentryB fs l (ss[i]).f0 (ss[i]).f1 with
      | true => exact Ev.congr (fun k => if_pos rfl) (by simpa using ih (i + 1) (by omega))
      | false => exact Ev.congr (fun k => if_neg (by simp)) (by simpa using Ev.now false)
theorem ev_sentries (fs : List ByteArray) (l : List (S41)) (ss : List (S45)) (hf : fs.length ≤ 9223372036854775807) (hl : l.length ≤ 9223372036854775807) (hs : ss.length ≤ 9223372036854775807) (hg : ∀ s ∈ ss, s.f0.length ≤ 9223372036854775807 ∧ s.f1.length ≤ 9223372036854775807) : Ev (fun k => q16.f k fs l ss) (sentsB fs l ss) := by
 have := ev_sentries_at fs l ss hf hl hs hg ss.length 0 (by omega)
 have e : sentsB fs l ss = ((ss.drop 0).all (fun s => sentryB fs l s.f0 s.f1) && decide (ss.length ≤ 3)) := by
  unfold sentsB
  rw [List.not_any_eq_all_not, Bool.and_comm]
  simp
 rw [e]
 exact this
theorem ev_name (s : ByteArray) : Ev (fun k => q34.f k s) (nameB s) := Ev.at 15 (fun k hk => ref_name s k hk)
abbrev nmA (l : List (S41)) (i : Int) : ByteArray := (q81 l i).f0
abbrev kdA (l : List (S41)) (i : Int) : Int := (q81 l i).f1
abbrev paA (l : List (S41)) (i : Int) : ByteArray := (q81 l i).f2
def wnF (l : List (S41)) (id : ByteArray) : Nat → Int → Bool
 | 0, _ => false
 | d + 1, x => if x ≥ 0 then (if (nmA l x).toList = id.toList then true else wnF l id d (q74 l (paA l x))) else false
def dpF (l : List (S41)) : Nat → Int → Int → Int
 | 0, _, _ => -1
 | d + 1, x, c => if x > 0 then dpF l d (q74 l (paA l x)) (c + 1) else if x < 0 then -1 else c
theorem ev_within_at (fs : List ByteArray) (l : List (S41)) (id : ByteArray) (hn : l.length ≤ 9223372036854775806) (d : Nat) : ∀ (x : Int) (c : Nat), c + d = l.length + 1 → x < l.length → Ev (fun k => q19.l0 k x id (c : Int) fs l) (wnF l id d x) := by
  induction d with
  | zero =>
    intro x c hc hx
    unfold wnF
    by_cases h : x ≥ 0
    · refine Ev.step (f := fun k => q19.j1 k x id (c : Int) false fs l) (fun k => ?_) ?_
      · simp only [q19.l0]
        rw [if_pos h, decide_eq_false (by omega)]
      · exact Ev.step (f := fun _ => some false) (fun k => by simp [q19.j1]) (Ev.now false)
    · refine Ev.step (f := fun k => q19.j1 k x id (c : Int) false fs l) (fun k => ?_) ?_
      · simp only [q19.l0]
        rw [if_neg h]
      · exact Ev.step (f := fun _ => some false) (fun k => by simp [q19.j1]) (Ev.now false)
  | succ d ih =>
    intro x c hc hx
    unfold wnF
    by_cases h : x ≥ 0
    · rw [if_pos h]
      refine Ev.step (f := fun k => q19.j1 k x id (c : Int) true fs l) (fun k => ?_) ?_
      · simp only [q19.l0]
        rw [if_pos h, decide_eq_true (by omega)]
      · refine Ev.step (f := fun k => if (nmA l x).toList = id.toList then (some true) else ((q22.f k fs l (paA l x)).bind fun t => (q19.l0 k t id (((c + 1 : Nat)) : Int) fs l))) (fun k => ?_) ?_
        · simp only [q19.j1]
          rw [if_pos trivial, if_pos h, if_pos hx, show wrap64 ((c : Int) + 1) = ((c + 1 : Nat) : Int) by unfold wrap64; omega]
        · by_cases he : (nmA l x).toList = id.toList
          · rw [if_pos he]
            exact Ev.congr (fun k => if_pos he) (Ev.now true)
          · rw [if_neg he]
            exact Ev.congr (fun k => if_neg he) (Ev.bind (ev_place fs l _ (by omega)) (ih _ (c + 1) (by omega) (placeI_lt l _)))
    · rw [if_neg h]
      refine Ev.step (f := fun k => q19.j1 k x id (c : Int) false fs l) (fun k => ?_) ?_
      · simp only [q19.l0]
        rw [if_neg h]
      · exact Ev.step (f := fun _ => some false) (fun k => by simp [q19.j1]) (Ev.now false)
theorem ev_within (fs : List ByteArray) (l : List (S41)) (id : ByteArray) (hn : l.length ≤ 9223372036854775806) (x : Int) (hx : x < l.length) : Ev (fun k => q19.f k fs l x id) (wnF l id (l.length + 1) x) := ev_within_at fs l id hn (l.length + 1) x 0 (by omega) hx
theorem ev_depth_at (fs : List ByteArray) (l : List (S41)) (hn : l.length ≤ 9223372036854775806) (d : Nat) : ∀ (x : Int) (c : Nat), c + d = l.length + 1 → x < l.length → Ev (fun k => q23.l0 k x (c : Int) fs l) (dpF l d x c) := by
  induction d with
  | zero =>
    intro x c hc hx
    unfold dpF
    refine Ev.step (f := fun _ => some (-1)) (fun k => ?_) (Ev.now _)
    simp only [q23.l0]
    by_cases h : x > 0
    · rw [if_pos h, if_neg (by omega), if_neg (by omega), if_pos (by omega)]
    · rw [if_neg h]
      by_cases h2 : x < 0
      · rw [if_pos h2]
      · rw [if_neg h2, if_pos (by omega)]
  | succ d ih =>
    intro x c hc hx
    unfold dpF
    by_cases h : x > 0
    · rw [if_pos h]
      refine Ev.step (f := fun k => ((q22.f k fs l (paA l x)).bind fun t => (q23.l0 k t (((c + 1 : Nat)) : Int) fs l))) (fun k => ?_) ?_
      · simp only [q23.l0]
        rw [if_pos h, if_pos (by omega), if_pos (by omega), if_pos hx, show wrap64 ((c : Int) + 1) = ((c + 1 : Nat) : Int) by unfold wrap64; omega]
      · exact Ev.bind (ev_place fs l _ (by omega)) (ih _ (c + 1) (by omega) (placeI_lt l _))
    · rw [if_neg h]
      by_cases h2 : x < 0
      · rw [if_pos h2]
        refine Ev.step (f := fun _ => some (-1)) (fun k => ?_) (Ev.now _)
        simp only [q23.l0]
        rw [if_neg h, if_pos h2]
      · rw [if_neg h2]
        refine Ev.step (f := fun _ => some (c : Int)) (fun k => ?_) (Ev.now _)
        simp only [q23.l0]
        rw [if_neg h, if_neg h2, if_neg (by omega)]
theorem ev_depth (fs : List ByteArray) (l : List (S41)) (hn : l.length ≤ 9223372036854775806) (x : Int) (hx : x < l.length) : Ev (fun k => q23.f k fs l x) (dpF l (l.length + 1) x 0) := ev_depth_at fs l hn (l.length + 1) x 0 (by omega) hx
def rplace (l : List (S41)) (i : Nat) : Bool :=
 if i = 0 then planB (q81 l i).f1 (q81 l i).f2 (q81 l i).f3 (q81 l i).f5.length (q81 l i).f6.length
 else !decide ((paA l i).toList = []) && (decide (0 ≤ q74 l (paA l i) ∧ q74 l (paA l i) < i ∧ kdA l (q74 l (paA l i)) = 1) && (wnF l (paA l i) (l.length + 1) ((i : Int) - 1) && decide (1 ≤ dpF l (l.length + 1) i 0 ∧ dpF l (l.length + 1) i 0 ≤ 5)))
def rown (x : S41) : Bool := decide (1 ≤ x.f1 ∧ x.f1 ≤ 5) && ((if x.f1 = 5 then decide (1 ≤ x.f4 ∧ x.f4 ≤ 100) else decide (x.f4 = 0)) && !(decide (x.f1 ≥ 4) && (x.f3 || decide (0 < x.f5.length))))
def ritem (l : List (S41)) (i : Nat) : Bool :=
 nameB (nmA l i) && (decide (q74 l (nmA l i) = i) && (rown (q81 l i) && rplace l i))
theorem ev_j2f (fs : List ByteArray) (l : List (S41)) (i : Int) (a0 : ByteArray) (a1 : Int) (a2 : ByteArray) (a3 : Bool) (a4 : Int) (l5 l6 : List (S45)) : Ev (fun k => q28.j2 k i true fs l a0 a1 a2 a3 a4 l5 l6) false := Ev.step (f := fun _ => some false) (fun k => by simp [q28.j2]) (Ev.now false)
theorem ev_j2 (fs : List ByteArray) (l : List (S41)) (hn : l.length ≤ 9223372036854775806) (i : Nat) (hi : i < l.length) (x : S41) (hx : x = q81 l i) : Ev (fun k => q28.j2 k i false fs l x.f0 x.f1 x.f2 x.f3 x.f4 x.f5 x.f6) (rplace l i) := by
  unfold rplace
  rw [← hx]
  show Ev _ (if i = 0 then planB x.f1 x.f2 x.f3 x.f5.length x.f6.length else !decide ((paA l i).toList = []) && (decide (0 ≤ q74 l (paA l i) ∧ q74 l (paA l i) < i ∧ kdA l (q74 l (paA l i)) = 1) && (wnF l (paA l i) (l.length + 1) ((i : Int) - 1) && decide (1 ≤ dpF l (l.length + 1) i 0 ∧ dpF l (l.length + 1) i 0 ≤ 5))))
  have hpa : paA l i = x.f2 := by rw [hx]
  rw [hpa]
  by_cases h0 : i = 0
  · rw [if_pos h0]
    unfold planB
    refine Ev.step (f := fun _ => some (decide (x.f1 = 1) && (decide (x.f2.toList = []) && (!x.f3 && decide (x.f5.length + x.f6.length = 0))))) (fun k => ?_) (Ev.now _)
    simp only [q28.j2]
    rw [if_neg (by simp), if_pos (by omega)]
    by_cases h1 : x.f1 = 1
    · by_cases h2 : x.f2.toList = []
      · cases h3 : x.f3 with
        | true => simp [h1, h2]
        | false =>
          by_cases h5 : x.f5.length = 0
          · by_cases h6 : x.f6.length = 0 <;> simp [h1, h2, h5, h6] <;> omega
          · have : ¬ ((x.f5.length : Int) = 0) := by omega
            simp [h1, h2, h5, this]
            
      · simp [h1, h2]
    · simp [h1]
  · rw [if_neg h0]
    refine Ev.step (f := fun k => ((q22.f k fs l x.f2).bind fun t180 => (if x.f2.toList = ([] : List UInt8) then (some false) else (if t180 ≥ 0 then (if t180 < (i : Int) then (if 0 ≤ t180 then (if t180 < (l.length : Int) then (if ((q81 l t180).f1) = 1 then ((q19.f k fs l ((i : Int) - 1) x.f2).bind fun t182 => (if t182 = true then ((q23.f k fs l i).bind fun t183 => (if t183 ≥ 1 then ((q23.f k fs l i).bind fun t184 => (some (decide (t184 ≤ 5)))) else (some false))) else (some false))) else (some false)) else (none)) else (none)) else (some false)) else (some false))))) (fun k => ?_) ?_
    · simp only [q28.j2]
      rw [if_neg (by simp), if_neg (by omega), show wrap64 ((i : Int) - 1) = (i : Int) - 1 by unfold wrap64; omega]
    · refine Ev.bind (ev_place fs l _ (by omega)) ?_
      by_cases h1 : x.f2.toList = []
      · rw [decide_eq_true h1, Bool.not_true, Bool.false_and]
        exact Ev.congr (fun k => if_pos h1) (Ev.now false)
      rw [decide_eq_false h1, Bool.not_false, Bool.true_and]
      refine Ev.congr (fun k => if_neg h1) ?_
      by_cases h2 : 0 ≤ q74 l x.f2
      case neg =>
        rw [decide_eq_false (fun h => h2 h.1), Bool.false_and]
        exact Ev.congr (fun k => if_neg h2) (Ev.now false)
      refine Ev.congr (fun k => if_pos h2) ?_
      by_cases h3 : q74 l x.f2 < (i : Int)
      case neg =>
        rw [decide_eq_false (fun h => h3 h.2.1), Bool.false_and]
        exact Ev.congr (fun k => if_neg h3) (Ev.now false)
      refine Ev.congr (fun k => (if_pos h3).trans ((if_pos h2).trans (if_pos (placeI_lt l _)))) ?_
      by_cases h4 : kdA l (q74 l x.f2) = 1
      case neg =>
        rw [decide_eq_false (fun h => h4 h.2.2), Bool.false_and]
        exact Ev.congr (fun k => if_neg h4) (Ev.now false)
      rw [decide_eq_true ⟨h2, h3, h4⟩, Bool.true_and]
      refine Ev.congr (fun k => if_pos h4) ?_
      refine Ev.bind (ev_within fs l x.f2 hn _ (by omega)) ?_
      cases wnF l x.f2 (l.length + 1) ((i : Int) - 1) with
      | false => exact Ev.congr (fun k => if_neg (by simp)) (by simpa using Ev.now false)
      | true =>
        rw [Bool.true_and]
        refine Ev.congr (fun k => if_pos rfl) ?_
        refine Ev.bind (ev_depth fs l hn _ (by omega)) ?_
        by_cases h5 : dpF l (l.length + 1) i 0 ≥ 1
        case neg =>
          rw [decide_eq_false (fun h => h5 h.1)]
          exact Ev.congr (fun k => if_neg h5) (Ev.now false)
        refine Ev.congr (fun k => if_pos h5) ?_
        refine Ev.bind (ev_depth fs l hn _ (by omega)) ?_
        rw [show decide (1 ≤ dpF l (l.length + 1) i 0 ∧ dpF l (l.length + 1) i 0 ≤ 5) = decide (dpF l (l.length + 1) i 0 ≤ 5) by rw [decide_eq_decide]; exact ⟨fun h => h.2, fun h => ⟨h5, h⟩⟩]
        exact Ev.now _
theorem ev_item (fs : List ByteArray) (l : List (S41)) (hn : l.length ≤ 9223372036854775806) (i : Nat) (hi : i < l.length) : Ev (fun k => q28.f k fs l i) (ritem l i) := by
  obtain ⟨x, hx⟩ : ∃ x, x = q81 l i := ⟨_, rfl⟩
  unfold q28.f ritem nmA
  rw [← hx]
  refine Ev.congr (fun k => (if_pos (by omega)).trans (if_pos (by omega))) ?_
  refine Ev.bind (ev_name _) ?_
  have hj0f : Ev (fun k => q28.j0 k i true fs l x.f0 x.f1 x.f2 x.f3 x.f4 x.f5 x.f6) false := Ev.step (f := fun _ => some false) (fun k => by simp [q28.j0]) (Ev.now false)
  cases nameB x.f0 with
  | false => exact Ev.congr (fun k => if_neg (by simp)) (by simpa using hj0f)
  | true =>
    rw [Bool.true_and]
    refine Ev.congr (fun k => if_pos rfl) (Ev.bind (ev_place fs l _ (by omega)) ?_)
    by_cases h1 : q74 l x.f0 = (i : Int)
    case neg =>
      rw [decide_eq_false h1, Bool.false_and]
      exact Ev.congr (fun k => if_neg h1) hj0f
    rw [decide_eq_true h1, Bool.true_and]
    refine Ev.congr (fun k => if_pos h1) ?_
    unfold rown
    by_cases h2 : x.f1 < 1
    · rw [decide_eq_false (p := 1 ≤ x.f1 ∧ x.f1 ≤ 5) (by omega), Bool.false_and, Bool.false_and]
      exact Ev.congr (fun k => if_pos h2) hj0f
    refine Ev.congr (fun k => if_neg h2) ?_
    by_cases h3 : x.f1 > 5
    · rw [decide_eq_false (p := 1 ≤ x.f1 ∧ x.f1 ≤ 5) (by omega), Bool.false_and, Bool.false_and, decide_eq_true (p := x.f1 > 5) h3]
      exact hj0f
    rw [decide_eq_true (p := 1 ≤ x.f1 ∧ x.f1 ≤ 5) (by omega), Bool.true_and, decide_eq_false (p := x.f1 > 5) h3]
    obtain ⟨T, hT⟩ : ∃ T, T = (if x.f1 = 5 then decide (1 ≤ x.f4 ∧ x.f4 ≤ 100) else decide (x.f4 = 0)) := ⟨_, rfl⟩
    rw [← hT]
    refine Ev.step (f := fun k => q28.j1 k i T fs l x.f0 x.f1 x.f2 x.f3 x.f4 x.f5 x.f6) (fun k => ?_) ?_
    · simp only [q28.j0, Bool.false_eq_true, if_false]
      rw [hT]
      by_cases h5 : x.f1 = 5
      · rw [if_pos h5, if_pos h5]
        by_cases ha : x.f4 ≥ 1
        · rw [if_pos ha, show decide (1 ≤ x.f4 ∧ x.f4 ≤ 100) = decide (x.f4 ≤ 100) by rw [decide_eq_decide]; omega]
        · rw [if_neg ha, decide_eq_false (by omega)]
      · rw [if_neg h5, if_neg h5]
        rfl
    · have hj2 := ev_j2 fs l hn i hi x hx
      have hj2f := ev_j2f fs l i x.f0 x.f1 x.f2 x.f3 x.f4 x.f5 x.f6
      cases T with
      | false => exact Ev.step (f := fun k => q28.j2 k i true fs l x.f0 x.f1 x.f2 x.f3 x.f4 x.f5 x.f6) (fun k => by simp [q28.j1]) (by simpa using hj2f)
      | true =>
        by_cases h4 : x.f1 ≥ 4
        · rw [decide_eq_true (p := x.f1 ≥ 4) h4, Bool.true_and]
          cases h6 : x.f3 with
          | true =>
            refine Ev.step (f := fun k => q28.j2 k i true fs l x.f0 x.f1 x.f2 true x.f4 x.f5 x.f6) (fun k => by simp [q28.j1, h4]) ?_
            rw [h6] at hj2f
            simpa using hj2f
          | false =>
            rw [h6] at hj2 hj2f
            by_cases h7 : 0 < x.f5.length
            · refine Ev.step (f := fun k => q28.j2 k i true fs l x.f0 x.f1 x.f2 false x.f4 x.f5 x.f6) (fun k => ?_) ?_
              · simp only [q28.j1]
                rw [if_pos trivial, if_pos h4, if_neg (by simp), decide_eq_true (by omega)]
              · rw [decide_eq_true h7]; simpa using hj2f
            · refine Ev.step (f := fun k => q28.j2 k i false fs l x.f0 x.f1 x.f2 false x.f4 x.f5 x.f6) (fun k => ?_) ?_
              · simp only [q28.j1]
                rw [if_pos trivial, if_pos h4, if_neg (by simp), decide_eq_false (by omega)]
              · rw [decide_eq_false h7]; simpa using hj2
        · rw [decide_eq_false (p := x.f1 ≥ 4) h4, Bool.false_and]
          refine Ev.step (f := fun k => q28.j2 k i false fs l x.f0 x.f1 x.f2 x.f3 x.f4 x.f5 x.f6) (fun k => ?_) (by simpa using hj2)
          simp only [q28.j1]
          rw [if_pos trivial, if_neg h4]
def risB (fs : List ByteArray) (l : List (S41)) : Bool :=
 decide (fs.length ≤ 6 ∧ 1 ≤ l.length ∧ l.length ≤ 16) && (namesB fs && ((List.range l.length).all (ritem l) && l.all (fun x => sentsB fs l x.f5 && sentsB fs l x.f6)))
def Fits (fs : List ByteArray) (l : List (S41)) : Prop := fs.length ≤ 9223372036854775806 ∧ l.length ≤ 9223372036854775806 ∧ ∀ x ∈ l, (x.f5.length ≤ 9223372036854775806 ∧ ∀ s ∈ x.f5, s.f0.length ≤ 9223372036854775806 ∧ s.f1.length ≤ 9223372036854775806) ∧ (x.f6.length ≤ 9223372036854775806 ∧ ∀ s ∈ x.f6, s.f0.length ≤ 9223372036854775806 ∧ s.f1.length ≤ 9223372036854775806)
theorem ev_is2 (fs : List ByteArray) (l : List (S41)) (hF : Fits fs l) (d : Nat) : ∀ i : Nat, i + d = l.length → Ev (fun k => q35.l2 k (i : Int) fs l) ((l.drop i).all (fun x => sentsB fs l x.f5 && sentsB fs l x.f6)) := by
  obtain ⟨h1, h2, h3⟩ := hF
  induction d with
  | zero =>
    intro i hi
    refine Ev.step (f := fun _ => some true) (fun k => ?_) ?_
    · simp only [q35.l2]
      rw [if_neg (by omega)]
    · rw [List.drop_of_length_le (by omega)]
      exact Ev.now true
  | succ d ih =>
    intro i hi
    have hlt : i < l.length := by omega
    have hrd : q81 l (i : Int) = l[i] := by simp [q81, List.getD_eq_getElem?_getD, List.getElem?_eq_getElem hlt]
    rw [List.drop_eq_getElem_cons hlt, List.all_cons]
    obtain ⟨⟨a5, b5⟩, a6, b6⟩ := h3 l[i] (List.getElem_mem hlt)
    refine Ev.step (f := fun k => ((q16.f k fs l (l[i].f5)).bind fun t213 => (if t213 = true then ((q16.f k fs l (l[i].f6)).bind fun t215 => (if t215 = true then (q35.l2 k (((i + 1 : Nat)) : Int) fs l) else (some false))) else (some false)))) (fun k => ?_) ?_
    · simp only [q35.l2]
      rw [if_pos (by omega), if_pos (by omega), hrd, wrap_lt (n := (l.length : Int)) (by omega) (by omega) (by omega)]
      rfl
    · refine Ev.bind (ev_sentries fs l _ (by omega) (by omega) (by omega) (fun s hs => ⟨by have := (b5 s hs).1; omega, by have := (b5 s hs).2; omega⟩)) ?_
      cases sentsB fs l l[i].f5 with
      | false => exact Ev.congr (fun k => if_neg (by simp)) (by simpa using Ev.now false)
      | true =>
        rw [Bool.true_and]
        refine Ev.congr (fun k => if_pos rfl) ?_
        refine Ev.bind (ev_sentries fs l _ (by omega) (by omega) (by omega) (fun s hs => ⟨by have := (b6 s hs).1; omega, by have := (b6 s hs).2; omega⟩)) ?_
        cases sentsB fs l l[i].f6 with
        | false => exact Ev.congr (fun k => if_neg (by simp)) (by simpa using Ev.now false)
        | true => exact Ev.congr (fun k => if_pos rfl) (by simpa using ih (i + 1) (by omega))
theorem ev_is1 (fs : List ByteArray) (l : List (S41)) (hF : Fits fs l) (d : Nat) : ∀ i : Nat, i + d = l.length → Ev (fun k => q35.l1 k (i : Int) fs l) ((List.range' i d).all (ritem l) && l.all (fun x => sentsB fs l x.f5 && sentsB fs l x.f6)) := by
  have h2 := hF.2.1
  induction d with
  | zero =>
    intro i hi
    refine Ev.step (f := fun k => q35.l2 k ((0 : Nat) : Int) fs l) (fun k => ?_) ?_
    · simp only [q35.l1]
      rw [if_neg (by omega)]
      rfl
    · simpa using ev_is2 fs l hF l.length 0 (by omega)
  | succ d ih =>
    intro i hi
    have hlt : i < l.length := by omega
    rw [List.range'_succ, List.all_cons]
    refine Ev.step (f := fun k => ((q28.f k fs l i).bind fun t211 => (if t211 = true then (q35.l1 k (((i + 1 : Nat)) : Int) fs l) else (some false)))) (fun k => ?_) ?_
    · simp only [q35.l1]
      rw [if_pos (by omega), wrap_lt (n := (l.length : Int)) (by omega) (by omega) (by omega)]
      rfl
    · refine Ev.bind (ev_item fs l h2 i hlt) ?_
      cases ritem l i with
      | false => exact Ev.congr (fun k => if_neg (by simp)) (by simpa using Ev.now false)
      | true => exact Ev.congr (fun k => if_pos rfl) (by simpa using ih (i + 1) (by omega))
theorem ev_is0 (fs : List ByteArray) (l : List (S41)) (hF : Fits fs l) (d : Nat) : ∀ i : Nat, i + d = fs.length → Ev (fun k => q35.l0 k (i : Int) fs l) ((List.range' i d).all (nameOk fs) && ((List.range l.length).all (ritem l) && l.all (fun x => sentsB fs l x.f5 && sentsB fs l x.f6))) := by
  have h1 := hF.1
  induction d with
  | zero =>
    intro i hi
    refine Ev.step (f := fun k => q35.l1 k ((0 : Nat) : Int) fs l) (fun k => ?_) ?_
    · simp only [q35.l0]
      rw [if_neg (by omega)]
      rfl
    · have := ev_is1 fs l hF l.length 0 (by omega)
      rw [List.range_eq_range']
      simpa using this
  | succ d ih =>
    intro i hi
    have hlt : i < fs.length := by omega
    rw [List.range'_succ, List.all_cons]
    refine Ev.step (f := fun k => ((q34.f k (rdOf ByteArray.empty fs i)).bind fun t207 => (if t207 = true then ((q29.f k (fs.take i) (rdOf ByteArray.empty fs i)).bind fun t210 => (if t210 = true then (some false) else (q35.l0 k (((i + 1 : Nat)) : Int) fs l))) else (some false)))) (fun k => ?_) ?_
    · simp only [q35.l0]
      rw [if_pos (by omega), if_pos (by omega), if_pos (by omega), wrap_lt (n := (fs.length : Int)) (by omega) (by omega) (by omega)]
      rfl
    · refine Ev.bind (ev_name _) ?_
      have hok : nameOk fs i = (nameB (rdOf ByteArray.empty fs i) && !memB (fs.take i) (rdOf ByteArray.empty fs i)) := rfl
      rw [hok]
      cases nameB (rdOf ByteArray.empty fs i) with
      | false => exact Ev.congr (fun k => if_neg (by simp)) (by simpa using Ev.now false)
      | true =>
        rw [Bool.true_and]
        refine Ev.congr (fun k => if_pos rfl) ?_
        refine Ev.bind (Ev.at ((fs.take i).length + 1) (fun k hk => ref_file _ _ (by rw [List.length_take]; omega) k (by omega))) ?_
        cases memB (fs.take i) (rdOf ByteArray.empty fs i) with
        | true => exact Ev.congr (fun k => if_pos rfl) (by simpa using Ev.now false)
        | false => exact Ev.congr (fun k => if_neg (by simp)) (by simpa using ih (i + 1) (by omega))
theorem ev_ris (fs : List ByteArray) (l : List (S41)) (hF : Fits fs l) : Ev (fun k => q35.f k fs l) (risB fs l) := by
 unfold q35.f risB
 have hjf : Ev (fun k => q35.j0 k true fs l) false := Ev.step (f := fun _ => some false) (fun k => by simp [q35.j0]) (Ev.now false)
 by_cases h1 : fs.length > 6
 ·rw [decide_eq_false (p := fs.length ≤ 6 ∧ 1 ≤ l.length ∧ l.length ≤ 16) (by omega), Bool.false_and]
  exact Ev.congr (fun k => if_pos (by omega)) hjf
 refine Ev.congr (fun k => if_neg (by omega)) ?_
 by_cases h2 : l.length < 1
 ·rw [decide_eq_false (p := fs.length ≤ 6 ∧ 1 ≤ l.length ∧ l.length ≤ 16) (by omega), Bool.false_and]
  exact Ev.congr (fun k => if_pos (by omega)) hjf
 refine Ev.congr (fun k => if_neg (by omega)) ?_
 by_cases h3 : l.length > 16
 ·rw [decide_eq_false (p := fs.length ≤ 6 ∧ 1 ≤ l.length ∧ l.length ≤ 16) (by omega), Bool.false_and, decide_eq_true (p := (l.length : Int) > 16) (by omega)]
  exact hjf
 rw [decide_eq_true (p := fs.length ≤ 6 ∧ 1 ≤ l.length ∧ l.length ≤ 16) (by omega), Bool.true_and, decide_eq_false (p := (l.length : Int) > 16) (by omega)]
 refine Ev.step (f := fun k => q35.l0 k ((0 : Nat) : Int) fs l) (fun k => by simp [q35.j0]) ?_
 have := ev_is0 fs l hF fs.length 0 (by omega)
 unfold namesB
 rw [List.range_eq_range' (n := fs.length)]
 exact this
theorem rd_in (l : List (S41)) (i : Nat) (h : i < l.length) : q81 l (i : Int) = l[i] := by simp [q81, List.getD_eq_getElem?_getD, List.getElem?_eq_getElem h]
theorem rd_getD (l : List (S41)) (i : Nat) : q81 l (i : Int) = l.getD i z41 := rfl
theorem placeI_congr (l : List (S41)) (a b : ByteArray) (h : a.toList = b.toList) : q74 l a = q74 l b := by
 unfold q74
 have : q39.p a = q39.p b := by funext x; unfold q39.p; rw [h]
 rw [this]
theorem placeI_self (l : List (S41)) (i : Nat) (hi : i < l.length) : decide (q74 l (nmA l i) = i) = !memB ((l.map (·.f0)).take i) (rdOf ByteArray.empty (l.map (·.f0)) (i : Int)) := by
  have hr : rdOf ByteArray.empty (l.map (·.f0)) (i : Int) = nmA l i := by
    rw [rdOf_get _ _ _ (by simpa using hi)]
    unfold nmA
    rw [rd_in l i hi]; simp
  rw [hr]
  cases hm : memB ((l.map (·.f0)).take i) (nmA l i) with
  | false =>
    have : q74 l (nmA l i) = i := by
      unfold q74
      refine fidx_hit _ l i z41 hi ?_ (fun j hj => ?_)
      · rw [← rd_getD]; unfold q39.p; simp
      · unfold memB at hm
        rw [List.any_eq_false] at hm
        have hjl : j < l.length := by omega
        have hmem : l[j].f0 ∈ (l.map (·.f0)).take i := by
          rw [List.mem_take_iff_getElem]
          exact ⟨j, by rw [List.length_map]; omega, by simp⟩
        have := hm _ hmem
        rw [← rd_getD, rd_in l j hjl]
        unfold q39.p
        have hne : (nmA l i).toList ≠ l[j].f0.toList := by simpa using this
        simpa using Ne.symm hne
    rw [this]; simp
  | true =>
    unfold memB at hm
    obtain ⟨x, hx, he⟩ := List.any_eq_true.1 hm
    obtain ⟨j, hj, hjx⟩ := List.mem_take_iff_getElem.1 hx
    rw [List.length_map] at hj
    have hjl : j < l.length := by omega
    have : q74 l (nmA l i) ≠ i := by
      intro h
      unfold q74 fidx at h
      cases e : l.findIdx? (q39.p (nmA l i)) with
      | none => rw [e] at h; simp only at h; omega
      | some q =>
        rw [e] at h
        simp only at h
        obtain ⟨_, _, hno⟩ := List.findIdx?_eq_some_iff_getElem.1 e
        have := hno j (by omega)
        apply this
        unfold q39.p
        have hx2 : x = l[j].f0 := by rw [← hjx]; simp
        have he2 : (nmA l i).toList = x.toList := by simpa using he
        rw [hx2] at he2
        simp [he2]
    simp [this]
inductive Pth (l : List (S41)) : Nat → List ByteArray → Prop
 | root : Pth l 0 [nmA l 0]
 | kid (p i : Nat) (st : List ByteArray) : Pth l p st → q74 l (paA l i) = p → p < i → Pth l i (st ++ [nmA l i])
theorem Pth.len {l : List (S41)} {i : Nat} {st : List ByteArray} (h : Pth l i st) : st.length ≤ i + 1 ∧ 0 < st.length := by
 induction h with
 | root => simp
 | kid p i st hp e hlt ih => simp only [List.length_append, List.length_singleton]; omega
theorem Pth.head {l : List (S41)} {i : Nat} {st : List ByteArray} (h : Pth l i st) : ∀ m, 0 < m → m ≤ st.length → ∃ q, q ≤ i ∧ Pth l q (st.take m) ∧ st[m-1]? = some (nmA l q) := by
  induction h with
  | root =>
    intro m h0 hm
    simp only [List.length_singleton] at hm
    obtain rfl : m = 1 := by omega
    exact ⟨0, Nat.le_refl _, Pth.root, rfl⟩
  | kid p i st hp e hlt ih =>
    intro m h0 hm
    simp only [List.length_append, List.length_singleton] at hm
    by_cases hq : m ≤ st.length
    · obtain ⟨q, hq1, hq2, hq3⟩ := ih m h0 hq
      refine ⟨q, by omega, ?_, ?_⟩
      · rw [List.take_append_of_le_length hq]; exact hq2
      · rw [List.getElem?_append_left (by omega)]; exact hq3
    · obtain rfl : m = st.length + 1 := by omega
      refine ⟨i, Nat.le_refl _, ?_, ?_⟩
      · rw [List.take_of_length_le (by simp)]
        exact Pth.kid p i st hp e hlt
      · simp
theorem Pth.wn {l : List (S41)} (h0 : q74 l (paA l 0) = -1) (id : ByteArray) {i : Nat} {st : List ByteArray} (h : Pth l i st) : ∀ d, st.length ≤ d → wnF l id d i = st.any (idxP id) := by
  induction h with
  | root =>
    intro d hd
    simp only [List.length_singleton] at hd
    obtain ⟨d, rfl⟩ : ∃ m, d = m + 1 := ⟨d - 1, by omega⟩
    unfold wnF
    rw [if_pos (by omega)]
    by_cases he : (nmA l 0).toList = id.toList
    · rw [if_pos (by exact he)]
      simp [idxP, he]
    · rw [if_neg (by exact he), show ((0 : Nat) : Int) = 0 from rfl, h0]
      have : wnF l id d (-1) = false := by cases d <;> simp [wnF]
      rw [this]
      simp [idxP, Ne.symm he]
  | kid p i st hp e hlt ih =>
    intro d hd
    simp only [List.length_append, List.length_singleton] at hd
    obtain ⟨d, rfl⟩ : ∃ m, d = m + 1 := ⟨d - 1, by omega⟩
    unfold wnF
    rw [if_pos (by omega), List.any_append]
    by_cases he : (nmA l i).toList = id.toList
    · rw [if_pos (by exact he)]
      simp [idxP, he]
    · rw [if_neg (by exact he), e, ih d (by omega)]
      simp [idxP, Ne.symm he]
theorem Pth.dp {l : List (S41)} {i : Nat} {st : List ByteArray} (h : Pth l i st) : ∀ d (c : Int), st.length ≤ d → dpF l d i c = c + st.length - 1 := by
  induction h with
  | root =>
    intro d c hd
    simp only [List.length_singleton] at hd
    obtain ⟨d, rfl⟩ : ∃ m, d = m + 1 := ⟨d - 1, by omega⟩
    simp [dpF]
  | kid p i st hp e hlt ih =>
    intro d c hd
    simp only [List.length_append, List.length_singleton] at hd ⊢
    obtain ⟨d, rfl⟩ : ∃ m, d = m + 1 := ⟨d - 1, by omega⟩
    unfold dpF
    rw [if_pos (by omega), e, ih d _ (by omega)]
    omega
theorem stk_places (l : List (S41)) (hD : ∀ i : Nat, i < l.length → q74 l (nmA l i) = i ∧ (nmA l i).toList ≠ []) (h0 : (paA l 0).toList = []) : ∀ i : Nat, i < l.length → (match stk l (i + 1) with | some st => Pth l i st ∧ ∀ q, q ≤ i → 0 < q → rplace l q = true | none => ∃ q, q ≤ i ∧ 0 < q ∧ rplace l q = false) := by
  have hroot : q74 l (paA l 0) = -1 := by
    unfold q74
    refine fidx_miss _ l z41 (fun j hj => ?_)
    rw [← rd_getD]
    unfold q39.p
    have := (hD j hj).2
    rw [h0]
    simpa using this
  intro i
  induction i with
  | zero =>
    intro hi
    have : stk l (0 + 1) = some [nmA l 0] := by simp [stk, stkStep]
    rw [this]
    exact ⟨Pth.root, fun q h1 h2 => by omega⟩
  | succ i ih =>
    intro hi
    have hi' := ih (by omega)
    have hstk : stk l (i + 1 + 1) = (stk l (i + 1)).bind (stkStep l (i + 1)) := rfl
    rw [hstk]
    cases hs : stk l (i + 1) with
    | none =>
      rw [hs] at hi'
      obtain ⟨q, h1, h2, h3⟩ := hi'
      exact ⟨q, by omega, h2, h3⟩
    | some st =>
      rw [hs] at hi'
      obtain ⟨hp, hall⟩ := hi'
      rw [Option.bind_some]
      obtain ⟨a, ha⟩ : ∃ a, a = paA l ((i + 1 : Nat) : Int) := ⟨_, rfl⟩
      have hlen := hp.len
      have hwn : wnF l a (l.length + 1) ((i + 1 : Nat) - 1) = st.any (idxP a) := by
        have := hp.wn hroot a (l.length + 1) (by omega)
        rw [show (((i + 1 : Nat) : Int) - 1) = (i : Int) by omega]
        exact this
      have hrp : rplace l (i + 1) = (!decide (a.toList = []) && (decide (0 ≤ q74 l a ∧ q74 l a < ((i + 1 : Nat) : Int) ∧ kdA l (q74 l a) = 1) && (wnF l a (l.length + 1) (((i + 1 : Nat) : Int) - 1) && decide (1 ≤ dpF l (l.length + 1) ((i + 1 : Nat) : Int) 0 ∧ dpF l (l.length + 1) ((i + 1 : Nat) : Int) 0 ≤ 5)))) := by
        unfold rplace
        rw [if_neg (by omega), ha]
      rw [hwn] at hrp
      have hst : stkStep l (i + 1) st = if (st.take (fidx (idxP a) st + 1).toNat).length = 0 ∨ 5 < (st.take (fidx (idxP a) st + 1).toNat).length ∨ kdA l (q74 l a) ≠ 1 then none else some (st.take (fidx (idxP a) st + 1).toNat ++ [nmA l ((i + 1 : Nat) : Int)]) := by
        unfold stkStep
        rw [if_neg (by omega), ha]
      rw [hst]
      have hfl := fidx_lt (idxP a) st
      have hfa := fidx_any (idxP a) st
      by_cases hin : st.any (idxP a) = true
      case neg =>
        have hin2 : st.any (idxP a) = false := by simpa using hin
        have hneg : fidx (idxP a) st = -1 := fidx_neg _ _ (by rw [hin2] at hfa; have := of_decide_eq_false hfa; omega)
        rw [hneg, if_pos (Or.inl (by simp))]
        refine ⟨i + 1, Nat.le_refl _, by omega, ?_⟩
        rw [hrp, hin2]; simp
      rw [hin] at hrp hfa
      have hge : fidx (idxP a) st ≥ 0 := of_decide_eq_true hfa
      obtain ⟨m, hm⟩ : ∃ m : Nat, fidx (idxP a) st = m := ⟨(fidx (idxP a) st).toNat, by omega⟩
      rw [hm] at hfl ⊢
      rw [show ((m : Int) + 1).toNat = m + 1 by omega]
      obtain ⟨q, hq1, hq2, hq3⟩ := hp.head (m + 1) (by omega) (by omega)
      have hna : (nmA l q).toList = a.toList := by
        unfold fidx at hm
        cases e : st.findIdx? (idxP a) with
        | none => rw [e] at hm; simp only at hm; omega
        | some j =>
          rw [e] at hm
          simp only at hm
          obtain rfl : j = m := by omega
          obtain ⟨hj, hpj, _⟩ := List.findIdx?_eq_some_iff_getElem.1 e
          have : st[j] = nmA l q := by
            have h := hq3
            rw [show j + 1 - 1 = j by omega, List.getElem?_eq_getElem hj] at h
            exact Option.some.inj h
          unfold idxP at hpj
          rw [this] at hpj
          exact (by simpa using hpj : a.toList = (nmA l q).toList).symm
      have hpq : q74 l a = q := by rw [← placeI_congr l _ _ hna]; exact (hD q (by omega)).1
      have hne : ¬ a.toList = [] := by rw [← hna]; exact (hD q (by omega)).2
      have hpi : q74 l (paA l ((i + 1 : Nat) : Int)) = q := by rw [← ha]; exact hpq
      have hk := Pth.kid q (i + 1) _ hq2 hpi (by omega)
      have htl : (st.take (m + 1)).length = m + 1 := by rw [List.length_take]; omega
      have hd := hk.dp (l.length + 1) 0 (by rw [List.length_append, htl, List.length_singleton]; omega)
      rw [List.length_append, htl, List.length_singleton] at hd
      rw [hd, decide_eq_false hne, hpq] at hrp
      rw [htl, hpq]
      by_cases hc : (m + 1 = 0 ∨ 5 < m + 1 ∨ kdA l q ≠ 1)
      · rw [if_pos hc]
        refine ⟨i + 1, Nat.le_refl _, by omega, ?_⟩
        rw [hrp]
        rcases hc with hc | hc | hc
        · omega
        · rw [decide_eq_false (p := (1 ≤ (0 : Int) + ((m + 1 + 1 : Nat) : Int) - 1 ∧ _)) (by omega)]; simp
        · simp [hc]
      · rw [if_neg hc]
        have hk1 : kdA l q = 1 := by
          by_cases h : kdA l q = 1
          · exact h
          · exact absurd (Or.inr (Or.inr h)) hc
        refine ⟨hk, fun r hr h0 => ?_⟩
        by_cases e : r = i + 1
        · rw [e, hrp, decide_eq_true (p := 0 ≤ (q : Int) ∧ _) ⟨by omega, by omega, hk1⟩, decide_eq_true (p := (1 ≤ (0 : Int) + ((m + 1 + 1 : Nat) : Int) - 1 ∧ _)) (by omega)]
          rfl
        · exact hall r (by omega) h0
theorem stands_places (l : List (S41)) (hn : 0 < l.length) (hD : ∀ i : Nat, i < l.length → q74 l (nmA l i) = i ∧ (nmA l i).toList ≠ []) (h0 : (paA l 0).toList = []) : standsB l = true ↔ ∀ q, q < l.length → 0 < q → rplace l q = true := by
  have h := stk_places l hD h0 (l.length - 1) (by omega)
  rw [show l.length - 1 + 1 = l.length by omega] at h
  unfold standsB
  cases hs : stk l l.length with
  | none =>
    rw [hs] at h
    obtain ⟨q, h1, h2, h3⟩ := h
    constructor
    · intro h; simp at h
    · intro h
      rw [h q (by omega) h2] at h3
      simp at h3
  | some st =>
    rw [hs] at h
    constructor
    · intro _ q hq h0; exact h.2 q (by omega) h0
    · intro _; rfl
theorem nameB_ne (s : ByteArray) (h : nameB s = true) : s.toList ≠ [] := by
 unfold nameB at h
 simp only [Bool.and_eq_true, decide_eq_true_eq] at h
 intro he
 have := empty_size s
 rw [he] at this
 have h2 := of_decide_eq_true (this.symm.trans rfl)
 omega
theorem names_at (l : List (S41)) (i : Nat) (hi : i < l.length) : nameOk (l.map (·.f0)) i = (nameB (nmA l i) && decide (q74 l (nmA l i) = i)) := by
 unfold nameOk
 rw [placeI_self l i hi]
 have hr : rdOf ByteArray.empty (l.map (·.f0)) (i : Int) = nmA l i := by
  rw [rdOf_get _ _ _ (by simpa using hi)]
  unfold nmA
  rw [rd_in l i hi]; simp
 rw [hr]
theorem all_range {l : List (S41)} (p : S41 → Bool) : l.all p = true ↔ ∀ i : Nat, i < l.length → p (q81 l i) = true := by
 rw [List.all_eq_true]
 constructor
 ·intro h i hi; rw [rd_in l i hi]; exact h _ (List.getElem_mem hi)
 intro h x hx
 obtain ⟨i, hi, rfl⟩ := List.getElem_of_mem hx
 rw [← rd_in l i hi]; exact h i hi
theorem itemB_eq (fs : List ByteArray) (l : List (S41)) (x : S41) : itemB fs l x.f1 x.f3 x.f4 x.f5 x.f6 = (rown x && (sentsB fs l x.f5 && sentsB fs l x.f6)) := by
 unfold itemB rown
 by_cases h1 : 1 ≤ x.f1 ∧ x.f1 ≤ 5
 ·have h4 : decide (x.f1 = 4 ∨ x.f1 = 5) = decide (x.f1 ≥ 4) := by rw [decide_eq_decide]; omega
  rw [h4]
  generalize decide (x.f1 ≥ 4) = A
  generalize sentsB fs l x.f5 = B
  generalize sentsB fs l x.f6 = C
  generalize (if x.f1 = 5 then decide (1 ≤ x.f4 ∧ x.f4 ≤ 100) else decide (x.f4 = 0)) = D
  generalize decide (1 ≤ x.f1 ∧ x.f1 ≤ 5) = E
  generalize (x.f3 || decide (0 < x.f5.length)) = F
  cases A <;> cases B <;> cases C <;> cases D <;> cases E <;> cases F <;> rfl
 ·rw [decide_eq_false h1]; simp
theorem ris_eq (fs : List ByteArray) (l : List (S41)) : risB fs l = isB fs l := by
 unfold risB isB
 by_cases hb : fs.length ≤ 6 ∧ 1 ≤ l.length ∧ l.length ≤ 16
 case neg => rw [decide_eq_false hb]; simp
 rw [decide_eq_true hb, Bool.true_and, Bool.true_and]
 congr 1
 rw [Bool.eq_iff_iff]
 have hR : rplace l 0 = planB (q81 l 0).f1 (q81 l 0).f2 (q81 l 0).f3 (q81 l 0).f5.length (q81 l 0).f6.length := rfl
 have hn : namesB (l.map (·.f0)) = true ↔ ∀ i : Nat, i < l.length → nameB (nmA l i) = true ∧ q74 l (nmA l i) = i := by
  unfold namesB
  rw [List.all_eq_true]
  constructor
  ·intro h i hi
   have := h i (List.mem_range.2 (by simpa using hi))
   rw [names_at l i hi] at this
   simpa using this
  intro h i hi
  have hi' : i < l.length := by simpa using List.mem_range.1 hi
  rw [names_at l i hi']
  simpa using h i hi'
 rw [← hR]
 have hany : (!l.any fun x => !itemB fs l x.f1 x.f3 x.f4 x.f5 x.f6) = l.all (fun x => rown x && (sentsB fs l x.f5 && sentsB fs l x.f6)) := by
  rw [List.not_any_eq_all_not]
  congr 1
  funext x
  rw [Bool.not_not, itemB_eq]
 rw [hany]
 have h0 : rplace l 0 = true → (paA l 0).toList = [] := by
  intro h
  rw [hR] at h
  unfold planB at h
  simp only [Bool.and_eq_true, decide_eq_true_eq] at h
  exact h.2.1
 constructor
 ·intro h
  rw [Bool.and_eq_true] at h
  obtain ⟨h1, h2⟩ := h
  have hi : ∀ i : Nat, i < l.length → nameB (nmA l i) = true ∧ q74 l (nmA l i) = i ∧ rown (q81 l i) = true ∧ rplace l i = true := by
   intro i hi
   have := List.all_eq_true.1 h1 i (List.mem_range.2 hi)
   unfold ritem at this
   simpa using this
  have hp0 := (hi 0 (by omega)).2.2.2
  rw [Bool.and_eq_true, Bool.and_eq_true, Bool.and_eq_true]
  refine ⟨hn.2 (fun i h => ⟨(hi i h).1, (hi i h).2.1⟩), hp0, (stands_places l (by omega) (fun i h => ⟨(hi i h).2.1, nameB_ne _ (hi i h).1⟩) (h0 hp0)).2 (fun q hq _ => (hi q hq).2.2.2), ?_⟩
  rw [all_range] at h2 ⊢
  intro i h
  rw [(hi i h).2.2.1, Bool.true_and]
  exact h2 i h
 intro h
 rw [Bool.and_eq_true, Bool.and_eq_true, Bool.and_eq_true] at h
 obtain ⟨h1, h2, h3, h4⟩ := h
 have hnm := hn.1 h1
 have hst := (stands_places l (by omega) (fun i h => ⟨(hnm i h).2, nameB_ne _ (hnm i h).1⟩) (h0 h2)).1 h3
 rw [all_range] at h4
 rw [Bool.and_eq_true]
 refine ⟨List.all_eq_true.2 (fun i hi => ?_), (all_range _).2 (fun i hi => ?_)⟩
 ·have hi := List.mem_range.1 hi
  have := h4 i hi
  rw [Bool.and_eq_true] at this
  unfold ritem
  rw [(hnm i hi).1, (hnm i hi).2, this.1, Bool.true_and, decide_eq_true rfl, Bool.true_and, Bool.true_and]
  by_cases e : i = 0
  ·rw [e]; exact h2
  ·exact hst i hi (by omega)
 have := h4 i hi
 rw [Bool.and_eq_true] at this
 exact this.2
theorem legal_parts (fs : List ByteArray) (l : List (S41)) (h : isB fs l = true) : (fs.length ≤ 6 ∧ 1 ≤ l.length ∧ l.length ≤ 16) ∧ namesB fs = true ∧ (∀ i : Nat, i < l.length → ritem l i = true) ∧ (∀ i : Nat, i < l.length → sentsB fs l (q81 l i).f5 = true ∧ sentsB fs l (q81 l i).f6 = true) := by
 rw [← ris_eq] at h
 unfold risB at h
 rw [Bool.and_eq_true, Bool.and_eq_true, Bool.and_eq_true, decide_eq_true_eq, all_range] at h
 obtain ⟨h1, h2, h3, h4⟩ := h
 refine ⟨h1, h2, fun i hi => List.all_eq_true.1 h3 i (List.mem_range.2 hi), fun i hi => ?_⟩
 have := h4 i hi
 rw [Bool.and_eq_true] at this
 exact this
theorem legal_facts (fs : List ByteArray) (l : List (S41)) (h : isB fs l = true) : fs.length ≤ 6 ∧ 1 ≤ l.length ∧ l.length ≤ 16 ∧ (∀ i : Nat, i < l.length → q74 l (nmA l i) = i ∧ (nmA l i).toList ≠ []) ∧ (paA l 0).toList = [] ∧ ∀ q : Nat, 0 < q → q < l.length → ∃ p : Nat, p < q ∧ q74 l (paA l q) = p ∧ (paA l q).toList ≠ [] ∧ kdA l p = 1 := by
 obtain ⟨⟨h1, h2, h3⟩, -, hi, -⟩ := legal_parts fs l h
 have hr : ∀ i : Nat, i < l.length → nameB (nmA l i) = true ∧ q74 l (nmA l i) = i ∧ rplace l i = true := by
  intro i hl
  have := hi i hl
  unfold ritem at this
  rw [Bool.and_eq_true, Bool.and_eq_true, Bool.and_eq_true, decide_eq_true_eq] at this
  exact ⟨this.1, this.2.1, this.2.2.2⟩
 refine ⟨h1, h2, h3, fun i hl => ⟨(hr i hl).2.1, nameB_ne _ (hr i hl).1⟩, ?_, fun q h0 hq => ?_⟩
 ·have := (hr 0 (by omega)).2.2
  rw [show rplace l 0 = planB (q81 l 0).f1 (q81 l 0).f2 (q81 l 0).f3 (q81 l 0).f5.length (q81 l 0).f6.length from rfl] at this
  unfold planB at this
  simp only [Bool.and_eq_true, decide_eq_true_eq] at this
  exact this.2.1
 have := (hr q hq).2.2
 unfold rplace at this
 rw [if_neg (by omega), Bool.and_eq_true, Bool.and_eq_true, decide_eq_true_eq, Bool.not_eq_true', decide_eq_false_iff_not] at this
 obtain ⟨e, ⟨a, b, c⟩, -⟩ := this
 obtain ⟨p, hp⟩ := Int.eq_ofNat_of_zero_le a
 rw [hp] at b c
 exact ⟨p, by omega, hp, e, c⟩
theorem fits_of (fs : List ByteArray) (l : List (S41)) (hf : fs.length ≤ 140737488351232) (hl : l.length ≤ 140737488351232) (hg : ∀ x ∈ l, goodItem x) : Fits fs l :=
 ⟨by omega, by omega, fun x hx => by
  obtain ⟨_, _, h5, h6, s5, s6⟩ := hg x hx
  exact ⟨⟨by omega, fun s hs => by obtain ⟨a, b⟩ := s5 s hs; constructor <;> omega⟩, ⟨by omega, fun s hs => by obtain ⟨a, b⟩ := s6 s hs; constructor <;> omega⟩⟩⟩
theorem rd_s (l : List (S45)) (i : Nat) (h : i < l.length) : q82 l (i : Int) = l[i] := by simp [q82, List.getD_eq_getElem?_getD, List.getElem?_eq_getElem h]
theorem hv_add {a b c : Int} (h1 : 0 ≤ a) (h2 : a ≤ 1152921504606846976) (h3 : 0 ≤ b) (h4 : b ≤ 140737488351232) (h5 : 0 ≤ c) (h6 : c ≤ 140737488351232) : wrap64 (wrap64 (a + b) + c) = a + b + c := by
 unfold wrap64; omega
theorem hv_sum {y a b c d : Int} (h1 : 0 ≤ y) (h2 : y < 400) (a1 : 0 ≤ a) (a2 : a ≤ 140737488351232) (b1 : 0 ≤ b) (b2 : b ≤ 140737488351232) (c1 : 0 ≤ c) (c2 : c ≤ 140737488351232) (d1 : 0 ≤ d) (d2 : d ≤ 140737488351232) : wrap64 (wrap64 (wrap64 (wrap64 (y + a) + b) + wrap64 (c / 50)) + wrap64 (d / 50)) = y + a + b + c / 50 + d / 50 ∧ 0 ≤ c / 50 ∧ c / 50 ≤ 140737488351232 ∧ 0 ≤ d / 50 ∧ d / 50 ≤ 140737488351232 := by
 have e1 : 0 ≤ c / 50 ∧ c / 50 ≤ 140737488351232 := by omega
 have e2 : 0 ≤ d / 50 ∧ d / 50 ≤ 140737488351232 := by omega
 refine ⟨?_, e1.1, e1.2, e2.1, e2.2⟩
 revert e1 e2
 generalize c / 50 = c
 generalize d / 50 = d
 intro e1 e2
 rw [show wrap64 c = c by unfold wrap64; omega, show wrap64 d = d by unfold wrap64; omega, hv_add (a := y) h1 (by omega) a1 a2 b1 b2, hv_add (a := y + a + b) (by omega) (by omega) e1.1 e1.2 e2.1 e2.2]
theorem ev_hv2 (fs : List ByteArray) (l : List (S41)) (N0 : Int) (h0 : 0 ≤ N0) (x : S41) (hx : goodItem x) (i : Nat) (hi : i < l.length) (hl : l.length ≤ 140737488351232)
    (hR : ∀ y : Int, N0 ≤ y → y ≤ 1152921504606846976 → ∃ b, Ev (fun k => q18.l0 k y (((i + 1 : Nat)) : Int) fs l) b ∧ (b = false → N0 < 400)) (d : Nat) : ∀ (j : Nat) (y : Int), j + d = x.f6.length → N0 ≤ y → y ≤ 1152921504606846976 → ∃ b, Ev (fun k => q18.l2 k y (i : Int) (j : Int) fs l x.f0 x.f1 x.f2 x.f3 x.f4 x.f5 x.f6) b ∧ (b = false → N0 < 400) := by
  obtain ⟨_, _, _, g6, _, hs6⟩ := hx
  induction d with
  | zero =>
    intro j y hj h1 h2
    obtain ⟨b, hb, hc⟩ := hR y h1 h2
    refine ⟨b, Ev.step (f := fun k => q18.l0 k y (((i + 1 : Nat)) : Int) fs l) (fun k => ?_) hb, hc⟩
    simp only [q18.l2]
    rw [if_neg (by omega), wrap_lt (n := (l.length : Int)) (by omega) (by omega) (by omega)]
    rfl
  | succ d ih =>
    intro j y hj h1 h2
    by_cases hc : y < 400
    case neg =>
      obtain ⟨b, hb, hc'⟩ := hR y h1 h2
      refine ⟨b, Ev.step (f := fun k => q18.l0 k y (((i + 1 : Nat)) : Int) fs l) (fun k => ?_) hb, hc'⟩
      simp only [q18.l2]
      rw [if_pos (by omega), if_neg hc, wrap_lt (n := (l.length : Int)) (by omega) (by omega) (by omega)]
      rfl
    have hjl : j < x.f6.length := by omega
    obtain ⟨ga, gb⟩ := hs6 x.f6[j] (List.getElem_mem hjl)
    obtain ⟨b, hb, hc'⟩ := ih (j + 1) (y + (x.f6[j]).f0.length + (x.f6[j]).f1.length) (by omega) (by omega) (by omega)
    refine ⟨b, Ev.step (f := fun k => q18.l2 k (y + (x.f6[j]).f0.length + (x.f6[j]).f1.length) (i : Int) (((j + 1 : Nat)) : Int) fs l x.f0 x.f1 x.f2 x.f3 x.f4 x.f5 x.f6) (fun k => ?_) hb, hc'⟩
    simp only [q18.l2]
    rw [if_pos (by omega), if_pos hc, if_pos (by omega), rd_s _ _ hjl, hv_add (by omega) (by omega) (by omega) (by omega) (by omega) (by omega), wrap_lt (n := (x.f6.length : Int)) (by omega) (by omega) (by omega)]
    rfl
theorem ev_hv1 (fs : List ByteArray) (l : List (S41)) (N0 : Int) (h0 : 0 ≤ N0) (x : S41) (hx : goodItem x) (i : Nat) (hi : i < l.length) (hl : l.length ≤ 140737488351232)
    (hR : ∀ y : Int, N0 ≤ y → y ≤ 1152921504606846976 → ∃ b, Ev (fun k => q18.l0 k y (((i + 1 : Nat)) : Int) fs l) b ∧ (b = false → N0 < 400)) (d : Nat) : ∀ (j : Nat) (y : Int), j + d = x.f5.length → N0 ≤ y → y ≤ 1152921504606846976 → ∃ b, Ev (fun k => q18.l1 k y (i : Int) (j : Int) fs l x.f0 x.f1 x.f2 x.f3 x.f4 x.f5 x.f6) b ∧ (b = false → N0 < 400) := by
  have hx0 := hx
  obtain ⟨_, _, g5, _, hs5, _⟩ := hx
  have hnext : ∀ y : Int, N0 ≤ y → y ≤ 1152921504606846976 → ∃ b, Ev (fun k => q18.j3 k y (i : Int) fs l x.f0 x.f1 x.f2 x.f3 x.f4 x.f5 x.f6) b ∧ (b = false → N0 < 400) := by
    intro y h1 h2
    obtain ⟨b, hb, hc⟩ := ev_hv2 fs l N0 h0 x hx0 i hi hl hR x.f6.length 0 y (by omega) h1 h2
    exact ⟨b, Ev.step (fun k => by simp only [q18.j3]; rfl) hb, hc⟩
  induction d with
  | zero =>
    intro j y hj h1 h2
    obtain ⟨b, hb, hc⟩ := hnext y h1 h2
    refine ⟨b, Ev.step (fun k => ?_) hb, hc⟩
    simp only [q18.l1]
    rw [if_neg (by omega)]
  | succ d ih =>
    intro j y hj h1 h2
    by_cases hc : y < 400
    case neg =>
      obtain ⟨b, hb, hc'⟩ := hnext y h1 h2
      refine ⟨b, Ev.step (fun k => ?_) hb, hc'⟩
      simp only [q18.l1]
      rw [if_pos (by omega), if_neg hc]
    have hjl : j < x.f5.length := by omega
    obtain ⟨ga, gb⟩ := hs5 x.f5[j] (List.getElem_mem hjl)
    obtain ⟨b, hb, hc'⟩ := ih (j + 1) (y + (x.f5[j]).f0.length + (x.f5[j]).f1.length) (by omega) (by omega) (by omega)
    refine ⟨b, Ev.step (f := fun k => q18.l1 k (y + (x.f5[j]).f0.length + (x.f5[j]).f1.length) (i : Int) (((j + 1 : Nat)) : Int) fs l x.f0 x.f1 x.f2 x.f3 x.f4 x.f5 x.f6) (fun k => ?_) hb, hc'⟩
    simp only [q18.l1]
    rw [if_pos (by omega), if_pos hc, if_pos (by omega), rd_s _ _ hjl, hv_add (by omega) (by omega) (by omega) (by omega) (by omega) (by omega), wrap_lt (n := (x.f5.length : Int)) (by omega) (by omega) (by omega)]
    rfl
theorem ev_hv0 (fs : List ByteArray) (l : List (S41)) (hg : ∀ x ∈ l, goodItem x) (hl : l.length ≤ 140737488351232) (N0 : Int) (h0 : 0 ≤ N0) (d : Nat) : ∀ (i : Nat) (y : Int), i + d = l.length → N0 ≤ y → y ≤ 1152921504606846976 → ∃ b, Ev (fun k => q18.l0 k y (i : Int) fs l) b ∧ (b = false → N0 < 400) := by
  have hend : ∀ (i : Nat) (y : Int), N0 ≤ y → ∃ b, Ev (fun k => q18.j1 k y (i : Int) false fs l) b ∧ (b = false → N0 < 400) := by
    intro i y h1
    refine ⟨decide (y ≥ 400), Ev.step (f := fun _ => some (decide (y ≥ 400))) (fun k => by simp [q18.j1]) (Ev.now _), fun h => ?_⟩
    have := of_decide_eq_false h
    omega
  induction d with
  | zero =>
    intro i y hi h1 h2
    obtain ⟨b, hb, hc⟩ := hend i y h1
    refine ⟨b, Ev.step (fun k => ?_) hb, hc⟩
    simp only [q18.l0]
    rw [if_neg (by omega)]
  | succ d ih =>
    intro i y hi h1 h2
    by_cases hc : y < 400
    case neg =>
      obtain ⟨b, hb, hc'⟩ := hend i y h1
      refine ⟨b, Ev.step (fun k => ?_) hb, hc'⟩
      simp only [q18.l0]
      rw [if_pos (by omega), decide_eq_false hc]
    have hil : i < l.length := by omega
    have hrd : q81 l (i : Int) = l[i] := by simp [q81, List.getD_eq_getElem?_getD, List.getElem?_eq_getElem hil]
    obtain ⟨x, hx⟩ : ∃ x, x = l[i] := ⟨_, rfl⟩
    have hgx : goodItem x := by rw [hx]; exact hg _ (List.getElem_mem hil)
    have hgx0 := hgx
    obtain ⟨g0, g2, g5, g6, _, _⟩ := hgx
    obtain ⟨z, hz⟩ : ∃ z : Int, z = y + x.f5.length + x.f6.length + (x.f0.size : Int) / 50 + (x.f2.size : Int) / 50 := ⟨_, rfl⟩
    obtain ⟨hsum, q1, q2, q3, q4⟩ := hv_sum (y := y) (a := (x.f5.length : Int)) (b := (x.f6.length : Int)) (c := (x.f0.size : Int)) (d := (x.f2.size : Int)) (by omega) hc (by omega) (by omega) (by omega) (by omega) (by omega) (by omega) (by omega) (by omega)
    rw [← hz] at hsum
    have hzb : N0 ≤ z ∧ z ≤ 1152921504606846976 := by
      clear hsum
      revert hz q1 q2 q3 q4
      generalize (x.f0.size : Int) / 50 = c
      generalize (x.f2.size : Int) / 50 = d
      intro hz q1 q2 q3 q4
      omega
    clear hz q1 q2 q3 q4
    obtain ⟨b, hb, hc'⟩ := ev_hv1 fs l N0 h0 x hgx0 i hil hl (fun y' h1' h2' => ih (i + 1) y' (by omega) h1' h2') x.f5.length 0 z (by omega) hzb.1 hzb.2
    have hb' : Ev (fun k => q18.l1 k z (i : Int) 0 fs l x.f0 x.f1 x.f2 x.f3 x.f4 x.f5 x.f6) b := hb
    refine ⟨b, Ev.step (f := fun k => q18.j1 k y (i : Int) true fs l) (fun k => ?_) (Ev.step (fun k => ?_) hb'), hc'⟩
    · simp only [q18.l0]
      rw [if_pos (by omega), decide_eq_true hc]
    · simp only [q18.j1]
      rw [if_pos trivial, if_pos (by omega), if_pos (by omega), hrd, ← hx, hsum]
theorem ev_heavy (fs : List ByteArray) (l : List (S41)) (hf : fs.length ≤ 140737488351232) (hl : l.length ≤ 140737488351232) (hg : ∀ x ∈ l, goodItem x) : ∃ b, Ev (fun k => q18.f k fs l) b ∧ (b = false → fs.length + l.length < 400) := by
 unfold q18.f
 rw [show wrap64 ((fs.length : Int) + (l.length : Int)) = (fs.length : Int) + (l.length : Int) by unfold wrap64; omega]
 obtain ⟨b, hb, hc⟩ := ev_hv0 fs l hg hl ((fs.length : Int) + (l.length : Int)) (by omega) l.length 0 _ (by omega) (Int.le_refl _) (by omega)
 exact ⟨b, hb, fun h => by have := hc h; omega⟩
def q44.f (a0 : Int) (a1 : Int) : Option (Int) := some (wrap64 ((wrap64 ((wrap64 (4 * a0)) + a1)) - 1))
set_option maxHeartbeats 8000000 in
set_option maxRecDepth 100000 in
theorem q44.calls (a0 : Int) (a1 : Int) (r : Int) (w : World) (h : q44.f a0 a1 = some r) :
 Calls Try.prog 23 #[.int .i64 a0, .int .i64 a1] w fun e w' => e = .returned (.int .i64 r) ∧ Drawn0 w w' := by
 have H : (some (wrap64 ((wrap64 ((wrap64 (4 * a0)) + a1)) - 1))) = some r := h
 clear h
 obtain rfl := Option.some.inj H
 go_enter Try.func23, Try.ntmps23
 go_wp2
 go_ret
 exact ⟨by first | rfl | (simp; done) | (simp [*]; done), by repeat (first | exact Drawn0.refl _ | apply Drawn0.step)⟩
def q49.f (l0_0 : List ByteArray) (l0_1 : List (S41)) (a1 : ByteArray) (a2 : Int) : Option (Int) := (q39.f l0_0 l0_1 a1).bind fun t246 => (if t246 < 0 then (some (-1)) else (if a2 < 1 then (some (-1)) else (if a2 > 4 then (some (-1)) else ((q44.f t246 a2).bind fun t247 => (some t247)))))
set_option maxHeartbeats 8000000 in
set_option maxRecDepth 100000 in
theorem q49.calls (A0_0 : Option Addr) (c0_0 : Nat) (l0_0 : List ByteArray) (A0_1 : Option Addr) (c0_1 : Nat) (l0_1 : List (S41)) (a1 : ByteArray) (a2 : Int) (r : Int) (w : World) (hr0_0 : Kd.C Kd.string w A0_0 l0_0.length l0_0) (hc0_0 : l0_0.length ≤ c0_0) (hr0_1 : Kd.C k41 w A0_1 l0_1.length l0_1) (hc0_1 : l0_1.length ≤ c0_1) (h : q49.f l0_0 l0_1 a1 a2 = some r) :
 Calls Try.prog 13 #[.agg #[.slice A0_0 l0_0.length c0_0, .slice A0_1 l0_1.length c0_1], .string a1, .int .i64 a2] w fun e w' => e = .returned (.int .i64 r) ∧ Below w.heap.size w w' := by
 have hu25 := Try.underlying25
 have HR0_0 := q56.mk hr0_0
 have HC0_0 := q56.mk hc0_0
 clear hr0_0 hc0_0
 have HR0_1 := q56.mk hr0_1
 have HC0_1 := q56.mk hc0_1
 clear hr0_1 hc0_1
 have HB := q56.mk (Below.refl w.heap.size w)
 unfold q49.f at h
 have H := h
 clear h
 replace H := bd_ H
 obtain ⟨t246, A4, H⟩ := H
 by_cases c5 : t246 < 0
 ·rw [if_pos c5] at H
  replace c5 := decide_eq_true c5
  obtain rfl := Option.some.inj H
  go_enter Try.func13, Try.ntmps13
  go_wp2_with (first | ((with_reducible refine q71 (N := 3) rfl ?_); refine bx_ 3 #[.slice A0_0 l0_0.length c0_0, .slice A0_1 l0_1.length c0_1] 25 ?_; intro gb245 hg w6 hbox hb; have BK245 := q56.mk (hbox); have GW245 := zz_ (w := w) hg; have GE245 := zz_ (w := w) hg; replace HB := hb_ HB hb;  clear hb hbox hg; obtain ⟨hcz7_0, hcz7_1, hfz7_0, hfz7_1⟩ := bs2_ BK245) | ((with_reducible refine q70 (f := 45) rfl ?_); refine gl_ (some 10) Try.func45 #[.agg #[.slice A0_0 l0_0.length c0_0, .slice A0_1 l0_1.length c0_1], .string a1] ?_; (with_reducible refine (q39.calls _ _ l0_0 _ _ l0_1 a1 t246 _ ?side1 ?side2 ?side3 ?side4 A4.out).mono ?_); (case side1 => exact kc_ HR0_0 HB); (case side2 => exact HC0_0.out); (case side3 => exact kc_ HR0_1 HB); (case side4 => exact HC0_1.out); rintro e w8 ⟨rfl, hb⟩; refine ⟨_, rfl, ?_⟩; replace BK245 := bb_ BK245 hb; replace HB := hb_ HB hb;  (try clear hb)))
  go_ret
  exact ⟨er_, hf_⟩
 rw [if_neg c5] at H
 replace c5 := decide_eq_false c5
 by_cases c9 : a2 < 1
 ·rw [if_pos c9] at H
  replace c9 := decide_eq_true c9
  obtain rfl := Option.some.inj H
  go_enter Try.func13, Try.ntmps13
  go_wp2_with (first | ((with_reducible refine q71 (N := 3) rfl ?_); refine bx_ 3 #[.slice A0_0 l0_0.length c0_0, .slice A0_1 l0_1.length c0_1] 25 ?_; intro gb245 hg w10 hbox hb; have BK245 := q56.mk (hbox); have GW245 := zz_ (w := w) hg; have GE245 := zz_ (w := w) hg; replace HB := hb_ HB hb;  clear hb hbox hg; obtain ⟨hcz11_0, hcz11_1, hfz11_0, hfz11_1⟩ := bs2_ BK245) | ((with_reducible refine q70 (f := 45) rfl ?_); refine gl_ (some 10) Try.func45 #[.agg #[.slice A0_0 l0_0.length c0_0, .slice A0_1 l0_1.length c0_1], .string a1] ?_; (with_reducible refine (q39.calls _ _ l0_0 _ _ l0_1 a1 t246 _ ?side1 ?side2 ?side3 ?side4 A4.out).mono ?_); (case side1 => exact kc_ HR0_0 HB); (case side2 => exact HC0_0.out); (case side3 => exact kc_ HR0_1 HB); (case side4 => exact HC0_1.out); rintro e w12 ⟨rfl, hb⟩; refine ⟨_, rfl, ?_⟩; replace BK245 := bb_ BK245 hb; replace HB := hb_ HB hb;  (try clear hb)))
  go_ret
  exact ⟨er_, hf_⟩
 rw [if_neg c9] at H
 replace c9 := decide_eq_false c9
 by_cases c13 : a2 > 4
 ·rw [if_pos c13] at H
  replace c13 := decide_eq_true c13
  obtain rfl := Option.some.inj H
  go_enter Try.func13, Try.ntmps13
  go_wp2_with (first | ((with_reducible refine q71 (N := 3) rfl ?_); refine bx_ 3 #[.slice A0_0 l0_0.length c0_0, .slice A0_1 l0_1.length c0_1] 25 ?_; intro gb245 hg w14 hbox hb; have BK245 := q56.mk (hbox); have GW245 := zz_ (w := w) hg; have GE245 := zz_ (w := w) hg; replace HB := hb_ HB hb;  clear hb hbox hg; obtain ⟨hcz15_0, hcz15_1, hfz15_0, hfz15_1⟩ := bs2_ BK245) | ((with_reducible refine q70 (f := 45) rfl ?_); refine gl_ (some 10) Try.func45 #[.agg #[.slice A0_0 l0_0.length c0_0, .slice A0_1 l0_1.length c0_1], .string a1] ?_; (with_reducible refine (q39.calls _ _ l0_0 _ _ l0_1 a1 t246 _ ?side1 ?side2 ?side3 ?side4 A4.out).mono ?_); (case side1 => exact kc_ HR0_0 HB); (case side2 => exact HC0_0.out); (case side3 => exact kc_ HR0_1 HB); (case side4 => exact HC0_1.out); rintro e w16 ⟨rfl, hb⟩; refine ⟨_, rfl, ?_⟩; replace BK245 := bb_ BK245 hb; replace HB := hb_ HB hb;  (try clear hb)))
  go_ret
  exact ⟨er_, hf_⟩
 rw [if_neg c13] at H
 replace c13 := decide_eq_false c13
 replace H := bd_ H
 obtain ⟨t247, A17, H⟩ := H
 obtain rfl := Option.some.inj H
 go_enter Try.func13, Try.ntmps13
 go_wp2_with (first | ((with_reducible refine q71 (N := 3) rfl ?_); refine bx_ 3 #[.slice A0_0 l0_0.length c0_0, .slice A0_1 l0_1.length c0_1] 25 ?_; intro gb245 hg w18 hbox hb; have BK245 := q56.mk (hbox); have GW245 := zz_ (w := w) hg; have GE245 := zz_ (w := w) hg; replace HB := hb_ HB hb;  clear hb hbox hg; obtain ⟨hcz19_0, hcz19_1, hfz19_0, hfz19_1⟩ := bs2_ BK245) | ((with_reducible refine q70 (f := 45) rfl ?_); refine gl_ (some 10) Try.func45 #[.agg #[.slice A0_0 l0_0.length c0_0, .slice A0_1 l0_1.length c0_1], .string a1] ?_; (with_reducible refine (q39.calls _ _ l0_0 _ _ l0_1 a1 t246 _ ?side1 ?side2 ?side3 ?side4 A4.out).mono ?_); (case side1 => exact kc_ HR0_0 HB); (case side2 => exact HC0_0.out); (case side3 => exact kc_ HR0_1 HB); (case side4 => exact HC0_1.out); rintro e w20 ⟨rfl, hb⟩; refine ⟨_, rfl, ?_⟩; replace BK245 := bb_ BK245 hb; replace HB := hb_ HB hb;  (try clear hb)) | ((with_reducible refine q70 (f := 23) rfl ?_); refine gl_ (some 23) Try.func23 #[.int .i64 t246, .int .i64 a2] ?_; (with_reducible refine (q44.calls t246 a2 t247 _ A17.out).mono ?_); rintro e w' ⟨rfl, ⟨nd, rfl⟩⟩; refine ⟨_, rfl, ?_⟩))
 go_ret
 exact ⟨er_, hf_⟩
theorem R_voidN {α : Type} (d : Kd α) (e base : Nat) (w : World) (ok : Nat → Prop) (hok : ok w.heap.size) (hb : base ≤ w.heap.size) : d.R e (w.alloc (.cells #[] e)) base ok (.slice (some ⟨w.heap.size, 0, none⟩) 0 0) [] := by
 refine ⟨fun k hk => ?_, [], ?_, ⟨by simp, fun j p hj => by simp at hj⟩⟩
 ·have : w.heap.size = k := by simpa [Value.ownBlock] using hk
  subst this
  exact hok
 ·have h2 := World.ownsRow_lit (base := base) (e := e) (size := d.sz) w #[] 0 hb (by simp [maxLen]) (by simp)
  simpa using h2
def kRaw (n : Nat) : Kd (List Value) where
 sz := n
 E := []
 K := fun _ x cs => cs = x ∧ x.length = n ∧ ∀ u ∈ x, u.oneCell' = true
 M := fun _ _ _ x cs => cs = x ∧ x.length = n ∧ ∀ u ∈ x, u.oneCell' = true
 K_len := fun h => by rw [h.1]; exact h.2.1
 K_one := fun h u hu => h.2.2 u (h.1 ▸ hu)
 K_below := fun _ h => h
 K_of_M := fun h => h
 M_mono := fun _ h => h
 M_bound := fun h => h
 M_move := fun _ h => h
 M_lower := fun _ h => h
theorem C_raw {α : Type} {d : Kd α} {w : World} {A : Option Addr} {n : Nat} {xs : List α} (h : Kd.C d w A n xs) : ∃ rows : List (List Value), rows.length = n ∧ Kd.C (kRaw d.sz) w A n rows ∧ ∀ (j : Nat) (p : α), xs[j]? = some p → ∃ cs, rows[j]? = some cs ∧ d.K w p cs := by
  obtain ⟨h1, h2, h3⟩ := h
  rcases Nat.eq_zero_or_pos n with rfl | hp
  · refine ⟨[], rfl, ⟨rfl, h2, fun hp => absurd hp (by omega)⟩, fun j p hj => ?_⟩
    have := (List.getElem?_eq_some_iff.1 hj).1
    omega
  · obtain ⟨ad, e, hc⟩ := h3 hp
    have hex : ∀ j : Nat, ∃ c : List Value, ∀ p, xs[j]? = some p → c.length = d.sz ∧ d.K w p c ∧ ∀ i u, c[i]? = some u → w.cell? (ad.add (j * d.sz + i)) = some u := by
      intro j
      cases hx : xs[j]? with
      | none => exact ⟨[], fun p hp => by cases hp⟩
      | some p =>
        obtain ⟨c, h⟩ := hc j p hx
        exact ⟨c, fun q hq => by cases hq; exact h⟩
    obtain ⟨f, hf⟩ := Classical.axiomOfChoice hex
    have hget : ∀ j, j < n → ((List.range n).map f)[j]? = some (f j) := fun j hj => by simp [hj]
    refine ⟨(List.range n).map f, by simp, ⟨by simp, h2, fun _ => ⟨ad, e, fun j p hj => ?_⟩⟩, fun j p hj => ?_⟩
    · have hjn : j < n := by have := (List.getElem?_eq_some_iff.1 hj).1; simpa using this
      rw [hget j hjn] at hj
      cases hj
      have hx : xs[j]? = some (xs[j]'(by omega)) := List.getElem?_eq_getElem _
      obtain ⟨a, b, c⟩ := hf j _ hx
      exact ⟨f j, a, ⟨rfl, a, d.K_one b⟩, c⟩
    · have hjn : j < n := by have := (List.getElem?_eq_some_iff.1 hj).1; omega
      exact ⟨f j, hget j hjn, (hf j p hj).2.1⟩
theorem iOn_ : (Try.prog.info? 101).map (fun i => (i.zero, i.size, i.bytes)) = some (some (.agg #[.string ⟨#[]⟩, .int .i64 0]), 2, 24) := by kernel_rfl
theorem iCond_ : (Try.prog.info? 90).map (fun i => (i.zero, i.size, i.bytes)) = some (some (.agg #[.string ⟨#[]⟩, .string ⟨#[]⟩, .int .i64 0]), 3, 40) := by kernel_rfl
theorem iSent_ : (Try.prog.info? 45).map (fun i => (i.zero, i.size, i.bytes)) = some (some (.agg #[.slice none 0 0, .slice none 0 0]), 2, 48) := by kernel_rfl
theorem iItem_ : (Try.prog.info? 41).map (fun i => (i.zero, i.size, i.bytes)) = some (some (.agg #[.string ⟨#[]⟩, .int .i64 0, .string ⟨#[]⟩, .bool false, .int .i64 0, .slice none 0 0, .slice none 0 0]), 7, 104) := by kernel_rfl
set_option maxHeartbeats 2000000 in
set_option maxRecDepth 100000 in
theorem cl_str (w : World) (A : Option Addr) (c : Nat) (l : List (ByteArray)) (hr : Kd.C Kd.string w A l.length l) (hc : l.length ≤ c) (hl : l.length * 16 ≤ 140737488355328) :
    Calls Try.prog 24 #[.slice A l.length c] w fun e w' => ∃ v, e = .returned v ∧ Kd.R Kd.string 9 w' w.heap.size (fun _ => True) v l ∧ Below w.heap.size w w' := by
  cases A with
  | none =>
    have h0 : l = [] := by
      rcases l with _ | ⟨a, l⟩
      · rfl
      · obtain ⟨ad, e, _⟩ := hr.2.2 (by simp)
        cases e
    subst h0
    clear hr
    have hz : ∀ W, (binOp .eql 22 (.slice none 0 c) (.slice none 0 0)).run Try.prog W = .ok (.bool true) W := fun W => Lib.run_eql_slice_nil W 22 9 none 0 c 0 0 Try.underlying22
    go_enter Try.func24, Try.ntmps24
    go_wp2
    go_ret
    exact ⟨_, rfl, Kd.R_nil _ _ _ _ _, Below.refl _ _⟩
  | some ad =>
    have HR := Lib.hid hr
    obtain ⟨n, hn⟩ : ∃ n, n = l.length := ⟨_, rfl⟩
    have HN := Lib.hid hn
    rw [← hn] at hc hl ⊢
    clear hr hn
    have hz : ∀ W, (binOp .eql 22 (.slice (some ad) n c) (.slice none 0 0)).run Try.prog W = .ok (.bool false) W := fun W => Lib.run_eql_slice_nil W 22 9 (some ad) n c 0 0 Try.underlying22
    go_enter Try.func24, Try.ntmps24
    go_wp2_with (first | ((with_reducible refine q69 (b := .append) (xs := #[.tmp 5, .tmp 6]) rfl ?_); at_builtin; refine Kd.R_append_rows Kd.string (w0 := w) w.heap.size rfl (.tmp 5) (.tmp 6) 22 9 (.string ⟨#[]⟩) 16 rfl Try.underlying22 info9 rfl (by decide) (by omega) (.slice (some ⟨w.heap.size, 0, none⟩) 0 0) [] l _ _ _ (fun _ => True) (fun _ => False) rfl rfl (R_voidN Kd.string 9 w.heap.size w _ trivial (Nat.le_refl _)) (HN.out ▸ Kd.C_alloc HR.out _) (fun _ _ h => h) (fun _ h => h.elim) (fun _ _ => trivial) (q57 (Below.refl _ _) _) (q57 (Below.refl _ _) _).size (by simpa using hl) ?_; intro v2 w2 hR2 hB2 hg1 hg2; clear hg1 hg2))
    go_ret
    exact ⟨_, rfl, hR2, hB2⟩
set_option maxHeartbeats 2000000 in
set_option maxRecDepth 100000 in
theorem cl_on (w : World) (A : Option Addr) (c : Nat) (l : List (S101)) (hr : Kd.C k101 w A l.length l) (hc : l.length ≤ c) (hl : l.length * 24 ≤ 140737488355328) :
    Calls Try.prog 89 #[.slice A l.length c] w fun e w' => ∃ v, e = .returned v ∧ Kd.R k101 101 w' w.heap.size (fun _ => True) v l ∧ Below w.heap.size w w' := by
  cases A with
  | none =>
    have h0 : l = [] := by
      rcases l with _ | ⟨a, l⟩
      · rfl
      · obtain ⟨ad, e, _⟩ := hr.2.2 (by simp)
        cases e
    subst h0
    clear hr
    have hz : ∀ W, (binOp .eql 42 (.slice none 0 c) (.slice none 0 0)).run Try.prog W = .ok (.bool true) W := fun W => Lib.run_eql_slice_nil W 42 101 none 0 c 0 0 Try.underlying42
    go_enter Try.func89, Try.ntmps89
    go_wp2
    go_ret
    exact ⟨_, rfl, Kd.R_nil _ _ _ _ _, Below.refl _ _⟩
  | some ad =>
    have HR := Lib.hid hr
    obtain ⟨n, hn⟩ : ∃ n, n = l.length := ⟨_, rfl⟩
    have HN := Lib.hid hn
    rw [← hn] at hc hl ⊢
    clear hr hn
    have hz : ∀ W, (binOp .eql 42 (.slice (some ad) n c) (.slice none 0 0)).run Try.prog W = .ok (.bool false) W := fun W => Lib.run_eql_slice_nil W 42 101 (some ad) n c 0 0 Try.underlying42
    go_enter Try.func89, Try.ntmps89
    go_wp2_with (first | ((with_reducible refine q69 (b := .append) (xs := #[.tmp 5, .tmp 6]) rfl ?_); at_builtin; refine Kd.R_append_rows k101 (w0 := w) w.heap.size rfl (.tmp 5) (.tmp 6) 42 101 (.agg #[.string ⟨#[]⟩, .int .i64 0]) 24 rfl Try.underlying42 iOn_ rfl (by decide) (by omega) (.slice (some ⟨w.heap.size, 0, none⟩) 0 0) [] l _ _ _ (fun _ => True) (fun _ => False) rfl rfl (R_voidN k101 101 w.heap.size w _ trivial (Nat.le_refl _)) (HN.out ▸ Kd.C_alloc HR.out _) (fun _ _ h => h) (fun _ h => h.elim) (fun _ _ => trivial) (q57 (Below.refl _ _) _) (q57 (Below.refl _ _) _).size (by simpa using hl) ?_; intro v2 w2 hR2 hB2 hg1 hg2; clear hg1 hg2))
    go_ret
    exact ⟨_, rfl, hR2, hB2⟩
set_option maxHeartbeats 2000000 in
set_option maxRecDepth 100000 in
theorem cl_cond (w : World) (A : Option Addr) (c : Nat) (l : List (S90)) (hr : Kd.C k90 w A l.length l) (hc : l.length ≤ c) (hl : l.length * 40 ≤ 140737488355328) :
    Calls Try.prog 65 #[.slice A l.length c] w fun e w' => ∃ v, e = .returned v ∧ Kd.R k90 90 w' w.heap.size (fun _ => True) v l ∧ Below w.heap.size w w' := by
  cases A with
  | none =>
    have h0 : l = [] := by
      rcases l with _ | ⟨a, l⟩
      · rfl
      · obtain ⟨ad, e, _⟩ := hr.2.2 (by simp)
        cases e
    subst h0
    clear hr
    have hz : ∀ W, (binOp .eql 43 (.slice none 0 c) (.slice none 0 0)).run Try.prog W = .ok (.bool true) W := fun W => Lib.run_eql_slice_nil W 43 90 none 0 c 0 0 Try.underlying43
    go_enter Try.func65, Try.ntmps65
    go_wp2
    go_ret
    exact ⟨_, rfl, Kd.R_nil _ _ _ _ _, Below.refl _ _⟩
  | some ad =>
    have HR := Lib.hid hr
    obtain ⟨n, hn⟩ : ∃ n, n = l.length := ⟨_, rfl⟩
    have HN := Lib.hid hn
    rw [← hn] at hc hl ⊢
    clear hr hn
    have hz : ∀ W, (binOp .eql 43 (.slice (some ad) n c) (.slice none 0 0)).run Try.prog W = .ok (.bool false) W := fun W => Lib.run_eql_slice_nil W 43 90 (some ad) n c 0 0 Try.underlying43
    go_enter Try.func65, Try.ntmps65
    go_wp2_with (first | ((with_reducible refine q69 (b := .append) (xs := #[.tmp 5, .tmp 6]) rfl ?_); at_builtin; refine Kd.R_append_rows k90 (w0 := w) w.heap.size rfl (.tmp 5) (.tmp 6) 43 90 (.agg #[.string ⟨#[]⟩, .string ⟨#[]⟩, .int .i64 0]) 40 rfl Try.underlying43 iCond_ rfl (by decide) (by omega) (.slice (some ⟨w.heap.size, 0, none⟩) 0 0) [] l _ _ _ (fun _ => True) (fun _ => False) rfl rfl (R_voidN k90 90 w.heap.size w _ trivial (Nat.le_refl _)) (HN.out ▸ Kd.C_alloc HR.out _) (fun _ _ h => h) (fun _ h => h.elim) (fun _ _ => trivial) (q57 (Below.refl _ _) _) (q57 (Below.refl _ _) _).size (by simpa using hl) ?_; intro v2 w2 hR2 hB2 hg1 hg2; clear hg1 hg2))
    go_ret
    exact ⟨_, rfl, hR2, hB2⟩
set_option maxHeartbeats 2000000 in
set_option maxRecDepth 100000 in
theorem cl_sentry (w : World) (A : Option Addr) (c : Nat) (l : List (List Value)) (hr : Kd.C (kRaw 2) w A l.length l) (hc : l.length ≤ c) (hl : l.length * 48 ≤ 140737488355328) :
    Calls Try.prog 88 #[.slice A l.length c] w fun e w' => ∃ v, e = .returned v ∧ Kd.R (kRaw 2) 45 w' w.heap.size (fun _ => True) v l ∧ Below w.heap.size w w' := by
  cases A with
  | none =>
    have h0 : l = [] := by
      rcases l with _ | ⟨a, l⟩
      · rfl
      · obtain ⟨ad, e, _⟩ := hr.2.2 (by simp)
        cases e
    subst h0
    clear hr
    have hz : ∀ W, (binOp .eql 39 (.slice none 0 c) (.slice none 0 0)).run Try.prog W = .ok (.bool true) W := fun W => Lib.run_eql_slice_nil W 39 45 none 0 c 0 0 Try.underlying39
    go_enter Try.func88, Try.ntmps88
    go_wp2
    go_ret
    exact ⟨_, rfl, Kd.R_nil _ _ _ _ _, Below.refl _ _⟩
  | some ad =>
    have HR := Lib.hid hr
    obtain ⟨n, hn⟩ : ∃ n, n = l.length := ⟨_, rfl⟩
    have HN := Lib.hid hn
    rw [← hn] at hc hl ⊢
    clear hr hn
    have hz : ∀ W, (binOp .eql 39 (.slice (some ad) n c) (.slice none 0 0)).run Try.prog W = .ok (.bool false) W := fun W => Lib.run_eql_slice_nil W 39 45 (some ad) n c 0 0 Try.underlying39
    go_enter Try.func88, Try.ntmps88
    go_wp2_with (first | ((with_reducible refine q69 (b := .append) (xs := #[.tmp 5, .tmp 6]) rfl ?_); at_builtin; refine Kd.R_append_rows (kRaw 2) (w0 := w) w.heap.size rfl (.tmp 5) (.tmp 6) 39 45 (.agg #[.slice none 0 0, .slice none 0 0]) 48 rfl Try.underlying39 iSent_ rfl (by decide) (by omega) (.slice (some ⟨w.heap.size, 0, none⟩) 0 0) [] l _ _ _ (fun _ => True) (fun _ => False) rfl rfl (R_voidN (kRaw 2) 45 w.heap.size w _ trivial (Nat.le_refl _)) (HN.out ▸ Kd.C_alloc HR.out _) (fun _ _ h => h) (fun _ h => h.elim) (fun _ _ => trivial) (q57 (Below.refl _ _) _) (q57 (Below.refl _ _) _).size (by simpa using hl) ?_; intro v2 w2 hR2 hB2 hg1 hg2; clear hg1 hg2))
    go_ret
    exact ⟨_, rfl, hR2, hB2⟩
set_option maxHeartbeats 2000000 in
set_option maxRecDepth 100000 in
theorem cl_item (w : World) (A : Option Addr) (c : Nat) (l : List (List Value)) (hr : Kd.C (kRaw 7) w A l.length l) (hc : l.length ≤ c) (hl : l.length * 104 ≤ 140737488355328) :
    Calls Try.prog 62 #[.slice A l.length c] w fun e w' => ∃ v, e = .returned v ∧ Kd.R (kRaw 7) 41 w' w.heap.size (fun _ => True) v l ∧ Below w.heap.size w w' := by
  cases A with
  | none =>
    have h0 : l = [] := by
      rcases l with _ | ⟨a, l⟩
      · rfl
      · obtain ⟨ad, e, _⟩ := hr.2.2 (by simp)
        cases e
    subst h0
    clear hr
    have hz : ∀ W, (binOp .eql 23 (.slice none 0 c) (.slice none 0 0)).run Try.prog W = .ok (.bool true) W := fun W => Lib.run_eql_slice_nil W 23 41 none 0 c 0 0 Try.underlying23
    go_enter Try.func62, Try.ntmps62
    go_wp2
    go_ret
    exact ⟨_, rfl, Kd.R_nil _ _ _ _ _, Below.refl _ _⟩
  | some ad =>
    have HR := Lib.hid hr
    obtain ⟨n, hn⟩ : ∃ n, n = l.length := ⟨_, rfl⟩
    have HN := Lib.hid hn
    rw [← hn] at hc hl ⊢
    clear hr hn
    have hz : ∀ W, (binOp .eql 23 (.slice (some ad) n c) (.slice none 0 0)).run Try.prog W = .ok (.bool false) W := fun W => Lib.run_eql_slice_nil W 23 41 (some ad) n c 0 0 Try.underlying23
    go_enter Try.func62, Try.ntmps62
    go_wp2_with (first | ((with_reducible refine q69 (b := .append) (xs := #[.tmp 5, .tmp 6]) rfl ?_); at_builtin; refine Kd.R_append_rows (kRaw 7) (w0 := w) w.heap.size rfl (.tmp 5) (.tmp 6) 23 41 (.agg #[.string ⟨#[]⟩, .int .i64 0, .string ⟨#[]⟩, .bool false, .int .i64 0, .slice none 0 0, .slice none 0 0]) 104 rfl Try.underlying23 iItem_ rfl (by decide) (by omega) (.slice (some ⟨w.heap.size, 0, none⟩) 0 0) [] l _ _ _ (fun _ => True) (fun _ => False) rfl rfl (R_voidN (kRaw 7) 41 w.heap.size w _ trivial (Nat.le_refl _)) (HN.out ▸ Kd.C_alloc HR.out _) (fun _ _ h => h) (fun _ h => h.elim) (fun _ _ => trivial) (q57 (Below.refl _ _) _) (q57 (Below.refl _ _) _).size (by simpa using hl) ?_; intro v2 w2 hR2 hB2 hg1 hg2; clear hg1 hg2))
    go_ret
    exact ⟨_, rfl, hR2, hB2⟩
theorem R_of_cells {α : Type} {d : Kd α} {e base g n cap : Nat} {w : World} {cur : Array Value} {xs : List α} (hb : base ≤ g) (hg : w.heap[g]? = some (.cells cur e (0, 0))) (hn : n = xs.length) (hnc : n ≤ cap) (hcm : cap ≤ maxLen) (hcs : cur.size = cap * d.sz)
 (hx : ∀ (j : Nat) (p : α), xs[j]? = some p → ∃ cs, cs.length = d.sz ∧ (∀ (i : Nat) (u : Value), cs[i]? = some u → cur[j * d.sz + i]? = some u) ∧ d.M w base (fun k => True ∧ k ≠ g) p cs) : d.R e w base (fun _ => True) (.slice (some ⟨g, 0, none⟩) n cap) xs := by
 subst hn
 have hle : xs.length * d.sz ≤ cur.size := by rw [hcs]; exact Nat.mul_le_mul_right _ hnc
 have hil : (cur.toList.take (xs.length * d.sz)).length = xs.length * d.sz := by rw [List.length_take, Array.length_toList]; exact Nat.min_eq_left hle
 refine ⟨fun _ _ => trivial, cur.toList.take (xs.length * d.sz), ⟨hil, .inr ⟨g, cap, cur, rfl, hb, hg, hnc, hcm, hcs, rfl⟩⟩, hil, fun j p hj => ?_⟩
 obtain ⟨cs, h1, h2, h3⟩ := hx j p hj
 have hjl := (List.getElem?_eq_some_iff.1 hj).1
 have hjs : j * d.sz + d.sz ≤ xs.length * d.sz := by
  have := Nat.mul_le_mul_right d.sz (show j + 1 ≤ xs.length from hjl)
  rwa [Nat.succ_mul] at this
 have e1 : ((cur.toList.take (xs.length * d.sz)).drop (j * d.sz)).take d.sz = cs := by
  apply List.ext_getElem?
  intro i
  rw [List.getElem?_take]
  by_cases hi : i < d.sz
  ·rw [if_pos hi, List.getElem?_drop, List.getElem?_take, if_pos (by omega)]
   have hc := h2 i cs[i] (List.getElem?_eq_getElem (by omega))
   rw [Array.getElem?_toList, hc, List.getElem?_eq_getElem (by omega)]
  ·rw [if_neg hi]
   exact (List.getElem?_eq_none (by omega)).symm
 rw [e1]
 exact d.M_mono (fun k hk => ⟨trivial, fun e => hk.2 (by simpa [Value.ownBlock] using e)⟩) h3
theorem raw_cells {m e base n : Nat} {w : World} {v : Value} {rows : List (List Value)} (h : Kd.R (kRaw m) e w base (fun _ => True) v rows) (hn : n = rows.length) (hp : 0 < n) : ∃ g cap cur, v = .slice (some ⟨g, 0, none⟩) n cap ∧ base ≤ g ∧ w.heap[g]? = some (.cells cur e (0, 0)) ∧ n ≤ cap ∧ cap ≤ maxLen ∧ cur.size = cap * m ∧ ∀ (j : Nat) (cs : List Value), rows[j]? = some cs → ∀ (i : Nat) (u : Value), cs[i]? = some u → cur[j * m + i]? = some u := by
 subst hn
 obtain ⟨_, inner, ⟨hl, hor⟩, hrep⟩ := h
 rcases hor with ⟨-, h0⟩ | ⟨g, cap, cur, hv, hb, hg, hnc, hcm, hcs, ht⟩
 ·omega
 refine ⟨g, cap, cur, hv, hb, hg, hnc, hcm, hcs, fun j cs hj i u hu => ?_⟩
 obtain ⟨h1, h2, -⟩ := hrep.2 j cs hj
 have him : i < m := by
  have := (List.getElem?_eq_some_iff.1 hu).1
  omega
 have hz : (kRaw m).sz = m := rfl
 rw [← h1, List.getElem?_take, hz, if_pos him, List.getElem?_drop, ← ht, List.getElem?_take] at hu
 split at hu
 ·rwa [Array.getElem?_toList] at hu
 ·cases hu
theorem R_zero {α : Type} {d : Kd α} {m e base : Nat} {w : World} {v : Value} (hm : d.sz = m) (h : Kd.R (kRaw m) e w base (fun _ => True) v []) : d.R e w base (fun _ => True) v [] := by
 obtain ⟨_, inner, ho, hrep⟩ := h
 have hi : inner = [] := by
  have := hrep.1
  simp at this
  exact this
 subst hi
 subst hm
 exact ⟨fun _ _ => trivial, [], ho, by simp, fun j p hj => by simp at hj⟩
def cpInv (w wr : World) (g cap : Nat) (l : List (S45)) (i : Nat) : Prop := ∃ cur, wr.heap[g]? = some (.cells cur 45 (0, 0)) ∧ cur.size = cap * 2 ∧ Below w.heap.size w wr ∧ g < wr.heap.size ∧ ∀ (j : Nat) (p : S45), l[j]? = some p → ∃ u0 u1, cur[j * 2]? = some u0 ∧ cur[j * 2 + 1]? = some u1 ∧ (if j < i then Kd.M k45 wr w.heap.size (fun k => True ∧ k ≠ g) p [u0, u1] else Kd.K k45 w p [u0, u1])
set_option maxHeartbeats 8000000 in
set_option maxRecDepth 100000 in
theorem copied_any (w : World) (A : Option Addr) (c : Nat) (l : List (S45)) (hr : Kd.C k45 w A l.length l) (hc : l.length ≤ c) (hl : l.length * 48 ≤ 140737488355328) (hs : ∀ s ∈ l, s.f0.length * 24 ≤ 140737488355328 ∧ s.f1.length * 40 ≤ 140737488355328) :
 Calls Try.prog 63 #[.slice A l.length c] w fun e w' => ∃ v, e = .returned v ∧ Kd.R k45 45 w' w.heap.size (fun _ => True) v l ∧ Below w.heap.size w w' := by
 have hu29 := Try.underlying45
 obtain ⟨rows, hrl, hrC, hrK⟩ := C_raw hr
 have hcl := cl_sentry w A c rows (by rw [hrl]; exact hrC) (by omega) (by rw [hrl]; exact hl)
 rw [hrl] at hcl
 obtain ⟨n, hn⟩ : ∃ n, n = l.length := ⟨_, rfl⟩
 rw [← hn] at hcl hrl hl ⊢
 have HN := Lib.hid hn
 have HRL := Lib.hid hrl
 have HRK := Lib.hid hrK
 have HS := Lib.hid hs
 clear hr hc hrC hrK hn hrl hs
 go_enter Try.func63, Try.ntmps63
 go_wp2_with fail
 refine hcl.mono ?_
 rintro e w1 ⟨v, rfl, hR, hb⟩
 rcases Nat.eq_zero_or_pos n with h0 | hp
 ·have hr0 : rows = [] := List.eq_nil_of_length_eq_zero (by rw [HRL.out, h0])
  have hl0 : l = [] := List.eq_nil_of_length_eq_zero (by rw [← HN.out, h0])
  rw [hr0] at hR
  obtain ⟨A1, c1, rfl⟩ := Kd.R_slice hR
  have HF : Hid (Kd.R k45 45 w1 w.heap.size (fun _ => True) (.slice A1 0 c1) l ∧ Below w.heap.size w w1) := Lib.hid ⟨by rw [hl0]; exact R_zero rfl hR, hb⟩
  clear hR hb hcl hr0 hl0 h0
  go_wp2
  go_loopg [9] 0 (fun gg s9 wr => s9 = .int .i64 0 ∧ wr = w1)
  case atStart => exact ⟨rfl, rfl⟩
  case round =>
  obtain ⟨rfl, rfl⟩ := hrel
  go_wp2
  go_ret
  exact ⟨_, rfl, HF.out.1, HF.out.2⟩
 obtain ⟨g, cap, cur, rfl, hgb, hg, hnc, hcm, hcs, hcur⟩ := raw_cells hR (HRL.out).symm hp
 have HI : Hid (cpInv w w1 g cap l 0) := Lib.hid ⟨cur, hg, hcs, hb, blk_lt hg, fun j p hj => by
  obtain ⟨cs, h1, h2⟩ := HRK.out j p hj
  obtain ⟨B0, d0, B1, d1, rfl, h3⟩ := k45_open h2
  exact ⟨_, _, hcur j _ h1 0 _ rfl, hcur j _ h1 1 _ rfl, by rw [if_neg (by omega)]; exact h2⟩⟩
 have HG := Lib.hid (And.intro hgb (And.intro hnc hcm))
 clear hR hb hcl hgb hg hnc hcm hcs hcur
 go_wp2
 go_loopg [9] n (fun gg s9 wr => ∃ i : Nat, s9 = .int .i64 i ∧ i ≤ n ∧ n - i ≤ gg ∧ Hid (cpInv w wr g cap l i))
 case atStart => exact ⟨0, rfl, by omega, by omega, HI⟩
 case round =>
 obtain ⟨i, rfl, hin, hig, X⟩ := hrel
 obtain ⟨wO, rfl⟩ : ∃ wO, wO = wr := ⟨_, rfl⟩
 by_cases hlt : i < n
 case neg =>
  have hltz : ¬ (i : Int) < (n : Int) := by omega
  obtain ⟨cur, hg, hcs, hb, hgl, hx⟩ := X.out
  have HF : Hid (Kd.R k45 45 wO w.heap.size (fun _ => True) (.slice (some ⟨g, 0, none⟩) n cap) l ∧ Below w.heap.size w wO) := Lib.hid ⟨R_of_cells HG.out.1 hg HN.out HG.out.2.1 HG.out.2.2 hcs (fun j p hj => by
   obtain ⟨u0, u1, h1, h2, h3⟩ := hx j p hj
   have hjl := (List.getElem?_eq_some_iff.1 hj).1
   rw [if_pos (by have := HN.out; omega)] at h3
   refine ⟨[u0, u1], rfl, fun i u hu => ?_, h3⟩
   match i, hu with
   | 0, hu => cases hu; exact h1
   | 1, hu => cases hu; exact h2
   | i + 2, hu => simp at hu), hb⟩
  clear X hg hcs hb hgl hx
  go_wp2
  go_ret
  exact ⟨_, rfl, HF.out.1, HF.out.2⟩
 have hltz : (i : Int) < (n : Int) := by omega
 obtain ⟨cur, hg, hcs, hb, hgl, hx⟩ := X.out
 have hil : i < l.length := by have := HN.out; omega
 obtain ⟨s, hsx⟩ : ∃ s, s = l[i] := ⟨_, rfl⟩
 have hsg : l[i]? = some s := by rw [hsx, List.getElem?_eq_getElem hil]
 obtain ⟨u0, u1, h1, h2, h3⟩ := hx i s hsg
 rw [if_neg (by omega)] at h3
 obtain ⟨B0, d0, B1, d1, e, hl0, hC0, hl1, hC1⟩ := k45_open h3
 obtain ⟨rfl, rfl⟩ : u0 = .slice B0 s.f0.length d0 ∧ u1 = .slice B1 s.f1.length d1 := by simpa using e
 have hb0 := HS.out s (by rw [hsx]; exact List.getElem_mem _)
 have hx0 : wO.cell? ⟨g, i * 2, none⟩ = some (.slice B0 s.f0.length d0) := (q63 hg _).trans h1
 have hx1 : wO.cell? ⟨g, i * 2 + 1, none⟩ = some (.slice B1 s.f1.length d1) := (q63 hg _).trans h2
 have hf0 := q67 hg (i * 2)
 have hf1 := q67 hg (i * 2 + 1)
 obtain ⟨n0, hn0⟩ : ∃ n0, n0 = s.f0.length := ⟨_, rfl⟩
 obtain ⟨n1, hn1⟩ : ∃ n1, n1 = s.f1.length := ⟨_, rfl⟩
 obtain ⟨W1, hW1⟩ : ∃ W1, W1 = wO.alloc (.cells #[.slice B0 n0 d0, .slice B1 n1 d1] 45) := ⟨_, rfl⟩
 have hbW : Below wO.heap.size wO W1 := by rw [hW1]; exact q57 (Below.refl _ _) _
 have hgW : W1.heap[wO.heap.size]? = some (.cells #[.slice B0 n0 d0, .slice B1 n1 d1] 45 (0, 0)) := by rw [hW1]; exact heap_alloc_new wO _
 have HX := Lib.hid (And.intro hg (And.intro hcs (And.intro hb (And.intro hgl hx))))
 have HC := Lib.hid (And.intro hl0 (And.intro hC0 (And.intro hl1 (And.intro hC1 hb0))))
 have HW := Lib.hid hW1
 have HBW := Lib.hid hbW
 have HGW := Lib.hid hgW
 have HSX := Lib.hid (And.intro hsg (And.intro hn0 hn1))
 have HU := Lib.hid (And.intro h1 h2)
 rw [← hn0] at hx0
 rw [← hn1] at hx1
 clear X hg hcs hb hgl hx hil hsg h1 h2 h3 e hl0 hC0 hl1 hC1 hb0 hW1 hbW hgW hsx hn0 hn1
 go_wp2
 rw [← HW.out]
 clear hx0 hx1
 have hc0 := (q63 HGW.out 0).trans rfl
 have hc1 := (q63 HGW.out 1).trans rfl
 refine sD_ [10] (fun w' => w'.cell? ⟨wO.heap.size, 0, none⟩ = some (.slice B0 n0 d0) ∧ w'.cell? ⟨wO.heap.size, 1, none⟩ = some (.slice B1 n1 d1)) 11 ⟨hc0, hc1⟩ (fun hHeld => ?_)
 have hbD : Below wO.heap.size wO W1.drew := q58 HBW.out
 have hgD : W1.drew.heap[wO.heap.size]? = some (.cells #[.slice B0 n0 d0, .slice B1 n1 d1] 45 (0, 0)) := HGW.out
 clear hc0 hc1
 generalize W1.drew = wD at hHeld hbD hgD ⊢
 refine pu_ 0 (some 14) ?_
 refine pu_ 1 (some 15) ?_
 refine pu_ 2 (some 16) ?_
 refine tk_ 3 (some 17) hHeld ?_ (hy := by rintro w' ⟨s0, s1⟩; go_simp; with_reducible rfl)
 refine pu_ 5 (some 19) ?_
 refine tk_ 6 (some 20) hHeld ?_ (hy := by rintro w' ⟨s0, s1⟩; go_simp; with_reducible rfl)
 have hbw : Below w.heap.size w wD := q60 HX.out.2.2.1 HX.out.2.2.1.size hbD
 have hcl1 := cl_on wD B0 d0 s.f0 (Kd.C_below HC.out.2.1 hbw) HC.out.1 HC.out.2.2.2.2.1
 rw [← HSX.out.2.1] at hcl1
 refine ca_ 4 (some 18) Try.func89 #[.slice B0 n0 d0] ?_
 refine hcl1.mono ?_
 rintro e w3 ⟨v3, rfl, hR3, hb3⟩
 obtain ⟨A3, c3, rfl⟩ := Kd.R_slice hR3
 rw [← HSX.out.2.1] at hR3 ⊢
 have hg3 := q62 hgD hb3
 have hbD3 := q60 hbD hbD.size hb3
 have hbw3 := q60 hbw hbw.size hb3
 have hzD : wO.heap.size < wD.heap.size := blk_lt hgD
 refine ⟨_, rfl, ⟨(q63 hg3 0).trans rfl, (q63 hg3 1).trans rfl⟩, fun hHeld => ⟨_, rfl, nz_ (some 18) ?_⟩⟩
 have hcl2 := cl_cond w3 B1 d1 s.f1 (Kd.C_below HC.out.2.2.2.1 hbw3) HC.out.2.2.1 HC.out.2.2.2.2.2
 rw [← HSX.out.2.2] at hcl2
 refine ca_ 7 (some 21) Try.func65 #[.slice B1 n1 d1] ?_
 refine hcl2.mono ?_
 rintro e w4 ⟨v4, rfl, hR4, hb4⟩
 obtain ⟨A4, c4, rfl⟩ := Kd.R_slice hR4
 rw [← HSX.out.2.2] at hR4 ⊢
 have hg4 := q62 hg3 hb4
 have hbD4 := q60 hbD3 hbD3.size hb4
 have hR34 := Kd.R_below hR3 hb4
 have hz3 : wD.heap.size ≤ w3.heap.size := hb3.size
 refine ⟨_, rfl, ⟨(q63 hg4 0).trans rfl, (q63 hg4 1).trans rfl⟩, fun hHeld => ⟨_, rfl, nz_ (some 21) ?_⟩⟩
 refine pu_ 8 (some 22) ?_
 refine pu_ 9 (some 23) ?_
 have hgO := q62 HX.out.1 hbD4
 have hx0 := (q63 hgO (i * 2)).trans HU.out.1
 have hx1 := (q63 hgO (i * 2 + 1)).trans HU.out.2
 rw [← HSX.out.2.1] at hx0
 rw [← HSX.out.2.2] at hx1
 have hf0 := q67 hgO (i * 2)
 have hf1 := q67 hgO (i * 2 + 1)
 refine lA_ 10 none (fun K hK => ?_)
 go_simp
 have HF : Hid (cpInv w ((w4.setCell ⟨g, i * 2, none⟩ (.slice A3 n0 c3)).setCell ⟨g, i * 2 + 1, none⟩ (.slice A4 n1 c4)) g cap l (i + 1)) := Lib.hid (by
  have hgw : w.heap.size ≤ g := HG.out.1
  have hgO' : g < wO.heap.size := HX.out.2.2.2.1
  have hsz : ∀ q, i * 2 = q → q < cur.size := fun q e => by
   have := (Array.getElem?_eq_some_iff.1 HU.out.1).1
   omega
  refine ⟨(cur.setIfInBounds (i * 2) (.slice A3 n0 c3)).setIfInBounds (i * 2 + 1) (.slice A4 n1 c4), q68 (q68 hgO (i * 2) (.slice A3 n0 c3) rfl) (i * 2 + 1) (.slice A4 n1 c4) rfl, by simp only [Array.size_setIfInBounds]; exact HX.out.2.1, ((q60 HX.out.2.2.1 HX.out.2.2.1.size hbD4).setCell hgw _).setCell hgw _, ?_, fun j p hj => ?_⟩
  ·have := hbD4.size
   simp only [World.setCell]
   simpa [World.setCell] using Nat.lt_of_lt_of_le hgO' this
  by_cases hji : j = i
  ·subst hji
   obtain rfl : s = p := Option.some.inj (HSX.out.1.symm.trans hj)
   have l0 := (Array.getElem?_eq_some_iff.1 HU.out.1).1
   have l1 := (Array.getElem?_eq_some_iff.1 HU.out.2).1
   refine ⟨.slice A3 n0 c3, .slice A4 n1 c4, ?_, ?_, ?_⟩
   ·rw [Array.getElem?_setIfInBounds_ne (by omega), Array.getElem?_setIfInBounds_self_of_lt l0]
   ·rw [Array.getElem?_setIfInBounds_self_of_lt (by simpa using l1)]
   rw [if_pos (by omega)]
   have far : ∀ {α : Type} {d : Kd α} {e base : Nat} {v : Value} {xs : List α}, g < base → w.heap.size ≤ base → d.R e w4 base (fun _ => True) v xs → d.R e ((w4.setCell ⟨g, j * 2, none⟩ (.slice A3 n0 c3)).setCell ⟨g, j * 2 + 1, none⟩ (.slice A4 n1 c4)) w.heap.size (fun k => True ∧ k ≠ g) v xs := fun hg1 hg2 h =>
    Kd.R_lower (Kd.R_mono (Kd.R_far (Kd.R_far (Kd.R_bound h) (p := ⟨g, j * 2, none⟩) (fun k hk => by have := hk.2.1; show k ≠ g; omega) _) (p := ⟨g, j * 2 + 1, none⟩) (fun k hk => by have := hk.2.1; show k ≠ g; omega) _) (fun k hk => ⟨trivial, by have := hk.2.1; omega⟩)) hg2
   exact k45_mkM _ _ _ _ (far (by omega) (by omega) hR34) (far (by omega) (by omega) hR4)
  obtain ⟨u0, u1, h1, h2, h3⟩ := HX.out.2.2.2.2 j p hj
  refine ⟨u0, u1, ?_, ?_, ?_⟩
  ·rw [Array.getElem?_setIfInBounds_ne (by omega), Array.getElem?_setIfInBounds_ne (by omega)]; exact h1
  ·rw [Array.getElem?_setIfInBounds_ne (by omega), Array.getElem?_setIfInBounds_ne (by omega)]; exact h2
  by_cases hlt' : j < i
  ·rw [if_pos hlt'] at h3
   rw [if_pos (by omega)]
   exact Kd.M_step h3 (fun k hk hkl => (Below.heap_setCell _ _ _ _ hk.2).trans ((Below.heap_setCell _ _ _ _ hk.2).trans (hbD4.block k hkl)))
  rw [if_neg hlt'] at h3
  rw [if_neg (by omega)]
  exact h3)
 refine hK.out _ _ ?_
 clear hK K hx0 hx1 hf0 hf1 hgO hR3 hR4 hR34 hg3 hg4 hHeld hcl1 hcl2
 refine dn_ ?_
 go_wp2
 go_roundg (n - (i + 1))
 case measure => omega
 case rel => exact ⟨i + 1, by go_num, by omega, by omega, HF⟩
def wideSents (l : List (S45)) : Prop := l.length * 48 ≤ 140737488355328 ∧ ∀ s ∈ l, s.f0.length * 24 ≤ 140737488355328 ∧ s.f1.length * 40 ≤ 140737488355328
def wideItem (x : S41) : Prop := wideSents x.f5 ∧ wideSents x.f6
def CopyPost (w : World) (fs : List ByteArray) (l : List (S41)) (e : Ending) (w' : World) : Prop := ∃ v0 v1, e = .returned (.agg #[v0, v1]) ∧ Kd.R Kd.string 9 w' w.heap.size (fun _ => True) v0 fs ∧ Kd.R k41 41 w' w.heap.size (fun _ => True) v1 l ∧ Below w.heap.size w w'
def cyInv (w wr : World) (B g cap : Nat) (l : List (S41)) (i : Nat) : Prop := ∃ cur, wr.heap[g]? = some (.cells cur 41 (0, 0)) ∧ cur.size = cap * 7 ∧ g < wr.heap.size ∧ ∀ (j : Nat) (x : S41), l[j]? = some x → ∃ u5 u6, (cur[j * 7]? = some (.string x.f0) ∧ cur[j * 7 + 1]? = some (.int .i64 x.f1) ∧ cur[j * 7 + 2]? = some (.string x.f2) ∧ cur[j * 7 + 3]? = some (.bool x.f3) ∧ cur[j * 7 + 4]? = some (.int .i64 x.f4) ∧ cur[j * 7 + 5]? = some u5 ∧ cur[j * 7 + 6]? = some u6) ∧ (if j < i then Kd.R k45 45 wr B (fun k => True ∧ k ≠ g) u5 x.f5 ∧ Kd.R k45 45 wr B (fun k => True ∧ k ≠ g) u6 x.f6 else ∃ A5 c5 A6 c6, u5 = .slice A5 x.f5.length c5 ∧ u6 = .slice A6 x.f6.length c6 ∧ x.f5.length ≤ c5 ∧ Kd.C k45 w A5 x.f5.length x.f5 ∧ x.f6.length ≤ c6 ∧ Kd.C k45 w A6 x.f6.length x.f6)
set_option maxHeartbeats 16000000 in
set_option maxRecDepth 100000 in
theorem copy_any (w : World) (A0 : Option Addr) (c0 : Nat) (fs : List ByteArray) (A1 : Option Addr) (c1 : Nat) (l : List (S41)) (hr0 : Kd.C Kd.string w A0 fs.length fs) (hc0 : fs.length ≤ c0) (hr1 : Kd.C k41 w A1 l.length l) (hc1 : l.length ≤ c1) (hf : fs.length * 16 ≤ 140737488355328) (hl : l.length * 104 ≤ 140737488355328) (hw : ∀ x ∈ l, wideItem x) :
 Calls Try.prog 22 #[.agg #[.slice A0 fs.length c0, .slice A1 l.length c1]] w (CopyPost w fs l) := by
 have hu36 := Try.underlying25
 have hu32 := Try.underlying41
 obtain ⟨rows, hrl, hrC, hrK⟩ := C_raw hr1
 obtain ⟨wA, hwA⟩ : ∃ wA, wA = w.alloc (.cells #[.slice A0 fs.length c0, .slice A1 l.length c1] 25) := ⟨_, rfl⟩
 obtain ⟨wB, hwB⟩ : ∃ wB, wB = wA.alloc (.cells #[.slice none 0 0, .slice none 0 0] 25) := ⟨_, rfl⟩
 have hbA : Below w.heap.size w wA := by rw [hwA]; exact q57 (Below.refl _ _) _
 have hbB : Below w.heap.size w wB := by rw [hwB]; exact q57 hbA _
 have hzA : wA.heap.size = w.heap.size + 1 := by rw [hwA]; simp
 have hgA : wB.heap[w.heap.size]? = some (.cells #[.slice A0 fs.length c0, .slice A1 l.length c1] 25 (0, 0)) := by rw [hwB]; exact q62 (by rw [hwA]; exact heap_alloc_new w _) (q57 (Below.refl _ _) _)
 have hgB : wB.heap[w.heap.size + 1]? = some (.cells #[.slice none 0 0, .slice none 0 0] 25 (0, 0)) := by rw [hwB, ← hzA]; exact heap_alloc_new wA _
 have hzB : w.heap.size + 1 < wB.heap.size := blk_lt hgB
 obtain ⟨n0, hn0⟩ : ∃ n0, n0 = fs.length := ⟨_, rfl⟩
 obtain ⟨n, hn⟩ : ∃ n, n = l.length := ⟨_, rfl⟩
 have hcl0 : ∀ W, Below w.heap.size w W → _ := fun W hb => cl_str W A0 c0 fs (Kd.C_below hr0 hb) hc0 hf
 have hcl1 : ∀ W, Below w.heap.size w W → _ := fun W hb => cl_item W A1 c1 rows (by rw [hrl]; exact Kd.C_below hrC hb) (by rw [hrl]; exact hc1) (by rw [hrl]; exact hl)
 rw [← hn0] at hcl0 hgA hwA ⊢
 rw [hrl] at hcl1
 rw [← hn] at hcl1 hgA hwA hl ⊢
 have HW := Lib.hid (And.intro hwA hwB)
 have HBB := Lib.hid hbB
 have HG := Lib.hid (And.intro hgA hgB)
 have HCL0 := Lib.hid hcl0
 have HCL1 := Lib.hid hcl1
 have HN := Lib.hid (And.intro hn0 hn)
 have HRL := Lib.hid (hrl.trans hn.symm)
 have HRK := Lib.hid hrK
 have HWI := Lib.hid hw
 clear hr0 hc0 hr1 hc1 hf hw hrl hrC hrK hwA hwB hbA hbB hzA hgA hgB hn0 hn hcl0 hcl1
 go_enter Try.func22, Try.ntmps22
 go_wp2
 rw [← HW.out.1, ← HW.out.2]
 have hc_0 := (q63 HG.out.1 0).trans rfl
 have hc_1 := (q63 HG.out.1 1).trans rfl
 refine sD_ [7, 9] (fun w' => w'.cell? ⟨w.heap.size, 0, none⟩ = some (.slice A0 n0 c0) ∧ w'.cell? ⟨w.heap.size, 1, none⟩ = some (.slice A1 n c1)) 10 ⟨hc_0, hc_1⟩ (fun hHeld => ?_)
 have hbD : Below wB.heap.size wB wB.drew := q58 (Below.refl _ _)
 clear hc_0 hc_1
 generalize wB.drew = wD at hHeld hbD ⊢
 refine pu_ 0 (some 5) ?_
 refine tk_ 1 (some 6) hHeld ?_ (hy := by rintro w' ⟨s0, s1⟩; go_simp; with_reducible rfl)
 refine pu_ 3 (some 8) ?_
 refine tk_ 4 (some 9) hHeld ?_ (hy := by rintro w' ⟨s0, s1⟩; go_simp; with_reducible rfl)
 refine ca_ 2 (some 7) Try.func24 #[.slice A0 n0 c0] ?_
 refine (HCL0.out wD (q72 hbD HBB.out)).mono ?_
 rintro e w2 ⟨v0, rfl, hR2, hb2⟩
 obtain ⟨F0, d0, rfl⟩ := Kd.R_slice hR2
 rw [← HN.out.1] at hR2 ⊢
 have hbB2 := q60 hbD hbD.size hb2
 have hg2 := q62 HG.out.1 hbB2
 refine ⟨_, rfl, ⟨(q63 hg2 0).trans rfl, (q63 hg2 1).trans rfl⟩, fun hHeld => ⟨_, rfl, nz_ (some 7) ?_⟩⟩
 refine pu_ 6 (some 11) ?_
 refine ca_ 5 (some 10) Try.func62 #[.slice A1 n c1] ?_
 refine (HCL1.out w2 (q72 hbB2 HBB.out)).mono ?_
 rintro e w3 ⟨v1, rfl, hR3, hb3⟩
 have hbB3 := q60 hbB2 hbB2.size hb3
 have hg3 := q62 HG.out.1 hbB3
 have hR23 := Kd.R_below hR2 hb3
 obtain ⟨F1, d1, rfl⟩ := Kd.R_slice hR3
 rw [HRL.out] at hR3 ⊢
 refine ⟨_, rfl, ⟨(q63 hg3 0).trans rfl, (q63 hg3 1).trans rfl⟩, fun hHeld => ⟨_, rfl, nz_ (some 10) ?_⟩⟩
 have hcz := (q63 hg3 0).trans rfl
 have hfz := q67 hg3 0
 refine lA_ 7 none (fun K hK => ?_)
 go_simp
 refine hK.out _ _ ?_
 clear hK K
 refine pu_ 8 (some 12) ?_
 have hg4 := q68 hg3 0 (.slice F0 n0 d0) rfl
 have hcz1 := (q63 hg4 1).trans rfl
 have hfz1 := q67 hg4 1
 clear hcz hfz
 refine lA_ 9 none (fun K hK => ?_)
 go_simp
 have hgE := q68 hg4 1 (.slice F1 n d1) rfl
 have hgB3 := q62 HG.out.2 hbB3
 have hbw3 := q72 hbB3 HBB.out
 obtain ⟨wE, hwE⟩ : ∃ wE, wE = (w3.setCell ⟨w.heap.size, 0, none⟩ (.slice F0 n0 d0)).setCell ⟨w.heap.size, 1, none⟩ (.slice F1 n d1) := ⟨_, rfl⟩
 rw [← hwE] at hgE ⊢
 have hsE : ∀ k, k ≠ w.heap.size → wE.heap[k]? = w3.heap[k]? := fun k hk => by rw [hwE]; exact (Below.heap_setCell _ _ _ _ hk).trans (Below.heap_setCell _ _ _ _ hk)
 have hgE2 : wE.heap[w.heap.size + 1]? = some (.cells #[.slice none 0 0, .slice none 0 0] 25 (0, 0)) := (hsE _ (by omega)).trans hgB3
 have hbE : Below w.heap.size w wE := by rw [hwE]; exact (hbw3.setCell (Nat.le_refl _) _).setCell (Nat.le_refl _) _
 have hzE : wE.heap.size = w3.heap.size := by rw [hwE]; simp [World.setCell]
 have hD2 : wD.heap.size ≤ w2.heap.size := hb2.size
 have hE2 : w2.heap.size ≤ wE.heap.size := by rw [hzE]; exact hb3.size
 have hBD : wB.heap.size ≤ wD.heap.size := hbD.size
 have hRF : Kd.R Kd.string 9 wE wB.heap.size (fun k => k < w2.heap.size) (.slice F0 n0 d0) fs := by
  refine Kd.R_lower (Kd.R_mono (Kd.R_step (Kd.R_bound (Kd.R_below (Kd.R_mono (Kd.R_bound hR2) (ok' := fun k => wD.heap.size ≤ k ∧ k < w2.heap.size) (fun k hk => ⟨hk.2.1, hk.2.2.1⟩)) hb3)) (fun k hk _ => hsE k (by have := hk.1.1; omega))) (fun k hk => hk.1.2)) hBD
 have hRI : Kd.R (kRaw 7) 41 wE w2.heap.size (fun _ => True) (.slice F1 n d1) rows := Kd.R_mono (Kd.R_step (Kd.R_bound hR3) (fun k hk _ => hsE k (by have := hk.2.1; omega))) (fun _ _ => trivial)
 refine hK.out _ _ ?_
 clear hK K hcz1 hfz1 hg4 hg3 hg2 hR2 hR3 hR23 hHeld hb2 hb3 hbB2 hbB3 hgB3 hbw3 hbD hwE
 have HRF := Lib.hid hRF
 have HBE := Lib.hid hbE
 have HGE := Lib.hid (And.intro hgE hgE2)
 refine dn_ ?_
 have hk_0 := (q63 HGE.out.1 0).trans rfl
 have hk_1 := (q63 HGE.out.1 1).trans rfl
 clear hsE hgE hgE2 hbE hRF hzE
 have rset : ∀ {W : World} {α : Type} {d : Kd α} {e : Nat} {ok : Nat → Prop} {v : Value} {xs : List α} {i : Nat} {u : Value}, d.R e W wB.heap.size ok v xs → d.R e (W.setCell ⟨w.heap.size + 1, i, none⟩ u) wB.heap.size ok v xs := fun h => Kd.R_mono (Kd.R_far (Kd.R_bound h) (fun k hk => by have := hk.2.1; show k ≠ w.heap.size + 1; omega) _) (fun _ hk => hk.1)
 rcases Nat.eq_zero_or_pos n with h0 | hp
 ·have hr0 : rows = [] := List.eq_nil_of_length_eq_zero (by rw [HRL.out, h0])
  have hl0 : l = [] := List.eq_nil_of_length_eq_zero (by rw [← HN.out.2, h0])
  rw [hr0] at hRI
  have hRIo : Kd.R k41 41 wE wB.heap.size (fun _ => True) (.slice F1 n d1) l := by rw [hl0]; exact Kd.R_lower (R_zero rfl hRI) (by omega)
  rw [h0] at hRIo
  have HRIo := Lib.hid hRIo
  have hg1 := HGE.out.1
  rw [h0] at hg1
  have HG1 := Lib.hid hg1
  clear hRI hr0 hl0 hRIo hg1
  subst h0
  go_wp2
  clear hk_0 hk_1
  go_loopg [16] 0 (fun gg s16 wr => s16 = .int .i64 0 ∧ wr = wE)
  case atStart => exact ⟨rfl, rfl⟩
  case round =>
  obtain ⟨rfl, rfl⟩ := hrel
  have hRFo := HRF.out
  have hRIo := HRIo.out
  have hbo := HBE.out
  have hg1 := HG1.out
  have hg2 := HGE.out.2
  have HFIN : Hid (Kd.R Kd.string 9 ((wr.setCell ⟨w.heap.size + 1, 0, none⟩ (.slice F0 n0 d0)).setCell ⟨w.heap.size + 1, 1, none⟩ (.slice F1 0 d1)) w.heap.size (fun _ => True) (.slice F0 n0 d0) fs ∧ Kd.R k41 41 ((wr.setCell ⟨w.heap.size + 1, 0, none⟩ (.slice F0 n0 d0)).setCell ⟨w.heap.size + 1, 1, none⟩ (.slice F1 0 d1)) w.heap.size (fun _ => True) (.slice F1 0 d1) l ∧ Below w.heap.size w ((wr.setCell ⟨w.heap.size + 1, 0, none⟩ (.slice F0 n0 d0)).setCell ⟨w.heap.size + 1, 1, none⟩ (.slice F1 0 d1))) := Lib.hid ⟨Kd.R_mono (Kd.R_lower (rset (rset hRFo)) (by omega)) (fun _ _ => trivial), Kd.R_lower (rset (rset hRIo)) (by omega), (hbo.setCell (Nat.le_succ _) _).setCell (Nat.le_succ _) _⟩
  have HGF := Lib.hid (q68 (q68 hg2 0 (.slice F0 n0 d0) rfl) 1 (.slice F1 0 d1) rfl)
  have hx_0 := (q63 hg1 0).trans rfl
  have hx_1 := (q63 hg1 1).trans rfl
  have hz_0 := (q63 hg2 0).trans rfl
  have hz_1 := (q63 hg2 1).trans rfl
  have hq_0 := q67 hg2 0
  have hq_1 := q67 hg2 1
  clear hRFo hRIo hbo hg1 hg2
  go_wp2
  clear hx_0 hx_1 hz_0 hz_1 hq_0 hq_1
  refine bodyPost_ret (results_cell_row rfl _ _ (w.heap.size + 1) 25 #[.slice F0 n0 d0, (.slice F1 0 d1)] (0, 0) _ rfl HGF.out Try.underlying25 rfl (by kernel_rfl)) rfl ?_
  exact ⟨_, _, rfl, HFIN.out.1, HFIN.out.2.1, HFIN.out.2.2⟩
 obtain ⟨g, cap, cur, e1, hgb, hg, hnc, hcm, hcs, hcur⟩ := raw_cells hRI HRL.out.symm hp
 cases e1
 have HI : Hid (cyInv w wE wB.heap.size g d1 l 0) := Lib.hid ⟨cur, hg, hcs, blk_lt hg, fun j x hj => by
  obtain ⟨cs, h1, h2⟩ := HRK.out j x hj
  obtain ⟨A5, c5, A6, c6, rfl, h5, hC5, h6, hC6⟩ := k41_open h2
  exact ⟨_, _, ⟨hcur j _ h1 0 _ rfl, hcur j _ h1 1 _ rfl, hcur j _ h1 2 _ rfl, hcur j _ h1 3 _ rfl, hcur j _ h1 4 _ rfl, hcur j _ h1 5 _ rfl, hcur j _ h1 6 _ rfl⟩, by rw [if_neg (by omega)]; exact ⟨A5, c5, A6, c6, rfl, rfl, h5, hC5, h6, hC6⟩⟩⟩
 have HGC := Lib.hid (And.intro hgb (And.intro hnc hcm))
 clear hRI hg hnc hcm hcs hcur
 go_wp2
 clear hk_0 hk_1
 go_loopg [16] n (fun gg s16 wr => ∃ i : Nat, s16 = .int .i64 i ∧ i ≤ n ∧ n - i ≤ gg ∧ Hid (cyInv w wr wB.heap.size g d1 l i ∧ Kept wE wr (fun k => k = g) ∧ Below w.heap.size w wr))
 case atStart => exact ⟨0, rfl, by omega, by omega, Lib.hid ⟨HI.out, Kept.refl _ _, HBE.out⟩⟩
 case round =>
 obtain ⟨i, rfl, hin, hig, X⟩ := hrel
 obtain ⟨wO, rfl⟩ : ∃ wO, wO = wr := ⟨_, rfl⟩
 by_cases hlt : i < n
 case neg =>
  have hltz : ¬ (i : Int) < (n : Int) := by omega
  obtain ⟨⟨cur, hg, hcs, hgl, hx⟩, hk, hbo⟩ := X.out
  have hg1 := (hk.2 _ (blk_lt HGE.out.1) (show ¬ w.heap.size = g by omega)).trans HGE.out.1
  have hg2 := (hk.2 _ (blk_lt HGE.out.2) (show ¬ w.heap.size + 1 = g by omega)).trans HGE.out.2
  have hRFo : Kd.R Kd.string 9 wO wB.heap.size (fun k => k < w2.heap.size) (.slice F0 n0 d0) fs := Kd.R_step HRF.out (fun k hk' hkl => hk.2 k hkl (show ¬ k = g by omega))
  have hRIo : Kd.R k41 41 wO wB.heap.size (fun _ => True) (.slice (some ⟨g, 0, none⟩) n d1) l := R_of_cells (by omega) hg HN.out.2 HGC.out.2.1 HGC.out.2.2 hcs (fun j p hj => by
   obtain ⟨u5, u6, ⟨q0, q1, q2, q3, q4, q5, q6⟩, h3⟩ := hx j p hj
   have hjl := (List.getElem?_eq_some_iff.1 hj).1
   rw [if_pos (by have := HN.out.2; omega)] at h3
   refine ⟨[.string p.f0, .int .i64 p.f1, .string p.f2, .bool p.f3, .int .i64 p.f4, u5, u6], rfl, fun i u hu => ?_, k41_mkM _ _ _ _ h3.1 h3.2⟩
   match i, hu with
   | 0, hu => cases hu; exact q0
   | 1, hu => cases hu; exact q1
   | 2, hu => cases hu; exact q2
   | 3, hu => cases hu; exact q3
   | 4, hu => cases hu; exact q4
   | 5, hu => cases hu; exact q5
   | 6, hu => cases hu; exact q6
   | i + 7, hu => simp at hu)
  clear X hg hcs hgl hx hk
  have HFIN : Hid (Kd.R Kd.string 9 ((wO.setCell ⟨w.heap.size + 1, 0, none⟩ (.slice F0 n0 d0)).setCell ⟨w.heap.size + 1, 1, none⟩ (.slice (some ⟨g, 0, none⟩) n d1)) w.heap.size (fun _ => True) (.slice F0 n0 d0) fs ∧ Kd.R k41 41 ((wO.setCell ⟨w.heap.size + 1, 0, none⟩ (.slice F0 n0 d0)).setCell ⟨w.heap.size + 1, 1, none⟩ (.slice (some ⟨g, 0, none⟩) n d1)) w.heap.size (fun _ => True) (.slice (some ⟨g, 0, none⟩) n d1) l ∧ Below w.heap.size w ((wO.setCell ⟨w.heap.size + 1, 0, none⟩ (.slice F0 n0 d0)).setCell ⟨w.heap.size + 1, 1, none⟩ (.slice (some ⟨g, 0, none⟩) n d1))) := Lib.hid ⟨Kd.R_mono (Kd.R_lower (rset (rset hRFo)) (by omega)) (fun _ _ => trivial), Kd.R_lower (rset (rset hRIo)) (by omega), (hbo.setCell (Nat.le_succ _) _).setCell (Nat.le_succ _) _⟩
  have HGF := Lib.hid (q68 (q68 hg2 0 (.slice F0 n0 d0) rfl) 1 (.slice (some ⟨g, 0, none⟩) n d1) rfl)
  have hx_0 := (q63 hg1 0).trans rfl
  have hx_1 := (q63 hg1 1).trans rfl
  have hz_0 := (q63 hg2 0).trans rfl
  have hz_1 := (q63 hg2 1).trans rfl
  have hq_0 := q67 hg2 0
  have hq_1 := q67 hg2 1
  clear hRFo hRIo hbo hg1 hg2
  go_wp2
  clear hx_0 hx_1 hz_0 hz_1 hq_0 hq_1
  refine bodyPost_ret (results_cell_row rfl _ _ (w.heap.size + 1) 25 #[.slice F0 n0 d0, (.slice (some ⟨g, 0, none⟩) n d1)] (0, 0) _ rfl HGF.out Try.underlying25 rfl (by kernel_rfl)) rfl ?_
  exact ⟨_, _, rfl, HFIN.out.1, HFIN.out.2.1, HFIN.out.2.2⟩
 have hltz : (i : Int) < (n : Int) := by omega
 obtain ⟨⟨cur, hg, hcs, hgl, hx⟩, hk, hb⟩ := X.out
 have hil : i < l.length := by have := HN.out.2; omega
 obtain ⟨x, hxx⟩ : ∃ x, x = l[i] := ⟨_, rfl⟩
 have hxg : l[i]? = some x := by rw [hxx, List.getElem?_eq_getElem hil]
 obtain ⟨u5, u6, ⟨q0, q1, q2, q3, q4, q5, q6⟩, h3⟩ := hx i x hxg
 rw [if_neg (by omega)] at h3
 obtain ⟨A5, c5, A6, c6, rfl, rfl, h5, hC5, h6, hC6⟩ := h3
 have hwx := HWI.out x (by rw [hxx]; exact List.getElem_mem _)
 have hx0 := (q63 hg _).trans q0
 have hx1 := (q63 hg _).trans q1
 have hx2 := (q63 hg _).trans q2
 have hx3 := (q63 hg _).trans q3
 have hx4 := (q63 hg _).trans q4
 have hx5 := (q63 hg _).trans q5
 have hx6 := (q63 hg _).trans q6
 obtain ⟨n5, hn5⟩ : ∃ n5, n5 = x.f5.length := ⟨_, rfl⟩
 obtain ⟨n6, hn6⟩ : ∃ n6, n6 = x.f6.length := ⟨_, rfl⟩
 obtain ⟨W1, hW1⟩ : ∃ W1, W1 = wO.alloc (.cells #[.string x.f0, .int .i64 x.f1, .string x.f2, .bool x.f3, .int .i64 x.f4, .slice A5 n5 c5, .slice A6 n6 c6] 41) := ⟨_, rfl⟩
 have hbW : Below wO.heap.size wO W1 := by rw [hW1]; exact q57 (Below.refl _ _) _
 have hgW : W1.heap[wO.heap.size]? = some (.cells #[.string x.f0, .int .i64 x.f1, .string x.f2, .bool x.f3, .int .i64 x.f4, .slice A5 n5 c5, .slice A6 n6 c6] 41 (0, 0)) := by rw [hW1]; exact heap_alloc_new wO _
 rw [← hn5] at hx5
 rw [← hn6] at hx6
 have HW1 := Lib.hid hW1
 have HBW := Lib.hid hbW
 have HGW := Lib.hid hgW
 have HX := Lib.hid (And.intro hg (And.intro hcs (And.intro hgl hx)))
 have HKB := Lib.hid (And.intro hk hb)
 have HQ := Lib.hid (And.intro q0 (And.intro q1 (And.intro q2 (And.intro q3 (And.intro q4 (And.intro q5 q6))))))
 have HC := Lib.hid (And.intro h5 (And.intro hC5 (And.intro h6 (And.intro hC6 hwx))))
 have HXG := Lib.hid (And.intro hxg (And.intro hn5 hn6))
 clear X hg hcs hgl hx hk hb hil hxx hxg q0 q1 q2 q3 q4 q5 q6 h5 hC5 h6 hC6 hwx hW1 hbW hgW hn5 hn6
 go_wp2
 rw [← HW1.out]
 clear hx0 hx1 hx2 hx3 hx4 hx5 hx6
 have hgE1 : W1.heap[w.heap.size]? = some (.cells #[.slice F0 n0 d0, .slice (some ⟨g, 0, none⟩) n d1] 25 (0, 0)) := q62 ((HKB.out.1.2 _ (blk_lt HGE.out.1) (by omega)).trans HGE.out.1) HBW.out
 have hs_0 := (q63 hgE1 1).trans rfl
 have hs_1 := (q63 HGW.out 5).trans rfl
 have hs_2 := (q63 HGW.out 6).trans rfl
 have hOw : w.heap.size < wO.heap.size := Nat.lt_of_lt_of_le (blk_lt HGE.out.1) HKB.out.1.1
 refine sD_ [] (fun w' => w'.cell? ⟨w.heap.size, 1, none⟩ = some (.slice (some ⟨g, 0, none⟩) n d1) ∧ w'.cell? ⟨wO.heap.size, 5, none⟩ = some (.slice A5 n5 c5) ∧ w'.cell? ⟨wO.heap.size, 6, none⟩ = some (.slice A6 n6 c6)) 18 ⟨hs_0, hs_1, hs_2⟩ (fun hHeld => ?_)
 have hbO : Below wO.heap.size wO W1.drew := q58 HBW.out
 have hgO1 : W1.drew.heap[w.heap.size]? = some (.cells #[.slice F0 n0 d0, .slice (some ⟨g, 0, none⟩) n d1] 25 (0, 0)) := hgE1
 have hgO2 : W1.drew.heap[wO.heap.size]? = some (.cells #[.string x.f0, .int .i64 x.f1, .string x.f2, .bool x.f3, .int .i64 x.f4, .slice A5 n5 c5, .slice A6 n6 c6] 41 (0, 0)) := HGW.out
 clear hs_0 hs_1 hs_2 hgE1
 generalize W1.drew = wP at hHeld hbO hgO1 hgO2 ⊢
 refine pu_ 0 (some 21) ?_
 refine tk_ 1 (some 22) hHeld ?_ (hy := by rintro w' ⟨s0, s1, s2⟩; go_simp; with_reducible rfl)
 refine pu_ 2 (some 23) ?_
 refine pu_ 3 (some 24) ?_
 refine tk_ 4 (some 25) hHeld ?_ (hy := by rintro w' ⟨s0, s1, s2⟩; go_simp; with_reducible rfl)
 refine pu_ 5 (some 26) ?_
 refine pu_ 6 (some 27) ?_
 refine tk_ 7 (some 28) hHeld ?_ (hy := by rintro w' ⟨s0, s1, s2⟩; go_simp; with_reducible rfl)
 refine pu_ 9 (some 30) ?_
 refine tk_ 10 (some 31) hHeld ?_ (hy := by rintro w' ⟨s0, s1, s2⟩; go_simp; with_reducible rfl)
 have hbwP := q60 HKB.out.2 HKB.out.2.size hbO
 have hcp5 := copied_any wP A5 c5 x.f5 (Kd.C_below HC.out.2.1 hbwP) HC.out.1 HC.out.2.2.2.2.1.1 HC.out.2.2.2.2.1.2
 rw [← HXG.out.2.1] at hcp5
 refine ca_ 8 (some 29) Try.func63 #[.slice A5 n5 c5] ?_
 refine hcp5.mono ?_
 rintro e w6 ⟨v5, rfl, hR5, hb6⟩
 obtain ⟨E5, e5, rfl⟩ := Kd.R_slice hR5
 rw [← HXG.out.2.1] at hR5 ⊢
 have hg61 := q62 hgO1 hb6
 have hg62 := q62 hgO2 hb6
 have hbO6 := q60 hbO hbO.size hb6
 have hbw6 := q60 hbwP hbwP.size hb6
 have hzP : wO.heap.size < wP.heap.size := blk_lt hgO2
 refine ⟨_, rfl, ⟨(q63 hg61 1).trans rfl, (q63 hg62 5).trans rfl, (q63 hg62 6).trans rfl⟩, fun hHeld => ⟨_, rfl, nz_ (some 29) ?_⟩⟩
 have hcp6 := copied_any w6 A6 c6 x.f6 (Kd.C_below HC.out.2.2.2.1 hbw6) HC.out.2.2.1 HC.out.2.2.2.2.2.1 HC.out.2.2.2.2.2.2
 rw [← HXG.out.2.2] at hcp6
 refine ca_ 11 (some 32) Try.func63 #[.slice A6 n6 c6] ?_
 refine hcp6.mono ?_
 rintro e w7 ⟨v6, rfl, hR6, hb7⟩
 obtain ⟨E6, e6, rfl⟩ := Kd.R_slice hR6
 rw [← HXG.out.2.2] at hR6 ⊢
 have hg71 := q62 hg61 hb7
 have hg72 := q62 hg62 hb7
 have hbO7 := q60 hbO6 hbO6.size hb7
 have hbw7 := q60 hbw6 hbw6.size hb7
 have hR57 := Kd.R_below hR5 hb7
 have hz6 : wP.heap.size ≤ w6.heap.size := hb6.size
 have hgO := q62 HX.out.1 hbO7
 refine ⟨_, rfl, ⟨(q63 hg71 1).trans rfl, (q63 hg72 5).trans rfl, (q63 hg72 6).trans rfl⟩, fun hHeld => ⟨_, rfl, nz_ (some 32) ?_⟩⟩
 refine pu_ 12 (some 33) ?_
 refine pu_ 13 (some 34) ?_
 have hgg : g < wO.heap.size := HX.out.2.2.1
 have hx5 := (q63 hgO (i * 7 + 5)).trans HQ.out.2.2.2.2.2.1
 have hf5 := q67 hgO (i * 7 + 5)
 refine oN_ 14 none (fun K hK => ?_)
 go_simp
 have hgO8 := q68 hgO (i * 7 + 5) (.slice E5 n5 e5) rfl
 have hg81 := (Below.heap_setCell w7 ⟨g, i * 7 + 5, none⟩ (.slice E5 n5 e5) w.heap.size (show w.heap.size ≠ g by omega)).trans hg71
 have hg82 := (Below.heap_setCell w7 ⟨g, i * 7 + 5, none⟩ (.slice E5 n5 e5) wO.heap.size (show wO.heap.size ≠ g by omega)).trans hg72
 refine hK.out _ _ ⟨(q63 hg81 1).trans rfl, (q63 hg82 5).trans rfl, (q63 hg82 6).trans rfl⟩ (fun hHeld => ?_)
 clear hK K hx5 hf5
 refine pu_ 15 (some 35) ?_
 refine pu_ 16 (some 36) ?_
 have l6 := (Array.getElem?_eq_some_iff.1 HQ.out.2.2.2.2.2.2).1
 have hx6 : (w7.setCell ⟨g, i * 7 + 5, none⟩ (.slice E5 n5 e5)).cell? ⟨g, i * 7 + 6, none⟩ = some (.slice A6 x.f6.length c6) := (q63 hgO8 (i * 7 + 6)).trans ((Array.getElem?_setIfInBounds_ne (by omega)).trans HQ.out.2.2.2.2.2.2)
 have hf6 := q67 hgO8 (i * 7 + 6)
 refine oN_ 17 none (fun K hK => ?_)
 go_simp
 have HF : Hid (cyInv w ((w7.setCell ⟨g, i * 7 + 5, none⟩ (.slice E5 n5 e5)).setCell ⟨g, i * 7 + 6, none⟩ (.slice E6 n6 e6)) wB.heap.size g d1 l (i + 1) ∧ Kept wE ((w7.setCell ⟨g, i * 7 + 5, none⟩ (.slice E5 n5 e5)).setCell ⟨g, i * 7 + 6, none⟩ (.slice E6 n6 e6)) (fun k => k = g) ∧ Below w.heap.size w ((w7.setCell ⟨g, i * 7 + 5, none⟩ (.slice E5 n5 e5)).setCell ⟨g, i * 7 + 6, none⟩ (.slice E6 n6 e6))) := Lib.hid (by
  have hgB : wB.heap.size ≤ g := by omega
  have l5 := (Array.getElem?_eq_some_iff.1 HQ.out.2.2.2.2.2.1).1
  refine ⟨⟨(cur.setIfInBounds (i * 7 + 5) (.slice E5 n5 e5)).setIfInBounds (i * 7 + 6) (.slice E6 n6 e6), q68 hgO8 (i * 7 + 6) (.slice E6 n6 e6) rfl, by simp only [Array.size_setIfInBounds]; exact HX.out.2.1, ?_, fun j p hj => ?_⟩, ?_, ?_⟩
  ·have := hbO7.size
   simpa [World.setCell] using Nat.lt_of_lt_of_le hgg this
  ·by_cases hji : j = i
   ·subst hji
    obtain rfl : x = p := Option.some.inj (HXG.out.1.symm.trans hj)
    obtain ⟨q0, q1, q2, q3, q4, q5, q6⟩ := HQ.out
    refine ⟨.slice E5 n5 e5, .slice E6 n6 e6, ⟨?_, ?_, ?_, ?_, ?_, ?_, ?_⟩, ?_⟩
    ·rw [Array.getElem?_setIfInBounds_ne (by omega), Array.getElem?_setIfInBounds_ne (by omega)]; exact q0
    ·rw [Array.getElem?_setIfInBounds_ne (by omega), Array.getElem?_setIfInBounds_ne (by omega)]; exact q1
    ·rw [Array.getElem?_setIfInBounds_ne (by omega), Array.getElem?_setIfInBounds_ne (by omega)]; exact q2
    ·rw [Array.getElem?_setIfInBounds_ne (by omega), Array.getElem?_setIfInBounds_ne (by omega)]; exact q3
    ·rw [Array.getElem?_setIfInBounds_ne (by omega), Array.getElem?_setIfInBounds_ne (by omega)]; exact q4
    ·rw [Array.getElem?_setIfInBounds_ne (by omega), Array.getElem?_setIfInBounds_self_of_lt l5]
    ·rw [Array.getElem?_setIfInBounds_self_of_lt (by simpa using l6)]
    rw [if_pos (by omega)]
    have far : ∀ {α : Type} {d : Kd α} {e base : Nat} {v : Value} {xs : List α}, g < base → wB.heap.size ≤ base → d.R e w7 base (fun _ => True) v xs → d.R e ((w7.setCell ⟨g, j * 7 + 5, none⟩ (.slice E5 n5 e5)).setCell ⟨g, j * 7 + 6, none⟩ (.slice E6 n6 e6)) wB.heap.size (fun k => True ∧ k ≠ g) v xs := fun hg1 hg2 h =>
     Kd.R_lower (Kd.R_mono (Kd.R_far (Kd.R_far (Kd.R_bound h) (p := ⟨g, j * 7 + 5, none⟩) (fun k hk => by have := hk.2.1; show k ≠ g; omega) _) (p := ⟨g, j * 7 + 6, none⟩) (fun k hk => by have := hk.2.1; show k ≠ g; omega) _) (fun k hk => ⟨trivial, by have := hk.2.1; omega⟩)) hg2
    exact ⟨far (by omega) (by omega) hR57, far (by omega) (by omega) hR6⟩
   obtain ⟨u5, u6, ⟨q0, q1, q2, q3, q4, q5, q6⟩, h3⟩ := HX.out.2.2.2 j p hj
   refine ⟨u5, u6, ⟨?_, ?_, ?_, ?_, ?_, ?_, ?_⟩, ?_⟩
   ·rw [Array.getElem?_setIfInBounds_ne (by omega), Array.getElem?_setIfInBounds_ne (by omega)]; exact q0
   ·rw [Array.getElem?_setIfInBounds_ne (by omega), Array.getElem?_setIfInBounds_ne (by omega)]; exact q1
   ·rw [Array.getElem?_setIfInBounds_ne (by omega), Array.getElem?_setIfInBounds_ne (by omega)]; exact q2
   ·rw [Array.getElem?_setIfInBounds_ne (by omega), Array.getElem?_setIfInBounds_ne (by omega)]; exact q3
   ·rw [Array.getElem?_setIfInBounds_ne (by omega), Array.getElem?_setIfInBounds_ne (by omega)]; exact q4
   ·rw [Array.getElem?_setIfInBounds_ne (by omega), Array.getElem?_setIfInBounds_ne (by omega)]; exact q5
   ·rw [Array.getElem?_setIfInBounds_ne (by omega), Array.getElem?_setIfInBounds_ne (by omega)]; exact q6
   by_cases hlt' : j < i
   ·rw [if_pos hlt'] at h3
    rw [if_pos (by omega)]
    have stp : ∀ {α : Type} {d : Kd α} {e base : Nat} {v : Value} {xs : List α}, d.R e wO base (fun k => True ∧ k ≠ g) v xs → d.R e ((w7.setCell ⟨g, i * 7 + 5, none⟩ (.slice E5 n5 e5)).setCell ⟨g, i * 7 + 6, none⟩ (.slice E6 n6 e6)) base (fun k => True ∧ k ≠ g) v xs := fun h => Kd.R_step h (fun k hk hkl => (Below.heap_setCell _ _ _ _ hk.2).trans ((Below.heap_setCell _ _ _ _ hk.2).trans (hbO7.block k hkl)))
    exact ⟨stp h3.1, stp h3.2⟩
   rw [if_neg hlt'] at h3
   rw [if_neg (by omega)]
   exact h3
  ·exact ((HKB.out.1.below hbO7).setCell (p := ⟨g, i * 7 + 5, none⟩) (.inl rfl) _).setCell (p := ⟨g, i * 7 + 6, none⟩) (.inl rfl) _
  ·exact (hbw7.setCell (show w.heap.size ≤ g by omega) _).setCell (show w.heap.size ≤ g by omega) _)
 have hg91 := (Below.heap_setCell (w7.setCell ⟨g, i * 7 + 5, none⟩ (.slice E5 n5 e5)) ⟨g, i * 7 + 6, none⟩ (.slice E6 n6 e6) w.heap.size (show w.heap.size ≠ g by omega)).trans hg81
 have hg92 := (Below.heap_setCell (w7.setCell ⟨g, i * 7 + 5, none⟩ (.slice E5 n5 e5)) ⟨g, i * 7 + 6, none⟩ (.slice E6 n6 e6) wO.heap.size (show wO.heap.size ≠ g by omega)).trans hg82
 refine hK.out _ _ ⟨(q63 hg91 1).trans rfl, (q63 hg92 5).trans rfl, (q63 hg92 6).trans rfl⟩ (fun _ => ?_)
 clear hK K hx6 hf6 hg91 hg92 hg81 hg82 hgO8 hgO hR5 hR6 hR57 hg61 hg62 hg71 hg72 hHeld hcp5 hcp6 hgO1 hgO2
 refine dn_ ?_
 go_wp2
 go_roundg (n - (i + 1))
 case measure => omega
 case rel => exact ⟨i + 1, by go_num, by omega, by omega, HF⟩
structure Mc where
 A0 : Option Addr
 c0 : Nat
 fs : List ByteArray
 A1 : Option Addr
 c1 : Nat
 l : List (S41)
 fl : Int
 la : Int
 v4 : Value
 v5 : Value
 v7 : Value
 v11 : Value
 vd : Value
def Mcells (c : Mc) (vr vc vu : Value) : Array Value := #[.slice c.A0 c.fs.length c.c0, .slice c.A1 c.l.length c.c1, .int .i64 c.fl, .int .i64 c.la, c.v4, c.v5, .int .i64 6, c.v7, vr, vc, vu, c.v11, c.vd]
def Mr (c : Mc) (w0 w : World) (g : Nat) (vr : Value) (rs : List (S72)) : Prop :=
 Below w0.heap.size w0 w ∧ w0.heap.size ≤ g ∧ w.heap[g]? = some (.cells (Mcells c vr (.slice none 0 0) (.slice none 0 0)) 58 (0, 0)) ∧ Kd.R k72 72 w (g + 1) (fun _ => True) vr rs
def Go_ (g : Nat) (vr vr' : Value) (w w' : World) : Prop := Kept w w' (fun k => k = g ∨ vr.ownBlock = some k) ∧ ∀ k, vr'.ownBlock = some k → vr.ownBlock = some k ∨ w.heap.size ≤ k
def RulePost (c : Mc) (w0 w : World) (g : Nat) (vr : Value) (rs : List (S72)) (e : Ending) (w' : World) : Prop := e = .returned (.tuple #[]) ∧ ∃ vr', Mr c w0 w' g vr' rs ∧ Go_ g vr vr' w w'
section
variable {c : Mc} {w0 w w1 w2 : World} {g : Nat} {vr vr' vr'' : Value} {rs : List (S72)}
theorem Go_.refl : Go_ g vr vr w w := ⟨Kept.refl _ _, fun _ h => .inl h⟩
theorem Go_.then_ (h : Go_ g vr vr' w w1) (k : Go_ g vr' vr'' w1 w2) : Go_ g vr vr'' w w2 :=
 ⟨h.1.then_ k.1 (fun j e => e.elim (fun e => .inl (.inl e)) (fun e => (h.2 j e).elim (fun e => .inl (.inr e)) .inr)), fun j e => (k.2 j e).elim (fun e => h.2 j e) (fun e => .inr (Nat.le_trans h.1.1 e))⟩
theorem Go_.below (h : Go_ g vr vr' w w1) (hb : Below w1.heap.size w1 w2) : Go_ g vr vr' w w2 := ⟨h.1.below hb, h.2⟩
theorem Mr.lt (h : Mr c w0 w g vr rs) : g < w.heap.size := blk_lt h.2.2.1
theorem Mr.below (h : Mr c w0 w g vr rs) (hb : Below w.heap.size w w1) : Mr c w0 w1 g vr rs := ⟨q60 h.1 h.1.size hb, h.2.1, q62 h.2.2.1 hb, Kd.R_below h.2.2.2 hb⟩
end
theorem R_set2x {w : World} {α : Type} {d : Kd α} {e base : Nat} {ok : Nat → Prop} {v : Value} {xs : List α} (h : d.R e w base ok v xs) (p : Addr) (u : Value) (hp : p.block < base) : d.R e (w.setCell p u) base ok v xs :=
 Kd.R_mono (Kd.R_far (Kd.R_bound h) (fun k hk => by have := hk.2.1; omega) u) (fun _ hk => hk.1)
theorem info72x_ : (Try.prog.info? 72).map (fun i => (i.zero, i.size, i.bytes)) = some (some (.agg #[.int .i64 0, .slice none 0 0, .slice none 0 0, .slice none 0 0]), 4, 80) := by kernel_rfl
set_option maxHeartbeats 4000000 in
set_option maxRecDepth 100000 in
theorem rule_any (c : Mc) (w0 w : World) (g : Nat) (vr : Value) (rs : List (S72)) (st : Int) (A2 : Option Addr) (c2 : Nat) (th : List (S111)) (A3 : Option Addr) (c3 : Nat) (ls : List (S93))
 (hM : Mr c w0 w g vr rs) (h2 : Kd.R k111 111 w (g + 1) (fun k => some k ≠ vr.ownBlock) (.slice A2 th.length c2) th) (h3 : Kd.R k93 93 w (g + 1) (fun k => some k ≠ vr.ownBlock) (.slice A3 ls.length c3) ls) (hlim : rs.length ≤ 100000) :
 Calls Try.prog 69 #[.pointer (some ⟨g, 0, none⟩), .int .i64 st, .slice A2 th.length c2, .slice A3 ls.length c3] w (RulePost c w0 w g vr (rs ++ [⟨st, ls, [], th⟩])) := by
 have hu32 := Try.underlying32
 have hu58 := Try.underlying58
 have hgl := hM.lt
 obtain ⟨hb0, hwg, hg, hR⟩ := hM
 obtain ⟨A8, c8, rfl⟩ := Kd.R_slice hR
 have hM1 : Kd.M k72 w (g + 1) (fun k => some k ≠ (Value.slice A8 rs.length c8).ownBlock) ⟨st, ls, [], th⟩ [.int .i64 st, .slice A3 ls.length c3, .slice none 0 0, .slice A2 th.length c2] := k72_mkM _ _ _ _ h3 (Kd.R_nil _ _ _ _ _) h2
 obtain ⟨m, hm⟩ : ∃ m, m = rs.length := ⟨_, rfl⟩
 have hl : (rs.length + 1) * 80 ≤ 140737488355328 := by omega
 have HB0 := Lib.hid hb0
 have HG := Lib.hid hg
 have HM1 := Lib.hid hM1
 have HR := Lib.hid hR
 have HL := Lib.hid hl
 have HM := Lib.hid hm
 rw [← hm] at HG HM1 HR ⊢
 have hcz : w.cell? ⟨g, 8, none⟩ = some (.slice A8 m c8) := (q63 HG.out 8).trans rfl
 obtain ⟨n2, hn2⟩ : ∃ n2, n2 = th.length := ⟨_, rfl⟩
 obtain ⟨n3, hn3⟩ : ∃ n3, n3 = ls.length := ⟨_, rfl⟩
 rw [← hn2, ← hn3] at HM1 ⊢
 clear hb0 hg hR hM1 hl hm h2 h3 hn2 hn3
 go_enter Try.func69, Try.ntmps69
 go_wp2_with (first | ((with_reducible refine q69 (b := .append) (xs := #[.tmp 13, .tmp 18]) rfl ?_); at_builtin; refine Kd.R_append k72 (w0 := w) (g + 1) rfl (.tmp 13) (.tmp 18) 28 72 (.agg #[.int .i64 0, .slice none 0 0, .slice none 0 0, .slice none 0 0]) 80 rfl Try.underlying28 info72x_ rfl (by decide) (by omega) (.slice A8 m c8) rs ⟨st, ls, [], th⟩ [.int .i64 st, .slice A3 n3 c3, .slice none 0 0, .slice A2 n2 c2] (fun _ => True) (fun k => some k ≠ (Value.slice A8 m c8).ownBlock) rfl rfl HM1.out (fun _ hk => ⟨trivial, hk⟩) (fun _ _ => trivial) HR.out (Below.refl _ _) hgl HL.out ?_; intro v1 w1 hR1 hB1 hgr hat; have hown : ∀ kk, (Value.slice A8 m c8).ownBlock = some kk → g + 1 ≤ kk := Kd.R_base HR.out; have hg1 := (hgr.block _ hgl (fun ek => by have := hown _ ek.symm; omega)).trans HG.out; have hb1 : Below w0.heap.size w0 w1 := HB0.out.grown hgr HB0.out.size (fun kk ek => by have := hown kk ek; omega); have hkp : Kept w w1 (fun k => k = g ∨ (Value.slice A8 m c8).ownBlock = some k) := Kept.of_grown hgr (Kept.refl _ _) (fun kk ek => .inl (.inr ek)); obtain ⟨A9, c9, rfl⟩ := Kd.R_slice hR1; rw [List.length_append, List.length_singleton] at hR1 hat; have hc8 : w1.cell? ⟨g, 8, none⟩ = some (.slice A8 m c8) := (q63 hg1 8).trans rfl; have hf8 := q67 hg1 8; have HG1 := Lib.hid hg1; have HB1 := Lib.hid hb1; have HKP := Lib.hid hkp; have HR1 := Lib.hid hR1; have HAT := Lib.hid hat; clear hgr hB1 hg1 hb1 hkp hR1 hat hown))
 refine bodyPost_end (results_none rfl _ _ _) rfl ?_
 refine ⟨rfl, .slice A9 (rs.length + 1) c9, ⟨HB1.out.setCell hwg _, hwg, q68 HG1.out 8 _ rfl, R_set2x HR1.out _ _ (Nat.lt_succ_self g)⟩, HKP.out.setCell (p := ⟨g, 8, none⟩) (.inl (.inl rfl)) _, fun k ek => ?_⟩
 rcases HAT.out with e | ⟨b, e, hb⟩
 ·exact .inl (e ▸ ek)
 rw [ek] at e
 cases e
 exact .inr hb
def Mm (c : Mc) (w0 : World) : Prop := Kd.C Kd.string w0 c.A0 c.fs.length c.fs ∧ c.fs.length ≤ c.c0 ∧ Kd.C k41 w0 c.A1 c.l.length c.l ∧ c.l.length ≤ c.c1 ∧ c.l.length ≤ 1000 ∧ (0 ≤ c.la ∧ c.la ≤ 100000) ∧ ∀ x ∈ c.l, (x.f5 ++ x.f6).length ≤ 6 ∧ ∀ s ∈ x.f5 ++ x.f6, s.f0.length ≤ 3 ∧ s.f1.length ≤ 2
def Mg (c : Mc) (w : World) (g : Nat) : Prop := ∃ vr vc vu, w.heap[g]? = some (.cells (Mcells c vr vc vu) 58 (0, 0))
theorem Mr.mg {c : Mc} {w0 w : World} {g : Nat} {vr : Value} {rs : List (S72)} (h : Mr c w0 w g vr rs) : Mg c w g := ⟨_, _, _, h.2.2.1⟩
def passF (la : Int) (i f : Int) : Int := la + 6 * i + f
set_option maxHeartbeats 4000000 in
set_option maxRecDepth 100000 in
theorem pass_any (c : Mc) (w : World) (g : Nat) (i f : Int) (hG : Mg c w g) (hla : 0 ≤ c.la ∧ c.la ≤ 100000) (hi : 0 ≤ i ∧ i ≤ 1000) (hf : 0 ≤ f ∧ f ≤ 10) :
 Calls Try.prog 70 #[.pointer (some ⟨g, 0, none⟩), .int .i64 i, .int .i64 f] w fun e w' => e = .returned (.int .i64 (passF c.la i f)) ∧ w' = w := by
 have hu32 := Try.underlying32
 have hu58 := Try.underlying58
 obtain ⟨vr, vc, vu, hg⟩ := hG
 have hcz : w.cell? ⟨g, 3, none⟩ = some (.int .i64 c.la) := (q63 hg 3).trans rfl
 have h1 : wrap64 (6 * i) = 6 * i := by unfold wrap64; omega
 have h2 : wrap64 (c.la + 6 * i) = c.la + 6 * i := by unfold wrap64; omega
 have h3 : wrap64 (c.la + 6 * i + f) = passF c.la i f := by unfold wrap64 passF; omega
 obtain ⟨la, hla'⟩ : ∃ la, la = c.la := ⟨_, rfl⟩
 rw [← hla'] at hcz h2 h3 ⊢
 obtain ⟨R, hR⟩ : ∃ R, R = passF la i f := ⟨_, rfl⟩
 rw [← hR] at h3 ⊢
 clear hg hla hi hf hla' hR
 go_enter Try.func70, Try.ntmps70
 go_wp2
 go_ret
 exact ⟨by show Ending.returned (.int .i64 (wrap64 (la + 6 * i + f))) = _; rw [h3], rfl⟩
def parI (l : List (S41)) (i : Nat) : Int := fidx (q39.p (q81 l (i : Int)).f2) l
theorem Mm.at {c : Mc} {w0 w : World} (h : Mm c w0) (hb : Below w0.heap.size w0 w) : Kd.C Kd.string w c.A0 c.fs.length c.fs ∧ Kd.C k41 w c.A1 c.l.length c.l := ⟨Kd.C_below h.1 hb, Kd.C_below h.2.2.1 hb⟩
set_option maxHeartbeats 4000000 in
set_option maxRecDepth 100000 in
theorem parent_any (c : Mc) (w0 w : World) (g : Nat) (i : Nat) (hG : Mg c w g) (hm : Mm c w0) (hb : Below w0.heap.size w0 w) (hi : i < c.l.length) :
 Calls Try.prog 27 #[.pointer (some ⟨g, 0, none⟩), .int .i64 i] w fun e w' => e = .returned (.int .i64 (parI c.l i)) ∧ Below w.heap.size w w' := by
 have hu25 := Try.underlying25
 have hu58 := Try.underlying58
 have hu41 := Try.underlying41
 have hml := hm.2.2.2.2.1
 obtain ⟨hC0, hC1⟩ := hm.at hb
 obtain ⟨vr, vc, vu, hg⟩ := hG
 have hcz0 : w.cell? ⟨g, 0, none⟩ = some (.slice c.A0 c.fs.length c.c0) := (q63 hg 0).trans rfl
 have hcz1 : w.cell? ⟨g, 1, none⟩ = some (.slice c.A1 c.l.length c.c1) := (q63 hg 1).trans rfl
 obtain ⟨ad, A5, c5, A6, c6, e, x0, x1, x2, x3, x4, x5, x6, -⟩ := at_T41 hC1 (i : Int) (by omega) (by omega)
 simp only [Int.toNat_natCast] at x2
 have hP : ∀ W, Below w.heap.size w W → Calls Try.prog 45 #[.agg #[.slice c.A0 c.fs.length c.c0, .slice c.A1 c.l.length c.c1], .string (q81 c.l (i : Int)).f2] W fun e w' => e = .returned (.int .i64 (parI c.l i)) ∧ Below W.heap.size W w' := fun W hbw =>
  q39.calls c.A0 c.c0 c.fs c.A1 c.c1 c.l (q81 c.l (i : Int)).f2 (parI c.l i) W (Kd.C_below hC0 hbw) hm.2.1 (Kd.C_below hC1 hbw) hm.2.2.2.1 rfl
 rw [e] at hcz1 hP
 obtain ⟨n, hn⟩ : ∃ n, n = c.l.length := ⟨_, rfl⟩
 rw [← hn] at hcz1 hP hi hml
 obtain ⟨nf, hnf⟩ : ∃ nf, nf = c.fs.length := ⟨_, rfl⟩
 rw [← hnf] at hcz0 hP
 obtain ⟨R, hR⟩ : ∃ R, R = parI c.l i := ⟨_, rfl⟩
 rw [← hR] at hP ⊢
 obtain ⟨s, hs⟩ : ∃ s, s = (q81 c.l (i : Int)).f2 := ⟨_, rfl⟩
 rw [← hs] at hP x2
 have HP := Lib.hid hP
 have hlt : (i : Int) < (n : Int) := by omega
 clear hm hb hC0 hC1 hg e x0 x1 x3 x4 x5 x6 hn hnf hR hs hP
 go_enter Try.func27, Try.ntmps27
 go_wp2
 have hS : (w.cell? ⟨g, 0, none⟩ = some (.slice c.A0 nf c.c0) ∧ w.cell? ⟨g, 1, none⟩ = some (.slice (some ad) n c.c1) ∧ w.cell? ⟨(ad.add (i * 7)).block, (ad.add (i * 7)).off + 2, none⟩ = some (.string s)) ∧ Below w.heap.size w w.drew := ⟨⟨hcz0, hcz1, x2⟩, q58 (Below.refl _ _)⟩
 refine st_ (fun w' => (w'.cell? ⟨g, 0, none⟩ = some (.slice c.A0 nf c.c0) ∧ w'.cell? ⟨g, 1, none⟩ = some (.slice (some ad) n c.c1) ∧ w'.cell? ⟨(ad.add (i * 7)).block, (ad.add (i * 7)).off + 2, none⟩ = some (.string s)) ∧ Below w.heap.size w w') 15 hS (fun hHeld => ?_)
 clear hS hcz0 hcz1 x2
 refine pu_ 0 (some 5) ?_
 refine pu_ 1 (some 6) ?_
 refine pu_ 2 (some 7) ?_
 refine tk_ 3 (some 8) hHeld ?_ (hy := by rintro w' ⟨⟨s0, s1, s2⟩, -⟩; go_simp; with_reducible rfl)
 refine pu_ 4 (some 9) ?_
 refine pu_ 5 (some 10) ?_
 refine pu_ 6 (some 11) ?_
 refine pu_ 7 (some 12) ?_
 refine tk_ 8 (some 13) hHeld ?_ (hy := by rintro w' ⟨⟨s0, s1, s2⟩, -⟩; go_simp; with_reducible rfl)
 refine pu_ 9 (some 14) ?_
 refine pu_ 10 (some 15) ?_
 refine pu_ 11 (some 16) ?_
 refine tk_ 12 (some 17) hHeld ?_ (hy := by rintro w' ⟨⟨s0, s1, s2⟩, -⟩; go_simp; with_reducible rfl)
 refine ca_ 13 (some 18) Try.func45 #[.agg #[.slice c.A0 nf c.c0, .slice (some ad) n c.c1], .string s] ?_
 refine (HP.out _ hHeld.2).mono ?_
 rintro e w' ⟨rfl, hbw⟩
 refine ⟨_, rfl, ⟨⟨q73 hbw hHeld.1.1, q73 hbw hHeld.1.2.1, q73 hbw hHeld.1.2.2⟩, q72 hbw hHeld.2⟩, fun hHeld2 => ⟨_, rfl, nz_ (some 18) ?_⟩⟩
 refine pu_ 14 (some 4) ?_
 refine dn_ ?_
 go_wp2
 go_ret
 exact ⟨rfl, hHeld2.2⟩
end Go.Proofs.Yteddgedacjdjgaa.Pm
end
