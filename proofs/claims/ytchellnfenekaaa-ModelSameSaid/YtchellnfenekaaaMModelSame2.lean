/- Walks and plain laws on the way to the law ModelSame: several texts of this workplace and of the kit's printer, merged; what is not used is struck, by a program. No condition. -/
import Derived.Test.YtchellnfenekaaaMModelSame0
import Derived.Test.YtchellnfenekaaaMModelSame1
import Derived.Lib.Hide
import Derived.Lib.SliceRun
section
namespace Go.Proofs.Ytchellnfenekaaa.Pm
open Go.RowKit Go.Proofs.YtchellnfenekaaaW.PrintWords Go.Proofs.YtchellnfenekaaaW.PrintLast Go.Proofs.YtchellnfenekaaaW.PrintMore
attribute [local go_sem] max2_int min2_int max_two min_two max_three min_three max_four min_four   -- for this text's walks alone
set_option linter.unusedVariables false
set_option linter.unusedSimpArgs false
def sentryref4_SameTexts.l0 : Nat → List ByteArray → List ByteArray → Int → Option (Bool)
 | 0, _, _, _ => none
 | k + 1, x0, x1, x5 => if x5 < (x0.length : Int) then (if 0 ≤ x5 then (if x5 < (x1.length : Int) then (if (rdOf ByteArray.empty x0 x5).toList = (rdOf ByteArray.empty x1 x5).toList then (sentryref4_SameTexts.l0 k x0 x1 (wrap64 (x5 + 1))) else (some false)) else (none)) else (none)) else (some true)
def sentryref4_SameTexts.f (k : Nat) (l0 : List ByteArray) (l1 : List ByteArray) : Option (Bool) := if (l0.length : Int) = (l1.length : Int) then (sentryref4_SameTexts.l0 k l0 l1 0) else (some false)
theorem sentryref4_SameTexts.mono_l : ∀ k, (∀ y0 y1 y2, LeO (sentryref4_SameTexts.l0 k y0 y1 y2) (sentryref4_SameTexts.l0 (k + 1) y0 y1 y2))
 | 0 => fun _ _ _ r h => by simp [sentryref4_SameTexts.l0] at h
 | k + 1 => by
  have ih0 := sentryref4_SameTexts.mono_l k
  ·intro y0 y1 y2
   unfold sentryref4_SameTexts.l0
   repeat' first
   | (with_reducible exact ih0 _ _ _)
   | (with_reducible exact LeO.refl _)
   | (with_reducible exact LeO.none _)
   | (with_reducible refine LeO.ite ?_ ?_)
   | (with_reducible refine LeO.bind ?_ (fun _ => ?_))
   | exact ih0 _ _ _
   | exact LeO.none _
   | refine LeO.ite ?_ ?_
   | refine LeO.bind ?_ (fun _ => ?_)
theorem sentryref4_SameTexts.mono : ∀ a0 a1 k, LeO (sentryref4_SameTexts.f k a0 a1) (sentryref4_SameTexts.f (k + 1) a0 a1) := by
 intro a0 a1 k
 have ih0 := sentryref4_SameTexts.mono_l k
 unfold sentryref4_SameTexts.f
 repeat' first
   | (with_reducible exact ih0 _ _ _)
   | (with_reducible exact LeO.refl _)
   | (with_reducible exact LeO.none _)
   | (with_reducible refine LeO.ite ?_ ?_)
   | (with_reducible refine LeO.bind ?_ (fun _ => ?_))
   | exact ih0 _ _ _
   | exact LeO.none _
   | refine LeO.ite ?_ ?_
   | refine LeO.bind ?_ (fun _ => ?_)
set_option maxHeartbeats 8000000 in
set_option maxRecDepth 100000 in
theorem sentryref4_SameTexts.calls (k : Nat) (A0 : Option Addr) (c0 : Nat) (l0 : List ByteArray) (A1 : Option Addr) (c1 : Nat) (l1 : List ByteArray) (r : Bool) (w : World) (hr0 : Kd.C Kd.string w A0 l0.length l0) (hc0 : l0.length ≤ c0) (hr1 : Kd.C Kd.string w A1 l1.length l1) (hc1 : l1.length ≤ c1) (h : sentryref4_SameTexts.f k l0 l1 = some r) :
  Calls Try.prog 49 #[.slice A0 l0.length c0, .slice A1 l1.length c1] w fun e w' => e = .returned (.bool r) ∧ Drawn0 w w' := by
 have HR0 := Aside0.mk hr0
 have HC0 := Aside0.mk hc0
 clear hr0 hc0
 have HR1 := Aside0.mk hr1
 have HC1 := Aside0.mk hc1
 clear hr1 hc1
 have H : (if (l0.length : Int) = (l1.length : Int) then (sentryref4_SameTexts.l0 k l0 l1 0) else (some false)) = some r := h
 clear h
 by_cases c3 : (l0.length : Int) = (l1.length : Int)
 ·rw [if_pos c3] at H
  have c3b0 : ((l0.length : Int) == (l1.length : Int)) = true := beq_iff_eq.mpr c3
  have c3b1 : ((l0.length : Int) != (l1.length : Int)) = false := bne_eq_false_iff_eq.mpr c3
  have c3b2 : (l0.length == l1.length) = true := by first | simpa using c3 | (simp at c3 ⊢; omega)
  clear c3
  have H' := Aside0.mk H
  clear H
  go_enter Try.func49, Try.ntmps49
  go_wp2
  repeat (go_quiet (fail); try go_wp2)
  go_loopg [5] k (fun kq v5 w' => ∃ (x5_1 : Int), v5 = .int .i64 x5_1 ∧ Aside0 (sentryref4_SameTexts.l0 kq l0 l1 x5_1 = some r) ∧ Aside0 (kq ≤ k) ∧ Drawn0 w w')
  case atStart => exact ⟨(0), (by first | rfl | (simp; done) | (simp [*]; done)), H', ⟨Nat.le_refl _⟩, by repeat (first | exact Drawn0.refl _ | apply Drawn0.step)⟩
  case round =>
   clear H'
   (try clear c1); (try clear p2); (try clear c3); (try clear c3b0); (try clear c3b1); (try clear c3b2)
   obtain ⟨x5_1, rfl, HA, HK1, ⟨m1, rfl⟩⟩ := hrel
   cases gk with
   | zero => exact absurd HA.out (by simp [sentryref4_SameTexts.l0])
   | succ k1 =>
    have H := HA.out
    clear HA
    simp only [sentryref4_SameTexts.l0] at H
    by_cases c4 : x5_1 < (l0.length : Int)
    ·rw [if_pos c4] at H
     have c4b0 : decide (x5_1 < (l0.length : Int)) = true := decide_eq_true c4
     clear c4
     by_cases c5 : 0 ≤ x5_1
     ·rw [if_pos c5] at H
      have c5b0 : decide (0 ≤ x5_1) = true := decide_eq_true c5
      clear c5
      by_cases c6 : x5_1 < (l1.length : Int)
      ·rw [if_pos c6] at H
       have c6b0 : decide (x5_1 < (l1.length : Int)) = true := decide_eq_true c6
       clear c6
       by_cases c7 : (rdOf ByteArray.empty l0 x5_1).toList = (rdOf ByteArray.empty l1 x5_1).toList
       ·rw [if_pos c7] at H
        have c7b0 : ((rdOf ByteArray.empty l0 x5_1).toList == (rdOf ByteArray.empty l1 x5_1).toList) = true := beq_iff_eq.mpr c7
        have c7b1 : ((rdOf ByteArray.empty l0 x5_1).toList != (rdOf ByteArray.empty l1 x5_1).toList) = false := bne_eq_false_iff_eq.mpr c7
        clear c7
        have H' := Aside0.mk H
        clear H
        have p356 : 0 ≤ (x5_1 : Int) := od_
        have q356 : x5_1 < (l0.length : Int) := od_
        obtain ⟨ad356, e356, hx356_0⟩ := Kd.at_string HR0.out x5_1 p356 q356
        cases e356
        replace p356 := eq_true p356
        replace q356 := eq_true q356
        have p357 : 0 ≤ (x5_1 : Int) := od_
        have q357 : x5_1 < (l1.length : Int) := od_
        obtain ⟨ad357, e357, hx357_0⟩ := Kd.at_string HR1.out x5_1 p357 q357
        cases e357
        replace p357 := eq_true p357
        replace q357 := eq_true q357
        go_wp2
        repeat (go_quiet (fail); try go_wp2)
        go_roundg k1
        case measure => have := HK1.out; omega
        case rel => exact ⟨(wrap64 (x5_1 + 1)), (by first | rfl | (simp; done) | (simp [*]; done)), H', ⟨by have := HK1.out; omega⟩, by repeat (first | exact Drawn0.refl _ | apply Drawn0.step)⟩
       ·rw [if_neg c7] at H
        have c7b0 : ((rdOf ByteArray.empty l0 x5_1).toList == (rdOf ByteArray.empty l1 x5_1).toList) = false := beq_eq_false_iff_ne.mpr c7
        have c7b1 : ((rdOf ByteArray.empty l0 x5_1).toList != (rdOf ByteArray.empty l1 x5_1).toList) = true := bne_iff_ne.mpr c7
        obtain rfl := Option.some.inj H
        have p356 : 0 ≤ (x5_1 : Int) := od_
        have q356 : x5_1 < (l0.length : Int) := od_
        obtain ⟨ad356, e356, hx356_0⟩ := Kd.at_string HR0.out x5_1 p356 q356
        cases e356
        replace p356 := eq_true p356
        replace q356 := eq_true q356
        have p357 : 0 ≤ (x5_1 : Int) := od_
        have q357 : x5_1 < (l1.length : Int) := od_
        obtain ⟨ad357, e357, hx357_0⟩ := Kd.at_string HR1.out x5_1 p357 q357
        cases e357
        replace p357 := eq_true p357
        replace q357 := eq_true q357
        go_wp2
        repeat (go_quiet (fail); try go_wp2)
        go_ret
        exact ⟨by first | rfl | (simp; done) | (simp [*]; done), by repeat (first | exact Drawn0.refl _ | apply Drawn0.step)⟩
      ·rw [if_neg c6] at H
       exact absurd H (by simp)
     ·rw [if_neg c5] at H
      exact absurd H (by simp)
    ·rw [if_neg c4] at H
     have c4b0 : decide (x5_1 < (l0.length : Int)) = false := decide_eq_false c4
     clear c4
     obtain rfl := Option.some.inj H
     go_wp2
     repeat (go_quiet (fail); try go_wp2)
     go_ret
     exact ⟨by first | rfl | (simp; done) | (simp [*]; done), by repeat (first | exact Drawn0.refl _ | apply Drawn0.step)⟩
 ·rw [if_neg c3] at H
  have c3b0 : ((l0.length : Int) == (l1.length : Int)) = false := beq_eq_false_iff_ne.mpr c3
  have c3b1 : ((l0.length : Int) != (l1.length : Int)) = true := bne_iff_ne.mpr c3
  have c3b2 : (l0.length == l1.length) = false := by first | simpa using c3 | (simp at c3 ⊢; omega)
  obtain rfl := Option.some.inj H
  go_enter Try.func49, Try.ntmps49
  go_wp2
  repeat (go_quiet (fail); try go_wp2)
  go_ret
  exact ⟨by first | rfl | (simp; done) | (simp [*]; done), by repeat (first | exact Drawn0.refl _ | apply Drawn0.step)⟩
end Go.Proofs.Ytchellnfenekaaa.Pm
end
section
namespace Go.Proofs.Ytchellnfenekaaa.Pm
open Go.RowKit Go.Proofs.YtchellnfenekaaaW.PrintWords Go.Proofs.YtchellnfenekaaaW.PrintLast Go.Proofs.YtchellnfenekaaaW.PrintMore
attribute [local go_sem] max2_int min2_int max_two min_two max_three min_three max_four min_four   -- for this text's walks alone
set_option linter.unusedVariables false
set_option linter.unusedSimpArgs false
def sentryref4_Same.f (k : Nat) (l0_0 : List ByteArray) (l0_1 : List (S32)) (l1_0 : List ByteArray) (l1_1 : List (S32)) : Option (Bool) := (sentryref4_SameTexts.f k l0_0 l1_0).bind fun t381 => (if t381 = true then ((sentryref4_SameItems.f k l0_1 l1_1).bind fun t382 => (some t382)) else (some false))
theorem sentryref4_Same.mono : ∀ a0 a1 a2 a3 k, LeO (sentryref4_Same.f k a0 a1 a2 a3) (sentryref4_Same.f (k + 1) a0 a1 a2 a3) := by
 intro a0 a1 a2 a3 k
 unfold sentryref4_Same.f
 repeat' first
   | (with_reducible exact sentryref4_SameItems.mono _ _ _)
   | (with_reducible exact sentryref4_SameTexts.mono _ _ _)
   | (with_reducible exact LeO.refl _)
   | (with_reducible exact LeO.none _)
   | (with_reducible refine LeO.ite ?_ ?_)
   | (with_reducible refine LeO.bind ?_ (fun _ => ?_))
   | exact sentryref4_SameItems.mono _ _ _
   | exact sentryref4_SameTexts.mono _ _ _
   | exact LeO.none _
   | refine LeO.ite ?_ ?_
   | refine LeO.bind ?_ (fun _ => ?_)
set_option maxHeartbeats 8000000 in
set_option maxRecDepth 100000 in
theorem sentryref4_Same.calls (k : Nat) (A0_0 : Option Addr) (c0_0 : Nat) (l0_0 : List ByteArray) (A0_1 : Option Addr) (c0_1 : Nat) (l0_1 : List (S32)) (A1_0 : Option Addr) (c1_0 : Nat) (l1_0 : List ByteArray) (A1_1 : Option Addr) (c1_1 : Nat) (l1_1 : List (S32)) (r : Bool) (w : World) (hr0_0 : Kd.C Kd.string w A0_0 l0_0.length l0_0) (hc0_0 : l0_0.length ≤ c0_0) (hr0_1 : Kd.C k32 w A0_1 l0_1.length l0_1) (hc0_1 : l0_1.length ≤ c0_1) (hr1_0 : Kd.C Kd.string w A1_0 l1_0.length l1_0) (hc1_0 : l1_0.length ≤ c1_0) (hr1_1 : Kd.C k32 w A1_1 l1_1.length l1_1) (hc1_1 : l1_1.length ≤ c1_1) (h : sentryref4_Same.f k l0_0 l0_1 l1_0 l1_1 = some r) :
  Calls Try.prog 26 #[.agg #[.slice A0_0 l0_0.length c0_0, .slice A0_1 l0_1.length c0_1], .agg #[.slice A1_0 l1_0.length c1_0, .slice A1_1 l1_1.length c1_1]] w fun e w' => e = .returned (.bool r) ∧ Below w.heap.size w w' := by
 have hu36 := Try.underlying36
 have HR0_0 := Aside0.mk hr0_0
 have HC0_0 := Aside0.mk hc0_0
 clear hr0_0 hc0_0
 have HR0_1 := Aside0.mk hr0_1
 have HC0_1 := Aside0.mk hc0_1
 clear hr0_1 hc0_1
 have HR1_0 := Aside0.mk hr1_0
 have HC1_0 := Aside0.mk hc1_0
 clear hr1_0 hc1_0
 have HR1_1 := Aside0.mk hr1_1
 have HC1_1 := Aside0.mk hc1_1
 clear hr1_1 hc1_1
 have HB := Aside0.mk (Below.refl w.heap.size w)
 have H : ((sentryref4_SameTexts.f k l0_0 l1_0).bind fun t381 => (if t381 = true then ((sentryref4_SameItems.f k l0_1 l1_1).bind fun t382 => (some t382)) else (some false))) = some r := h
 clear h
 replace H := Option.bind_eq_some_iff.mp H
 obtain ⟨t381, A30, H⟩ := H
 replace H : (if t381 = true then ((sentryref4_SameItems.f k l0_1 l1_1).bind fun t382 => (some t382)) else (some false)) = some r := H
 have A3 := Aside0.mk A30
 clear A30
 by_cases c4 : t381 = true
 ·subst c4
  have H1 : ((sentryref4_SameItems.f k l0_1 l1_1).bind fun t382 => (some t382)) = some r := by rw [if_pos rfl] at H; exact H
  clear H
  have H := H1
  clear H1
  replace H := Option.bind_eq_some_iff.mp H
  obtain ⟨t382, A50, H⟩ := H
  replace H : (some t382) = some r := H
  have A5 := Aside0.mk A50
  clear A50
  obtain rfl := Option.some.inj H
  go_enter Try.func26, Try.ntmps26
  go_wp2_with (first | ((with_reducible refine gate_dst (N := 2) rfl ?_); refine box_event ?hg (N := 2) ?hd (cs := #[.slice A0_0 l0_0.length c0_0, .slice A0_1 l0_1.length c0_1]) (t := 36) ?hr ?_; (case hd => rfl); (case hg => rfl); (case hr => first | (go_simp; done) | (go_simp; rfl)); intro gb379 hg w6 hbox hb; have n0_ := hb_ HB hb; have n1_ := Aside0.mk (hbox); have n2_ := Aside0.mk ((by rw [hg]; exact (below_size (by repeat (first | (with_reducible first | exact HB.out | apply below_alloc | apply pw_below_drewN | apply below_drew1) | exact HB.out))) : w.heap.size ≤ gb379)); have n3_ := Aside0.mk ((by rw [hg]; exact (below_size (by repeat (first | (with_reducible first | exact HB.out | apply below_alloc | apply pw_below_drewN | apply below_drew1) | exact HB.out))) : w.heap.size ≤ gb379)); clear HB; have HB := n0_; have BK379 := n1_; have GW379 := n2_; have GE379 := n3_; clear n0_ n1_ n2_ n3_; clear hb hbox hg) | ((with_reducible refine gate_dst (N := 3) rfl ?_); refine box_event ?hg (N := 3) ?hd (cs := #[.slice A1_0 l1_0.length c1_0, .slice A1_1 l1_1.length c1_1]) (t := 36) ?hr ?_; (case hd => rfl); (case hg => rfl); (case hr => first | (go_simp; done) | (go_simp; rfl)); intro gb380 hg w7 hbox hb; have n0_ := bb_ BK379 hb; have n1_ := hb_ HB hb; have n2_ := Aside0.mk (hbox); have n3_ := Aside0.mk ((by rw [hg]; exact (below_size (by repeat (first | (with_reducible first | exact HB.out | apply below_alloc | apply pw_below_drewN | apply below_drew1 | refine below_set ?_ GE379.out) | exact HB.out))) : w.heap.size ≤ gb380)); have n4_ := Aside0.mk ((by rw [hg]; exact (below_size (by repeat (first | (with_reducible first | exact HB.out | apply below_alloc | apply pw_below_drewN | apply below_drew1 | refine below_set ?_ GE379.out) | exact HB.out))) : w.heap.size ≤ gb380)); have n5_ := Aside0.mk ((by rw [hg]; exact Nat.ne_of_lt (blk_lt (g := gb379) (o := .cells #[.slice A0_0 l0_0.length c0_0, .slice A0_1 l0_1.length c0_1] 36 (0, 0)) (by (with_reducible repeat (first | refine blk_drewN ?_ _ | refine blk_drew ?_ | refine blk_alloc ?_ _)); exact BK379.out)) : gb379 ≠ gb380)); have n6_ := Aside0.mk ((by rw [hg]; exact Nat.ne_of_gt (blk_lt (g := gb379) (o := .cells #[.slice A0_0 l0_0.length c0_0, .slice A0_1 l0_1.length c0_1] 36 (0, 0)) (by (with_reducible repeat (first | refine blk_drewN ?_ _ | refine blk_drew ?_ | refine blk_alloc ?_ _)); exact BK379.out)) : gb380 ≠ gb379)); clear BK379; clear HB; have BK379 := n0_; have HB := n1_; have BK380 := n2_; have GW380 := n3_; have GE380 := n4_; have NB379_380 := n5_; have NB380_379 := n6_; clear n0_ n1_ n2_ n3_ n4_ n5_ n6_; clear hb hbox hg; have hnb8 := NB379_380.out; have hnc8 := NB380_379.out; obtain ⟨hcz9_0, hcz9_1, hfz9_0, hfz9_1⟩ := bs2_ BK379; obtain ⟨hcz10_0, hcz10_1, hfz10_0, hfz10_1⟩ := bs2_ BK380) | ((with_reducible refine gate_callee (f := 49) rfl ?_); refine gl_ (some 9) Try.func49 #[.slice A0_0 l0_0.length c0_0, .slice A1_0 l1_0.length c1_0] ?_; (with_reducible refine (sentryref4_SameTexts.calls k _ _ l0_0 _ _ l1_0 true _ ?side1 ?side2 ?side3 ?side4 A3.out).mono ?_); (case side1 => exact kc_ HR0_0 HB); (case side2 => exact HC0_0.out); (case side3 => exact kc_ HR1_0 HB); (case side4 => exact HC1_0.out); rintro e w' ⟨rfl, ⟨nd, rfl⟩⟩; refine ⟨_, rfl, ?_⟩) | (go_at_call 50; (with_reducible refine (sentryref4_SameItems.calls k _ _ l0_1 _ _ l1_1 t382 _ ?side1 ?side2 ?side3 ?side4 A5.out).mono ?_); (case side1 => repeat (first | exact (Kd.C_below HR0_1.out (by repeat (first | (with_reducible first | exact HB.out | apply below_alloc | apply pw_below_drewN | apply below_drew1 | refine below_set ?_ GE379.out | refine below_set ?_ GE380.out) | exact HB.out))) | (with_reducible refine Kd.C_alloc ?_ _) | (with_reducible refine Kd.C_drewN ?_ _) | (with_reducible refine Kd.C_drew ?_))); (case side2 => exact HC0_1.out); (case side3 => repeat (first | exact (Kd.C_below HR1_1.out (by repeat (first | (with_reducible first | exact HB.out | apply below_alloc | apply pw_below_drewN | apply below_drew1 | refine below_set ?_ GE379.out | refine below_set ?_ GE380.out) | exact HB.out))) | (with_reducible refine Kd.C_alloc ?_ _) | (with_reducible refine Kd.C_drewN ?_ _) | (with_reducible refine Kd.C_drew ?_))); (case side4 => exact HC1_1.out); rintro e w11 ⟨rfl, hb⟩; have n0_ := bb_ BK379 hb; have n1_ := bb_ BK380 hb; have n2_ := hb_ HB hb; clear BK379; clear BK380; clear HB; have BK379 := n0_; have BK380 := n1_; have HB := n2_; clear n0_ n1_ n2_; (try clear hb); (try clear hb2); (try clear hk); (try clear hi)))
  go_ret
  exact ⟨er_, hf_⟩
 ·replace c4 := Bool.eq_false_iff.mpr c4
  subst c4
  have H1 : (some false) = some r := by rw [if_neg (show ¬ (false = true) by decide)] at H; exact H
  clear H
  have H := H1
  clear H1
  obtain rfl := Option.some.inj H
  go_enter Try.func26, Try.ntmps26
  go_wp2_with (first | ((with_reducible refine gate_dst (N := 2) rfl ?_); refine box_event ?hg (N := 2) ?hd (cs := #[.slice A0_0 l0_0.length c0_0, .slice A0_1 l0_1.length c0_1]) (t := 36) ?hr ?_; (case hd => rfl); (case hg => rfl); (case hr => first | (go_simp; done) | (go_simp; rfl)); intro gb379 hg w12 hbox hb; have n0_ := hb_ HB hb; have n1_ := Aside0.mk (hbox); have n2_ := Aside0.mk ((by rw [hg]; exact (below_size (by repeat (first | (with_reducible first | exact HB.out | apply below_alloc | apply pw_below_drewN | apply below_drew1) | exact HB.out))) : w.heap.size ≤ gb379)); have n3_ := Aside0.mk ((by rw [hg]; exact (below_size (by repeat (first | (with_reducible first | exact HB.out | apply below_alloc | apply pw_below_drewN | apply below_drew1) | exact HB.out))) : w.heap.size ≤ gb379)); clear HB; have HB := n0_; have BK379 := n1_; have GW379 := n2_; have GE379 := n3_; clear n0_ n1_ n2_ n3_; clear hb hbox hg) | ((with_reducible refine gate_dst (N := 3) rfl ?_); refine box_event ?hg (N := 3) ?hd (cs := #[.slice A1_0 l1_0.length c1_0, .slice A1_1 l1_1.length c1_1]) (t := 36) ?hr ?_; (case hd => rfl); (case hg => rfl); (case hr => first | (go_simp; done) | (go_simp; rfl)); intro gb380 hg w13 hbox hb; have n0_ := bb_ BK379 hb; have n1_ := hb_ HB hb; have n2_ := Aside0.mk (hbox); have n3_ := Aside0.mk ((by rw [hg]; exact (below_size (by repeat (first | (with_reducible first | exact HB.out | apply below_alloc | apply pw_below_drewN | apply below_drew1 | refine below_set ?_ GE379.out) | exact HB.out))) : w.heap.size ≤ gb380)); have n4_ := Aside0.mk ((by rw [hg]; exact (below_size (by repeat (first | (with_reducible first | exact HB.out | apply below_alloc | apply pw_below_drewN | apply below_drew1 | refine below_set ?_ GE379.out) | exact HB.out))) : w.heap.size ≤ gb380)); have n5_ := Aside0.mk ((by rw [hg]; exact Nat.ne_of_lt (blk_lt (g := gb379) (o := .cells #[.slice A0_0 l0_0.length c0_0, .slice A0_1 l0_1.length c0_1] 36 (0, 0)) (by (with_reducible repeat (first | refine blk_drewN ?_ _ | refine blk_drew ?_ | refine blk_alloc ?_ _)); exact BK379.out)) : gb379 ≠ gb380)); have n6_ := Aside0.mk ((by rw [hg]; exact Nat.ne_of_gt (blk_lt (g := gb379) (o := .cells #[.slice A0_0 l0_0.length c0_0, .slice A0_1 l0_1.length c0_1] 36 (0, 0)) (by (with_reducible repeat (first | refine blk_drewN ?_ _ | refine blk_drew ?_ | refine blk_alloc ?_ _)); exact BK379.out)) : gb380 ≠ gb379)); clear BK379; clear HB; have BK379 := n0_; have HB := n1_; have BK380 := n2_; have GW380 := n3_; have GE380 := n4_; have NB379_380 := n5_; have NB380_379 := n6_; clear n0_ n1_ n2_ n3_ n4_ n5_ n6_; clear hb hbox hg; have hnb14 := NB379_380.out; have hnc14 := NB380_379.out; obtain ⟨hcz15_0, hcz15_1, hfz15_0, hfz15_1⟩ := bs2_ BK379; obtain ⟨hcz16_0, hcz16_1, hfz16_0, hfz16_1⟩ := bs2_ BK380) | ((with_reducible refine gate_callee (f := 49) rfl ?_); refine gl_ (some 9) Try.func49 #[.slice A0_0 l0_0.length c0_0, .slice A1_0 l1_0.length c1_0] ?_; (with_reducible refine (sentryref4_SameTexts.calls k _ _ l0_0 _ _ l1_0 false _ ?side1 ?side2 ?side3 ?side4 A3.out).mono ?_); (case side1 => exact kc_ HR0_0 HB); (case side2 => exact HC0_0.out); (case side3 => exact kc_ HR1_0 HB); (case side4 => exact HC1_0.out); rintro e w' ⟨rfl, ⟨nd, rfl⟩⟩; refine ⟨_, rfl, ?_⟩))
  go_ret
  exact ⟨er_, hf_⟩
end Go.Proofs.Ytchellnfenekaaa.Pm
end
section
namespace Go.Proofs.Ytchellnfenekaaa.Pm
open Go.RowKit Go.Proofs.YtchellnfenekaaaW.PrintWords Go.Proofs.YtchellnfenekaaaW.PrintLast Go.Proofs.YtchellnfenekaaaW.PrintMore
attribute [local go_sem] max2_int min2_int max_two min_two max_three min_three max_four min_four   -- for this text's walks alone
set_option linter.unusedVariables false
set_option linter.unusedSimpArgs false
theorem R_voidN {α : Type} (d : Kd α) (e base : Nat) (w : World) (ok : Nat → Prop) (hok : ok w.heap.size) (hb : base ≤ w.heap.size) : d.R e (w.alloc (.cells #[] e)) base ok (.slice (some ⟨w.heap.size, 0, none⟩) 0 0) [] := by
  refine ⟨fun k hk => ?_, [], ?_, ⟨by simp, fun j p hj => by simp at hj⟩⟩
  · have : w.heap.size = k := by simpa [Value.ownBlock] using hk
    subst this
    exact hok
  · have h2 := World.ownsRow_lit (base := base) (e := e) (size := d.sz) w #[] 0 hb (by simp [maxLen]) (by simp)
    simpa using h2
def kRaw (n : Nat) : Kd (List Value) where
  sz := n
  E := []
  K := fun _ x cs => cs = x ∧ x.length = n ∧ ∀ u ∈ x, u.oneCell' = true
  M := fun _ _ _ x cs => cs = x ∧ x.length = n ∧ ∀ u ∈ x, u.oneCell' = true
  K_len := fun h => by rw [h.1]; exact h.2.1
  K_one := fun h u hu => h.2.2 u (h.1 ▸ hu)
  K_below := fun _ h => h
  K_of_M := fun h => h
  M_mono := fun _ h => h
  M_bound := fun h => h
  M_move := fun _ h => h
  M_lower := fun _ h => h
theorem C_raw {α : Type} {d : Kd α} {w : World} {A : Option Addr} {n : Nat} {xs : List α} (h : Kd.C d w A n xs) : ∃ rows : List (List Value), rows.length = n ∧ Kd.C (kRaw d.sz) w A n rows ∧ ∀ (j : Nat) (p : α), xs[j]? = some p → ∃ cs, rows[j]? = some cs ∧ d.K w p cs := by
  obtain ⟨h1, h2, h3⟩ := h
  rcases Nat.eq_zero_or_pos n with rfl | hp
  · refine ⟨[], rfl, ⟨rfl, h2, fun hp => absurd hp (by omega)⟩, fun j p hj => ?_⟩
    have := (List.getElem?_eq_some_iff.1 hj).1
    omega
  · obtain ⟨ad, e, hc⟩ := h3 hp
    have hex : ∀ j : Nat, ∃ c : List Value, ∀ p, xs[j]? = some p → c.length = d.sz ∧ d.K w p c ∧ ∀ i u, c[i]? = some u → w.cell? (ad.add (j * d.sz + i)) = some u := by
      intro j
      cases hx : xs[j]? with
      | none => exact ⟨[], fun p hp => by cases hp⟩
      | some p =>
        obtain ⟨c, h⟩ := hc j p hx
        exact ⟨c, fun q hq => by cases hq; exact h⟩
    obtain ⟨f, hf⟩ := Classical.axiomOfChoice hex
    have hget : ∀ j, j < n → ((List.range n).map f)[j]? = some (f j) := fun j hj => by simp [hj]
    refine ⟨(List.range n).map f, by simp, ⟨by simp, h2, fun _ => ⟨ad, e, fun j p hj => ?_⟩⟩, fun j p hj => ?_⟩
    · have hjn : j < n := by have := (List.getElem?_eq_some_iff.1 hj).1; simpa using this
      rw [hget j hjn] at hj
      cases hj
      have hx : xs[j]? = some (xs[j]'(by omega)) := List.getElem?_eq_getElem _
      obtain ⟨a, b, c⟩ := hf j _ hx
      exact ⟨f j, a, ⟨rfl, a, d.K_one b⟩, c⟩
    · have hjn : j < n := by have := (List.getElem?_eq_some_iff.1 hj).1; omega
      exact ⟨f j, hget j hjn, (hf j p hj).2.1⟩
theorem iOn_ : (Try.prog.info? 39).map (fun i => (i.zero, i.size, i.bytes)) = some (some (.agg #[.string ⟨#[]⟩, .int .i64 0]), 2, 24) := by kernel_rfl
theorem iCond_ : (Try.prog.info? 25).map (fun i => (i.zero, i.size, i.bytes)) = some (some (.agg #[.string ⟨#[]⟩, .string ⟨#[]⟩, .int .i64 0]), 3, 40) := by kernel_rfl
theorem iSent_ : (Try.prog.info? 29).map (fun i => (i.zero, i.size, i.bytes)) = some (some (.agg #[.slice none 0 0, .slice none 0 0]), 2, 48) := by kernel_rfl
theorem iItem_ : (Try.prog.info? 32).map (fun i => (i.zero, i.size, i.bytes)) = some (some (.agg #[.string ⟨#[]⟩, .int .i64 0, .string ⟨#[]⟩, .bool false, .int .i64 0, .slice none 0 0, .slice none 0 0]), 7, 104) := by kernel_rfl
set_option maxHeartbeats 2000000 in
set_option maxRecDepth 100000 in
theorem cl_str (w : World) (A : Option Addr) (c : Nat) (l : List (ByteArray)) (hr : Kd.C Kd.string w A l.length l) (hc : l.length ≤ c) (hl : l.length * 16 ≤ 140737488355328) :
    Calls Try.prog 46 #[.slice A l.length c] w fun e w' => ∃ v, e = .returned v ∧ Kd.R Kd.string 9 w' w.heap.size (fun _ => True) v l ∧ Below w.heap.size w w' := by
  cases A with
  | none =>
    have h0 : l = [] := by
      rcases l with _ | ⟨a, l⟩
      · rfl
      · obtain ⟨ad, e, _⟩ := hr.2.2 (by simp)
        cases e
    subst h0
    clear hr
    have hz : ∀ W, (binOp .eql 33 (.slice none 0 c) (.slice none 0 0)).run Try.prog W = .ok (.bool true) W := fun W => Lib.run_eql_slice_nil W 33 9 none 0 c 0 0 Try.underlying33
    go_enter Try.func46, Try.ntmps46
    go_wp2
    go_ret
    exact ⟨_, rfl, Kd.R_nil _ _ _ _ _, Below.refl _ _⟩
  | some ad =>
    have HR := Lib.hid hr
    obtain ⟨n, hn⟩ : ∃ n, n = l.length := ⟨_, rfl⟩
    have HN := Lib.hid hn
    rw [← hn] at hc hl ⊢
    clear hr hn
    have hz : ∀ W, (binOp .eql 33 (.slice (some ad) n c) (.slice none 0 0)).run Try.prog W = .ok (.bool false) W := fun W => Lib.run_eql_slice_nil W 33 9 (some ad) n c 0 0 Try.underlying33
    go_enter Try.func46, Try.ntmps46
    go_wp2_with (first | ((with_reducible refine gate_builtin (b := .append) (xs := #[.tmp 5, .tmp 6]) rfl ?_); at_builtin; refine Kd.R_append_rows Kd.string (w0 := w) w.heap.size rfl (.tmp 5) (.tmp 6) 33 9 (.string ⟨#[]⟩) 16 rfl Try.underlying33 info9 rfl (by decide) (by omega) (.slice (some ⟨w.heap.size, 0, none⟩) 0 0) [] l _ _ _ (fun _ => True) (fun _ => False) rfl rfl (R_voidN Kd.string 9 w.heap.size w _ trivial (Nat.le_refl _)) (HN.out ▸ Kd.C_alloc HR.out _) (fun _ _ h => h) (fun _ h => h.elim) (fun _ _ => trivial) (below_alloc (Below.refl _ _) _) (below_alloc (Below.refl _ _) _).size (by simpa using hl) ?_; intro v2 w2 hR2 hB2 hg1 hg2; clear hg1 hg2))
    go_ret
    exact ⟨_, rfl, hR2, hB2⟩
set_option maxHeartbeats 2000000 in
set_option maxRecDepth 100000 in
theorem cl_on (w : World) (A : Option Addr) (c : Nat) (l : List (S39)) (hr : Kd.C k39 w A l.length l) (hc : l.length ≤ c) (hl : l.length * 24 ≤ 140737488355328) :
    Calls Try.prog 65 #[.slice A l.length c] w fun e w' => ∃ v, e = .returned v ∧ Kd.R k39 39 w' w.heap.size (fun _ => True) v l ∧ Below w.heap.size w w' := by
  cases A with
  | none =>
    have h0 : l = [] := by
      rcases l with _ | ⟨a, l⟩
      · rfl
      · obtain ⟨ad, e, _⟩ := hr.2.2 (by simp)
        cases e
    subst h0
    clear hr
    have hz : ∀ W, (binOp .eql 27 (.slice none 0 c) (.slice none 0 0)).run Try.prog W = .ok (.bool true) W := fun W => Lib.run_eql_slice_nil W 27 39 none 0 c 0 0 Try.underlying27
    go_enter Try.func65, Try.ntmps65
    go_wp2
    go_ret
    exact ⟨_, rfl, Kd.R_nil _ _ _ _ _, Below.refl _ _⟩
  | some ad =>
    have HR := Lib.hid hr
    obtain ⟨n, hn⟩ : ∃ n, n = l.length := ⟨_, rfl⟩
    have HN := Lib.hid hn
    rw [← hn] at hc hl ⊢
    clear hr hn
    have hz : ∀ W, (binOp .eql 27 (.slice (some ad) n c) (.slice none 0 0)).run Try.prog W = .ok (.bool false) W := fun W => Lib.run_eql_slice_nil W 27 39 (some ad) n c 0 0 Try.underlying27
    go_enter Try.func65, Try.ntmps65
    go_wp2_with (first | ((with_reducible refine gate_builtin (b := .append) (xs := #[.tmp 5, .tmp 6]) rfl ?_); at_builtin; refine Kd.R_append_rows k39 (w0 := w) w.heap.size rfl (.tmp 5) (.tmp 6) 27 39 (.agg #[.string ⟨#[]⟩, .int .i64 0]) 24 rfl Try.underlying27 iOn_ rfl (by decide) (by omega) (.slice (some ⟨w.heap.size, 0, none⟩) 0 0) [] l _ _ _ (fun _ => True) (fun _ => False) rfl rfl (R_voidN k39 39 w.heap.size w _ trivial (Nat.le_refl _)) (HN.out ▸ Kd.C_alloc HR.out _) (fun _ _ h => h) (fun _ h => h.elim) (fun _ _ => trivial) (below_alloc (Below.refl _ _) _) (below_alloc (Below.refl _ _) _).size (by simpa using hl) ?_; intro v2 w2 hR2 hB2 hg1 hg2; clear hg1 hg2))
    go_ret
    exact ⟨_, rfl, hR2, hB2⟩
set_option maxHeartbeats 2000000 in
set_option maxRecDepth 100000 in
theorem cl_cond (w : World) (A : Option Addr) (c : Nat) (l : List (S25)) (hr : Kd.C k25 w A l.length l) (hc : l.length ≤ c) (hl : l.length * 40 ≤ 140737488355328) :
    Calls Try.prog 66 #[.slice A l.length c] w fun e w' => ∃ v, e = .returned v ∧ Kd.R k25 25 w' w.heap.size (fun _ => True) v l ∧ Below w.heap.size w w' := by
  cases A with
  | none =>
    have h0 : l = [] := by
      rcases l with _ | ⟨a, l⟩
      · rfl
      · obtain ⟨ad, e, _⟩ := hr.2.2 (by simp)
        cases e
    subst h0
    clear hr
    have hz : ∀ W, (binOp .eql 26 (.slice none 0 c) (.slice none 0 0)).run Try.prog W = .ok (.bool true) W := fun W => Lib.run_eql_slice_nil W 26 25 none 0 c 0 0 Try.underlying26
    go_enter Try.func66, Try.ntmps66
    go_wp2
    go_ret
    exact ⟨_, rfl, Kd.R_nil _ _ _ _ _, Below.refl _ _⟩
  | some ad =>
    have HR := Lib.hid hr
    obtain ⟨n, hn⟩ : ∃ n, n = l.length := ⟨_, rfl⟩
    have HN := Lib.hid hn
    rw [← hn] at hc hl ⊢
    clear hr hn
    have hz : ∀ W, (binOp .eql 26 (.slice (some ad) n c) (.slice none 0 0)).run Try.prog W = .ok (.bool false) W := fun W => Lib.run_eql_slice_nil W 26 25 (some ad) n c 0 0 Try.underlying26
    go_enter Try.func66, Try.ntmps66
    go_wp2_with (first | ((with_reducible refine gate_builtin (b := .append) (xs := #[.tmp 5, .tmp 6]) rfl ?_); at_builtin; refine Kd.R_append_rows k25 (w0 := w) w.heap.size rfl (.tmp 5) (.tmp 6) 26 25 (.agg #[.string ⟨#[]⟩, .string ⟨#[]⟩, .int .i64 0]) 40 rfl Try.underlying26 iCond_ rfl (by decide) (by omega) (.slice (some ⟨w.heap.size, 0, none⟩) 0 0) [] l _ _ _ (fun _ => True) (fun _ => False) rfl rfl (R_voidN k25 25 w.heap.size w _ trivial (Nat.le_refl _)) (HN.out ▸ Kd.C_alloc HR.out _) (fun _ _ h => h) (fun _ h => h.elim) (fun _ _ => trivial) (below_alloc (Below.refl _ _) _) (below_alloc (Below.refl _ _) _).size (by simpa using hl) ?_; intro v2 w2 hR2 hB2 hg1 hg2; clear hg1 hg2))
    go_ret
    exact ⟨_, rfl, hR2, hB2⟩
set_option maxHeartbeats 2000000 in
set_option maxRecDepth 100000 in
theorem cl_sentry (w : World) (A : Option Addr) (c : Nat) (l : List (List Value)) (hr : Kd.C (kRaw 2) w A l.length l) (hc : l.length ≤ c) (hl : l.length * 48 ≤ 140737488355328) :
    Calls Try.prog 64 #[.slice A l.length c] w fun e w' => ∃ v, e = .returned v ∧ Kd.R (kRaw 2) 29 w' w.heap.size (fun _ => True) v l ∧ Below w.heap.size w w' := by
  cases A with
  | none =>
    have h0 : l = [] := by
      rcases l with _ | ⟨a, l⟩
      · rfl
      · obtain ⟨ad, e, _⟩ := hr.2.2 (by simp)
        cases e
    subst h0
    clear hr
    have hz : ∀ W, (binOp .eql 30 (.slice none 0 c) (.slice none 0 0)).run Try.prog W = .ok (.bool true) W := fun W => Lib.run_eql_slice_nil W 30 29 none 0 c 0 0 Try.underlying30
    go_enter Try.func64, Try.ntmps64
    go_wp2
    go_ret
    exact ⟨_, rfl, Kd.R_nil _ _ _ _ _, Below.refl _ _⟩
  | some ad =>
    have HR := Lib.hid hr
    obtain ⟨n, hn⟩ : ∃ n, n = l.length := ⟨_, rfl⟩
    have HN := Lib.hid hn
    rw [← hn] at hc hl ⊢
    clear hr hn
    have hz : ∀ W, (binOp .eql 30 (.slice (some ad) n c) (.slice none 0 0)).run Try.prog W = .ok (.bool false) W := fun W => Lib.run_eql_slice_nil W 30 29 (some ad) n c 0 0 Try.underlying30
    go_enter Try.func64, Try.ntmps64
    go_wp2_with (first | ((with_reducible refine gate_builtin (b := .append) (xs := #[.tmp 5, .tmp 6]) rfl ?_); at_builtin; refine Kd.R_append_rows (kRaw 2) (w0 := w) w.heap.size rfl (.tmp 5) (.tmp 6) 30 29 (.agg #[.slice none 0 0, .slice none 0 0]) 48 rfl Try.underlying30 iSent_ rfl (by decide) (by omega) (.slice (some ⟨w.heap.size, 0, none⟩) 0 0) [] l _ _ _ (fun _ => True) (fun _ => False) rfl rfl (R_voidN (kRaw 2) 29 w.heap.size w _ trivial (Nat.le_refl _)) (HN.out ▸ Kd.C_alloc HR.out _) (fun _ _ h => h) (fun _ h => h.elim) (fun _ _ => trivial) (below_alloc (Below.refl _ _) _) (below_alloc (Below.refl _ _) _).size (by simpa using hl) ?_; intro v2 w2 hR2 hB2 hg1 hg2; clear hg1 hg2))
    go_ret
    exact ⟨_, rfl, hR2, hB2⟩
set_option maxHeartbeats 2000000 in
set_option maxRecDepth 100000 in
theorem cl_item (w : World) (A : Option Addr) (c : Nat) (l : List (List Value)) (hr : Kd.C (kRaw 7) w A l.length l) (hc : l.length ≤ c) (hl : l.length * 104 ≤ 140737488355328) :
    Calls Try.prog 47 #[.slice A l.length c] w fun e w' => ∃ v, e = .returned v ∧ Kd.R (kRaw 7) 32 w' w.heap.size (fun _ => True) v l ∧ Below w.heap.size w w' := by
  cases A with
  | none =>
    have h0 : l = [] := by
      rcases l with _ | ⟨a, l⟩
      · rfl
      · obtain ⟨ad, e, _⟩ := hr.2.2 (by simp)
        cases e
    subst h0
    clear hr
    have hz : ∀ W, (binOp .eql 34 (.slice none 0 c) (.slice none 0 0)).run Try.prog W = .ok (.bool true) W := fun W => Lib.run_eql_slice_nil W 34 32 none 0 c 0 0 Try.underlying34
    go_enter Try.func47, Try.ntmps47
    go_wp2
    go_ret
    exact ⟨_, rfl, Kd.R_nil _ _ _ _ _, Below.refl _ _⟩
  | some ad =>
    have HR := Lib.hid hr
    obtain ⟨n, hn⟩ : ∃ n, n = l.length := ⟨_, rfl⟩
    have HN := Lib.hid hn
    rw [← hn] at hc hl ⊢
    clear hr hn
    have hz : ∀ W, (binOp .eql 34 (.slice (some ad) n c) (.slice none 0 0)).run Try.prog W = .ok (.bool false) W := fun W => Lib.run_eql_slice_nil W 34 32 (some ad) n c 0 0 Try.underlying34
    go_enter Try.func47, Try.ntmps47
    go_wp2_with (first | ((with_reducible refine gate_builtin (b := .append) (xs := #[.tmp 5, .tmp 6]) rfl ?_); at_builtin; refine Kd.R_append_rows (kRaw 7) (w0 := w) w.heap.size rfl (.tmp 5) (.tmp 6) 34 32 (.agg #[.string ⟨#[]⟩, .int .i64 0, .string ⟨#[]⟩, .bool false, .int .i64 0, .slice none 0 0, .slice none 0 0]) 104 rfl Try.underlying34 iItem_ rfl (by decide) (by omega) (.slice (some ⟨w.heap.size, 0, none⟩) 0 0) [] l _ _ _ (fun _ => True) (fun _ => False) rfl rfl (R_voidN (kRaw 7) 32 w.heap.size w _ trivial (Nat.le_refl _)) (HN.out ▸ Kd.C_alloc HR.out _) (fun _ _ h => h) (fun _ h => h.elim) (fun _ _ => trivial) (below_alloc (Below.refl _ _) _) (below_alloc (Below.refl _ _) _).size (by simpa using hl) ?_; intro v2 w2 hR2 hB2 hg1 hg2; clear hg1 hg2))
    go_ret
    exact ⟨_, rfl, hR2, hB2⟩
end Go.Proofs.Ytchellnfenekaaa.Pm
end
section
namespace Go.Proofs.Ytchellnfenekaaa.Pm
open Go.RowKit Go.Proofs.YtchellnfenekaaaW.PrintWords Go.Proofs.YtchellnfenekaaaW.PrintLast Go.Proofs.YtchellnfenekaaaW.PrintMore
attribute [local go_sem] max2_int min2_int max_two min_two max_three min_three max_four min_four   -- for this text's walks alone
set_option linter.unusedVariables false
set_option linter.unusedSimpArgs false
def bits (n m : Nat) : Array Bool := ((List.range n).map (fun i => m.testBit i)).toArray
section
variable {P : Program} {md : Region.Mode} {ops : Array Oper} {Q : Exit → Act → World → Prop} {S : World → Prop} {ds : List Nat}
theorem st_ {id : Nat} {a : Act} {w : World} (S : World → Prop) (n : Nat) (hS : S w.drew) (h : S w.drew → wpAnyLast P .any ops Q S [] n (bits n 0) a w.drew)
    (hm : P.follows .mixedOrders = true := by kernel_rfl) (hn : ops.size = n := by exact rfl) (hl : Array.replicate n false = bits n 0 := by kernel_rfl) : (Code.region id ops true).wp P Q a w :=
  start_ (bits n 0) hm hn hl hS h
theorem pu_ {n m fuel : Nat} {oi : Oper} {v : Value} {a a' : Act} {w : World} (i : Nat) (N : Option Tmp) (h : wpAnyLast P md ops Q S ds fuel (bits n (m ||| 1 <<< i)) a' w)
    (hi : ops[i]? = some oi := by exact rfl) (hN : oi.dst = N := by exact rfl) (hc : anyB md ops (bits n m) (bits n (m ||| 1 <<< i)) i = true := by kernel_rfl)
    (hw : Region.wanted oi (yielded ops a.tmps) = true := by exact rfl) (hy : ∀ w', (execOp a.eval oi).run P w' = .ok (.value v) w' := by (intro w'; go_simp; with_reducible rfl))
    (ha : a.put N v = a' := by (simp only [Act.put, List.setIfInBounds_toArray, List.set_cons_zero, List.set_cons_succ, i64_w, i32_w]; rfl))
    (hQ : ∀ c a w, Q (.panic c) (a.put oi.dst v) w → Q (.panic c) a w := by exact fun _ _ _ h => h) : wpAnyLast P md ops Q S ds (fuel + 1) (bits n m) a w :=
  pure_ _ hi hN hc hQ (Or.inl ⟨hw, hy⟩) ha h
theorem tk_ {n m fuel : Nat} {oi : Oper} {v : Value} {a a' : Act} {w : World} (i : Nat) (N : Option Tmp) (hS : S w) (h : wpAnyLast P md ops Q S ds fuel (bits n (m ||| 1 <<< i)) a' w)
    (hi : ops[i]? = some oi := by exact rfl) (hN : oi.dst = N := by exact rfl) (hc : takeB md ops ds (bits n m) (bits n (m ||| 1 <<< i)) i = true := by kernel_rfl)
    (hw : Region.wanted oi (yielded ops a.tmps) = true := by exact rfl) (hy : ∀ w', S w' → (execOp a.eval oi).run P w' = .ok (.value v) w')
    (ha : a.put N v = a' := by (simp only [Act.put, List.setIfInBounds_toArray, List.set_cons_zero, List.set_cons_succ, i64_w, i32_w]; rfl))
    (hQ : ∀ c a w, Q (.panic c) (a.put oi.dst v) w → Q (.panic c) a w := by exact fun _ _ _ h => h) : wpAnyLast P md ops Q S ds (fuel + 1) (bits n m) a w :=
  take_ _ hi hN hc hQ (Or.inl ⟨hw, hy⟩) hS ha h
/-- A call that alone may come up: its contract gives the answer v and a world in which S holds. -/
theorem ca_ {n m fuel : Nat} {oi : Oper} {a : Act} {w : World} {f : FuncId} {fn : Func} {os : Array Operand} {ts : Array TypeId} (i : Nat) (N : Option Tmp) (hf : P.funcs[f]? = some fn) (args : Array Value)
    (h : Calls P f args w fun e w' => ∃ v, e = .returned v ∧ S w' ∧ (S w' → ∃ a', a.put N v = a' ∧ wpAnyLast P md ops Q S ds fuel (bits n (m ||| 1 <<< i)) a' w'))
    (hi : ops[i]? = some oi := by exact rfl) (hN : oi.dst = N := by exact rfl) (hc : readyB md ops (bits n m) (bits n (m ||| 1 <<< i)) i = true := by kernel_rfl) (hd : i ∉ ds := by decide)
    (hop : oi.op = .call { callee := .value (.func f), args := os, argTypes := ts } := by exact rfl) (hargs : os.map a.eval = args := by ((try simp only [List.map_toArray, List.map_cons, List.map_nil]); first | done | rfl))
    (hw : Region.wanted oi (yielded ops a.tmps) = true := by exact rfl)
    (hname : (fn.name == "runtime.NumGoroutine") = false := by kernel_rfl) (hb : fn.body.isSome = true := by exact rfl) : wpAnyLast P md ops Q S ds (fuel + 1) (bits n m) a w :=
  one_ _ hi hN hc hd fun K hK => goes_ hf hname hb args hw hN hop hargs (h.mono fun e w' hh => by
    obtain ⟨v, rfl, hS, hW⟩ := hh
    refine ⟨v, rfl, hK.out _ _ hS fun hs => ?_⟩
    obtain ⟨a', rfl, h'⟩ := hW hs
    exact h')
theorem dn_ {n m : Nat} {a : Act} {w : World} {k : Nat} (h : Q .normal a w) (hr : (Region.ready md ops (bits n m) == []) = true := by kernel_rfl) : wpAnyLast P md ops Q S ds k (bits n m) a w := done_ hr h
end
end Go.Proofs.Ytchellnfenekaaa.Pm
end
section
namespace Go.Proofs.Ytchellnfenekaaa.Pm
open Go.RowKit Go.Proofs.YtchellnfenekaaaW.PrintWords Go.Proofs.YtchellnfenekaaaW.PrintLast Go.Proofs.YtchellnfenekaaaW.PrintMore
attribute [local go_sem] max2_int min2_int max_two min_two max_three min_three max_four min_four   -- for this text's walks alone
set_option linter.unusedVariables false
set_option linter.unusedSimpArgs false
section
variable {P : Program} {md : Region.Mode} {ops : Array Oper} {Q : Exit → Act → World → Prop} {S : World → Prop} {ds : List Nat}
theorem oN_ {n m fuel : Nat} {oi : Oper} {a : Act} {w : World} (i : Nat) (N : Option Tmp)
    (h : ∀ K : Act → World → Prop, Shut (∀ a' w', S w' → (S w' → wpAnyLast P md ops Q S ds fuel (bits n (m ||| 1 <<< i)) a' w') → K a' w') → if Region.wanted oi (yielded ops a.tmps) = true then Oper.wp P oi a w K Q else K (a.put N undef) w)
    (hi : ops[i]? = some oi := by exact rfl) (hN : oi.dst = N := by exact rfl) (hc : readyB md ops (bits n m) (bits n (m ||| 1 <<< i)) i = true := by kernel_rfl) (hd : i ∉ ds := by decide) : wpAnyLast P md ops Q S ds (fuel + 1) (bits n m) a w :=
  one_ _ hi hN hc hd h
theorem tW_ {n m fuel : Nat} {oi oj : Oper} {a : Act} {w : World} (i j : Nat) (Ni Nj : Option Tmp)
    (h1 : ∀ K : Act → World → Prop, Shut (∀ a' w', S w' → (S w' → wpAnyLast P md ops Q S ds fuel (bits n (m ||| 1 <<< i)) a' w') → K a' w') → if Region.wanted oi (yielded ops a.tmps) = true then Oper.wp P oi a w K Q else K (a.put Ni undef) w)
    (h2 : ∀ K : Act → World → Prop, Shut (∀ a' w', S w' → (S w' → wpAnyLast P md ops Q S ds fuel (bits n (m ||| 1 <<< j)) a' w') → K a' w') → if Region.wanted oj (yielded ops a.tmps) = true then Oper.wp P oj a w K Q else K (a.put Nj undef) w)
    (hi : ops[i]? = some oi := by exact rfl) (hj : ops[j]? = some oj := by exact rfl) (hNi : oi.dst = Ni := by exact rfl) (hNj : oj.dst = Nj := by exact rfl)
    (hc : (Region.ready md ops (bits n m) == [i, j] && (bits n m).setIfInBounds i true == bits n (m ||| 1 <<< i) && (bits n m).setIfInBounds j true == bits n (m ||| 1 <<< j)) = true := by kernel_rfl) (hdi : i ∉ ds := by decide) (hdj : j ∉ ds := by decide) : wpAnyLast P md ops Q S ds (fuel + 1) (bits n m) a w :=
  two_ _ _ hi hj hNi hNj hc hdi hdj h1 h2
theorem sD_ {id : Nat} {a : Act} {w : World} (ds : List Nat) (S : World → Prop) (n : Nat) (hS : S w.drew) (h : S w.drew → wpAnyLast P .any ops Q S ds n (bits n 0) a w.drew)
    (hm : P.follows .mixedOrders = true := by kernel_rfl) (hn : ops.size = n := by exact rfl) (hl : Array.replicate n false = bits n 0 := by kernel_rfl) : (Code.region id ops true).wp P Q a w :=
  start_ (bits n 0) hm hn hl hS h
theorem lA_ {n m fuel : Nat} {oi : Oper} {a : Act} {w : World} (i : Nat) (N : Option Tmp)
    (h : ∀ K : Act → World → Prop, Shut (∀ a' w', wpAnyLast P md ops Q S ds fuel (bits n (m ||| 1 <<< i)) a' w' → K a' w') → if Region.wanted oi (yielded ops a.tmps) = true then Oper.wp P oi a w K Q else K (a.put N undef) w)
    (hi : ops[i]? = some oi := by exact rfl) (hN : oi.dst = N := by exact rfl) (hc : readyB md ops (bits n m) (bits n (m ||| 1 <<< i)) i = true := by kernel_rfl) (hd : i ∈ ds := by decide) : wpAnyLast P md ops Q S ds (fuel + 1) (bits n m) a w :=
  last_ _ hi hN hc hd h
end
end Go.Proofs.Ytchellnfenekaaa.Pm
end
section
namespace Go.Proofs.Ytchellnfenekaaa.Pm
open Go.RowKit Go.Proofs.YtchellnfenekaaaW.PrintWords Go.Proofs.YtchellnfenekaaaW.PrintLast Go.Proofs.YtchellnfenekaaaW.PrintMore
attribute [local go_sem] max2_int min2_int max_two min_two max_three min_three max_four min_four   -- for this text's walks alone
set_option linter.unusedVariables false
set_option linter.unusedSimpArgs false
theorem R_of_cells {α : Type} {d : Kd α} {e base g n cap : Nat} {w : World} {cur : Array Value} {xs : List α} (hb : base ≤ g) (hg : w.heap[g]? = some (.cells cur e (0, 0))) (hn : n = xs.length) (hnc : n ≤ cap) (hcm : cap ≤ maxLen) (hcs : cur.size = cap * d.sz)
    (hx : ∀ (j : Nat) (p : α), xs[j]? = some p → ∃ cs, cs.length = d.sz ∧ (∀ (i : Nat) (u : Value), cs[i]? = some u → cur[j * d.sz + i]? = some u) ∧ d.M w base (fun k => True ∧ k ≠ g) p cs) : d.R e w base (fun _ => True) (.slice (some ⟨g, 0, none⟩) n cap) xs := by
  subst hn
  have hle : xs.length * d.sz ≤ cur.size := by rw [hcs]; exact Nat.mul_le_mul_right _ hnc
  have hil : (cur.toList.take (xs.length * d.sz)).length = xs.length * d.sz := by rw [List.length_take, Array.length_toList]; exact Nat.min_eq_left hle
  refine ⟨fun _ _ => trivial, cur.toList.take (xs.length * d.sz), ⟨hil, .inr ⟨g, cap, cur, rfl, hb, hg, hnc, hcm, hcs, rfl⟩⟩, hil, fun j p hj => ?_⟩
  obtain ⟨cs, h1, h2, h3⟩ := hx j p hj
  have hjl := (List.getElem?_eq_some_iff.1 hj).1
  have hjs : j * d.sz + d.sz ≤ xs.length * d.sz := by
    have := Nat.mul_le_mul_right d.sz (show j + 1 ≤ xs.length from hjl)
    rwa [Nat.succ_mul] at this
  have e1 : ((cur.toList.take (xs.length * d.sz)).drop (j * d.sz)).take d.sz = cs := by
    apply List.ext_getElem?
    intro i
    rw [List.getElem?_take]
    by_cases hi : i < d.sz
    · rw [if_pos hi, List.getElem?_drop, List.getElem?_take, if_pos (by omega)]
      have hc := h2 i cs[i] (List.getElem?_eq_getElem (by omega))
      rw [Array.getElem?_toList, hc, List.getElem?_eq_getElem (by omega)]
    · rw [if_neg hi]
      exact (List.getElem?_eq_none (by omega)).symm
  rw [e1]
  exact d.M_mono (fun k hk => ⟨trivial, fun e => hk.2 (by simpa [Value.ownBlock] using e)⟩) h3
/-- A row of raw elements, by its block. -/
theorem raw_cells {m e base n : Nat} {w : World} {v : Value} {rows : List (List Value)} (h : Kd.R (kRaw m) e w base (fun _ => True) v rows) (hn : n = rows.length) (hp : 0 < n) : ∃ g cap cur, v = .slice (some ⟨g, 0, none⟩) n cap ∧ base ≤ g ∧ w.heap[g]? = some (.cells cur e (0, 0)) ∧ n ≤ cap ∧ cap ≤ maxLen ∧ cur.size = cap * m ∧ ∀ (j : Nat) (cs : List Value), rows[j]? = some cs → ∀ (i : Nat) (u : Value), cs[i]? = some u → cur[j * m + i]? = some u := by
  subst hn
  obtain ⟨_, inner, ⟨hl, hor⟩, hrep⟩ := h
  rcases hor with ⟨-, h0⟩ | ⟨g, cap, cur, hv, hb, hg, hnc, hcm, hcs, ht⟩
  · omega
  · refine ⟨g, cap, cur, hv, hb, hg, hnc, hcm, hcs, fun j cs hj i u hu => ?_⟩
    obtain ⟨h1, h2, -⟩ := hrep.2 j cs hj
    have him : i < m := by
      have := (List.getElem?_eq_some_iff.1 hu).1
      omega
    have hz : (kRaw m).sz = m := rfl
    rw [← h1, List.getElem?_take, hz, if_pos him, List.getElem?_drop, ← ht, List.getElem?_take] at hu
    split at hu
    · rwa [Array.getElem?_toList] at hu
    · cases hu
theorem R_zero {α : Type} {d : Kd α} {m e base : Nat} {w : World} {v : Value} (hm : d.sz = m) (h : Kd.R (kRaw m) e w base (fun _ => True) v []) : d.R e w base (fun _ => True) v [] := by
  obtain ⟨_, inner, ho, hrep⟩ := h
  have hi : inner = [] := by
    have := hrep.1
    simp at this
    exact this
  subst hi
  subst hm
  exact ⟨fun _ _ => trivial, [], ho, by simp, fun j p hj => by simp at hj⟩
def cpInv (w wr : World) (g cap : Nat) (l : List (S29)) (i : Nat) : Prop := ∃ cur, wr.heap[g]? = some (.cells cur 29 (0, 0)) ∧ cur.size = cap * 2 ∧ Below w.heap.size w wr ∧ g < wr.heap.size ∧ ∀ (j : Nat) (p : S29), l[j]? = some p → ∃ u0 u1, cur[j * 2]? = some u0 ∧ cur[j * 2 + 1]? = some u1 ∧ (if j < i then Kd.M k29 wr w.heap.size (fun k => True ∧ k ≠ g) p [u0, u1] else Kd.K k29 w p [u0, u1])
set_option maxHeartbeats 8000000 in
set_option maxRecDepth 100000 in
theorem copied_any (w : World) (A : Option Addr) (c : Nat) (l : List (S29)) (hr : Kd.C k29 w A l.length l) (hc : l.length ≤ c) (hl : l.length * 48 ≤ 140737488355328) (hs : ∀ s ∈ l, s.f0.length * 24 ≤ 140737488355328 ∧ s.f1.length * 40 ≤ 140737488355328) :
    Calls Try.prog 48 #[.slice A l.length c] w fun e w' => ∃ v, e = .returned v ∧ Kd.R k29 29 w' w.heap.size (fun _ => True) v l ∧ Below w.heap.size w w' := by
  have hu29 := Try.underlying29
  obtain ⟨rows, hrl, hrC, hrK⟩ := C_raw hr
  have hcl := cl_sentry w A c rows (by rw [hrl]; exact hrC) (by omega) (by rw [hrl]; exact hl)
  rw [hrl] at hcl
  obtain ⟨n, hn⟩ : ∃ n, n = l.length := ⟨_, rfl⟩
  rw [← hn] at hcl hrl hl ⊢
  have HN := Lib.hid hn
  have HRL := Lib.hid hrl
  have HRK := Lib.hid hrK
  have HS := Lib.hid hs
  clear hr hc hrC hrK hn hrl hs
  go_enter Try.func48, Try.ntmps48
  go_wp2_with fail
  refine hcl.mono ?_
  rintro e w1 ⟨v, rfl, hR, hb⟩
  rcases Nat.eq_zero_or_pos n with h0 | hp
  · have hr0 : rows = [] := List.eq_nil_of_length_eq_zero (by rw [HRL.out, h0])
    have hl0 : l = [] := List.eq_nil_of_length_eq_zero (by rw [← HN.out, h0])
    rw [hr0] at hR
    obtain ⟨A1, c1, rfl⟩ := Kd.R_slice hR
    have HF : Hid (Kd.R k29 29 w1 w.heap.size (fun _ => True) (.slice A1 0 c1) l ∧ Below w.heap.size w w1) := Lib.hid ⟨by rw [hl0]; exact R_zero rfl hR, hb⟩
    clear hR hb hcl hr0 hl0 h0
    go_wp2
    go_loopg [9] 0 (fun gg s9 wr => s9 = .int .i64 0 ∧ wr = w1)
    case atStart => exact ⟨rfl, rfl⟩
    case round =>
      obtain ⟨rfl, rfl⟩ := hrel
      go_wp2
      go_ret
      exact ⟨_, rfl, HF.out.1, HF.out.2⟩
  · obtain ⟨g, cap, cur, rfl, hgb, hg, hnc, hcm, hcs, hcur⟩ := raw_cells hR (HRL.out).symm hp
    have HI : Hid (cpInv w w1 g cap l 0) := Lib.hid ⟨cur, hg, hcs, hb, blk_lt hg, fun j p hj => by
      obtain ⟨cs, h1, h2⟩ := HRK.out j p hj
      obtain ⟨B0, d0, B1, d1, rfl, h3⟩ := k29_open h2
      exact ⟨_, _, hcur j _ h1 0 _ rfl, hcur j _ h1 1 _ rfl, by rw [if_neg (by omega)]; exact h2⟩⟩
    have HG := Lib.hid (And.intro hgb (And.intro hnc hcm))
    clear hR hb hcl hgb hg hnc hcm hcs hcur
    go_wp2
    go_loopg [9] n (fun gg s9 wr => ∃ i : Nat, s9 = .int .i64 i ∧ i ≤ n ∧ n - i ≤ gg ∧ Hid (cpInv w wr g cap l i))
    case atStart => exact ⟨0, rfl, by omega, by omega, HI⟩
    case round =>
      obtain ⟨i, rfl, hin, hig, X⟩ := hrel
      obtain ⟨wO, rfl⟩ : ∃ wO, wO = wr := ⟨_, rfl⟩
      by_cases hlt : i < n
      case neg =>
        have hltz : ¬ (i : Int) < (n : Int) := by omega
        obtain ⟨cur, hg, hcs, hb, hgl, hx⟩ := X.out
        have HF : Hid (Kd.R k29 29 wO w.heap.size (fun _ => True) (.slice (some ⟨g, 0, none⟩) n cap) l ∧ Below w.heap.size w wO) := Lib.hid ⟨R_of_cells HG.out.1 hg HN.out HG.out.2.1 HG.out.2.2 hcs (fun j p hj => by
          obtain ⟨u0, u1, h1, h2, h3⟩ := hx j p hj
          have hjl := (List.getElem?_eq_some_iff.1 hj).1
          rw [if_pos (by have := HN.out; omega)] at h3
          refine ⟨[u0, u1], rfl, fun i u hu => ?_, h3⟩
          match i, hu with
          | 0, hu => cases hu; exact h1
          | 1, hu => cases hu; exact h2
          | i + 2, hu => simp at hu), hb⟩
        clear X hg hcs hb hgl hx
        go_wp2
        go_ret
        exact ⟨_, rfl, HF.out.1, HF.out.2⟩
      have hltz : (i : Int) < (n : Int) := by omega
      obtain ⟨cur, hg, hcs, hb, hgl, hx⟩ := X.out
      have hil : i < l.length := by have := HN.out; omega
      obtain ⟨s, hsx⟩ : ∃ s, s = l[i] := ⟨_, rfl⟩
      have hsg : l[i]? = some s := by rw [hsx, List.getElem?_eq_getElem hil]
      obtain ⟨u0, u1, h1, h2, h3⟩ := hx i s hsg
      rw [if_neg (by omega)] at h3
      obtain ⟨B0, d0, B1, d1, e, hl0, hC0, hl1, hC1⟩ := k29_open h3
      obtain ⟨rfl, rfl⟩ : u0 = .slice B0 s.f0.length d0 ∧ u1 = .slice B1 s.f1.length d1 := by simpa using e
      have hb0 := HS.out s (by rw [hsx]; exact List.getElem_mem _)
      have hx0 : wO.cell? ⟨g, i * 2, none⟩ = some (.slice B0 s.f0.length d0) := (blk_cell hg _).trans h1
      have hx1 : wO.cell? ⟨g, i * 2 + 1, none⟩ = some (.slice B1 s.f1.length d1) := (blk_cell hg _).trans h2
      have hf0 := blk_frozen hg (i * 2)
      have hf1 := blk_frozen hg (i * 2 + 1)
      obtain ⟨n0, hn0⟩ : ∃ n0, n0 = s.f0.length := ⟨_, rfl⟩
      obtain ⟨n1, hn1⟩ : ∃ n1, n1 = s.f1.length := ⟨_, rfl⟩
      obtain ⟨W1, hW1⟩ : ∃ W1, W1 = wO.alloc (.cells #[.slice B0 n0 d0, .slice B1 n1 d1] 29) := ⟨_, rfl⟩
      have hbW : Below wO.heap.size wO W1 := by rw [hW1]; exact below_alloc (Below.refl _ _) _
      have hgW : W1.heap[wO.heap.size]? = some (.cells #[.slice B0 n0 d0, .slice B1 n1 d1] 29 (0, 0)) := by rw [hW1]; exact heap_alloc_new wO _
      have HX := Lib.hid (And.intro hg (And.intro hcs (And.intro hb (And.intro hgl hx))))
      have HC := Lib.hid (And.intro hl0 (And.intro hC0 (And.intro hl1 (And.intro hC1 hb0))))
      have HW := Lib.hid hW1
      have HBW := Lib.hid hbW
      have HGW := Lib.hid hgW
      have HSX := Lib.hid (And.intro hsg (And.intro hn0 hn1))
      have HU := Lib.hid (And.intro h1 h2)
      rw [← hn0] at hx0
      rw [← hn1] at hx1
      clear X hg hcs hb hgl hx hil hsg h1 h2 h3 e hl0 hC0 hl1 hC1 hb0 hW1 hbW hgW hsx hn0 hn1
      go_wp2
      rw [← HW.out]
      clear hx0 hx1
      have hc0 := (blk_cell HGW.out 0).trans rfl
      have hc1 := (blk_cell HGW.out 1).trans rfl
      refine sD_ [10] (fun w' => w'.cell? ⟨wO.heap.size, 0, none⟩ = some (.slice B0 n0 d0) ∧ w'.cell? ⟨wO.heap.size, 1, none⟩ = some (.slice B1 n1 d1)) 11 ⟨hc0, hc1⟩ (fun hHeld => ?_)
      have hbD : Below wO.heap.size wO W1.drew := below_drew1 HBW.out
      have hgD : W1.drew.heap[wO.heap.size]? = some (.cells #[.slice B0 n0 d0, .slice B1 n1 d1] 29 (0, 0)) := HGW.out
      clear hc0 hc1
      generalize W1.drew = wD at hHeld hbD hgD ⊢
      refine pu_ 0 (some 14) ?_
      refine pu_ 1 (some 15) ?_
      refine pu_ 2 (some 16) ?_
      refine tk_ 3 (some 17) hHeld ?_ (hy := by rintro w' ⟨s0, s1⟩; go_simp; with_reducible rfl)
      refine pu_ 5 (some 19) ?_
      refine tk_ 6 (some 20) hHeld ?_ (hy := by rintro w' ⟨s0, s1⟩; go_simp; with_reducible rfl)
      have hbw : Below w.heap.size w wD := below_then HX.out.2.2.1 HX.out.2.2.1.size hbD
      have hcl1 := cl_on wD B0 d0 s.f0 (Kd.C_below HC.out.2.1 hbw) HC.out.1 HC.out.2.2.2.2.1
      rw [← HSX.out.2.1] at hcl1
      refine ca_ 4 (some 18) Try.func65 #[.slice B0 n0 d0] ?_
      refine hcl1.mono ?_
      rintro e w3 ⟨v3, rfl, hR3, hb3⟩
      obtain ⟨A3, c3, rfl⟩ := Kd.R_slice hR3
      rw [← HSX.out.2.1] at hR3 ⊢
      have hg3 := blk_below hgD hb3
      have hbD3 := below_then hbD hbD.size hb3
      have hbw3 := below_then hbw hbw.size hb3
      have hzD : wO.heap.size < wD.heap.size := blk_lt hgD
      refine ⟨_, rfl, ⟨(blk_cell hg3 0).trans rfl, (blk_cell hg3 1).trans rfl⟩, fun hHeld => ⟨_, rfl, nz_ (some 18) ?_⟩⟩
      have hcl2 := cl_cond w3 B1 d1 s.f1 (Kd.C_below HC.out.2.2.2.1 hbw3) HC.out.2.2.1 HC.out.2.2.2.2.2
      rw [← HSX.out.2.2] at hcl2
      refine ca_ 7 (some 21) Try.func66 #[.slice B1 n1 d1] ?_
      refine hcl2.mono ?_
      rintro e w4 ⟨v4, rfl, hR4, hb4⟩
      obtain ⟨A4, c4, rfl⟩ := Kd.R_slice hR4
      rw [← HSX.out.2.2] at hR4 ⊢
      have hg4 := blk_below hg3 hb4
      have hbD4 := below_then hbD3 hbD3.size hb4
      have hR34 := Kd.R_below hR3 hb4
      have hz3 : wD.heap.size ≤ w3.heap.size := hb3.size
      refine ⟨_, rfl, ⟨(blk_cell hg4 0).trans rfl, (blk_cell hg4 1).trans rfl⟩, fun hHeld => ⟨_, rfl, nz_ (some 21) ?_⟩⟩
      refine pu_ 8 (some 22) ?_
      refine pu_ 9 (some 23) ?_
      have hgO := blk_below HX.out.1 hbD4
      have hx0 := (blk_cell hgO (i * 2)).trans HU.out.1
      have hx1 := (blk_cell hgO (i * 2 + 1)).trans HU.out.2
      rw [← HSX.out.2.1] at hx0
      rw [← HSX.out.2.2] at hx1
      have hf0 := blk_frozen hgO (i * 2)
      have hf1 := blk_frozen hgO (i * 2 + 1)
      refine lA_ 10 none (fun K hK => ?_)
      go_simp
      have HF : Hid (cpInv w ((w4.setCell ⟨g, i * 2, none⟩ (.slice A3 n0 c3)).setCell ⟨g, i * 2 + 1, none⟩ (.slice A4 n1 c4)) g cap l (i + 1)) := Lib.hid (by
        have hgw : w.heap.size ≤ g := HG.out.1
        have hgO' : g < wO.heap.size := HX.out.2.2.2.1
        have hsz : ∀ q, i * 2 = q → q < cur.size := fun q e => by
          have := (Array.getElem?_eq_some_iff.1 HU.out.1).1
          omega
        refine ⟨(cur.setIfInBounds (i * 2) (.slice A3 n0 c3)).setIfInBounds (i * 2 + 1) (.slice A4 n1 c4), blk_put (blk_put hgO (i * 2) (.slice A3 n0 c3) rfl) (i * 2 + 1) (.slice A4 n1 c4) rfl, by simp only [Array.size_setIfInBounds]; exact HX.out.2.1, ((below_then HX.out.2.2.1 HX.out.2.2.1.size hbD4).setCell hgw _).setCell hgw _, ?_, fun j p hj => ?_⟩
        · have := hbD4.size
          simp only [World.setCell]
          simpa [World.setCell] using Nat.lt_of_lt_of_le hgO' this
        · by_cases hji : j = i
          · subst hji
            obtain rfl : s = p := Option.some.inj (HSX.out.1.symm.trans hj)
            have l0 := (Array.getElem?_eq_some_iff.1 HU.out.1).1
            have l1 := (Array.getElem?_eq_some_iff.1 HU.out.2).1
            refine ⟨.slice A3 n0 c3, .slice A4 n1 c4, ?_, ?_, ?_⟩
            · rw [Array.getElem?_setIfInBounds_ne (by omega), Array.getElem?_setIfInBounds_self_of_lt l0]
            · rw [Array.getElem?_setIfInBounds_self_of_lt (by simpa using l1)]
            · rw [if_pos (by omega)]
              have far : ∀ {α : Type} {d : Kd α} {e base : Nat} {v : Value} {xs : List α}, g < base → w.heap.size ≤ base → d.R e w4 base (fun _ => True) v xs → d.R e ((w4.setCell ⟨g, j * 2, none⟩ (.slice A3 n0 c3)).setCell ⟨g, j * 2 + 1, none⟩ (.slice A4 n1 c4)) w.heap.size (fun k => True ∧ k ≠ g) v xs := fun hg1 hg2 h =>
                Kd.R_lower (Kd.R_mono (Kd.R_far (Kd.R_far (Kd.R_bound h) (p := ⟨g, j * 2, none⟩) (fun k hk => by have := hk.2.1; show k ≠ g; omega) _) (p := ⟨g, j * 2 + 1, none⟩) (fun k hk => by have := hk.2.1; show k ≠ g; omega) _) (fun k hk => ⟨trivial, by have := hk.2.1; omega⟩)) hg2
              exact k29_mkM _ _ _ _ (far (by omega) (by omega) hR34) (far (by omega) (by omega) hR4)
          · obtain ⟨u0, u1, h1, h2, h3⟩ := HX.out.2.2.2.2 j p hj
            refine ⟨u0, u1, ?_, ?_, ?_⟩
            · rw [Array.getElem?_setIfInBounds_ne (by omega), Array.getElem?_setIfInBounds_ne (by omega)]; exact h1
            · rw [Array.getElem?_setIfInBounds_ne (by omega), Array.getElem?_setIfInBounds_ne (by omega)]; exact h2
            · by_cases hlt' : j < i
              · rw [if_pos hlt'] at h3
                rw [if_pos (by omega)]
                exact Kd.M_step h3 (fun k hk hkl => (Below.heap_setCell _ _ _ _ hk.2).trans ((Below.heap_setCell _ _ _ _ hk.2).trans (hbD4.block k hkl)))
              · rw [if_neg hlt'] at h3
                rw [if_neg (by omega)]
                exact h3)
      refine hK.out _ _ ?_
      clear hK K hx0 hx1 hf0 hf1 hgO hR3 hR4 hR34 hg3 hg4 hHeld hcl1 hcl2
      refine dn_ ?_
      go_wp2
      go_roundg (n - (i + 1))
      case measure => omega
      case rel => exact ⟨i + 1, by go_num, by omega, by omega, HF⟩
end Go.Proofs.Ytchellnfenekaaa.Pm
end
section
namespace Go.Proofs.Ytchellnfenekaaa.Pm
open Go.RowKit Go.Proofs.YtchellnfenekaaaW.PrintWords Go.Proofs.YtchellnfenekaaaW.PrintLast Go.Proofs.YtchellnfenekaaaW.PrintMore
attribute [local go_sem] max2_int min2_int max_two min_two max_three min_three max_four min_four   -- for this text's walks alone
set_option linter.unusedVariables false
set_option linter.unusedSimpArgs false
def wideSents (l : List (S29)) : Prop := l.length * 48 ≤ 140737488355328 ∧ ∀ s ∈ l, s.f0.length * 24 ≤ 140737488355328 ∧ s.f1.length * 40 ≤ 140737488355328
def wideItem (x : S32) : Prop := wideSents x.f5 ∧ wideSents x.f6
def CopyPost (w : World) (fs : List ByteArray) (l : List (S32)) (e : Ending) (w' : World) : Prop := ∃ v0 v1, e = .returned (.agg #[v0, v1]) ∧ Kd.R Kd.string 9 w' w.heap.size (fun _ => True) v0 fs ∧ Kd.R k32 32 w' w.heap.size (fun _ => True) v1 l ∧ Below w.heap.size w w'
def cyInv (w wr : World) (B g cap : Nat) (l : List (S32)) (i : Nat) : Prop := ∃ cur, wr.heap[g]? = some (.cells cur 32 (0, 0)) ∧ cur.size = cap * 7 ∧ g < wr.heap.size ∧ ∀ (j : Nat) (x : S32), l[j]? = some x → ∃ u5 u6, (cur[j * 7]? = some (.string x.f0) ∧ cur[j * 7 + 1]? = some (.int .i64 x.f1) ∧ cur[j * 7 + 2]? = some (.string x.f2) ∧ cur[j * 7 + 3]? = some (.bool x.f3) ∧ cur[j * 7 + 4]? = some (.int .i64 x.f4) ∧ cur[j * 7 + 5]? = some u5 ∧ cur[j * 7 + 6]? = some u6) ∧ (if j < i then Kd.R k29 29 wr B (fun k => True ∧ k ≠ g) u5 x.f5 ∧ Kd.R k29 29 wr B (fun k => True ∧ k ≠ g) u6 x.f6 else ∃ A5 c5 A6 c6, u5 = .slice A5 x.f5.length c5 ∧ u6 = .slice A6 x.f6.length c6 ∧ x.f5.length ≤ c5 ∧ Kd.C k29 w A5 x.f5.length x.f5 ∧ x.f6.length ≤ c6 ∧ Kd.C k29 w A6 x.f6.length x.f6)
set_option maxHeartbeats 16000000 in
set_option maxRecDepth 100000 in
theorem copy_any (w : World) (A0 : Option Addr) (c0 : Nat) (fs : List ByteArray) (A1 : Option Addr) (c1 : Nat) (l : List (S32)) (hr0 : Kd.C Kd.string w A0 fs.length fs) (hc0 : fs.length ≤ c0) (hr1 : Kd.C k32 w A1 l.length l) (hc1 : l.length ≤ c1) (hf : fs.length * 16 ≤ 140737488355328) (hl : l.length * 104 ≤ 140737488355328) (hw : ∀ x ∈ l, wideItem x) :
    Calls Try.prog 25 #[.agg #[.slice A0 fs.length c0, .slice A1 l.length c1]] w (CopyPost w fs l) := by
  have hu36 := Try.underlying36
  have hu32 := Try.underlying32
  obtain ⟨rows, hrl, hrC, hrK⟩ := C_raw hr1
  obtain ⟨wA, hwA⟩ : ∃ wA, wA = w.alloc (.cells #[.slice A0 fs.length c0, .slice A1 l.length c1] 36) := ⟨_, rfl⟩
  obtain ⟨wB, hwB⟩ : ∃ wB, wB = wA.alloc (.cells #[.slice none 0 0, .slice none 0 0] 36) := ⟨_, rfl⟩
  have hbA : Below w.heap.size w wA := by rw [hwA]; exact below_alloc (Below.refl _ _) _
  have hbB : Below w.heap.size w wB := by rw [hwB]; exact below_alloc hbA _
  have hzA : wA.heap.size = w.heap.size + 1 := by rw [hwA]; simp
  have hgA : wB.heap[w.heap.size]? = some (.cells #[.slice A0 fs.length c0, .slice A1 l.length c1] 36 (0, 0)) := by rw [hwB]; exact blk_below (by rw [hwA]; exact heap_alloc_new w _) (below_alloc (Below.refl _ _) _)
  have hgB : wB.heap[w.heap.size + 1]? = some (.cells #[.slice none 0 0, .slice none 0 0] 36 (0, 0)) := by rw [hwB, ← hzA]; exact heap_alloc_new wA _
  have hzB : w.heap.size + 1 < wB.heap.size := blk_lt hgB
  obtain ⟨n0, hn0⟩ : ∃ n0, n0 = fs.length := ⟨_, rfl⟩
  obtain ⟨n, hn⟩ : ∃ n, n = l.length := ⟨_, rfl⟩
  have hcl0 : ∀ W, Below w.heap.size w W → _ := fun W hb => cl_str W A0 c0 fs (Kd.C_below hr0 hb) hc0 hf
  have hcl1 : ∀ W, Below w.heap.size w W → _ := fun W hb => cl_item W A1 c1 rows (by rw [hrl]; exact Kd.C_below hrC hb) (by rw [hrl]; exact hc1) (by rw [hrl]; exact hl)
  rw [← hn0] at hcl0 hgA hwA ⊢
  rw [hrl] at hcl1
  rw [← hn] at hcl1 hgA hwA hl ⊢
  have HW := Lib.hid (And.intro hwA hwB)
  have HBB := Lib.hid hbB
  have HG := Lib.hid (And.intro hgA hgB)
  have HCL0 := Lib.hid hcl0
  have HCL1 := Lib.hid hcl1
  have HN := Lib.hid (And.intro hn0 hn)
  have HRL := Lib.hid (hrl.trans hn.symm)
  have HRK := Lib.hid hrK
  have HWI := Lib.hid hw
  clear hr0 hc0 hr1 hc1 hf hw hrl hrC hrK hwA hwB hbA hbB hzA hgA hgB hn0 hn hcl0 hcl1
  go_enter Try.func25, Try.ntmps25
  go_wp2
  rw [← HW.out.1, ← HW.out.2]
  have hc_0 := (blk_cell HG.out.1 0).trans rfl
  have hc_1 := (blk_cell HG.out.1 1).trans rfl
  refine sD_ [7, 9] (fun w' => w'.cell? ⟨w.heap.size, 0, none⟩ = some (.slice A0 n0 c0) ∧ w'.cell? ⟨w.heap.size, 1, none⟩ = some (.slice A1 n c1)) 10 ⟨hc_0, hc_1⟩ (fun hHeld => ?_)
  have hbD : Below wB.heap.size wB wB.drew := below_drew1 (Below.refl _ _)
  clear hc_0 hc_1
  generalize wB.drew = wD at hHeld hbD ⊢
  refine pu_ 0 (some 5) ?_
  refine tk_ 1 (some 6) hHeld ?_ (hy := by rintro w' ⟨s0, s1⟩; go_simp; with_reducible rfl)
  refine pu_ 3 (some 8) ?_
  refine tk_ 4 (some 9) hHeld ?_ (hy := by rintro w' ⟨s0, s1⟩; go_simp; with_reducible rfl)
  refine ca_ 2 (some 7) Try.func46 #[.slice A0 n0 c0] ?_
  refine (HCL0.out wD (keepb hbD HBB.out)).mono ?_
  rintro e w2 ⟨v0, rfl, hR2, hb2⟩
  obtain ⟨F0, d0, rfl⟩ := Kd.R_slice hR2
  rw [← HN.out.1] at hR2 ⊢
  have hbB2 := below_then hbD hbD.size hb2
  have hg2 := blk_below HG.out.1 hbB2
  refine ⟨_, rfl, ⟨(blk_cell hg2 0).trans rfl, (blk_cell hg2 1).trans rfl⟩, fun hHeld => ⟨_, rfl, nz_ (some 7) ?_⟩⟩
  refine pu_ 6 (some 11) ?_
  refine ca_ 5 (some 10) Try.func47 #[.slice A1 n c1] ?_
  refine (HCL1.out w2 (keepb hbB2 HBB.out)).mono ?_
  rintro e w3 ⟨v1, rfl, hR3, hb3⟩
  have hbB3 := below_then hbB2 hbB2.size hb3
  have hg3 := blk_below HG.out.1 hbB3
  have hR23 := Kd.R_below hR2 hb3
  obtain ⟨F1, d1, rfl⟩ := Kd.R_slice hR3
  rw [HRL.out] at hR3 ⊢
  refine ⟨_, rfl, ⟨(blk_cell hg3 0).trans rfl, (blk_cell hg3 1).trans rfl⟩, fun hHeld => ⟨_, rfl, nz_ (some 10) ?_⟩⟩
  have hcz := (blk_cell hg3 0).trans rfl
  have hfz := blk_frozen hg3 0
  refine lA_ 7 none (fun K hK => ?_)
  go_simp
  refine hK.out _ _ ?_
  clear hK K
  refine pu_ 8 (some 12) ?_
  have hg4 := blk_put hg3 0 (.slice F0 n0 d0) rfl
  have hcz1 := (blk_cell hg4 1).trans rfl
  have hfz1 := blk_frozen hg4 1
  clear hcz hfz
  refine lA_ 9 none (fun K hK => ?_)
  go_simp
  have hgE := blk_put hg4 1 (.slice F1 n d1) rfl
  have hgB3 := blk_below HG.out.2 hbB3
  have hbw3 := keepb hbB3 HBB.out
  obtain ⟨wE, hwE⟩ : ∃ wE, wE = (w3.setCell ⟨w.heap.size, 0, none⟩ (.slice F0 n0 d0)).setCell ⟨w.heap.size, 1, none⟩ (.slice F1 n d1) := ⟨_, rfl⟩
  rw [← hwE] at hgE ⊢
  have hsE : ∀ k, k ≠ w.heap.size → wE.heap[k]? = w3.heap[k]? := fun k hk => by rw [hwE]; exact (Below.heap_setCell _ _ _ _ hk).trans (Below.heap_setCell _ _ _ _ hk)
  have hgE2 : wE.heap[w.heap.size + 1]? = some (.cells #[.slice none 0 0, .slice none 0 0] 36 (0, 0)) := (hsE _ (by omega)).trans hgB3
  have hbE : Below w.heap.size w wE := by rw [hwE]; exact (hbw3.setCell (Nat.le_refl _) _).setCell (Nat.le_refl _) _
  have hzE : wE.heap.size = w3.heap.size := by rw [hwE]; simp [World.setCell]
  have hD2 : wD.heap.size ≤ w2.heap.size := hb2.size
  have hE2 : w2.heap.size ≤ wE.heap.size := by rw [hzE]; exact hb3.size
  have hBD : wB.heap.size ≤ wD.heap.size := hbD.size
  have hRF : Kd.R Kd.string 9 wE wB.heap.size (fun k => k < w2.heap.size) (.slice F0 n0 d0) fs := by
    refine Kd.R_lower (Kd.R_mono (Kd.R_step (Kd.R_bound (Kd.R_below (Kd.R_mono (Kd.R_bound hR2) (ok' := fun k => wD.heap.size ≤ k ∧ k < w2.heap.size) (fun k hk => ⟨hk.2.1, hk.2.2.1⟩)) hb3)) (fun k hk _ => hsE k (by have := hk.1.1; omega))) (fun k hk => hk.1.2)) hBD
  have hRI : Kd.R (kRaw 7) 32 wE w2.heap.size (fun _ => True) (.slice F1 n d1) rows := Kd.R_mono (Kd.R_step (Kd.R_bound hR3) (fun k hk _ => hsE k (by have := hk.2.1; omega))) (fun _ _ => trivial)
  refine hK.out _ _ ?_
  clear hK K hcz1 hfz1 hg4 hg3 hg2 hR2 hR3 hR23 hHeld hb2 hb3 hbB2 hbB3 hgB3 hbw3 hbD hwE
  have HRF := Lib.hid hRF
  have HBE := Lib.hid hbE
  have HGE := Lib.hid (And.intro hgE hgE2)
  refine dn_ ?_
  have hk_0 := (blk_cell HGE.out.1 0).trans rfl
  have hk_1 := (blk_cell HGE.out.1 1).trans rfl
  clear hsE hgE hgE2 hbE hRF hzE
  have rset : ∀ {W : World} {α : Type} {d : Kd α} {e : Nat} {ok : Nat → Prop} {v : Value} {xs : List α} {i : Nat} {u : Value}, d.R e W wB.heap.size ok v xs → d.R e (W.setCell ⟨w.heap.size + 1, i, none⟩ u) wB.heap.size ok v xs := fun h => Kd.R_mono (Kd.R_far (Kd.R_bound h) (fun k hk => by have := hk.2.1; show k ≠ w.heap.size + 1; omega) _) (fun _ hk => hk.1)
  rcases Nat.eq_zero_or_pos n with h0 | hp
  · have hr0 : rows = [] := List.eq_nil_of_length_eq_zero (by rw [HRL.out, h0])
    have hl0 : l = [] := List.eq_nil_of_length_eq_zero (by rw [← HN.out.2, h0])
    rw [hr0] at hRI
    have hRIo : Kd.R k32 32 wE wB.heap.size (fun _ => True) (.slice F1 n d1) l := by rw [hl0]; exact Kd.R_lower (R_zero rfl hRI) (by omega)
    rw [h0] at hRIo
    have HRIo := Lib.hid hRIo
    have hg1 := HGE.out.1
    rw [h0] at hg1
    have HG1 := Lib.hid hg1
    clear hRI hr0 hl0 hRIo hg1
    subst h0
    go_wp2
    clear hk_0 hk_1
    go_loopg [16] 0 (fun gg s16 wr => s16 = .int .i64 0 ∧ wr = wE)
    case atStart => exact ⟨rfl, rfl⟩
    case round =>
      obtain ⟨rfl, rfl⟩ := hrel
      have hRFo := HRF.out
      have hRIo := HRIo.out
      have hbo := HBE.out
      have hg1 := HG1.out
      have hg2 := HGE.out.2
      have HFIN : Hid (Kd.R Kd.string 9 ((wr.setCell ⟨w.heap.size + 1, 0, none⟩ (.slice F0 n0 d0)).setCell ⟨w.heap.size + 1, 1, none⟩ (.slice F1 0 d1)) w.heap.size (fun _ => True) (.slice F0 n0 d0) fs ∧ Kd.R k32 32 ((wr.setCell ⟨w.heap.size + 1, 0, none⟩ (.slice F0 n0 d0)).setCell ⟨w.heap.size + 1, 1, none⟩ (.slice F1 0 d1)) w.heap.size (fun _ => True) (.slice F1 0 d1) l ∧ Below w.heap.size w ((wr.setCell ⟨w.heap.size + 1, 0, none⟩ (.slice F0 n0 d0)).setCell ⟨w.heap.size + 1, 1, none⟩ (.slice F1 0 d1))) := Lib.hid ⟨Kd.R_mono (Kd.R_lower (rset (rset hRFo)) (by omega)) (fun _ _ => trivial), Kd.R_lower (rset (rset hRIo)) (by omega), (hbo.setCell (Nat.le_succ _) _).setCell (Nat.le_succ _) _⟩
      have HGF := Lib.hid (blk_put (blk_put hg2 0 (.slice F0 n0 d0) rfl) 1 (.slice F1 0 d1) rfl)
      have hx_0 := (blk_cell hg1 0).trans rfl
      have hx_1 := (blk_cell hg1 1).trans rfl
      have hz_0 := (blk_cell hg2 0).trans rfl
      have hz_1 := (blk_cell hg2 1).trans rfl
      have hq_0 := blk_frozen hg2 0
      have hq_1 := blk_frozen hg2 1
      clear hRFo hRIo hbo hg1 hg2
      go_wp2
      clear hx_0 hx_1 hz_0 hz_1 hq_0 hq_1
      refine bodyPost_ret (results_cell_row rfl _ _ (w.heap.size + 1) 36 #[.slice F0 n0 d0, (.slice F1 0 d1)] (0, 0) _ rfl HGF.out Try.underlying36 rfl (by kernel_rfl)) rfl ?_
      exact ⟨_, _, rfl, HFIN.out.1, HFIN.out.2.1, HFIN.out.2.2⟩
  · obtain ⟨g, cap, cur, e1, hgb, hg, hnc, hcm, hcs, hcur⟩ := raw_cells hRI HRL.out.symm hp
    cases e1
    have HI : Hid (cyInv w wE wB.heap.size g d1 l 0) := Lib.hid ⟨cur, hg, hcs, blk_lt hg, fun j x hj => by
      obtain ⟨cs, h1, h2⟩ := HRK.out j x hj
      obtain ⟨A5, c5, A6, c6, rfl, h5, hC5, h6, hC6⟩ := k32_open h2
      exact ⟨_, _, ⟨hcur j _ h1 0 _ rfl, hcur j _ h1 1 _ rfl, hcur j _ h1 2 _ rfl, hcur j _ h1 3 _ rfl, hcur j _ h1 4 _ rfl, hcur j _ h1 5 _ rfl, hcur j _ h1 6 _ rfl⟩, by rw [if_neg (by omega)]; exact ⟨A5, c5, A6, c6, rfl, rfl, h5, hC5, h6, hC6⟩⟩⟩
    have HGC := Lib.hid (And.intro hgb (And.intro hnc hcm))
    clear hRI hg hnc hcm hcs hcur
    go_wp2
    clear hk_0 hk_1
    go_loopg [16] n (fun gg s16 wr => ∃ i : Nat, s16 = .int .i64 i ∧ i ≤ n ∧ n - i ≤ gg ∧ Hid (cyInv w wr wB.heap.size g d1 l i ∧ Kept wE wr (fun k => k = g) ∧ Below w.heap.size w wr))
    case atStart => exact ⟨0, rfl, by omega, by omega, Lib.hid ⟨HI.out, Kept.refl _ _, HBE.out⟩⟩
    case round =>
      obtain ⟨i, rfl, hin, hig, X⟩ := hrel
      obtain ⟨wO, rfl⟩ : ∃ wO, wO = wr := ⟨_, rfl⟩
      by_cases hlt : i < n
      case neg =>
        have hltz : ¬ (i : Int) < (n : Int) := by omega
        obtain ⟨⟨cur, hg, hcs, hgl, hx⟩, hk, hbo⟩ := X.out
        have hg1 := (hk.2 _ (blk_lt HGE.out.1) (show ¬ w.heap.size = g by omega)).trans HGE.out.1
        have hg2 := (hk.2 _ (blk_lt HGE.out.2) (show ¬ w.heap.size + 1 = g by omega)).trans HGE.out.2
        have hRFo : Kd.R Kd.string 9 wO wB.heap.size (fun k => k < w2.heap.size) (.slice F0 n0 d0) fs := Kd.R_step HRF.out (fun k hk' hkl => hk.2 k hkl (show ¬ k = g by omega))
        have hRIo : Kd.R k32 32 wO wB.heap.size (fun _ => True) (.slice (some ⟨g, 0, none⟩) n d1) l := R_of_cells (by omega) hg HN.out.2 HGC.out.2.1 HGC.out.2.2 hcs (fun j p hj => by
          obtain ⟨u5, u6, ⟨q0, q1, q2, q3, q4, q5, q6⟩, h3⟩ := hx j p hj
          have hjl := (List.getElem?_eq_some_iff.1 hj).1
          rw [if_pos (by have := HN.out.2; omega)] at h3
          refine ⟨[.string p.f0, .int .i64 p.f1, .string p.f2, .bool p.f3, .int .i64 p.f4, u5, u6], rfl, fun i u hu => ?_, k32_mkM _ _ _ _ h3.1 h3.2⟩
          match i, hu with
          | 0, hu => cases hu; exact q0
          | 1, hu => cases hu; exact q1
          | 2, hu => cases hu; exact q2
          | 3, hu => cases hu; exact q3
          | 4, hu => cases hu; exact q4
          | 5, hu => cases hu; exact q5
          | 6, hu => cases hu; exact q6
          | i + 7, hu => simp at hu)
        clear X hg hcs hgl hx hk
        have HFIN : Hid (Kd.R Kd.string 9 ((wO.setCell ⟨w.heap.size + 1, 0, none⟩ (.slice F0 n0 d0)).setCell ⟨w.heap.size + 1, 1, none⟩ (.slice (some ⟨g, 0, none⟩) n d1)) w.heap.size (fun _ => True) (.slice F0 n0 d0) fs ∧ Kd.R k32 32 ((wO.setCell ⟨w.heap.size + 1, 0, none⟩ (.slice F0 n0 d0)).setCell ⟨w.heap.size + 1, 1, none⟩ (.slice (some ⟨g, 0, none⟩) n d1)) w.heap.size (fun _ => True) (.slice (some ⟨g, 0, none⟩) n d1) l ∧ Below w.heap.size w ((wO.setCell ⟨w.heap.size + 1, 0, none⟩ (.slice F0 n0 d0)).setCell ⟨w.heap.size + 1, 1, none⟩ (.slice (some ⟨g, 0, none⟩) n d1))) := Lib.hid ⟨Kd.R_mono (Kd.R_lower (rset (rset hRFo)) (by omega)) (fun _ _ => trivial), Kd.R_lower (rset (rset hRIo)) (by omega), (hbo.setCell (Nat.le_succ _) _).setCell (Nat.le_succ _) _⟩
        have HGF := Lib.hid (blk_put (blk_put hg2 0 (.slice F0 n0 d0) rfl) 1 (.slice (some ⟨g, 0, none⟩) n d1) rfl)
        have hx_0 := (blk_cell hg1 0).trans rfl
        have hx_1 := (blk_cell hg1 1).trans rfl
        have hz_0 := (blk_cell hg2 0).trans rfl
        have hz_1 := (blk_cell hg2 1).trans rfl
        have hq_0 := blk_frozen hg2 0
        have hq_1 := blk_frozen hg2 1
        clear hRFo hRIo hbo hg1 hg2
        go_wp2
        clear hx_0 hx_1 hz_0 hz_1 hq_0 hq_1
        refine bodyPost_ret (results_cell_row rfl _ _ (w.heap.size + 1) 36 #[.slice F0 n0 d0, (.slice (some ⟨g, 0, none⟩) n d1)] (0, 0) _ rfl HGF.out Try.underlying36 rfl (by kernel_rfl)) rfl ?_
        exact ⟨_, _, rfl, HFIN.out.1, HFIN.out.2.1, HFIN.out.2.2⟩
      have hltz : (i : Int) < (n : Int) := by omega
      obtain ⟨⟨cur, hg, hcs, hgl, hx⟩, hk, hb⟩ := X.out
      have hil : i < l.length := by have := HN.out.2; omega
      obtain ⟨x, hxx⟩ : ∃ x, x = l[i] := ⟨_, rfl⟩
      have hxg : l[i]? = some x := by rw [hxx, List.getElem?_eq_getElem hil]
      obtain ⟨u5, u6, ⟨q0, q1, q2, q3, q4, q5, q6⟩, h3⟩ := hx i x hxg
      rw [if_neg (by omega)] at h3
      obtain ⟨A5, c5, A6, c6, rfl, rfl, h5, hC5, h6, hC6⟩ := h3
      have hwx := HWI.out x (by rw [hxx]; exact List.getElem_mem _)
      have hx0 := (blk_cell hg _).trans q0
      have hx1 := (blk_cell hg _).trans q1
      have hx2 := (blk_cell hg _).trans q2
      have hx3 := (blk_cell hg _).trans q3
      have hx4 := (blk_cell hg _).trans q4
      have hx5 := (blk_cell hg _).trans q5
      have hx6 := (blk_cell hg _).trans q6
      obtain ⟨n5, hn5⟩ : ∃ n5, n5 = x.f5.length := ⟨_, rfl⟩
      obtain ⟨n6, hn6⟩ : ∃ n6, n6 = x.f6.length := ⟨_, rfl⟩
      obtain ⟨W1, hW1⟩ : ∃ W1, W1 = wO.alloc (.cells #[.string x.f0, .int .i64 x.f1, .string x.f2, .bool x.f3, .int .i64 x.f4, .slice A5 n5 c5, .slice A6 n6 c6] 32) := ⟨_, rfl⟩
      have hbW : Below wO.heap.size wO W1 := by rw [hW1]; exact below_alloc (Below.refl _ _) _
      have hgW : W1.heap[wO.heap.size]? = some (.cells #[.string x.f0, .int .i64 x.f1, .string x.f2, .bool x.f3, .int .i64 x.f4, .slice A5 n5 c5, .slice A6 n6 c6] 32 (0, 0)) := by rw [hW1]; exact heap_alloc_new wO _
      rw [← hn5] at hx5
      rw [← hn6] at hx6
      have HW1 := Lib.hid hW1
      have HBW := Lib.hid hbW
      have HGW := Lib.hid hgW
      have HX := Lib.hid (And.intro hg (And.intro hcs (And.intro hgl hx)))
      have HKB := Lib.hid (And.intro hk hb)
      have HQ := Lib.hid (And.intro q0 (And.intro q1 (And.intro q2 (And.intro q3 (And.intro q4 (And.intro q5 q6))))))
      have HC := Lib.hid (And.intro h5 (And.intro hC5 (And.intro h6 (And.intro hC6 hwx))))
      have HXG := Lib.hid (And.intro hxg (And.intro hn5 hn6))
      clear X hg hcs hgl hx hk hb hil hxx hxg q0 q1 q2 q3 q4 q5 q6 h5 hC5 h6 hC6 hwx hW1 hbW hgW hn5 hn6
      go_wp2
      rw [← HW1.out]
      clear hx0 hx1 hx2 hx3 hx4 hx5 hx6
      have hgE1 : W1.heap[w.heap.size]? = some (.cells #[.slice F0 n0 d0, .slice (some ⟨g, 0, none⟩) n d1] 36 (0, 0)) := blk_below ((HKB.out.1.2 _ (blk_lt HGE.out.1) (by omega)).trans HGE.out.1) HBW.out
      have hs_0 := (blk_cell hgE1 1).trans rfl
      have hs_1 := (blk_cell HGW.out 5).trans rfl
      have hs_2 := (blk_cell HGW.out 6).trans rfl
      have hOw : w.heap.size < wO.heap.size := Nat.lt_of_lt_of_le (blk_lt HGE.out.1) HKB.out.1.1
      refine sD_ [] (fun w' => w'.cell? ⟨w.heap.size, 1, none⟩ = some (.slice (some ⟨g, 0, none⟩) n d1) ∧ w'.cell? ⟨wO.heap.size, 5, none⟩ = some (.slice A5 n5 c5) ∧ w'.cell? ⟨wO.heap.size, 6, none⟩ = some (.slice A6 n6 c6)) 18 ⟨hs_0, hs_1, hs_2⟩ (fun hHeld => ?_)
      have hbO : Below wO.heap.size wO W1.drew := below_drew1 HBW.out
      have hgO1 : W1.drew.heap[w.heap.size]? = some (.cells #[.slice F0 n0 d0, .slice (some ⟨g, 0, none⟩) n d1] 36 (0, 0)) := hgE1
      have hgO2 : W1.drew.heap[wO.heap.size]? = some (.cells #[.string x.f0, .int .i64 x.f1, .string x.f2, .bool x.f3, .int .i64 x.f4, .slice A5 n5 c5, .slice A6 n6 c6] 32 (0, 0)) := HGW.out
      clear hs_0 hs_1 hs_2 hgE1
      generalize W1.drew = wP at hHeld hbO hgO1 hgO2 ⊢
      refine pu_ 0 (some 21) ?_
      refine tk_ 1 (some 22) hHeld ?_ (hy := by rintro w' ⟨s0, s1, s2⟩; go_simp; with_reducible rfl)
      refine pu_ 2 (some 23) ?_
      refine pu_ 3 (some 24) ?_
      refine tk_ 4 (some 25) hHeld ?_ (hy := by rintro w' ⟨s0, s1, s2⟩; go_simp; with_reducible rfl)
      refine pu_ 5 (some 26) ?_
      refine pu_ 6 (some 27) ?_
      refine tk_ 7 (some 28) hHeld ?_ (hy := by rintro w' ⟨s0, s1, s2⟩; go_simp; with_reducible rfl)
      refine pu_ 9 (some 30) ?_
      refine tk_ 10 (some 31) hHeld ?_ (hy := by rintro w' ⟨s0, s1, s2⟩; go_simp; with_reducible rfl)
      have hbwP := below_then HKB.out.2 HKB.out.2.size hbO
      have hcp5 := copied_any wP A5 c5 x.f5 (Kd.C_below HC.out.2.1 hbwP) HC.out.1 HC.out.2.2.2.2.1.1 HC.out.2.2.2.2.1.2
      rw [← HXG.out.2.1] at hcp5
      refine ca_ 8 (some 29) Try.func48 #[.slice A5 n5 c5] ?_
      refine hcp5.mono ?_
      rintro e w6 ⟨v5, rfl, hR5, hb6⟩
      obtain ⟨E5, e5, rfl⟩ := Kd.R_slice hR5
      rw [← HXG.out.2.1] at hR5 ⊢
      have hg61 := blk_below hgO1 hb6
      have hg62 := blk_below hgO2 hb6
      have hbO6 := below_then hbO hbO.size hb6
      have hbw6 := below_then hbwP hbwP.size hb6
      have hzP : wO.heap.size < wP.heap.size := blk_lt hgO2
      refine ⟨_, rfl, ⟨(blk_cell hg61 1).trans rfl, (blk_cell hg62 5).trans rfl, (blk_cell hg62 6).trans rfl⟩, fun hHeld => ⟨_, rfl, nz_ (some 29) ?_⟩⟩
      have hcp6 := copied_any w6 A6 c6 x.f6 (Kd.C_below HC.out.2.2.2.1 hbw6) HC.out.2.2.1 HC.out.2.2.2.2.2.1 HC.out.2.2.2.2.2.2
      rw [← HXG.out.2.2] at hcp6
      refine ca_ 11 (some 32) Try.func48 #[.slice A6 n6 c6] ?_
      refine hcp6.mono ?_
      rintro e w7 ⟨v6, rfl, hR6, hb7⟩
      obtain ⟨E6, e6, rfl⟩ := Kd.R_slice hR6
      rw [← HXG.out.2.2] at hR6 ⊢
      have hg71 := blk_below hg61 hb7
      have hg72 := blk_below hg62 hb7
      have hbO7 := below_then hbO6 hbO6.size hb7
      have hbw7 := below_then hbw6 hbw6.size hb7
      have hR57 := Kd.R_below hR5 hb7
      have hz6 : wP.heap.size ≤ w6.heap.size := hb6.size
      have hgO := blk_below HX.out.1 hbO7
      refine ⟨_, rfl, ⟨(blk_cell hg71 1).trans rfl, (blk_cell hg72 5).trans rfl, (blk_cell hg72 6).trans rfl⟩, fun hHeld => ⟨_, rfl, nz_ (some 32) ?_⟩⟩
      refine pu_ 12 (some 33) ?_
      refine pu_ 13 (some 34) ?_
      have hgg : g < wO.heap.size := HX.out.2.2.1
      have hx5 := (blk_cell hgO (i * 7 + 5)).trans HQ.out.2.2.2.2.2.1
      have hf5 := blk_frozen hgO (i * 7 + 5)
      refine oN_ 14 none (fun K hK => ?_)
      go_simp
      have hgO8 := blk_put hgO (i * 7 + 5) (.slice E5 n5 e5) rfl
      have hg81 := (Below.heap_setCell w7 ⟨g, i * 7 + 5, none⟩ (.slice E5 n5 e5) w.heap.size (show w.heap.size ≠ g by omega)).trans hg71
      have hg82 := (Below.heap_setCell w7 ⟨g, i * 7 + 5, none⟩ (.slice E5 n5 e5) wO.heap.size (show wO.heap.size ≠ g by omega)).trans hg72
      refine hK.out _ _ ⟨(blk_cell hg81 1).trans rfl, (blk_cell hg82 5).trans rfl, (blk_cell hg82 6).trans rfl⟩ (fun hHeld => ?_)
      clear hK K hx5 hf5
      refine pu_ 15 (some 35) ?_
      refine pu_ 16 (some 36) ?_
      have l6 := (Array.getElem?_eq_some_iff.1 HQ.out.2.2.2.2.2.2).1
      have hx6 : (w7.setCell ⟨g, i * 7 + 5, none⟩ (.slice E5 n5 e5)).cell? ⟨g, i * 7 + 6, none⟩ = some (.slice A6 x.f6.length c6) := (blk_cell hgO8 (i * 7 + 6)).trans ((Array.getElem?_setIfInBounds_ne (by omega)).trans HQ.out.2.2.2.2.2.2)
      have hf6 := blk_frozen hgO8 (i * 7 + 6)
      refine oN_ 17 none (fun K hK => ?_)
      go_simp
      have HF : Hid (cyInv w ((w7.setCell ⟨g, i * 7 + 5, none⟩ (.slice E5 n5 e5)).setCell ⟨g, i * 7 + 6, none⟩ (.slice E6 n6 e6)) wB.heap.size g d1 l (i + 1) ∧ Kept wE ((w7.setCell ⟨g, i * 7 + 5, none⟩ (.slice E5 n5 e5)).setCell ⟨g, i * 7 + 6, none⟩ (.slice E6 n6 e6)) (fun k => k = g) ∧ Below w.heap.size w ((w7.setCell ⟨g, i * 7 + 5, none⟩ (.slice E5 n5 e5)).setCell ⟨g, i * 7 + 6, none⟩ (.slice E6 n6 e6))) := Lib.hid (by
        have hgB : wB.heap.size ≤ g := by omega
        have l5 := (Array.getElem?_eq_some_iff.1 HQ.out.2.2.2.2.2.1).1
        refine ⟨⟨(cur.setIfInBounds (i * 7 + 5) (.slice E5 n5 e5)).setIfInBounds (i * 7 + 6) (.slice E6 n6 e6), blk_put hgO8 (i * 7 + 6) (.slice E6 n6 e6) rfl, by simp only [Array.size_setIfInBounds]; exact HX.out.2.1, ?_, fun j p hj => ?_⟩, ?_, ?_⟩
        · have := hbO7.size
          simpa [World.setCell] using Nat.lt_of_lt_of_le hgg this
        · by_cases hji : j = i
          · subst hji
            obtain rfl : x = p := Option.some.inj (HXG.out.1.symm.trans hj)
            obtain ⟨q0, q1, q2, q3, q4, q5, q6⟩ := HQ.out
            refine ⟨.slice E5 n5 e5, .slice E6 n6 e6, ⟨?_, ?_, ?_, ?_, ?_, ?_, ?_⟩, ?_⟩
            · rw [Array.getElem?_setIfInBounds_ne (by omega), Array.getElem?_setIfInBounds_ne (by omega)]; exact q0
            · rw [Array.getElem?_setIfInBounds_ne (by omega), Array.getElem?_setIfInBounds_ne (by omega)]; exact q1
            · rw [Array.getElem?_setIfInBounds_ne (by omega), Array.getElem?_setIfInBounds_ne (by omega)]; exact q2
            · rw [Array.getElem?_setIfInBounds_ne (by omega), Array.getElem?_setIfInBounds_ne (by omega)]; exact q3
            · rw [Array.getElem?_setIfInBounds_ne (by omega), Array.getElem?_setIfInBounds_ne (by omega)]; exact q4
            · rw [Array.getElem?_setIfInBounds_ne (by omega), Array.getElem?_setIfInBounds_self_of_lt l5]
            · rw [Array.getElem?_setIfInBounds_self_of_lt (by simpa using l6)]
            · rw [if_pos (by omega)]
              have far : ∀ {α : Type} {d : Kd α} {e base : Nat} {v : Value} {xs : List α}, g < base → wB.heap.size ≤ base → d.R e w7 base (fun _ => True) v xs → d.R e ((w7.setCell ⟨g, j * 7 + 5, none⟩ (.slice E5 n5 e5)).setCell ⟨g, j * 7 + 6, none⟩ (.slice E6 n6 e6)) wB.heap.size (fun k => True ∧ k ≠ g) v xs := fun hg1 hg2 h =>
                Kd.R_lower (Kd.R_mono (Kd.R_far (Kd.R_far (Kd.R_bound h) (p := ⟨g, j * 7 + 5, none⟩) (fun k hk => by have := hk.2.1; show k ≠ g; omega) _) (p := ⟨g, j * 7 + 6, none⟩) (fun k hk => by have := hk.2.1; show k ≠ g; omega) _) (fun k hk => ⟨trivial, by have := hk.2.1; omega⟩)) hg2
              exact ⟨far (by omega) (by omega) hR57, far (by omega) (by omega) hR6⟩
          · obtain ⟨u5, u6, ⟨q0, q1, q2, q3, q4, q5, q6⟩, h3⟩ := HX.out.2.2.2 j p hj
            refine ⟨u5, u6, ⟨?_, ?_, ?_, ?_, ?_, ?_, ?_⟩, ?_⟩
            · rw [Array.getElem?_setIfInBounds_ne (by omega), Array.getElem?_setIfInBounds_ne (by omega)]; exact q0
            · rw [Array.getElem?_setIfInBounds_ne (by omega), Array.getElem?_setIfInBounds_ne (by omega)]; exact q1
            · rw [Array.getElem?_setIfInBounds_ne (by omega), Array.getElem?_setIfInBounds_ne (by omega)]; exact q2
            · rw [Array.getElem?_setIfInBounds_ne (by omega), Array.getElem?_setIfInBounds_ne (by omega)]; exact q3
            · rw [Array.getElem?_setIfInBounds_ne (by omega), Array.getElem?_setIfInBounds_ne (by omega)]; exact q4
            · rw [Array.getElem?_setIfInBounds_ne (by omega), Array.getElem?_setIfInBounds_ne (by omega)]; exact q5
            · rw [Array.getElem?_setIfInBounds_ne (by omega), Array.getElem?_setIfInBounds_ne (by omega)]; exact q6
            · by_cases hlt' : j < i
              · rw [if_pos hlt'] at h3
                rw [if_pos (by omega)]
                have stp : ∀ {α : Type} {d : Kd α} {e base : Nat} {v : Value} {xs : List α}, d.R e wO base (fun k => True ∧ k ≠ g) v xs → d.R e ((w7.setCell ⟨g, i * 7 + 5, none⟩ (.slice E5 n5 e5)).setCell ⟨g, i * 7 + 6, none⟩ (.slice E6 n6 e6)) base (fun k => True ∧ k ≠ g) v xs := fun h => Kd.R_step h (fun k hk hkl => (Below.heap_setCell _ _ _ _ hk.2).trans ((Below.heap_setCell _ _ _ _ hk.2).trans (hbO7.block k hkl)))
                exact ⟨stp h3.1, stp h3.2⟩
              · rw [if_neg hlt'] at h3
                rw [if_neg (by omega)]
                exact h3
        · exact ((HKB.out.1.below hbO7).setCell (p := ⟨g, i * 7 + 5, none⟩) (.inl rfl) _).setCell (p := ⟨g, i * 7 + 6, none⟩) (.inl rfl) _
        · exact (hbw7.setCell (show w.heap.size ≤ g by omega) _).setCell (show w.heap.size ≤ g by omega) _)
      have hg91 := (Below.heap_setCell (w7.setCell ⟨g, i * 7 + 5, none⟩ (.slice E5 n5 e5)) ⟨g, i * 7 + 6, none⟩ (.slice E6 n6 e6) w.heap.size (show w.heap.size ≠ g by omega)).trans hg81
      have hg92 := (Below.heap_setCell (w7.setCell ⟨g, i * 7 + 5, none⟩ (.slice E5 n5 e5)) ⟨g, i * 7 + 6, none⟩ (.slice E6 n6 e6) wO.heap.size (show wO.heap.size ≠ g by omega)).trans hg82
      refine hK.out _ _ ⟨(blk_cell hg91 1).trans rfl, (blk_cell hg92 5).trans rfl, (blk_cell hg92 6).trans rfl⟩ (fun _ => ?_)
      clear hK K hx6 hf6 hg91 hg92 hg81 hg82 hgO8 hgO hR5 hR6 hR57 hg61 hg62 hg71 hg72 hHeld hcp5 hcp6 hgO1 hgO2
      refine dn_ ?_
      go_wp2
      go_roundg (n - (i + 1))
      case measure => omega
      case rel => exact ⟨i + 1, by go_num, by omega, by omega, HF⟩
end Go.Proofs.Ytchellnfenekaaa.Pm
end
section
namespace Go.Proofs.Ytchellnfenekaaa.Pm
open Go.RowKit Go.Proofs.YtchellnfenekaaaW.PrintWords Go.Proofs.YtchellnfenekaaaW.PrintLast Go.Proofs.YtchellnfenekaaaW.PrintMore
attribute [local go_sem] max2_int min2_int max_two min_two max_three min_three max_four min_four   -- for this text's walks alone
set_option linter.unusedVariables false
set_option linter.unusedSimpArgs false
attribute [local go_sem high] eqA25
def api_Cond_68.l0 : Nat → List (S25) → List (S25) → Int → Int → Option (Bool)
 | 0, _, _, _, _ => none
 | k + 1, x0, x1, x12, x13 => if x13 < x12 then (if 0 ≤ x13 then (if x13 < (x0.length : Int) then (if x13 < (x1.length : Int) then (if (!((((rd_T25 x0 x13).f0).toList) == (((rd_T25 x1 x13).f0).toList)) || (!((((rd_T25 x0 x13).f1).toList) == (((rd_T25 x1 x13).f1).toList)) || (!(((rd_T25 x0 x13).f2) == ((rd_T25 x1 x13).f2))))) = true then (some false) else (api_Cond_68.l0 k x0 x1 x12 (wrap64 (x13 + 1)))) else (none)) else (none)) else (none)) else (some true)
def api_Cond_68.f (k : Nat) (l0 : List (S25)) (l1 : List (S25)) : Option (Bool) := if (l0.length : Int) = (l1.length : Int) then (api_Cond_68.l0 k l0 l1 (l0.length : Int) 0) else (some false)
theorem api_Cond_68.mono_l : ∀ k, (∀ y0 y1 y2 y3, LeO (api_Cond_68.l0 k y0 y1 y2 y3) (api_Cond_68.l0 (k + 1) y0 y1 y2 y3))
 | 0 => fun _ _ _ _ r h => by simp [api_Cond_68.l0] at h
 | k + 1 => by
  have ih0 := api_Cond_68.mono_l k
  ·intro y0 y1 y2 y3
   unfold api_Cond_68.l0
   repeat' first
   | (with_reducible exact ih0 _ _ _ _)
   | (with_reducible exact LeO.refl _)
   | (with_reducible exact LeO.none _)
   | (with_reducible refine LeO.ite ?_ ?_)
   | (with_reducible refine LeO.bind ?_ (fun _ => ?_))
   | exact ih0 _ _ _ _
   | exact LeO.none _
   | refine LeO.ite ?_ ?_
   | refine LeO.bind ?_ (fun _ => ?_)
theorem api_Cond_68.mono : ∀ a0 a1 k, LeO (api_Cond_68.f k a0 a1) (api_Cond_68.f (k + 1) a0 a1) := by
 intro a0 a1 k
 have ih0 := api_Cond_68.mono_l k
 unfold api_Cond_68.f
 repeat' first
   | (with_reducible exact ih0 _ _ _ _)
   | (with_reducible exact LeO.refl _)
   | (with_reducible exact LeO.none _)
   | (with_reducible refine LeO.ite ?_ ?_)
   | (with_reducible refine LeO.bind ?_ (fun _ => ?_))
   | exact ih0 _ _ _ _
   | exact LeO.none _
   | refine LeO.ite ?_ ?_
   | refine LeO.bind ?_ (fun _ => ?_)
set_option maxHeartbeats 8000000 in
set_option maxRecDepth 100000 in
theorem api_Cond_68.calls (k : Nat) (A0 : Option Addr) (c0 : Nat) (l0 : List (S25)) (A1 : Option Addr) (c1 : Nat) (l1 : List (S25)) (r : Bool) (w : World) (hr0 : Kd.C k25 w A0 l0.length l0) (hc0 : l0.length ≤ c0) (hr1 : Kd.C k25 w A1 l1.length l1) (hc1 : l1.length ≤ c1) (h : api_Cond_68.f k l0 l1 = some r) :
  Calls Try.prog 68 #[.slice A0 l0.length c0, .slice A1 l1.length c1] w fun e w' => e = .returned (.bool r) ∧ Drawn0 w w' := by
 have hu25 := Try.underlying25
 have HR0 := Aside0.mk hr0
 have HC0 := Aside0.mk hc0
 clear hr0 hc0
 have HR1 := Aside0.mk hr1
 have HC1 := Aside0.mk hc1
 clear hr1 hc1
 have H : (if (l0.length : Int) = (l1.length : Int) then (api_Cond_68.l0 k l0 l1 (l0.length : Int) 0) else (some false)) = some r := h
 clear h
 by_cases c3 : (l0.length : Int) = (l1.length : Int)
 ·rw [if_pos c3] at H
  have c3b0 : ((l0.length : Int) == (l1.length : Int)) = true := beq_iff_eq.mpr c3
  have c3b1 : ((l0.length : Int) != (l1.length : Int)) = false := bne_eq_false_iff_eq.mpr c3
  have c3b2 : (l0.length == l1.length) = true := by first | simpa using c3 | (simp at c3 ⊢; omega)
  clear c3
  have H' := Aside0.mk H
  clear H
  go_enter Try.func68, Try.ntmps68
  go_wp2
  repeat (go_quiet (fail); try go_wp2)
  go_loopg [13] k (fun kq v13 w' => ∃ (x13_1 : Int), v13 = .int .i64 x13_1 ∧ Aside0 (api_Cond_68.l0 kq l0 l1 (l0.length : Int) x13_1 = some r) ∧ Aside0 (kq ≤ k) ∧ Drawn0 w w')
  case atStart => exact ⟨(0), (by first | rfl | (simp; done) | (simp [*]; done)), H', ⟨Nat.le_refl _⟩, by repeat (first | exact Drawn0.refl _ | apply Drawn0.step)⟩
  case round =>
   clear H'
   (try clear c1); (try clear p2); (try clear c3); (try clear c3b0); (try clear c3b1); (try clear c3b2)
   obtain ⟨x13_1, rfl, HA, HK1, ⟨m1, rfl⟩⟩ := hrel
   cases gk with
   | zero => exact absurd HA.out (by simp [api_Cond_68.l0])
   | succ k1 =>
    have H := HA.out
    clear HA
    simp only [api_Cond_68.l0] at H
    by_cases c4 : x13_1 < (l0.length : Int)
    ·rw [if_pos c4] at H
     have c4b0 : decide (x13_1 < (l0.length : Int)) = true := decide_eq_true c4
     clear c4
     by_cases c5 : 0 ≤ x13_1
     ·rw [if_pos c5] at H
      have c5b0 : decide (0 ≤ x13_1) = true := decide_eq_true c5
      clear c5
      by_cases c6 : x13_1 < (l0.length : Int)
      ·rw [if_pos c6] at H
       have c6b0 : decide (x13_1 < (l0.length : Int)) = true := decide_eq_true c6
       clear c6
       by_cases c7 : x13_1 < (l1.length : Int)
       ·rw [if_pos c7] at H
        have c7b0 : decide (x13_1 < (l1.length : Int)) = true := decide_eq_true c7
        clear c7
        by_cases c8 : (!((((rd_T25 l0 x13_1).f0).toList) == (((rd_T25 l1 x13_1).f0).toList)) || (!((((rd_T25 l0 x13_1).f1).toList) == (((rd_T25 l1 x13_1).f1).toList)) || (!(((rd_T25 l0 x13_1).f2) == ((rd_T25 l1 x13_1).f2))))) = true
        ·rw [if_pos c8] at H
         have c8b0 : (!((((rd_T25 l0 x13_1).f0).toList) == (((rd_T25 l1 x13_1).f0).toList)) || (!((((rd_T25 l0 x13_1).f1).toList) == (((rd_T25 l1 x13_1).f1).toList)) || (!(((rd_T25 l0 x13_1).f2) == ((rd_T25 l1 x13_1).f2))))) = true := c8
         clear c8
         obtain rfl := Option.some.inj H
         have p394 : 0 ≤ (x13_1 : Int) := od_
         have q394 : x13_1 < (l0.length : Int) := od_
         obtain ⟨ad394, e394, hx394_0, hx394_1, hx394_2⟩ := at_T25 HR0.out x13_1 p394 q394
         cases e394
         replace p394 := eq_true p394
         replace q394 := eq_true q394
         have p395 : 0 ≤ (x13_1 : Int) := od_
         have q395 : x13_1 < (l1.length : Int) := od_
         obtain ⟨ad395, e395, hx395_0, hx395_1, hx395_2⟩ := at_T25 HR1.out x13_1 p395 q395
         cases e395
         replace p395 := eq_true p395
         replace q395 := eq_true q395
         go_wp2
         repeat (go_quiet (fail); try go_wp2)
         go_ret
         exact ⟨by first | rfl | (simp; done) | (simp [*]; done), by repeat (first | exact Drawn0.refl _ | apply Drawn0.step)⟩
        ·rw [if_neg c8] at H
         have c8b0 : (!((((rd_T25 l0 x13_1).f0).toList) == (((rd_T25 l1 x13_1).f0).toList)) || (!((((rd_T25 l0 x13_1).f1).toList) == (((rd_T25 l1 x13_1).f1).toList)) || (!(((rd_T25 l0 x13_1).f2) == ((rd_T25 l1 x13_1).f2))))) = false := by simpa using c8
         clear c8
         have H' := Aside0.mk H
         clear H
         have p394 : 0 ≤ (x13_1 : Int) := od_
         have q394 : x13_1 < (l0.length : Int) := od_
         obtain ⟨ad394, e394, hx394_0, hx394_1, hx394_2⟩ := at_T25 HR0.out x13_1 p394 q394
         cases e394
         replace p394 := eq_true p394
         replace q394 := eq_true q394
         have p395 : 0 ≤ (x13_1 : Int) := od_
         have q395 : x13_1 < (l1.length : Int) := od_
         obtain ⟨ad395, e395, hx395_0, hx395_1, hx395_2⟩ := at_T25 HR1.out x13_1 p395 q395
         cases e395
         replace p395 := eq_true p395
         replace q395 := eq_true q395
         go_wp2
         repeat (go_quiet (fail); try go_wp2)
         go_roundg k1
         case measure => have := HK1.out; omega
         case rel => exact ⟨(wrap64 (x13_1 + 1)), (by first | rfl | (simp; done) | (simp [*]; done)), H', ⟨by have := HK1.out; omega⟩, by repeat (first | exact Drawn0.refl _ | apply Drawn0.step)⟩
       ·rw [if_neg c7] at H
        exact absurd H (by simp)
      ·rw [if_neg c6] at H
       exact absurd H (by simp)
     ·rw [if_neg c5] at H
      exact absurd H (by simp)
    ·rw [if_neg c4] at H
     have c4b0 : decide (x13_1 < (l0.length : Int)) = false := decide_eq_false c4
     clear c4
     obtain rfl := Option.some.inj H
     go_wp2
     repeat (go_quiet (fail); try go_wp2)
     go_ret
     exact ⟨by first | rfl | (simp; done) | (simp [*]; done), by repeat (first | exact Drawn0.refl _ | apply Drawn0.step)⟩
 ·rw [if_neg c3] at H
  have c3b0 : ((l0.length : Int) == (l1.length : Int)) = false := beq_eq_false_iff_ne.mpr c3
  have c3b1 : ((l0.length : Int) != (l1.length : Int)) = true := bne_iff_ne.mpr c3
  have c3b2 : (l0.length == l1.length) = false := by first | simpa using c3 | (simp at c3 ⊢; omega)
  obtain rfl := Option.some.inj H
  go_enter Try.func68, Try.ntmps68
  go_wp2
  repeat (go_quiet (fail); try go_wp2)
  go_ret
  exact ⟨by first | rfl | (simp; done) | (simp [*]; done), by repeat (first | exact Drawn0.refl _ | apply Drawn0.step)⟩
end Go.Proofs.Ytchellnfenekaaa.Pm
end
section
namespace Go.Proofs.Ytchellnfenekaaa.Pm
open Go.RowKit Go.Proofs.YtchellnfenekaaaW.PrintWords Go.Proofs.YtchellnfenekaaaW.PrintLast Go.Proofs.YtchellnfenekaaaW.PrintMore
attribute [local go_sem] max2_int min2_int max_two min_two max_three min_three max_four min_four   -- for this text's walks alone
set_option linter.unusedVariables false
set_option linter.unusedSimpArgs false
attribute [local go_sem high] eqA39
def api_On_67.l0 : Nat → List (S39) → List (S39) → Int → Int → Option (Bool)
 | 0, _, _, _, _ => none
 | k + 1, x0, x1, x12, x13 => if x13 < x12 then (if 0 ≤ x13 then (if x13 < (x0.length : Int) then (if x13 < (x1.length : Int) then (if (!((((rd_T39 x0 x13).f0).toList) == (((rd_T39 x1 x13).f0).toList)) || (!(((rd_T39 x0 x13).f1) == ((rd_T39 x1 x13).f1)))) = true then (some false) else (api_On_67.l0 k x0 x1 x12 (wrap64 (x13 + 1)))) else (none)) else (none)) else (none)) else (some true)
def api_On_67.f (k : Nat) (l0 : List (S39)) (l1 : List (S39)) : Option (Bool) := if (l0.length : Int) = (l1.length : Int) then (api_On_67.l0 k l0 l1 (l0.length : Int) 0) else (some false)
theorem api_On_67.mono_l : ∀ k, (∀ y0 y1 y2 y3, LeO (api_On_67.l0 k y0 y1 y2 y3) (api_On_67.l0 (k + 1) y0 y1 y2 y3))
 | 0 => fun _ _ _ _ r h => by simp [api_On_67.l0] at h
 | k + 1 => by
  have ih0 := api_On_67.mono_l k
  ·intro y0 y1 y2 y3
   unfold api_On_67.l0
   repeat' first
   | (with_reducible exact ih0 _ _ _ _)
   | (with_reducible exact LeO.refl _)
   | (with_reducible exact LeO.none _)
   | (with_reducible refine LeO.ite ?_ ?_)
   | (with_reducible refine LeO.bind ?_ (fun _ => ?_))
   | exact ih0 _ _ _ _
   | exact LeO.none _
   | refine LeO.ite ?_ ?_
   | refine LeO.bind ?_ (fun _ => ?_)
theorem api_On_67.mono : ∀ a0 a1 k, LeO (api_On_67.f k a0 a1) (api_On_67.f (k + 1) a0 a1) := by
 intro a0 a1 k
 have ih0 := api_On_67.mono_l k
 unfold api_On_67.f
 repeat' first
   | (with_reducible exact ih0 _ _ _ _)
   | (with_reducible exact LeO.refl _)
   | (with_reducible exact LeO.none _)
   | (with_reducible refine LeO.ite ?_ ?_)
   | (with_reducible refine LeO.bind ?_ (fun _ => ?_))
   | exact ih0 _ _ _ _
   | exact LeO.none _
   | refine LeO.ite ?_ ?_
   | refine LeO.bind ?_ (fun _ => ?_)
set_option maxHeartbeats 8000000 in
set_option maxRecDepth 100000 in
theorem api_On_67.calls (k : Nat) (A0 : Option Addr) (c0 : Nat) (l0 : List (S39)) (A1 : Option Addr) (c1 : Nat) (l1 : List (S39)) (r : Bool) (w : World) (hr0 : Kd.C k39 w A0 l0.length l0) (hc0 : l0.length ≤ c0) (hr1 : Kd.C k39 w A1 l1.length l1) (hc1 : l1.length ≤ c1) (h : api_On_67.f k l0 l1 = some r) :
  Calls Try.prog 67 #[.slice A0 l0.length c0, .slice A1 l1.length c1] w fun e w' => e = .returned (.bool r) ∧ Drawn0 w w' := by
 have hu39 := Try.underlying39
 have HR0 := Aside0.mk hr0
 have HC0 := Aside0.mk hc0
 clear hr0 hc0
 have HR1 := Aside0.mk hr1
 have HC1 := Aside0.mk hc1
 clear hr1 hc1
 have H : (if (l0.length : Int) = (l1.length : Int) then (api_On_67.l0 k l0 l1 (l0.length : Int) 0) else (some false)) = some r := h
 clear h
 by_cases c3 : (l0.length : Int) = (l1.length : Int)
 ·rw [if_pos c3] at H
  have c3b0 : ((l0.length : Int) == (l1.length : Int)) = true := beq_iff_eq.mpr c3
  have c3b1 : ((l0.length : Int) != (l1.length : Int)) = false := bne_eq_false_iff_eq.mpr c3
  have c3b2 : (l0.length == l1.length) = true := by first | simpa using c3 | (simp at c3 ⊢; omega)
  clear c3
  have H' := Aside0.mk H
  clear H
  go_enter Try.func67, Try.ntmps67
  go_wp2
  repeat (go_quiet (fail); try go_wp2)
  go_loopg [13] k (fun kq v13 w' => ∃ (x13_1 : Int), v13 = .int .i64 x13_1 ∧ Aside0 (api_On_67.l0 kq l0 l1 (l0.length : Int) x13_1 = some r) ∧ Aside0 (kq ≤ k) ∧ Drawn0 w w')
  case atStart => exact ⟨(0), (by first | rfl | (simp; done) | (simp [*]; done)), H', ⟨Nat.le_refl _⟩, by repeat (first | exact Drawn0.refl _ | apply Drawn0.step)⟩
  case round =>
   clear H'
   (try clear c1); (try clear p2); (try clear c3); (try clear c3b0); (try clear c3b1); (try clear c3b2)
   obtain ⟨x13_1, rfl, HA, HK1, ⟨m1, rfl⟩⟩ := hrel
   cases gk with
   | zero => exact absurd HA.out (by simp [api_On_67.l0])
   | succ k1 =>
    have H := HA.out
    clear HA
    simp only [api_On_67.l0] at H
    by_cases c4 : x13_1 < (l0.length : Int)
    ·rw [if_pos c4] at H
     have c4b0 : decide (x13_1 < (l0.length : Int)) = true := decide_eq_true c4
     clear c4
     by_cases c5 : 0 ≤ x13_1
     ·rw [if_pos c5] at H
      have c5b0 : decide (0 ≤ x13_1) = true := decide_eq_true c5
      clear c5
      by_cases c6 : x13_1 < (l0.length : Int)
      ·rw [if_pos c6] at H
       have c6b0 : decide (x13_1 < (l0.length : Int)) = true := decide_eq_true c6
       clear c6
       by_cases c7 : x13_1 < (l1.length : Int)
       ·rw [if_pos c7] at H
        have c7b0 : decide (x13_1 < (l1.length : Int)) = true := decide_eq_true c7
        clear c7
        by_cases c8 : (!((((rd_T39 l0 x13_1).f0).toList) == (((rd_T39 l1 x13_1).f0).toList)) || (!(((rd_T39 l0 x13_1).f1) == ((rd_T39 l1 x13_1).f1)))) = true
        ·rw [if_pos c8] at H
         have c8b0 : (!((((rd_T39 l0 x13_1).f0).toList) == (((rd_T39 l1 x13_1).f0).toList)) || (!(((rd_T39 l0 x13_1).f1) == ((rd_T39 l1 x13_1).f1)))) = true := c8
         clear c8
         obtain rfl := Option.some.inj H
         have p392 : 0 ≤ (x13_1 : Int) := od_
         have q392 : x13_1 < (l0.length : Int) := od_
         obtain ⟨ad392, e392, hx392_0, hx392_1⟩ := at_T39 HR0.out x13_1 p392 q392
         cases e392
         replace p392 := eq_true p392
         replace q392 := eq_true q392
         have p393 : 0 ≤ (x13_1 : Int) := od_
         have q393 : x13_1 < (l1.length : Int) := od_
         obtain ⟨ad393, e393, hx393_0, hx393_1⟩ := at_T39 HR1.out x13_1 p393 q393
         cases e393
         replace p393 := eq_true p393
         replace q393 := eq_true q393
         go_wp2
         repeat (go_quiet (fail); try go_wp2)
         go_ret
         exact ⟨by first | rfl | (simp; done) | (simp [*]; done), by repeat (first | exact Drawn0.refl _ | apply Drawn0.step)⟩
        ·rw [if_neg c8] at H
         have c8b0 : (!((((rd_T39 l0 x13_1).f0).toList) == (((rd_T39 l1 x13_1).f0).toList)) || (!(((rd_T39 l0 x13_1).f1) == ((rd_T39 l1 x13_1).f1)))) = false := by simpa using c8
         clear c8
         have H' := Aside0.mk H
         clear H
         have p392 : 0 ≤ (x13_1 : Int) := od_
         have q392 : x13_1 < (l0.length : Int) := od_
         obtain ⟨ad392, e392, hx392_0, hx392_1⟩ := at_T39 HR0.out x13_1 p392 q392
         cases e392
         replace p392 := eq_true p392
         replace q392 := eq_true q392
         have p393 : 0 ≤ (x13_1 : Int) := od_
         have q393 : x13_1 < (l1.length : Int) := od_
         obtain ⟨ad393, e393, hx393_0, hx393_1⟩ := at_T39 HR1.out x13_1 p393 q393
         cases e393
         replace p393 := eq_true p393
         replace q393 := eq_true q393
         go_wp2
         repeat (go_quiet (fail); try go_wp2)
         go_roundg k1
         case measure => have := HK1.out; omega
         case rel => exact ⟨(wrap64 (x13_1 + 1)), (by first | rfl | (simp; done) | (simp [*]; done)), H', ⟨by have := HK1.out; omega⟩, by repeat (first | exact Drawn0.refl _ | apply Drawn0.step)⟩
       ·rw [if_neg c7] at H
        exact absurd H (by simp)
      ·rw [if_neg c6] at H
       exact absurd H (by simp)
     ·rw [if_neg c5] at H
      exact absurd H (by simp)
    ·rw [if_neg c4] at H
     have c4b0 : decide (x13_1 < (l0.length : Int)) = false := decide_eq_false c4
     clear c4
     obtain rfl := Option.some.inj H
     go_wp2
     repeat (go_quiet (fail); try go_wp2)
     go_ret
     exact ⟨by first | rfl | (simp; done) | (simp [*]; done), by repeat (first | exact Drawn0.refl _ | apply Drawn0.step)⟩
 ·rw [if_neg c3] at H
  have c3b0 : ((l0.length : Int) == (l1.length : Int)) = false := beq_eq_false_iff_ne.mpr c3
  have c3b1 : ((l0.length : Int) != (l1.length : Int)) = true := bne_iff_ne.mpr c3
  have c3b2 : (l0.length == l1.length) = false := by first | simpa using c3 | (simp at c3 ⊢; omega)
  obtain rfl := Option.some.inj H
  go_enter Try.func67, Try.ntmps67
  go_wp2
  repeat (go_quiet (fail); try go_wp2)
  go_ret
  exact ⟨by first | rfl | (simp; done) | (simp [*]; done), by repeat (first | exact Drawn0.refl _ | apply Drawn0.step)⟩
end Go.Proofs.Ytchellnfenekaaa.Pm
end
section
namespace Go.Proofs.Ytchellnfenekaaa.Pm
open Go.RowKit Go.Proofs.YtchellnfenekaaaW.PrintWords Go.Proofs.YtchellnfenekaaaW.PrintLast Go.Proofs.YtchellnfenekaaaW.PrintMore
attribute [local go_sem] max2_int min2_int max_two min_two max_three min_three max_four min_four   -- for this text's walks alone
set_option linter.unusedVariables false
set_option linter.unusedSimpArgs false
def model_sameSentry.f (k : Nat) (l0_0 : List (S39)) (l0_1 : List (S25)) (l1_0 : List (S39)) (l1_1 : List (S25)) : Option (Bool) := (api_On_67.f k l0_0 l1_0).bind fun t398 => (if t398 = true then ((api_Cond_68.f k l0_1 l1_1).bind fun t399 => (some t399)) else (some false))
theorem model_sameSentry.mono : ∀ a0 a1 a2 a3 k, LeO (model_sameSentry.f k a0 a1 a2 a3) (model_sameSentry.f (k + 1) a0 a1 a2 a3) := by
 intro a0 a1 a2 a3 k
 unfold model_sameSentry.f
 repeat' first
   | (with_reducible exact api_Cond_68.mono _ _ _)
   | (with_reducible exact api_On_67.mono _ _ _)
   | (with_reducible exact LeO.refl _)
   | (with_reducible exact LeO.none _)
   | (with_reducible refine LeO.ite ?_ ?_)
   | (with_reducible refine LeO.bind ?_ (fun _ => ?_))
   | exact api_Cond_68.mono _ _ _
   | exact api_On_67.mono _ _ _
   | exact LeO.none _
   | refine LeO.ite ?_ ?_
   | refine LeO.bind ?_ (fun _ => ?_)
set_option maxHeartbeats 8000000 in
set_option maxRecDepth 100000 in
theorem model_sameSentry.calls (k : Nat) (A0_0 : Option Addr) (c0_0 : Nat) (l0_0 : List (S39)) (A0_1 : Option Addr) (c0_1 : Nat) (l0_1 : List (S25)) (A1_0 : Option Addr) (c1_0 : Nat) (l1_0 : List (S39)) (A1_1 : Option Addr) (c1_1 : Nat) (l1_1 : List (S25)) (r : Bool) (w : World) (hr0_0 : Kd.C k39 w A0_0 l0_0.length l0_0) (hc0_0 : l0_0.length ≤ c0_0) (hr0_1 : Kd.C k25 w A0_1 l0_1.length l0_1) (hc0_1 : l0_1.length ≤ c0_1) (hr1_0 : Kd.C k39 w A1_0 l1_0.length l1_0) (hc1_0 : l1_0.length ≤ c1_0) (hr1_1 : Kd.C k25 w A1_1 l1_1.length l1_1) (hc1_1 : l1_1.length ≤ c1_1) (h : model_sameSentry.f k l0_0 l0_1 l1_0 l1_1 = some r) :
  Calls Try.prog 52 #[.agg #[.slice A0_0 l0_0.length c0_0, .slice A0_1 l0_1.length c0_1], .agg #[.slice A1_0 l1_0.length c1_0, .slice A1_1 l1_1.length c1_1]] w fun e w' => e = .returned (.bool r) ∧ Below w.heap.size w w' := by
 have hu29 := Try.underlying29
 have HR0_0 := Aside0.mk hr0_0
 have HC0_0 := Aside0.mk hc0_0
 clear hr0_0 hc0_0
 have HR0_1 := Aside0.mk hr0_1
 have HC0_1 := Aside0.mk hc0_1
 clear hr0_1 hc0_1
 have HR1_0 := Aside0.mk hr1_0
 have HC1_0 := Aside0.mk hc1_0
 clear hr1_0 hc1_0
 have HR1_1 := Aside0.mk hr1_1
 have HC1_1 := Aside0.mk hc1_1
 clear hr1_1 hc1_1
 have HB := Aside0.mk (Below.refl w.heap.size w)
 have H : ((api_On_67.f k l0_0 l1_0).bind fun t398 => (if t398 = true then ((api_Cond_68.f k l0_1 l1_1).bind fun t399 => (some t399)) else (some false))) = some r := h
 clear h
 replace H := Option.bind_eq_some_iff.mp H
 obtain ⟨t398, A30, H⟩ := H
 replace H : (if t398 = true then ((api_Cond_68.f k l0_1 l1_1).bind fun t399 => (some t399)) else (some false)) = some r := H
 have A3 := Aside0.mk A30
 clear A30
 by_cases c4 : t398 = true
 ·subst c4
  have H1 : ((api_Cond_68.f k l0_1 l1_1).bind fun t399 => (some t399)) = some r := by rw [if_pos rfl] at H; exact H
  clear H
  have H := H1
  clear H1
  replace H := Option.bind_eq_some_iff.mp H
  obtain ⟨t399, A50, H⟩ := H
  replace H : (some t399) = some r := H
  have A5 := Aside0.mk A50
  clear A50
  obtain rfl := Option.some.inj H
  go_enter Try.func52, Try.ntmps52
  go_wp2_with (first | ((with_reducible refine gate_dst (N := 2) rfl ?_); refine box_event ?hg (N := 2) ?hd (cs := #[.slice A0_0 l0_0.length c0_0, .slice A0_1 l0_1.length c0_1]) (t := 29) ?hr ?_; (case hd => rfl); (case hg => rfl); (case hr => first | (go_simp; done) | (go_simp; rfl)); intro gb396 hg w6 hbox hb; have n0_ := hb_ HB hb; have n1_ := Aside0.mk (hbox); have n2_ := Aside0.mk ((by rw [hg]; exact (below_size (by repeat (first | (with_reducible first | exact HB.out | apply below_alloc | apply pw_below_drewN | apply below_drew1) | exact HB.out))) : w.heap.size ≤ gb396)); have n3_ := Aside0.mk ((by rw [hg]; exact (below_size (by repeat (first | (with_reducible first | exact HB.out | apply below_alloc | apply pw_below_drewN | apply below_drew1) | exact HB.out))) : w.heap.size ≤ gb396)); clear HB; have HB := n0_; have BK396 := n1_; have GW396 := n2_; have GE396 := n3_; clear n0_ n1_ n2_ n3_; clear hb hbox hg) | ((with_reducible refine gate_dst (N := 3) rfl ?_); refine box_event ?hg (N := 3) ?hd (cs := #[.slice A1_0 l1_0.length c1_0, .slice A1_1 l1_1.length c1_1]) (t := 29) ?hr ?_; (case hd => rfl); (case hg => rfl); (case hr => first | (go_simp; done) | (go_simp; rfl)); intro gb397 hg w7 hbox hb; have n0_ := bb_ BK396 hb; have n1_ := hb_ HB hb; have n2_ := Aside0.mk (hbox); have n3_ := Aside0.mk ((by rw [hg]; exact (below_size (by repeat (first | (with_reducible first | exact HB.out | apply below_alloc | apply pw_below_drewN | apply below_drew1 | refine below_set ?_ GE396.out) | exact HB.out))) : w.heap.size ≤ gb397)); have n4_ := Aside0.mk ((by rw [hg]; exact (below_size (by repeat (first | (with_reducible first | exact HB.out | apply below_alloc | apply pw_below_drewN | apply below_drew1 | refine below_set ?_ GE396.out) | exact HB.out))) : w.heap.size ≤ gb397)); have n5_ := Aside0.mk ((by rw [hg]; exact Nat.ne_of_lt (blk_lt (g := gb396) (o := .cells #[.slice A0_0 l0_0.length c0_0, .slice A0_1 l0_1.length c0_1] 29 (0, 0)) (by (with_reducible repeat (first | refine blk_drewN ?_ _ | refine blk_drew ?_ | refine blk_alloc ?_ _)); exact BK396.out)) : gb396 ≠ gb397)); have n6_ := Aside0.mk ((by rw [hg]; exact Nat.ne_of_gt (blk_lt (g := gb396) (o := .cells #[.slice A0_0 l0_0.length c0_0, .slice A0_1 l0_1.length c0_1] 29 (0, 0)) (by (with_reducible repeat (first | refine blk_drewN ?_ _ | refine blk_drew ?_ | refine blk_alloc ?_ _)); exact BK396.out)) : gb397 ≠ gb396)); clear BK396; clear HB; have BK396 := n0_; have HB := n1_; have BK397 := n2_; have GW397 := n3_; have GE397 := n4_; have NB396_397 := n5_; have NB397_396 := n6_; clear n0_ n1_ n2_ n3_ n4_ n5_ n6_; clear hb hbox hg; have hnb8 := NB396_397.out; have hnc8 := NB397_396.out; obtain ⟨hcz9_0, hcz9_1, hfz9_0, hfz9_1⟩ := bs2_ BK396; obtain ⟨hcz10_0, hcz10_1, hfz10_0, hfz10_1⟩ := bs2_ BK397) | ((with_reducible refine gate_callee (f := 67) rfl ?_); refine gl_ (some 9) Try.func67 #[.slice A0_0 l0_0.length c0_0, .slice A1_0 l1_0.length c1_0] ?_; (with_reducible refine (api_On_67.calls k _ _ l0_0 _ _ l1_0 true _ ?side1 ?side2 ?side3 ?side4 A3.out).mono ?_); (case side1 => exact kc_ HR0_0 HB); (case side2 => exact HC0_0.out); (case side3 => exact kc_ HR1_0 HB); (case side4 => exact HC1_0.out); rintro e w' ⟨rfl, ⟨nd, rfl⟩⟩; refine ⟨_, rfl, ?_⟩) | (go_at_call 68; (with_reducible refine (api_Cond_68.calls k _ _ l0_1 _ _ l1_1 t399 _ ?side1 ?side2 ?side3 ?side4 A5.out).mono ?_); (case side1 => repeat (first | exact (Kd.C_below HR0_1.out (by repeat (first | (with_reducible first | exact HB.out | apply below_alloc | apply pw_below_drewN | apply below_drew1 | refine below_set ?_ GE396.out | refine below_set ?_ GE397.out) | exact HB.out))) | (with_reducible refine Kd.C_alloc ?_ _) | (with_reducible refine Kd.C_drewN ?_ _) | (with_reducible refine Kd.C_drew ?_))); (case side2 => exact HC0_1.out); (case side3 => repeat (first | exact (Kd.C_below HR1_1.out (by repeat (first | (with_reducible first | exact HB.out | apply below_alloc | apply pw_below_drewN | apply below_drew1 | refine below_set ?_ GE396.out | refine below_set ?_ GE397.out) | exact HB.out))) | (with_reducible refine Kd.C_alloc ?_ _) | (with_reducible refine Kd.C_drewN ?_ _) | (with_reducible refine Kd.C_drew ?_))); (case side4 => exact HC1_1.out); rintro e w' ⟨rfl, ⟨nd, rfl⟩⟩))
  go_ret
  exact ⟨er_, hf_⟩
 ·replace c4 := Bool.eq_false_iff.mpr c4
  subst c4
  have H1 : (some false) = some r := by rw [if_neg (show ¬ (false = true) by decide)] at H; exact H
  clear H
  have H := H1
  clear H1
  obtain rfl := Option.some.inj H
  go_enter Try.func52, Try.ntmps52
  go_wp2_with (first | ((with_reducible refine gate_dst (N := 2) rfl ?_); refine box_event ?hg (N := 2) ?hd (cs := #[.slice A0_0 l0_0.length c0_0, .slice A0_1 l0_1.length c0_1]) (t := 29) ?hr ?_; (case hd => rfl); (case hg => rfl); (case hr => first | (go_simp; done) | (go_simp; rfl)); intro gb396 hg w11 hbox hb; have n0_ := hb_ HB hb; have n1_ := Aside0.mk (hbox); have n2_ := Aside0.mk ((by rw [hg]; exact (below_size (by repeat (first | (with_reducible first | exact HB.out | apply below_alloc | apply pw_below_drewN | apply below_drew1) | exact HB.out))) : w.heap.size ≤ gb396)); have n3_ := Aside0.mk ((by rw [hg]; exact (below_size (by repeat (first | (with_reducible first | exact HB.out | apply below_alloc | apply pw_below_drewN | apply below_drew1) | exact HB.out))) : w.heap.size ≤ gb396)); clear HB; have HB := n0_; have BK396 := n1_; have GW396 := n2_; have GE396 := n3_; clear n0_ n1_ n2_ n3_; clear hb hbox hg) | ((with_reducible refine gate_dst (N := 3) rfl ?_); refine box_event ?hg (N := 3) ?hd (cs := #[.slice A1_0 l1_0.length c1_0, .slice A1_1 l1_1.length c1_1]) (t := 29) ?hr ?_; (case hd => rfl); (case hg => rfl); (case hr => first | (go_simp; done) | (go_simp; rfl)); intro gb397 hg w12 hbox hb; have n0_ := bb_ BK396 hb; have n1_ := hb_ HB hb; have n2_ := Aside0.mk (hbox); have n3_ := Aside0.mk ((by rw [hg]; exact (below_size (by repeat (first | (with_reducible first | exact HB.out | apply below_alloc | apply pw_below_drewN | apply below_drew1 | refine below_set ?_ GE396.out) | exact HB.out))) : w.heap.size ≤ gb397)); have n4_ := Aside0.mk ((by rw [hg]; exact (below_size (by repeat (first | (with_reducible first | exact HB.out | apply below_alloc | apply pw_below_drewN | apply below_drew1 | refine below_set ?_ GE396.out) | exact HB.out))) : w.heap.size ≤ gb397)); have n5_ := Aside0.mk ((by rw [hg]; exact Nat.ne_of_lt (blk_lt (g := gb396) (o := .cells #[.slice A0_0 l0_0.length c0_0, .slice A0_1 l0_1.length c0_1] 29 (0, 0)) (by (with_reducible repeat (first | refine blk_drewN ?_ _ | refine blk_drew ?_ | refine blk_alloc ?_ _)); exact BK396.out)) : gb396 ≠ gb397)); have n6_ := Aside0.mk ((by rw [hg]; exact Nat.ne_of_gt (blk_lt (g := gb396) (o := .cells #[.slice A0_0 l0_0.length c0_0, .slice A0_1 l0_1.length c0_1] 29 (0, 0)) (by (with_reducible repeat (first | refine blk_drewN ?_ _ | refine blk_drew ?_ | refine blk_alloc ?_ _)); exact BK396.out)) : gb397 ≠ gb396)); clear BK396; clear HB; have BK396 := n0_; have HB := n1_; have BK397 := n2_; have GW397 := n3_; have GE397 := n4_; have NB396_397 := n5_; have NB397_396 := n6_; clear n0_ n1_ n2_ n3_ n4_ n5_ n6_; clear hb hbox hg; have hnb13 := NB396_397.out; have hnc13 := NB397_396.out; obtain ⟨hcz14_0, hcz14_1, hfz14_0, hfz14_1⟩ := bs2_ BK396; obtain ⟨hcz15_0, hcz15_1, hfz15_0, hfz15_1⟩ := bs2_ BK397) | ((with_reducible refine gate_callee (f := 67) rfl ?_); refine gl_ (some 9) Try.func67 #[.slice A0_0 l0_0.length c0_0, .slice A1_0 l1_0.length c1_0] ?_; (with_reducible refine (api_On_67.calls k _ _ l0_0 _ _ l1_0 false _ ?side1 ?side2 ?side3 ?side4 A3.out).mono ?_); (case side1 => exact kc_ HR0_0 HB); (case side2 => exact HC0_0.out); (case side3 => exact kc_ HR1_0 HB); (case side4 => exact HC1_0.out); rintro e w' ⟨rfl, ⟨nd, rfl⟩⟩; refine ⟨_, rfl, ?_⟩))
  go_ret
  exact ⟨er_, hf_⟩
end Go.Proofs.Ytchellnfenekaaa.Pm
end
section
namespace Go.Proofs.Ytchellnfenekaaa.Pm
open Go.RowKit Go.Proofs.YtchellnfenekaaaW.PrintWords Go.Proofs.YtchellnfenekaaaW.PrintLast Go.Proofs.YtchellnfenekaaaW.PrintMore
attribute [local go_sem] max2_int min2_int max_two min_two max_three min_three max_four min_four   -- for this text's walks alone
set_option linter.unusedVariables false
set_option linter.unusedSimpArgs false
def slices_Equal_string_string.l0 : Nat → List ByteArray → List ByteArray → Int → Int → Option (Bool)
 | 0, _, _, _, _ => none
 | k + 1, x0, x1, x12, x13 => if x13 < x12 then (if 0 ≤ x13 then (if x13 < (x0.length : Int) then (if x13 < (x1.length : Int) then (if (rdOf ByteArray.empty x0 x13).toList = (rdOf ByteArray.empty x1 x13).toList then (slices_Equal_string_string.l0 k x0 x1 x12 (wrap64 (x13 + 1))) else (some false)) else (none)) else (none)) else (none)) else (some true)
def slices_Equal_string_string.f (k : Nat) (l0 : List ByteArray) (l1 : List ByteArray) : Option (Bool) := if (l0.length : Int) = (l1.length : Int) then (slices_Equal_string_string.l0 k l0 l1 (l0.length : Int) 0) else (some false)
theorem slices_Equal_string_string.mono_l : ∀ k, (∀ y0 y1 y2 y3, LeO (slices_Equal_string_string.l0 k y0 y1 y2 y3) (slices_Equal_string_string.l0 (k + 1) y0 y1 y2 y3))
 | 0 => fun _ _ _ _ r h => by simp [slices_Equal_string_string.l0] at h
 | k + 1 => by
  have ih0 := slices_Equal_string_string.mono_l k
  ·intro y0 y1 y2 y3
   unfold slices_Equal_string_string.l0
   repeat' first
   | (with_reducible exact ih0 _ _ _ _)
   | (with_reducible exact LeO.refl _)
   | (with_reducible exact LeO.none _)
   | (with_reducible refine LeO.ite ?_ ?_)
   | (with_reducible refine LeO.bind ?_ (fun _ => ?_))
   | exact ih0 _ _ _ _
   | exact LeO.none _
   | refine LeO.ite ?_ ?_
   | refine LeO.bind ?_ (fun _ => ?_)
theorem slices_Equal_string_string.mono : ∀ a0 a1 k, LeO (slices_Equal_string_string.f k a0 a1) (slices_Equal_string_string.f (k + 1) a0 a1) := by
 intro a0 a1 k
 have ih0 := slices_Equal_string_string.mono_l k
 unfold slices_Equal_string_string.f
 repeat' first
   | (with_reducible exact ih0 _ _ _ _)
   | (with_reducible exact LeO.refl _)
   | (with_reducible exact LeO.none _)
   | (with_reducible refine LeO.ite ?_ ?_)
   | (with_reducible refine LeO.bind ?_ (fun _ => ?_))
   | exact ih0 _ _ _ _
   | exact LeO.none _
   | refine LeO.ite ?_ ?_
   | refine LeO.bind ?_ (fun _ => ?_)
set_option maxHeartbeats 8000000 in
set_option maxRecDepth 100000 in
theorem slices_Equal_string_string.calls (k : Nat) (A0 : Option Addr) (c0 : Nat) (l0 : List ByteArray) (A1 : Option Addr) (c1 : Nat) (l1 : List ByteArray) (r : Bool) (w : World) (hr0 : Kd.C Kd.string w A0 l0.length l0) (hc0 : l0.length ≤ c0) (hr1 : Kd.C Kd.string w A1 l1.length l1) (hc1 : l1.length ≤ c1) (h : slices_Equal_string_string.f k l0 l1 = some r) :
  Calls Try.prog 53 #[.slice A0 l0.length c0, .slice A1 l1.length c1] w fun e w' => e = .returned (.bool r) ∧ Drawn0 w w' := by
 have HR0 := Aside0.mk hr0
 have HC0 := Aside0.mk hc0
 clear hr0 hc0
 have HR1 := Aside0.mk hr1
 have HC1 := Aside0.mk hc1
 clear hr1 hc1
 have H : (if (l0.length : Int) = (l1.length : Int) then (slices_Equal_string_string.l0 k l0 l1 (l0.length : Int) 0) else (some false)) = some r := h
 clear h
 by_cases c3 : (l0.length : Int) = (l1.length : Int)
 ·rw [if_pos c3] at H
  have c3b0 : ((l0.length : Int) == (l1.length : Int)) = true := beq_iff_eq.mpr c3
  have c3b1 : ((l0.length : Int) != (l1.length : Int)) = false := bne_eq_false_iff_eq.mpr c3
  have c3b2 : (l0.length == l1.length) = true := by first | simpa using c3 | (simp at c3 ⊢; omega)
  clear c3
  have H' := Aside0.mk H
  clear H
  go_enter Try.func53, Try.ntmps53
  go_wp2
  repeat (go_quiet (fail); try go_wp2)
  go_loopg [13] k (fun kq v13 w' => ∃ (x13_1 : Int), v13 = .int .i64 x13_1 ∧ Aside0 (slices_Equal_string_string.l0 kq l0 l1 (l0.length : Int) x13_1 = some r) ∧ Aside0 (kq ≤ k) ∧ Drawn0 w w')
  case atStart => exact ⟨(0), (by first | rfl | (simp; done) | (simp [*]; done)), H', ⟨Nat.le_refl _⟩, by repeat (first | exact Drawn0.refl _ | apply Drawn0.step)⟩
  case round =>
   clear H'
   (try clear c1); (try clear p2); (try clear c3); (try clear c3b0); (try clear c3b1); (try clear c3b2)
   obtain ⟨x13_1, rfl, HA, HK1, ⟨m1, rfl⟩⟩ := hrel
   cases gk with
   | zero => exact absurd HA.out (by simp [slices_Equal_string_string.l0])
   | succ k1 =>
    have H := HA.out
    clear HA
    simp only [slices_Equal_string_string.l0] at H
    by_cases c4 : x13_1 < (l0.length : Int)
    ·rw [if_pos c4] at H
     have c4b0 : decide (x13_1 < (l0.length : Int)) = true := decide_eq_true c4
     clear c4
     by_cases c5 : 0 ≤ x13_1
     ·rw [if_pos c5] at H
      have c5b0 : decide (0 ≤ x13_1) = true := decide_eq_true c5
      clear c5
      by_cases c6 : x13_1 < (l0.length : Int)
      ·rw [if_pos c6] at H
       have c6b0 : decide (x13_1 < (l0.length : Int)) = true := decide_eq_true c6
       clear c6
       by_cases c7 : x13_1 < (l1.length : Int)
       ·rw [if_pos c7] at H
        have c7b0 : decide (x13_1 < (l1.length : Int)) = true := decide_eq_true c7
        clear c7
        by_cases c8 : (rdOf ByteArray.empty l0 x13_1).toList = (rdOf ByteArray.empty l1 x13_1).toList
        ·rw [if_pos c8] at H
         have c8b0 : ((rdOf ByteArray.empty l0 x13_1).toList == (rdOf ByteArray.empty l1 x13_1).toList) = true := beq_iff_eq.mpr c8
         have c8b1 : ((rdOf ByteArray.empty l0 x13_1).toList != (rdOf ByteArray.empty l1 x13_1).toList) = false := bne_eq_false_iff_eq.mpr c8
         clear c8
         have H' := Aside0.mk H
         clear H
         have p402 : 0 ≤ (x13_1 : Int) := od_
         have q402 : x13_1 < (l0.length : Int) := od_
         obtain ⟨ad402, e402, hx402_0⟩ := Kd.at_string HR0.out x13_1 p402 q402
         cases e402
         replace p402 := eq_true p402
         replace q402 := eq_true q402
         have p403 : 0 ≤ (x13_1 : Int) := od_
         have q403 : x13_1 < (l1.length : Int) := od_
         obtain ⟨ad403, e403, hx403_0⟩ := Kd.at_string HR1.out x13_1 p403 q403
         cases e403
         replace p403 := eq_true p403
         replace q403 := eq_true q403
         go_wp2
         repeat (go_quiet (fail); try go_wp2)
         go_roundg k1
         case measure => have := HK1.out; omega
         case rel => exact ⟨(wrap64 (x13_1 + 1)), (by first | rfl | (simp; done) | (simp [*]; done)), H', ⟨by have := HK1.out; omega⟩, by repeat (first | exact Drawn0.refl _ | apply Drawn0.step)⟩
        ·rw [if_neg c8] at H
         have c8b0 : ((rdOf ByteArray.empty l0 x13_1).toList == (rdOf ByteArray.empty l1 x13_1).toList) = false := beq_eq_false_iff_ne.mpr c8
         have c8b1 : ((rdOf ByteArray.empty l0 x13_1).toList != (rdOf ByteArray.empty l1 x13_1).toList) = true := bne_iff_ne.mpr c8
         obtain rfl := Option.some.inj H
         have p402 : 0 ≤ (x13_1 : Int) := od_
         have q402 : x13_1 < (l0.length : Int) := od_
         obtain ⟨ad402, e402, hx402_0⟩ := Kd.at_string HR0.out x13_1 p402 q402
         cases e402
         replace p402 := eq_true p402
         replace q402 := eq_true q402
         have p403 : 0 ≤ (x13_1 : Int) := od_
         have q403 : x13_1 < (l1.length : Int) := od_
         obtain ⟨ad403, e403, hx403_0⟩ := Kd.at_string HR1.out x13_1 p403 q403
         cases e403
         replace p403 := eq_true p403
         replace q403 := eq_true q403
         go_wp2
         repeat (go_quiet (fail); try go_wp2)
         go_ret
         exact ⟨by first | rfl | (simp; done) | (simp [*]; done), by repeat (first | exact Drawn0.refl _ | apply Drawn0.step)⟩
       ·rw [if_neg c7] at H
        exact absurd H (by simp)
      ·rw [if_neg c6] at H
       exact absurd H (by simp)
     ·rw [if_neg c5] at H
      exact absurd H (by simp)
    ·rw [if_neg c4] at H
     have c4b0 : decide (x13_1 < (l0.length : Int)) = false := decide_eq_false c4
     clear c4
     obtain rfl := Option.some.inj H
     go_wp2
     repeat (go_quiet (fail); try go_wp2)
     go_ret
     exact ⟨by first | rfl | (simp; done) | (simp [*]; done), by repeat (first | exact Drawn0.refl _ | apply Drawn0.step)⟩
 ·rw [if_neg c3] at H
  have c3b0 : ((l0.length : Int) == (l1.length : Int)) = false := beq_eq_false_iff_ne.mpr c3
  have c3b1 : ((l0.length : Int) != (l1.length : Int)) = true := bne_iff_ne.mpr c3
  have c3b2 : (l0.length == l1.length) = false := by first | simpa using c3 | (simp at c3 ⊢; omega)
  obtain rfl := Option.some.inj H
  go_enter Try.func53, Try.ntmps53
  go_wp2
  repeat (go_quiet (fail); try go_wp2)
  go_ret
  exact ⟨by first | rfl | (simp; done) | (simp [*]; done), by repeat (first | exact Drawn0.refl _ | apply Drawn0.step)⟩
end Go.Proofs.Ytchellnfenekaaa.Pm
end
section
namespace Go.Proofs.Ytchellnfenekaaa.Pm
open Go.RowKit Go.Proofs.YtchellnfenekaaaW.PrintWords Go.Proofs.YtchellnfenekaaaW.PrintLast Go.Proofs.YtchellnfenekaaaW.PrintMore
attribute [local go_sem] max2_int min2_int max_two min_two max_three min_three max_four min_four   -- for this text's walks alone
set_option linter.unusedVariables false
set_option linter.unusedSimpArgs false
mutual
def sentryref4_Legal.j0 : Nat → Int → Int → Bool → Option (Bool)
 | 0, _, _, _ => none
 | k + 1, x0, x1, x10 => if x10 = true then (some false) else (if x1 = 1 then (sentryref4_Legal.j1 k x0 x1 (x1 == 1)) else (sentryref4_Legal.j1 k x0 x1 (x1 == 5)))
def sentryref4_Legal.j1 : Nat → Int → Int → Bool → Option (Bool)
 | 0, _, _, _ => none
 | k + 1, x0, x11, x12 => if x12 = true then (some true) else (if x11 = 2 then (sentryref4_Legal.j2 k x0 x11 (x11 == 2)) else (sentryref4_Legal.j2 k x0 x11 (x11 == 3)))
def sentryref4_Legal.j2 : Nat → Int → Int → Bool → Option (Bool)
 | 0, _, _, _ => none
 | k + 1, x0, x11, x15 => if x15 = true then (some (decide (x0 ≤ 2))) else (if x11 = 4 then (some (decide (x0 > 2))) else (some false))
end
def sentryref4_Legal.f (k : Nat) (a0 : Int) (a1 : Int) : Option (Bool) := if a0 < 1 then (sentryref4_Legal.j0 k a0 a1 true) else (sentryref4_Legal.j0 k a0 a1 (decide (a0 > 5)))
theorem sentryref4_Legal.mono_l : ∀ k, (∀ y0 y1 y2, LeO (sentryref4_Legal.j0 k y0 y1 y2) (sentryref4_Legal.j0 (k + 1) y0 y1 y2)) ∧ (∀ y0 y1 y2, LeO (sentryref4_Legal.j1 k y0 y1 y2) (sentryref4_Legal.j1 (k + 1) y0 y1 y2)) ∧ (∀ y0 y1 y2, LeO (sentryref4_Legal.j2 k y0 y1 y2) (sentryref4_Legal.j2 (k + 1) y0 y1 y2))
 | 0 => ⟨fun _ _ _ r h => by simp [sentryref4_Legal.j0] at h, fun _ _ _ r h => by simp [sentryref4_Legal.j1] at h, fun _ _ _ r h => by simp [sentryref4_Legal.j2] at h⟩
 | k + 1 => by
  obtain ⟨ih0, ih1, ih2⟩ := sentryref4_Legal.mono_l k
  refine ⟨?_, ?_, ?_⟩
  intro y0 y1 y2
  unfold sentryref4_Legal.j0
  rotate_left
  intro y0 y1 y2
  unfold sentryref4_Legal.j1
  rotate_left
  intro y0 y1 y2
  unfold sentryref4_Legal.j2
  rotate_left
  all_goals repeat' first
   | (with_reducible exact ih0 _ _ _)
   | (with_reducible exact ih1 _ _ _)
   | (with_reducible exact ih2 _ _ _)
   | (with_reducible exact LeO.refl _)
   | (with_reducible exact LeO.none _)
   | (with_reducible refine LeO.ite ?_ ?_)
   | (with_reducible refine LeO.bind ?_ (fun _ => ?_))
   | exact ih0 _ _ _
   | exact ih1 _ _ _
   | exact ih2 _ _ _
   | exact LeO.none _
   | refine LeO.ite ?_ ?_
   | refine LeO.bind ?_ (fun _ => ?_)
theorem sentryref4_Legal.mono : ∀ a0 a1 k, LeO (sentryref4_Legal.f k a0 a1) (sentryref4_Legal.f (k + 1) a0 a1) := by
 intro a0 a1 k
 obtain ⟨ih0, ih1, ih2⟩ := sentryref4_Legal.mono_l k
 unfold sentryref4_Legal.f
 repeat' first
   | (with_reducible exact ih0 _ _ _)
   | (with_reducible exact ih1 _ _ _)
   | (with_reducible exact ih2 _ _ _)
   | (with_reducible exact LeO.refl _)
   | (with_reducible exact LeO.none _)
   | (with_reducible refine LeO.ite ?_ ?_)
   | (with_reducible refine LeO.bind ?_ (fun _ => ?_))
   | exact ih0 _ _ _
   | exact ih1 _ _ _
   | exact ih2 _ _ _
   | exact LeO.none _
   | refine LeO.ite ?_ ?_
   | refine LeO.bind ?_ (fun _ => ?_)
set_option maxHeartbeats 8000000 in
set_option maxRecDepth 100000 in
theorem sentryref4_Legal.calls (k : Nat) (a0 : Int) (a1 : Int) (r : Bool) (w : World) (h : sentryref4_Legal.f k a0 a1 = some r) :
  Calls Try.prog 13 #[.int .i64 a0, .int .i64 a1] w fun e w' => e = .returned (.bool r) ∧ Drawn0 w w' := by
 have H : (if a0 < 1 then (sentryref4_Legal.j0 k a0 a1 true) else (sentryref4_Legal.j0 k a0 a1 (decide (a0 > 5)))) = some r := h
 clear h
 have HC3 := Aside0.mk H
 clear H
 go_enter Try.func13, Try.ntmps13
 go_upto_region 1 with (fail)
 go_cut [10] (fun v10 wc => ∃ (kq : Nat) (x10_2 : Bool), v10 = .bool x10_2 ∧ Aside0 (sentryref4_Legal.j0 kq a0 a1 x10_2 = some r) ∧ Aside0 (kq ≤ k) ∧ Drawn0 w wc)
 case first =>
  have H := HC3.out
  clear HC3
  by_cases c4 : a0 < 1
  ·rw [if_pos c4] at H
   have c4b0 : decide (a0 < 1) = true := decide_eq_true c4
   clear c4
   (first | rw [c4b0] | (simp only [i64_w, i32_w]; rw [c4b0]) | skip)
   have H' := Aside0.mk H
   clear H
   go_wp2
   go_meet
   case rel => exact ⟨_, (true), (by first | rfl | (simp; done) | (simp [*]; done)), H', ⟨by first | omega | exact Nat.le_refl _⟩, by repeat (first | exact Drawn0.refl _ | apply Drawn0.step)⟩
  ·rw [if_neg c4] at H
   have c4b0 : decide (a0 < 1) = false := decide_eq_false c4
   clear c4
   (first | rw [c4b0] | (simp only [i64_w, i32_w]; rw [c4b0]) | skip)
   have H' := Aside0.mk H
   clear H
   go_wp2
   go_meet
   case rel => exact ⟨_, (decide (a0 > 5)), (by first | rfl | (simp; done) | (simp [*]; done)), H', ⟨by first | omega | exact Nat.le_refl _⟩, by repeat (first | exact Drawn0.refl _ | apply Drawn0.step)⟩
 case rest =>
  clear HC3
  (try clear c1); (try clear p2); (try clear c4); (try clear c4b0)
  obtain ⟨kq, x10_2, rfl, HA, HJ2, ⟨mc2, rfl⟩⟩ := hcut
  cases kq with
  | zero => exact absurd HA.out (by simp [sentryref4_Legal.j0])
  | succ kj2 =>
   have H := HA.out
   clear HA
   simp only [sentryref4_Legal.j0] at H
   by_cases c5 : x10_2 = true
   ·subst c5
    have H1 : (some false) = some r := by rw [if_pos rfl] at H; exact H
    clear H
    have H := H1
    clear H1
    obtain rfl := Option.some.inj H
    go_wp2
    go_ret
    exact ⟨by first | rfl | (simp; done) | (simp [*]; done), by repeat (first | exact Drawn0.refl _ | apply Drawn0.step)⟩
   ·replace c5 := Bool.eq_false_iff.mpr c5
    subst c5
    have H1 : (if a1 = 1 then (sentryref4_Legal.j1 kj2 a0 a1 (a1 == 1)) else (sentryref4_Legal.j1 kj2 a0 a1 (a1 == 5))) = some r := by rw [if_neg (show ¬ (false = true) by decide)] at H; exact H
    clear H
    have H := H1
    clear H1
    have HC6 := Aside0.mk H
    clear H
    go_upto_if 12 with (fail)
    go_cut [12] (fun v12 wc => ∃ (kq : Nat) (x12_5 : Bool), v12 = .bool x12_5 ∧ Aside0 (sentryref4_Legal.j1 kq a0 a1 x12_5 = some r) ∧ Aside0 (kq ≤ kj2) ∧ Drawn0 w wc)
    case first =>
     have H := HC6.out
     clear HC6
     by_cases c7 : a1 = 1
     ·rw [if_pos c7] at H
      have c7b0 : (a1 == 1) = true := beq_iff_eq.mpr c7
      have c7b1 : (a1 != 1) = false := bne_eq_false_iff_eq.mpr c7
      clear c7
      (first | rw [c7b0] | (simp only [i64_w, i32_w]; rw [c7b0]) | skip)
      have H' := Aside0.mk H
      clear H
      go_wp2
      go_meet
      case rel => exact ⟨_, ((a1 == 1)), (by first | rfl | (simp; done) | (simp [*]; done)), H', ⟨by have := HJ2.out; first | omega | exact Nat.le_refl _⟩, by repeat (first | exact Drawn0.refl _ | apply Drawn0.step)⟩
     ·rw [if_neg c7] at H
      have c7b0 : (a1 == 1) = false := beq_eq_false_iff_ne.mpr c7
      have c7b1 : (a1 != 1) = true := bne_iff_ne.mpr c7
      (first | rw [c7b0] | (simp only [i64_w, i32_w]; rw [c7b0]) | skip)
      have H' := Aside0.mk H
      clear H
      go_wp2
      go_meet
      case rel => exact ⟨_, ((a1 == 5)), (by first | rfl | (simp; done) | (simp [*]; done)), H', ⟨by have := HJ2.out; first | omega | exact Nat.le_refl _⟩, by repeat (first | exact Drawn0.refl _ | apply Drawn0.step)⟩
    case rest =>
     clear HC6
     (try clear c1); (try clear c2); (try clear p2); (try clear c4); (try clear c4b0); (try clear c5); (try clear c7); (try clear c7b0); (try clear c7b1); (try clear p2)
     obtain ⟨kq, x12_5, rfl, HA, HJ5, ⟨mc5, rfl⟩⟩ := hcut
     cases kq with
     | zero => exact absurd HA.out (by simp [sentryref4_Legal.j1])
     | succ kj5 =>
      have H := HA.out
      clear HA
      simp only [sentryref4_Legal.j1] at H
      by_cases c8 : x12_5 = true
      ·subst c8
       have H1 : (some true) = some r := by rw [if_pos rfl] at H; exact H
       clear H
       have H := H1
       clear H1
       obtain rfl := Option.some.inj H
       go_wp2
       go_ret
       exact ⟨by first | rfl | (simp; done) | (simp [*]; done), by repeat (first | exact Drawn0.refl _ | apply Drawn0.step)⟩
      ·replace c8 := Bool.eq_false_iff.mpr c8
       subst c8
       have H1 : (if a1 = 2 then (sentryref4_Legal.j2 kj5 a0 a1 (a1 == 2)) else (sentryref4_Legal.j2 kj5 a0 a1 (a1 == 3))) = some r := by rw [if_neg (show ¬ (false = true) by decide)] at H; exact H
       clear H
       have H := H1
       clear H1
       have HC9 := Aside0.mk H
       clear H
       go_upto_if 15 with (fail)
       go_cut [15] (fun v15 wc => ∃ (kq : Nat) (x15_8 : Bool), v15 = .bool x15_8 ∧ Aside0 (sentryref4_Legal.j2 kq a0 a1 x15_8 = some r) ∧ Aside0 (kq ≤ kj5) ∧ Drawn0 w wc)
       case first =>
        have H := HC9.out
        clear HC9
        by_cases c10 : a1 = 2
        ·rw [if_pos c10] at H
         have c10b0 : (a1 == 2) = true := beq_iff_eq.mpr c10
         have c10b1 : (a1 != 2) = false := bne_eq_false_iff_eq.mpr c10
         clear c10
         (first | rw [c10b0] | (simp only [i64_w, i32_w]; rw [c10b0]) | skip)
         have H' := Aside0.mk H
         clear H
         go_wp2
         go_meet
         case rel => exact ⟨_, ((a1 == 2)), (by first | rfl | (simp; done) | (simp [*]; done)), H', ⟨by have := HJ2.out; have := HJ5.out; first | omega | exact Nat.le_refl _⟩, by repeat (first | exact Drawn0.refl _ | apply Drawn0.step)⟩
        ·rw [if_neg c10] at H
         have c10b0 : (a1 == 2) = false := beq_eq_false_iff_ne.mpr c10
         have c10b1 : (a1 != 2) = true := bne_iff_ne.mpr c10
         (first | rw [c10b0] | (simp only [i64_w, i32_w]; rw [c10b0]) | skip)
         have H' := Aside0.mk H
         clear H
         go_wp2
         go_meet
         case rel => exact ⟨_, ((a1 == 3)), (by first | rfl | (simp; done) | (simp [*]; done)), H', ⟨by have := HJ2.out; have := HJ5.out; first | omega | exact Nat.le_refl _⟩, by repeat (first | exact Drawn0.refl _ | apply Drawn0.step)⟩
       case rest =>
        clear HC9
        (try clear c1); (try clear c2); (try clear p2); (try clear c4); (try clear c4b0); (try clear c5); (try clear c7); (try clear c7b0); (try clear c7b1); (try clear c8); (try clear c10); (try clear c10b0); (try clear c10b1); (try clear p2)
        obtain ⟨kq, x15_8, rfl, HA, HJ8, ⟨mc8, rfl⟩⟩ := hcut
        cases kq with
        | zero => exact absurd HA.out (by simp [sentryref4_Legal.j2])
        | succ kj8 =>
         have H := HA.out
         clear HA
         simp only [sentryref4_Legal.j2] at H
         by_cases c11 : x15_8 = true
         ·subst c11
          have H1 : (some (decide (a0 ≤ 2))) = some r := by rw [if_pos rfl] at H; exact H
          clear H
          have H := H1
          clear H1
          obtain rfl := Option.some.inj H
          go_wp2
          go_ret
          exact ⟨by first | rfl | (simp; done) | (simp [*]; done), by repeat (first | exact Drawn0.refl _ | apply Drawn0.step)⟩
         ·replace c11 := Bool.eq_false_iff.mpr c11
          subst c11
          have H1 : (if a1 = 4 then (some (decide (a0 > 2))) else (some false)) = some r := by rw [if_neg (show ¬ (false = true) by decide)] at H; exact H
          clear H
          have H := H1
          clear H1
          by_cases c12 : a1 = 4
          ·rw [if_pos c12] at H
           have c12b0 : (a1 == 4) = true := beq_iff_eq.mpr c12
           have c12b1 : (a1 != 4) = false := bne_eq_false_iff_eq.mpr c12
           clear c12
           obtain rfl := Option.some.inj H
           go_wp2
           go_ret
           exact ⟨by first | rfl | (simp; done) | (simp [*]; done), by repeat (first | exact Drawn0.refl _ | apply Drawn0.step)⟩
          ·rw [if_neg c12] at H
           have c12b0 : (a1 == 4) = false := beq_eq_false_iff_ne.mpr c12
           have c12b1 : (a1 != 4) = true := bne_iff_ne.mpr c12
           obtain rfl := Option.some.inj H
           go_wp2
           go_ret
           exact ⟨by first | rfl | (simp; done) | (simp [*]; done), by repeat (first | exact Drawn0.refl _ | apply Drawn0.step)⟩
end Go.Proofs.Ytchellnfenekaaa.Pm
end
section
namespace Go.Proofs.Ytchellnfenekaaa.Pm
open Go.RowKit Go.Proofs.YtchellnfenekaaaW.PrintWords Go.Proofs.YtchellnfenekaaaW.PrintLast Go.Proofs.YtchellnfenekaaaW.PrintMore
attribute [local go_sem] max2_int min2_int max_two min_two max_three min_three max_four min_four   -- for this text's walks alone
set_option linter.unusedVariables false
set_option linter.unusedSimpArgs false
end Go.Proofs.Ytchellnfenekaaa.Pm
end
section
namespace Go.Proofs.Ytchellnfenekaaa.Pm
open Go.RowKit Go.Proofs.YtchellnfenekaaaW.PrintWords Go.Proofs.YtchellnfenekaaaW.PrintLast Go.Proofs.YtchellnfenekaaaW.PrintMore
attribute [local go_sem] max2_int min2_int max_two min_two max_three min_three max_four min_four   -- for this text's walks alone
set_option linter.unusedVariables false
set_option linter.unusedSimpArgs false
def sentryref4_File.l0 : Nat → List ByteArray → ByteArray → Int → Option (Bool)
 | 0, _, _, _ => none
 | k + 1, x0, x1, x5 => if x5 < (x0.length : Int) then (if 0 ≤ x5 then (if (rdOf ByteArray.empty x0 x5).toList = x1.toList then (some true) else (sentryref4_File.l0 k x0 x1 (wrap64 (x5 + 1)))) else (none)) else (some false)
def sentryref4_File.f (k : Nat) (l0 : List ByteArray) (a1 : ByteArray) : Option (Bool) := sentryref4_File.l0 k l0 a1 0
theorem sentryref4_File.mono_l : ∀ k, (∀ y0 y1 y2, LeO (sentryref4_File.l0 k y0 y1 y2) (sentryref4_File.l0 (k + 1) y0 y1 y2))
 | 0 => fun _ _ _ r h => by simp [sentryref4_File.l0] at h
 | k + 1 => by
  have ih0 := sentryref4_File.mono_l k
  ·intro y0 y1 y2
   unfold sentryref4_File.l0
   repeat' first
   | (with_reducible exact ih0 _ _ _)
   | (with_reducible exact LeO.refl _)
   | (with_reducible exact LeO.none _)
   | (with_reducible refine LeO.ite ?_ ?_)
   | (with_reducible refine LeO.bind ?_ (fun _ => ?_))
   | exact ih0 _ _ _
   | exact LeO.none _
   | refine LeO.ite ?_ ?_
   | refine LeO.bind ?_ (fun _ => ?_)
theorem sentryref4_File.mono : ∀ a0 a1 k, LeO (sentryref4_File.f k a0 a1) (sentryref4_File.f (k + 1) a0 a1) := by
 intro a0 a1 k
 have ih0 := sentryref4_File.mono_l k
 unfold sentryref4_File.f
 repeat' first
   | (with_reducible exact ih0 _ _ _)
   | (with_reducible exact LeO.refl _)
   | (with_reducible exact LeO.none _)
   | (with_reducible refine LeO.ite ?_ ?_)
   | (with_reducible refine LeO.bind ?_ (fun _ => ?_))
   | exact ih0 _ _ _
   | exact LeO.none _
   | refine LeO.ite ?_ ?_
   | refine LeO.bind ?_ (fun _ => ?_)
set_option maxHeartbeats 8000000 in
set_option maxRecDepth 100000 in
theorem sentryref4_File.calls (k : Nat) (A0 : Option Addr) (c0 : Nat) (l0 : List ByteArray) (a1 : ByteArray) (r : Bool) (w : World) (hr0 : Kd.C Kd.string w A0 l0.length l0) (hc0 : l0.length ≤ c0) (h : sentryref4_File.f k l0 a1 = some r) :
  Calls Try.prog 40 #[.slice A0 l0.length c0, .string a1] w fun e w' => e = .returned (.bool r) ∧ Drawn0 w w' := by
 have HR0 := Aside0.mk hr0
 have HC0 := Aside0.mk hc0
 clear hr0 hc0
 have H : (sentryref4_File.l0 k l0 a1 0) = some r := h
 clear h
 have H' := Aside0.mk H
 clear H
 go_enter Try.func40, Try.ntmps40
 go_wp2
 go_loopg [5] k (fun kq v5 w' => ∃ (x5_1 : Int), v5 = .int .i64 x5_1 ∧ Aside0 (sentryref4_File.l0 kq l0 a1 x5_1 = some r) ∧ Aside0 (kq ≤ k) ∧ Drawn0 w w')
 case atStart => exact ⟨(0), (by first | rfl | (simp; done) | (simp [*]; done)), H', ⟨Nat.le_refl _⟩, by repeat (first | exact Drawn0.refl _ | apply Drawn0.step)⟩
 case round =>
  clear H'
  try clear p2
  obtain ⟨x5_1, rfl, HA, HK1, ⟨m1, rfl⟩⟩ := hrel
  cases gk with
  | zero => exact absurd HA.out (by simp [sentryref4_File.l0])
  | succ k1 =>
   have H := HA.out
   clear HA
   simp only [sentryref4_File.l0] at H
   by_cases c3 : x5_1 < (l0.length : Int)
   ·rw [if_pos c3] at H
    have c3b0 : decide (x5_1 < (l0.length : Int)) = true := decide_eq_true c3
    clear c3
    by_cases c4 : 0 ≤ x5_1
    ·rw [if_pos c4] at H
     have c4b0 : decide (0 ≤ x5_1) = true := decide_eq_true c4
     clear c4
     by_cases c5 : (rdOf ByteArray.empty l0 x5_1).toList = a1.toList
     ·rw [if_pos c5] at H
      have c5b0 : ((rdOf ByteArray.empty l0 x5_1).toList == a1.toList) = true := beq_iff_eq.mpr c5
      have c5b1 : ((rdOf ByteArray.empty l0 x5_1).toList != a1.toList) = false := bne_eq_false_iff_eq.mpr c5
      clear c5
      obtain rfl := Option.some.inj H
      have p165 : 0 ≤ (x5_1 : Int) := od_
      have q165 : x5_1 < (l0.length : Int) := od_
      obtain ⟨ad165, e165, hx165_0⟩ := Kd.at_string HR0.out x5_1 p165 q165
      cases e165
      replace p165 := eq_true p165
      replace q165 := eq_true q165
      go_wp2
      go_ret
      exact ⟨by first | rfl | (simp; done) | (simp [*]; done), by repeat (first | exact Drawn0.refl _ | apply Drawn0.step)⟩
     ·rw [if_neg c5] at H
      have c5b0 : ((rdOf ByteArray.empty l0 x5_1).toList == a1.toList) = false := beq_eq_false_iff_ne.mpr c5
      have c5b1 : ((rdOf ByteArray.empty l0 x5_1).toList != a1.toList) = true := bne_iff_ne.mpr c5
      have H' := Aside0.mk H
      clear H
      have p165 : 0 ≤ (x5_1 : Int) := od_
      have q165 : x5_1 < (l0.length : Int) := od_
      obtain ⟨ad165, e165, hx165_0⟩ := Kd.at_string HR0.out x5_1 p165 q165
      cases e165
      replace p165 := eq_true p165
      replace q165 := eq_true q165
      go_wp2
      go_roundg k1
      case measure => have := HK1.out; omega
      case rel => exact ⟨(wrap64 (x5_1 + 1)), (by first | rfl | (simp; done) | (simp [*]; done)), H', ⟨by have := HK1.out; omega⟩, by repeat (first | exact Drawn0.refl _ | apply Drawn0.step)⟩
    ·rw [if_neg c4] at H
     exact absurd H (by simp)
   ·rw [if_neg c3] at H
    have c3b0 : decide (x5_1 < (l0.length : Int)) = false := decide_eq_false c3
    clear c3
    obtain rfl := Option.some.inj H
    go_wp2
    go_ret
    exact ⟨by first | rfl | (simp; done) | (simp [*]; done), by repeat (first | exact Drawn0.refl _ | apply Drawn0.step)⟩
end Go.Proofs.Ytchellnfenekaaa.Pm
end
section
namespace Go.Proofs.Ytchellnfenekaaa.Pm
open Go.RowKit Go.Proofs.YtchellnfenekaaaW.PrintWords Go.Proofs.YtchellnfenekaaaW.PrintLast Go.Proofs.YtchellnfenekaaaW.PrintMore
attribute [local go_sem] max2_int min2_int max_two min_two max_three min_three max_four min_four   -- for this text's walks alone
set_option linter.unusedVariables false
set_option linter.unusedSimpArgs false
def sentryref4_Op.l0 : Nat → ByteArray → List ByteArray → Int → Option (Int)
 | 0, _, _, _ => none
 | k + 1, x0, x3, x4 => if x4 < (x3.length : Int) then (if 0 ≤ x4 then (if (rdOf ByteArray.empty x3 x4).toList = x0.toList then (some x4) else (sentryref4_Op.l0 k x0 x3 (wrap64 (x4 + 1)))) else (none)) else (some (-1))
def sentryref4_Op.f (k : Nat) (a0 : ByteArray) : Option (Int) := sentryref4_Op.l0 k a0 (([(⟨#[60]⟩ : ByteArray), (⟨#[60, 61]⟩ : ByteArray), (⟨#[61]⟩ : ByteArray), (⟨#[33, 61]⟩ : ByteArray), (⟨#[62, 61]⟩ : ByteArray), (⟨#[62]⟩ : ByteArray)] : List ByteArray)) 0
theorem sentryref4_Op.mono_l : ∀ k, (∀ y0 y1 y2, LeO (sentryref4_Op.l0 k y0 y1 y2) (sentryref4_Op.l0 (k + 1) y0 y1 y2))
 | 0 => fun _ _ _ r h => by simp [sentryref4_Op.l0] at h
 | k + 1 => by
  have ih0 := sentryref4_Op.mono_l k
  ·intro y0 y1 y2
   unfold sentryref4_Op.l0
   repeat' first
   | (with_reducible exact ih0 _ _ _)
   | (with_reducible exact LeO.refl _)
   | (with_reducible exact LeO.none _)
   | (with_reducible refine LeO.ite ?_ ?_)
   | (with_reducible refine LeO.bind ?_ (fun _ => ?_))
   | exact ih0 _ _ _
   | exact LeO.none _
   | refine LeO.ite ?_ ?_
   | refine LeO.bind ?_ (fun _ => ?_)
theorem sentryref4_Op.mono : ∀ a0 k, LeO (sentryref4_Op.f k a0) (sentryref4_Op.f (k + 1) a0) := by
 intro a0 k
 have ih0 := sentryref4_Op.mono_l k
 unfold sentryref4_Op.f
 repeat' first
   | (with_reducible exact ih0 _ _ _)
   | (with_reducible exact LeO.refl _)
   | (with_reducible exact LeO.none _)
   | (with_reducible refine LeO.ite ?_ ?_)
   | (with_reducible refine LeO.bind ?_ (fun _ => ?_))
   | exact ih0 _ _ _
   | exact LeO.none _
   | refine LeO.ite ?_ ?_
   | refine LeO.bind ?_ (fun _ => ?_)
set_option maxHeartbeats 8000000 in
set_option maxRecDepth 100000 in
theorem sentryref4_Op.calls (k : Nat) (a0 : ByteArray) (r : Int) (w : World) (h : sentryref4_Op.f k a0 = some r) :
  Calls Try.prog 74 #[.string a0] w fun e w' => e = .returned (.int .i64 r) ∧ Below w.heap.size w w' := by
 have HB := Aside0.mk (Below.refl w.heap.size w)
 have H : (sentryref4_Op.l0 k a0 (([(⟨#[60]⟩ : ByteArray), (⟨#[60, 61]⟩ : ByteArray), (⟨#[61]⟩ : ByteArray), (⟨#[33, 61]⟩ : ByteArray), (⟨#[62, 61]⟩ : ByteArray), (⟨#[62]⟩ : ByteArray)] : List ByteArray)) 0) = some r := h
 clear h
 obtain ⟨y185, hy185⟩ : ∃ y_ : List ByteArray, y_ = (([(⟨#[60]⟩ : ByteArray), (⟨#[60, 61]⟩ : ByteArray), (⟨#[61]⟩ : ByteArray), (⟨#[33, 61]⟩ : ByteArray), (⟨#[62, 61]⟩ : ByteArray), (⟨#[62]⟩ : ByteArray)] : List ByteArray)) := ⟨_, rfl⟩
 replace H : (sentryref4_Op.l0 k a0 y185 0) = some r := by first | (rw [hy185]; with_reducible exact H) | (have H2_ := (Option.bind_some _ _).symm.trans H; rw [hy185]; with_reducible exact H2_) | (have H2_ := (Option.bind_some _ _).symm.trans H; with_reducible exact H2_) | with_reducible exact H | (rw [hy185]; exact H) | exact H
 have Ny185 := Aside0.mk hy185
 clear hy185
 have H' := Aside0.mk H
 clear H
 go_enter Try.func74, Try.ntmps74
 go_wp2_with (first | ((with_reducible refine gate_dst (N := 5) rfl ?_); refine Kd.R_lit Kd.string _ 9 ?hg (N := 5) ?hd (xs := ([(⟨#[60]⟩ : ByteArray), (⟨#[60, 61]⟩ : ByteArray), (⟨#[61]⟩ : ByteArray), (⟨#[33, 61]⟩ : ByteArray), (⟨#[62, 61]⟩ : ByteArray), (⟨#[62]⟩ : ByteArray)] : List ByteArray)) (inner := [.string (⟨#[60]⟩ : ByteArray), .string (⟨#[60, 61]⟩ : ByteArray), .string (⟨#[61]⟩ : ByteArray), .string (⟨#[33, 61]⟩ : ByteArray), .string (⟨#[62, 61]⟩ : ByteArray), .string (⟨#[62]⟩ : ByteArray)]) (ok := fun _ => True) (okp := fun _ => True) ?hr ?hp (fun _ hk => hk) trivial (Below.refl _ _) (Nat.le_refl _) (by simp) ?_; (case hd => rfl); (case hg => rfl); (case hr => first | (go_simp; done) | (go_simp; rfl)); (case hp => exact (Reps.one (show Kd.M Kd.string _ _ _ (⟨#[60]⟩ : ByteArray) [.string (⟨#[60]⟩ : ByteArray)] from rfl) (Reps.one (show Kd.M Kd.string _ _ _ (⟨#[60, 61]⟩ : ByteArray) [.string (⟨#[60, 61]⟩ : ByteArray)] from rfl) (Reps.one (show Kd.M Kd.string _ _ _ (⟨#[61]⟩ : ByteArray) [.string (⟨#[61]⟩ : ByteArray)] from rfl) (Reps.one (show Kd.M Kd.string _ _ _ (⟨#[33, 61]⟩ : ByteArray) [.string (⟨#[33, 61]⟩ : ByteArray)] from rfl) (Reps.one (show Kd.M Kd.string _ _ _ (⟨#[62, 61]⟩ : ByteArray) [.string (⟨#[62, 61]⟩ : ByteArray)] from rfl) (Reps.one (show Kd.M Kd.string _ _ _ (⟨#[62]⟩ : ByteArray) [.string (⟨#[62]⟩ : ByteArray)] from rfl) (Reps.none _ _)))))))); intro v186 w2 ho3 hb hg_ hnew_; clear hg_ hnew_; (first | rw [← Ny185.out] at ho3 | (simp only [Int.reduceToNat] at ho3; rw [← Ny185.out] at ho3)); have n0_ := Aside0.mk (Kd.R_lower ho3 (below_size (by repeat (first | (with_reducible first | exact HB.out | apply below_alloc | apply pw_below_drewN | apply below_drew1) | exact HB.out)))); have n1_ := hb_ HB hb; clear HB; have HO187 := n0_; have HB := n1_; clear n0_ n1_; clear hb ho3))
 go_loopg [4] k (fun kq v4 w' => ∃ (x4_1 : Int), v4 = .int .i64 x4_1 ∧ Aside0 (sentryref4_Op.l0 kq a0 y185 x4_1 = some r) ∧ Aside0 (kq ≤ k) ∧ Aside0 (Kd.R Kd.string 9 w' w.heap.size (fun _ => True) v186 y185) ∧ Aside0 (Below w.heap.size w w'))
 case atStart => exact ⟨(0), (by first | rfl | (simp; done) | (simp [*]; done)), H', ⟨Nat.le_refl _⟩, ⟨by (with_reducible repeat (first | apply Kd.R_alloc | apply Kd.R_drewN | apply Kd.R_drew)); exact HO187.out⟩, ⟨hf_⟩⟩
 case round =>
  clear H'
  try clear p2
  obtain ⟨x4_1, rfl, HA, HK1, HO_3, HB⟩ := hrel
  cases gk with
  | zero => exact absurd HA.out (by simp [sentryref4_Op.l0])
  | succ k1 =>
   have H := HA.out
   clear HA
   simp only [sentryref4_Op.l0] at H
   by_cases c4 : x4_1 < (y185.length : Int)
   ·rw [if_pos c4] at H
    have c4b0 : decide (x4_1 < (y185.length : Int)) = true := decide_eq_true c4
    clear c4
    by_cases c5 : 0 ≤ x4_1
    ·rw [if_pos c5] at H
     have c5b0 : decide (0 ≤ x4_1) = true := decide_eq_true c5
     clear c5
     by_cases c6 : (rdOf ByteArray.empty y185 x4_1).toList = a0.toList
     ·rw [if_pos c6] at H
      have c6b0 : ((rdOf ByteArray.empty y185 x4_1).toList == a0.toList) = true := beq_iff_eq.mpr c6
      have c6b1 : ((rdOf ByteArray.empty y185 x4_1).toList != a0.toList) = false := bne_eq_false_iff_eq.mpr c6
      clear c6
      obtain rfl := Option.some.inj H
      obtain ⟨Ao7, co7, eo7⟩ := Kd.R_slice HO_3.out
      subst eo7
      have p188 : 0 ≤ (x4_1 : Int) := od_
      have q188 : x4_1 < (y185.length : Int) := od_
      obtain ⟨ad188, e188, hx188_0⟩ := Kd.at_string (Kd.R_reads' HO_3.out).2.2 x4_1 p188 q188
      cases e188
      replace p188 := eq_true p188
      replace q188 := eq_true q188
      go_wp2
      go_ret
      exact ⟨er_, hf_⟩
     ·rw [if_neg c6] at H
      have c6b0 : ((rdOf ByteArray.empty y185 x4_1).toList == a0.toList) = false := beq_eq_false_iff_ne.mpr c6
      have c6b1 : ((rdOf ByteArray.empty y185 x4_1).toList != a0.toList) = true := bne_iff_ne.mpr c6
      have H' := Aside0.mk H
      clear H
      obtain ⟨Ao8, co8, eo8⟩ := Kd.R_slice HO_3.out
      subst eo8
      have p188 : 0 ≤ (x4_1 : Int) := od_
      have q188 : x4_1 < (y185.length : Int) := od_
      obtain ⟨ad188, e188, hx188_0⟩ := Kd.at_string (Kd.R_reads' HO_3.out).2.2 x4_1 p188 q188
      cases e188
      replace p188 := eq_true p188
      replace q188 := eq_true q188
      go_wp2
      go_roundg k1
      case measure => have := HK1.out; omega
      case rel => exact ⟨(wrap64 (x4_1 + 1)), (by first | rfl | (simp; done) | (simp [*]; done)), H', ⟨by have := HK1.out; omega⟩, ⟨by (with_reducible repeat (first | apply Kd.R_alloc | apply Kd.R_drewN | apply Kd.R_drew)); exact HO_3.out⟩, ⟨hf_⟩⟩
    ·rw [if_neg c5] at H
     exact absurd H (by simp)
   ·rw [if_neg c4] at H
    have c4b0 : decide (x4_1 < (y185.length : Int)) = false := decide_eq_false c4
    clear c4
    obtain rfl := Option.some.inj H
    obtain ⟨Ao9, co9, eo9⟩ := Kd.R_slice HO_3.out
    subst eo9
    go_wp2
    go_ret
    exact ⟨er_, hf_⟩
end Go.Proofs.Ytchellnfenekaaa.Pm
end
section
namespace Go.Proofs.Ytchellnfenekaaa.Pm
open Go.RowKit Go.Proofs.YtchellnfenekaaaW.PrintWords Go.Proofs.YtchellnfenekaaaW.PrintLast Go.Proofs.YtchellnfenekaaaW.PrintMore
attribute [local go_sem] max2_int min2_int max_two min_two max_three min_three max_four min_four   -- for this text's walks alone
set_option linter.unusedVariables false
set_option linter.unusedSimpArgs false
def sentryref4_Place.l0 : Nat → ByteArray → Int → List ByteArray → List (S32) → Option (Int)
 | 0, _, _, _, _ => none
 | k + 1, x1, x5, x167000, x167001 => if x5 < (x167001.length : Int) then (if 0 ≤ x5 then (if ((rd_T32 x167001 x5).f0).toList = x1.toList then (some x5) else (sentryref4_Place.l0 k x1 (wrap64 (x5 + 1)) x167000 x167001)) else (none)) else (some (-1))
def sentryref4_Place.f (k : Nat) (l0_0 : List ByteArray) (l0_1 : List (S32)) (a1 : ByteArray) : Option (Int) := sentryref4_Place.l0 k a1 0 l0_0 l0_1
theorem sentryref4_Place.mono_l : ∀ k, (∀ y0 y1 y2 y3, LeO (sentryref4_Place.l0 k y0 y1 y2 y3) (sentryref4_Place.l0 (k + 1) y0 y1 y2 y3))
 | 0 => fun _ _ _ _ r h => by simp [sentryref4_Place.l0] at h
 | k + 1 => by
  have ih0 := sentryref4_Place.mono_l k
  ·intro y0 y1 y2 y3
   unfold sentryref4_Place.l0
   repeat' first
   | (with_reducible exact ih0 _ _ _ _)
   | (with_reducible exact LeO.refl _)
   | (with_reducible exact LeO.none _)
   | (with_reducible refine LeO.ite ?_ ?_)
   | (with_reducible refine LeO.bind ?_ (fun _ => ?_))
   | exact ih0 _ _ _ _
   | exact LeO.none _
   | refine LeO.ite ?_ ?_
   | refine LeO.bind ?_ (fun _ => ?_)
theorem sentryref4_Place.mono : ∀ a0 a1 a2 k, LeO (sentryref4_Place.f k a0 a1 a2) (sentryref4_Place.f (k + 1) a0 a1 a2) := by
 intro a0 a1 a2 k
 have ih0 := sentryref4_Place.mono_l k
 unfold sentryref4_Place.f
 repeat' first
   | (with_reducible exact ih0 _ _ _ _)
   | (with_reducible exact LeO.refl _)
   | (with_reducible exact LeO.none _)
   | (with_reducible refine LeO.ite ?_ ?_)
   | (with_reducible refine LeO.bind ?_ (fun _ => ?_))
   | exact ih0 _ _ _ _
   | exact LeO.none _
   | refine LeO.ite ?_ ?_
   | refine LeO.bind ?_ (fun _ => ?_)
set_option maxHeartbeats 8000000 in
set_option maxRecDepth 100000 in
theorem sentryref4_Place.calls (k : Nat) (A0_0 : Option Addr) (c0_0 : Nat) (l0_0 : List ByteArray) (A0_1 : Option Addr) (c0_1 : Nat) (l0_1 : List (S32)) (a1 : ByteArray) (r : Int) (w : World) (hr0_0 : Kd.C Kd.string w A0_0 l0_0.length l0_0) (hc0_0 : l0_0.length ≤ c0_0) (hr0_1 : Kd.C k32 w A0_1 l0_1.length l0_1) (hc0_1 : l0_1.length ≤ c0_1) (h : sentryref4_Place.f k l0_0 l0_1 a1 = some r) :
  Calls Try.prog 20 #[.agg #[.slice A0_0 l0_0.length c0_0, .slice A0_1 l0_1.length c0_1], .string a1] w fun e w' => e = .returned (.int .i64 r) ∧ Below w.heap.size w w' := by
 have hu36 := Try.underlying36
 have HR0_0 := Aside0.mk hr0_0
 have HC0_0 := Aside0.mk hc0_0
 clear hr0_0 hc0_0
 have HR0_1 := Aside0.mk hr0_1
 have HC0_1 := Aside0.mk hc0_1
 clear hr0_1 hc0_1
 have HB := Aside0.mk (Below.refl w.heap.size w)
 have H : (sentryref4_Place.l0 k a1 0 l0_0 l0_1) = some r := h
 clear h
 have H' := Aside0.mk H
 clear H
 go_enter Try.func20, Try.ntmps20
 go_wp2_with (first | ((with_reducible refine gate_dst (N := 2) rfl ?_); refine box_event ?hg (N := 2) ?hd (cs := #[.slice A0_0 l0_0.length c0_0, .slice A0_1 l0_1.length c0_1]) (t := 36) ?hr ?_; (case hd => rfl); (case hg => rfl); (case hr => first | (go_simp; done) | (go_simp; rfl)); intro gb166 hg w3 hbox hb; have n0_ := hb_ HB hb; have n1_ := Aside0.mk (hbox); have n2_ := Aside0.mk ((by rw [hg]; exact (below_size (by repeat (first | (with_reducible first | exact HB.out | apply below_alloc | apply pw_below_drewN | apply below_drew1) | exact HB.out))) : w.heap.size ≤ gb166)); have n3_ := Aside0.mk ((by rw [hg]; exact (below_size (by repeat (first | (with_reducible first | exact HB.out | apply below_alloc | apply pw_below_drewN | apply below_drew1) | exact HB.out))) : w.heap.size ≤ gb166)); clear HB; have HB := n0_; have BK166 := n1_; have GW166 := n2_; have GE166 := n3_; clear n0_ n1_ n2_ n3_; clear hb hbox hg))
 go_loopg [5] k (fun kq v5 w' => ∃ (x5_1 : Int), v5 = .int .i64 x5_1 ∧ Aside0 (sentryref4_Place.l0 kq a1 x5_1 l0_0 l0_1 = some r) ∧ Aside0 (kq ≤ k) ∧ Aside0 (w'.heap[gb166]? = some (.cells #[(.slice A0_0 l0_0.length c0_0), (.slice A0_1 l0_1.length c0_1)] 36 (0, 0))) ∧ Aside0 (Below w.heap.size w w'))
 case atStart => exact ⟨(0), (by first | rfl | (simp; done) | (simp [*]; done)), H', ⟨Nat.le_refl _⟩, ⟨gx_ BK166⟩, ⟨hf_⟩⟩
 case round =>
  clear H'
  (try clear c2); (try clear p2)
  obtain ⟨x5_1, rfl, HA, HK1, BK166, HB⟩ := hrel
  cases gk with
  | zero => exact absurd HA.out (by simp [sentryref4_Place.l0])
  | succ k1 =>
   have H := HA.out
   clear HA
   simp only [sentryref4_Place.l0] at H
   by_cases c4 : x5_1 < (l0_1.length : Int)
   ·rw [if_pos c4] at H
    have c4b0 : decide (x5_1 < (l0_1.length : Int)) = true := decide_eq_true c4
    clear c4
    by_cases c5 : 0 ≤ x5_1
    ·rw [if_pos c5] at H
     have c5b0 : decide (0 ≤ x5_1) = true := decide_eq_true c5
     clear c5
     by_cases c6 : ((rd_T32 l0_1 x5_1).f0).toList = a1.toList
     ·rw [if_pos c6] at H
      have c6b0 : (((rd_T32 l0_1 x5_1).f0).toList == a1.toList) = true := beq_iff_eq.mpr c6
      have c6b1 : (((rd_T32 l0_1 x5_1).f0).toList != a1.toList) = false := bne_eq_false_iff_eq.mpr c6
      clear c6
      obtain rfl := Option.some.inj H
      obtain ⟨hcz7_0, hcz7_1, hfz7_0, hfz7_1⟩ := bs2_ BK166
      have p167 : 0 ≤ (x5_1 : Int) := od_
      have q167 : x5_1 < (l0_1.length : Int) := od_
      obtain ⟨ad167, A167_5, c167_5, A167_6, c167_6, e167, hx167_0, hx167_1, hx167_2, hx167_3, hx167_4, hx167_5, hx167_6, hl167_5, hi167_5, hl167_6, hi167_6⟩ := at_T32 HR0_1.out x5_1 p167 q167
      cases e167
      replace hx167_0 := rr_ HB hx167_0
      replace hx167_1 := rr_ HB hx167_1
      replace hx167_2 := rr_ HB hx167_2
      replace hx167_3 := rr_ HB hx167_3
      replace hx167_4 := rr_ HB hx167_4
      replace hx167_5 := rr_ HB hx167_5
      replace hx167_6 := rr_ HB hx167_6
      have HR167_5 := Aside0.mk hi167_5
      have HC167_5 := Aside0.mk hl167_5
      clear hi167_5 hl167_5
      have HR167_6 := Aside0.mk hi167_6
      have HC167_6 := Aside0.mk hl167_6
      clear hi167_6 hl167_6
      replace p167 := eq_true p167
      replace q167 := eq_true q167
      go_wp2
      go_ret
      exact ⟨er_, hf_⟩
     ·rw [if_neg c6] at H
      have c6b0 : (((rd_T32 l0_1 x5_1).f0).toList == a1.toList) = false := beq_eq_false_iff_ne.mpr c6
      have c6b1 : (((rd_T32 l0_1 x5_1).f0).toList != a1.toList) = true := bne_iff_ne.mpr c6
      have H' := Aside0.mk H
      clear H
      obtain ⟨hcz8_0, hcz8_1, hfz8_0, hfz8_1⟩ := bs2_ BK166
      have p167 : 0 ≤ (x5_1 : Int) := od_
      have q167 : x5_1 < (l0_1.length : Int) := od_
      obtain ⟨ad167, A167_5, c167_5, A167_6, c167_6, e167, hx167_0, hx167_1, hx167_2, hx167_3, hx167_4, hx167_5, hx167_6, hl167_5, hi167_5, hl167_6, hi167_6⟩ := at_T32 HR0_1.out x5_1 p167 q167
      cases e167
      replace hx167_0 := rr_ HB hx167_0
      replace hx167_1 := rr_ HB hx167_1
      replace hx167_2 := rr_ HB hx167_2
      replace hx167_3 := rr_ HB hx167_3
      replace hx167_4 := rr_ HB hx167_4
      replace hx167_5 := rr_ HB hx167_5
      replace hx167_6 := rr_ HB hx167_6
      have HR167_5 := Aside0.mk hi167_5
      have HC167_5 := Aside0.mk hl167_5
      clear hi167_5 hl167_5
      have HR167_6 := Aside0.mk hi167_6
      have HC167_6 := Aside0.mk hl167_6
      clear hi167_6 hl167_6
      replace p167 := eq_true p167
      replace q167 := eq_true q167
      go_wp2
      go_roundg k1
      case measure => have := HK1.out; omega
      case rel => exact ⟨(wrap64 (x5_1 + 1)), (by first | rfl | (simp; done) | (simp [*]; done)), H', ⟨by have := HK1.out; omega⟩, ⟨gx_ BK166⟩, ⟨hf_⟩⟩
    ·rw [if_neg c5] at H
     exact absurd H (by simp)
   ·rw [if_neg c4] at H
    have c4b0 : decide (x5_1 < (l0_1.length : Int)) = false := decide_eq_false c4
    clear c4
    obtain rfl := Option.some.inj H
    obtain ⟨hcz9_0, hcz9_1, hfz9_0, hfz9_1⟩ := bs2_ BK166
    go_wp2
    go_ret
    exact ⟨er_, hf_⟩
end Go.Proofs.Ytchellnfenekaaa.Pm
end
