/- Walks and plain laws on the way to the law PackUnlike: several texts of this workplace and of the kit's printer, merged; what is not used is struck, by a program. No condition. -/
import Derived.Test.YtaiglhfmmdajdaaMPackUnlike0
import Derived.Test.YtaiglhfmmdajdaaMPackUnlike3
import Derived.Deep.Slices
import Derived.Lib.SmallJoins
import Derived.SizedLaws
import Derived.Test.YtaiglhfmmdajdaaMPackUnlike1
import Derived.Test.YtaiglhfmmdajdaaMPackUnlike2
import Derived.Lib.Hide
import Derived.Lib.UnsafeStr
section
namespace Go.Proofs.Ytaiglhfmmdajdaa.Pm
open Go.RowKit Go.Proofs.YtaiglhfmmdajdaaW.PrintWords Go.Proofs.YtaiglhfmmdajdaaW.PrintLast Go.Proofs.YtaiglhfmmdajdaaW.PrintMore
attribute [local go_sem] max2_int min2_int max_two min_two max_three min_three max_four min_four   -- for this text's walks alone
set_option linter.unusedVariables false
set_option linter.unusedSimpArgs false
def sentryref4_SameItem.f (k : Nat) (a0_0 : ByteArray) (a0_1 : Int) (a0_2 : ByteArray) (a0_3 : Bool) (a0_4 : Int) (l0_5 : List (S54)) (l0_6 : List (S54)) (a1_0 : ByteArray) (a1_1 : Int) (a1_2 : ByteArray) (a1_3 : Bool) (a1_4 : Int) (l1_5 : List (S54)) (l1_6 : List (S54)) : Option (Bool) := if a0_0.toList = a1_0.toList then (if a0_1 = a1_1 then (if a0_2.toList = a1_2.toList then (if (a0_3 == a1_3) = true then (if a0_4 = a1_4 then ((sentryref4_SameSentries.f k l0_5 l1_5).bind fun t361 => (if t361 = true then ((sentryref4_SameSentries.f k l0_6 l1_6).bind fun t362 => (some t362)) else (some false))) else (some false)) else (some false)) else (some false)) else (some false)) else (some false)
theorem sentryref4_SameItem.mono : ∀ a0 a1 a2 a3 a4 a5 a6 a7 a8 a9 a10 a11 a12 a13 k, LeO (sentryref4_SameItem.f k a0 a1 a2 a3 a4 a5 a6 a7 a8 a9 a10 a11 a12 a13) (sentryref4_SameItem.f (k + 1) a0 a1 a2 a3 a4 a5 a6 a7 a8 a9 a10 a11 a12 a13) := by
 intro a0 a1 a2 a3 a4 a5 a6 a7 a8 a9 a10 a11 a12 a13 k
 unfold sentryref4_SameItem.f
 repeat' first
   | (with_reducible exact sentryref4_SameSentries.mono _ _ _)
   | (with_reducible exact LeO.refl _)
   | (with_reducible exact LeO.none _)
   | (with_reducible refine LeO.ite ?_ ?_)
   | (with_reducible refine LeO.bind ?_ (fun _ => ?_))
   | exact sentryref4_SameSentries.mono _ _ _
   | exact LeO.none _
   | refine LeO.ite ?_ ?_
   | refine LeO.bind ?_ (fun _ => ?_)
set_option maxHeartbeats 8000000 in
set_option maxRecDepth 100000 in
theorem sentryref4_SameItem.calls (k : Nat) (a0_0 : ByteArray) (a0_1 : Int) (a0_2 : ByteArray) (a0_3 : Bool) (a0_4 : Int) (A0_5 : Option Addr) (c0_5 : Nat) (l0_5 : List (S54)) (A0_6 : Option Addr) (c0_6 : Nat) (l0_6 : List (S54)) (a1_0 : ByteArray) (a1_1 : Int) (a1_2 : ByteArray) (a1_3 : Bool) (a1_4 : Int) (A1_5 : Option Addr) (c1_5 : Nat) (l1_5 : List (S54)) (A1_6 : Option Addr) (c1_6 : Nat) (l1_6 : List (S54)) (r : Bool) (w : World) (hr0_5 : Kd.C k54 w A0_5 l0_5.length l0_5) (hc0_5 : l0_5.length ≤ c0_5) (hr0_6 : Kd.C k54 w A0_6 l0_6.length l0_6) (hc0_6 : l0_6.length ≤ c0_6) (hr1_5 : Kd.C k54 w A1_5 l1_5.length l1_5) (hc1_5 : l1_5.length ≤ c1_5) (hr1_6 : Kd.C k54 w A1_6 l1_6.length l1_6) (hc1_6 : l1_6.length ≤ c1_6) (h : sentryref4_SameItem.f k a0_0 a0_1 a0_2 a0_3 a0_4 l0_5 l0_6 a1_0 a1_1 a1_2 a1_3 a1_4 l1_5 l1_6 = some r) :
  Calls Try.prog 61 #[.agg #[.string a0_0, .int .i64 a0_1, .string a0_2, .bool a0_3, .int .i64 a0_4, .slice A0_5 l0_5.length c0_5, .slice A0_6 l0_6.length c0_6], .agg #[.string a1_0, .int .i64 a1_1, .string a1_2, .bool a1_3, .int .i64 a1_4, .slice A1_5 l1_5.length c1_5, .slice A1_6 l1_6.length c1_6]] w fun e w' => e = .returned (.bool r) ∧ Below w.heap.size w w' := by
 have hu48 := Try.underlying48
 have HR0_5 := Aside0.mk hr0_5
 have HC0_5 := Aside0.mk hc0_5
 clear hr0_5 hc0_5
 have HR0_6 := Aside0.mk hr0_6
 have HC0_6 := Aside0.mk hc0_6
 clear hr0_6 hc0_6
 have HR1_5 := Aside0.mk hr1_5
 have HC1_5 := Aside0.mk hc1_5
 clear hr1_5 hc1_5
 have HR1_6 := Aside0.mk hr1_6
 have HC1_6 := Aside0.mk hc1_6
 clear hr1_6 hc1_6
 have HB := Aside0.mk (Below.refl w.heap.size w)
 have H : (if a0_0.toList = a1_0.toList then (if a0_1 = a1_1 then (if a0_2.toList = a1_2.toList then (if (a0_3 == a1_3) = true then (if a0_4 = a1_4 then ((sentryref4_SameSentries.f k l0_5 l1_5).bind fun t361 => (if t361 = true then ((sentryref4_SameSentries.f k l0_6 l1_6).bind fun t362 => (some t362)) else (some false))) else (some false)) else (some false)) else (some false)) else (some false)) else (some false)) = some r := h
 clear h
 by_cases c3 : a0_0.toList = a1_0.toList
 ·rw [if_pos c3] at H
  have c3b0 : (a0_0.toList == a1_0.toList) = true := beq_iff_eq.mpr c3
  have c3b1 : (a0_0.toList != a1_0.toList) = false := bne_eq_false_iff_eq.mpr c3
  clear c3
  by_cases c4 : a0_1 = a1_1
  ·rw [if_pos c4] at H
   have c4b0 : (a0_1 == a1_1) = true := beq_iff_eq.mpr c4
   have c4b1 : (a0_1 != a1_1) = false := bne_eq_false_iff_eq.mpr c4
   clear c4
   by_cases c5 : a0_2.toList = a1_2.toList
   ·rw [if_pos c5] at H
    have c5b0 : (a0_2.toList == a1_2.toList) = true := beq_iff_eq.mpr c5
    have c5b1 : (a0_2.toList != a1_2.toList) = false := bne_eq_false_iff_eq.mpr c5
    clear c5
    by_cases c6 : (a0_3 == a1_3) = true
    ·rw [if_pos c6] at H
     have c6b0 : (a0_3 == a1_3) = true := c6
     (try (have c6b1 : decide (a0_3 = a1_3) = true := by simpa using c6))
     (try (have c6b2 : (a0_3 == a1_3) = true := by simpa using c6))
     clear c6
     by_cases c7 : a0_4 = a1_4
     ·rw [if_pos c7] at H
      have c7b0 : (a0_4 == a1_4) = true := beq_iff_eq.mpr c7
      have c7b1 : (a0_4 != a1_4) = false := bne_eq_false_iff_eq.mpr c7
      clear c7
      replace H := Option.bind_eq_some_iff.mp H
      obtain ⟨t361, A80, H⟩ := H
      replace H : (if t361 = true then ((sentryref4_SameSentries.f k l0_6 l1_6).bind fun t362 => (some t362)) else (some false)) = some r := H
      have A8 := Aside0.mk A80
      clear A80
      by_cases c9 : t361 = true
      ·subst c9
       have H1 : ((sentryref4_SameSentries.f k l0_6 l1_6).bind fun t362 => (some t362)) = some r := by rw [if_pos rfl] at H; exact H
       clear H
       have H := H1
       clear H1
       replace H := Option.bind_eq_some_iff.mp H
       obtain ⟨t362, A100, H⟩ := H
       replace H : (some t362) = some r := H
       have A10 := Aside0.mk A100
       clear A100
       obtain rfl := Option.some.inj H
       go_enter Try.func61, Try.ntmps61
       go_wp2_with (first | ((with_reducible refine gate_dst (N := 2) rfl ?_); refine box_event ?hg (N := 2) ?hd (cs := #[.string a0_0, .int .i64 a0_1, .string a0_2, .bool a0_3, .int .i64 a0_4, .slice A0_5 l0_5.length c0_5, .slice A0_6 l0_6.length c0_6]) (t := 48) ?hr ?_; (case hd => rfl); (case hg => rfl); (case hr => first | (go_simp; done) | (go_simp; rfl)); intro gb359 hg w11 hbox hb; have n0_ := hb_ HB hb; have n1_ := Aside0.mk (hbox); have n2_ := Aside0.mk ((by rw [hg]; exact (below_size (by repeat (first | (with_reducible first | exact HB.out | apply below_alloc | apply pw_below_drewN | apply below_drew1) | exact HB.out))) : w.heap.size ≤ gb359)); have n3_ := Aside0.mk ((by rw [hg]; exact (below_size (by repeat (first | (with_reducible first | exact HB.out | apply below_alloc | apply pw_below_drewN | apply below_drew1) | exact HB.out))) : w.heap.size ≤ gb359)); clear HB; have HB := n0_; have BK359 := n1_; have GW359 := n2_; have GE359 := n3_; clear n0_ n1_ n2_ n3_; clear hb hbox hg) | ((with_reducible refine gate_dst (N := 3) rfl ?_); refine box_event ?hg (N := 3) ?hd (cs := #[.string a1_0, .int .i64 a1_1, .string a1_2, .bool a1_3, .int .i64 a1_4, .slice A1_5 l1_5.length c1_5, .slice A1_6 l1_6.length c1_6]) (t := 48) ?hr ?_; (case hd => rfl); (case hg => rfl); (case hr => first | (go_simp; done) | (go_simp; rfl)); intro gb360 hg w12 hbox hb; have n0_ := bb_ BK359 hb; have n1_ := hb_ HB hb; have n2_ := Aside0.mk (hbox); have n3_ := Aside0.mk ((by rw [hg]; exact (below_size (by repeat (first | (with_reducible first | exact HB.out | apply below_alloc | apply pw_below_drewN | apply below_drew1 | refine below_set ?_ GE359.out) | exact HB.out))) : w.heap.size ≤ gb360)); have n4_ := Aside0.mk ((by rw [hg]; exact (below_size (by repeat (first | (with_reducible first | exact HB.out | apply below_alloc | apply pw_below_drewN | apply below_drew1 | refine below_set ?_ GE359.out) | exact HB.out))) : w.heap.size ≤ gb360)); have n5_ := Aside0.mk ((by rw [hg]; exact Nat.ne_of_lt (blk_lt (g := gb359) (o := .cells #[.string a0_0, .int .i64 a0_1, .string a0_2, .bool a0_3, .int .i64 a0_4, .slice A0_5 l0_5.length c0_5, .slice A0_6 l0_6.length c0_6] 48 (0, 0)) (by (with_reducible repeat (first | refine blk_drewN ?_ _ | refine blk_drew ?_ | refine blk_alloc ?_ _)); exact BK359.out)) : gb359 ≠ gb360)); have n6_ := Aside0.mk ((by rw [hg]; exact Nat.ne_of_gt (blk_lt (g := gb359) (o := .cells #[.string a0_0, .int .i64 a0_1, .string a0_2, .bool a0_3, .int .i64 a0_4, .slice A0_5 l0_5.length c0_5, .slice A0_6 l0_6.length c0_6] 48 (0, 0)) (by (with_reducible repeat (first | refine blk_drewN ?_ _ | refine blk_drew ?_ | refine blk_alloc ?_ _)); exact BK359.out)) : gb360 ≠ gb359)); clear BK359; clear HB; have BK359 := n0_; have HB := n1_; have BK360 := n2_; have GW360 := n3_; have GE360 := n4_; have NB359_360 := n5_; have NB360_359 := n6_; clear n0_ n1_ n2_ n3_ n4_ n5_ n6_; clear hb hbox hg; have hnb13 := NB359_360.out; have hnc13 := NB360_359.out; obtain ⟨hcz14_0, hcz14_1, hcz14_2, hcz14_3, hcz14_4, hcz14_5, hcz14_6, hfz14_0, hfz14_1, hfz14_2, hfz14_3, hfz14_4, hfz14_5, hfz14_6⟩ := bs7_ BK359; obtain ⟨hcz15_0, hcz15_1, hcz15_2, hcz15_3, hcz15_4, hcz15_5, hcz15_6, hfz15_0, hfz15_1, hfz15_2, hfz15_3, hfz15_4, hfz15_5, hfz15_6⟩ := bs7_ BK360) | (go_at_call 78; (with_reducible refine (sentryref4_SameSentries.calls k _ _ l0_5 _ _ l1_5 true _ ?side1 ?side2 ?side3 ?side4 A8.out).mono ?_); (case side1 => exact kc_ HR0_5 HB); (case side2 => exact HC0_5.out); (case side3 => exact kc_ HR1_5 HB); (case side4 => exact HC1_5.out); rintro e w' ⟨rfl, ⟨nd, rfl⟩⟩) | (go_at_call 78; (with_reducible refine (sentryref4_SameSentries.calls k _ _ l0_6 _ _ l1_6 t362 _ ?side1 ?side2 ?side3 ?side4 A10.out).mono ?_); (case side1 => repeat (first | exact (Kd.C_below HR0_6.out (by repeat (first | (with_reducible first | exact HB.out | apply below_alloc | apply pw_below_drewN | apply below_drew1 | refine below_set ?_ GE359.out | refine below_set ?_ GE360.out) | exact HB.out))) | (with_reducible refine Kd.C_alloc ?_ _) | (with_reducible refine Kd.C_drewN ?_ _) | (with_reducible refine Kd.C_drew ?_))); (case side2 => exact HC0_6.out); (case side3 => repeat (first | exact (Kd.C_below HR1_6.out (by repeat (first | (with_reducible first | exact HB.out | apply below_alloc | apply pw_below_drewN | apply below_drew1 | refine below_set ?_ GE359.out | refine below_set ?_ GE360.out) | exact HB.out))) | (with_reducible refine Kd.C_alloc ?_ _) | (with_reducible refine Kd.C_drewN ?_ _) | (with_reducible refine Kd.C_drew ?_))); (case side4 => exact HC1_6.out); rintro e w' ⟨rfl, ⟨nd, rfl⟩⟩))
       go_ret
       exact ⟨er_, hf_⟩
      ·replace c9 := Bool.eq_false_iff.mpr c9
       subst c9
       have H1 : (some false) = some r := by rw [if_neg (show ¬ (false = true) by decide)] at H; exact H
       clear H
       have H := H1
       clear H1
       obtain rfl := Option.some.inj H
       go_enter Try.func61, Try.ntmps61
       go_wp2_with (first | ((with_reducible refine gate_dst (N := 2) rfl ?_); refine box_event ?hg (N := 2) ?hd (cs := #[.string a0_0, .int .i64 a0_1, .string a0_2, .bool a0_3, .int .i64 a0_4, .slice A0_5 l0_5.length c0_5, .slice A0_6 l0_6.length c0_6]) (t := 48) ?hr ?_; (case hd => rfl); (case hg => rfl); (case hr => first | (go_simp; done) | (go_simp; rfl)); intro gb359 hg w16 hbox hb; have n0_ := hb_ HB hb; have n1_ := Aside0.mk (hbox); have n2_ := Aside0.mk ((by rw [hg]; exact (below_size (by repeat (first | (with_reducible first | exact HB.out | apply below_alloc | apply pw_below_drewN | apply below_drew1) | exact HB.out))) : w.heap.size ≤ gb359)); have n3_ := Aside0.mk ((by rw [hg]; exact (below_size (by repeat (first | (with_reducible first | exact HB.out | apply below_alloc | apply pw_below_drewN | apply below_drew1) | exact HB.out))) : w.heap.size ≤ gb359)); clear HB; have HB := n0_; have BK359 := n1_; have GW359 := n2_; have GE359 := n3_; clear n0_ n1_ n2_ n3_; clear hb hbox hg) | ((with_reducible refine gate_dst (N := 3) rfl ?_); refine box_event ?hg (N := 3) ?hd (cs := #[.string a1_0, .int .i64 a1_1, .string a1_2, .bool a1_3, .int .i64 a1_4, .slice A1_5 l1_5.length c1_5, .slice A1_6 l1_6.length c1_6]) (t := 48) ?hr ?_; (case hd => rfl); (case hg => rfl); (case hr => first | (go_simp; done) | (go_simp; rfl)); intro gb360 hg w17 hbox hb; have n0_ := bb_ BK359 hb; have n1_ := hb_ HB hb; have n2_ := Aside0.mk (hbox); have n3_ := Aside0.mk ((by rw [hg]; exact (below_size (by repeat (first | (with_reducible first | exact HB.out | apply below_alloc | apply pw_below_drewN | apply below_drew1 | refine below_set ?_ GE359.out) | exact HB.out))) : w.heap.size ≤ gb360)); have n4_ := Aside0.mk ((by rw [hg]; exact (below_size (by repeat (first | (with_reducible first | exact HB.out | apply below_alloc | apply pw_below_drewN | apply below_drew1 | refine below_set ?_ GE359.out) | exact HB.out))) : w.heap.size ≤ gb360)); have n5_ := Aside0.mk ((by rw [hg]; exact Nat.ne_of_lt (blk_lt (g := gb359) (o := .cells #[.string a0_0, .int .i64 a0_1, .string a0_2, .bool a0_3, .int .i64 a0_4, .slice A0_5 l0_5.length c0_5, .slice A0_6 l0_6.length c0_6] 48 (0, 0)) (by (with_reducible repeat (first | refine blk_drewN ?_ _ | refine blk_drew ?_ | refine blk_alloc ?_ _)); exact BK359.out)) : gb359 ≠ gb360)); have n6_ := Aside0.mk ((by rw [hg]; exact Nat.ne_of_gt (blk_lt (g := gb359) (o := .cells #[.string a0_0, .int .i64 a0_1, .string a0_2, .bool a0_3, .int .i64 a0_4, .slice A0_5 l0_5.length c0_5, .slice A0_6 l0_6.length c0_6] 48 (0, 0)) (by (with_reducible repeat (first | refine blk_drewN ?_ _ | refine blk_drew ?_ | refine blk_alloc ?_ _)); exact BK359.out)) : gb360 ≠ gb359)); clear BK359; clear HB; have BK359 := n0_; have HB := n1_; have BK360 := n2_; have GW360 := n3_; have GE360 := n4_; have NB359_360 := n5_; have NB360_359 := n6_; clear n0_ n1_ n2_ n3_ n4_ n5_ n6_; clear hb hbox hg; have hnb18 := NB359_360.out; have hnc18 := NB360_359.out; obtain ⟨hcz19_0, hcz19_1, hcz19_2, hcz19_3, hcz19_4, hcz19_5, hcz19_6, hfz19_0, hfz19_1, hfz19_2, hfz19_3, hfz19_4, hfz19_5, hfz19_6⟩ := bs7_ BK359; obtain ⟨hcz20_0, hcz20_1, hcz20_2, hcz20_3, hcz20_4, hcz20_5, hcz20_6, hfz20_0, hfz20_1, hfz20_2, hfz20_3, hfz20_4, hfz20_5, hfz20_6⟩ := bs7_ BK360) | (go_at_call 78; (with_reducible refine (sentryref4_SameSentries.calls k _ _ l0_5 _ _ l1_5 false _ ?side1 ?side2 ?side3 ?side4 A8.out).mono ?_); (case side1 => exact kc_ HR0_5 HB); (case side2 => exact HC0_5.out); (case side3 => exact kc_ HR1_5 HB); (case side4 => exact HC1_5.out); rintro e w' ⟨rfl, ⟨nd, rfl⟩⟩))
       go_ret
       exact ⟨er_, hf_⟩
     ·rw [if_neg c7] at H
      have c7b0 : (a0_4 == a1_4) = false := beq_eq_false_iff_ne.mpr c7
      have c7b1 : (a0_4 != a1_4) = true := bne_iff_ne.mpr c7
      obtain rfl := Option.some.inj H
      go_enter Try.func61, Try.ntmps61
      go_wp2_with (first | ((with_reducible refine gate_dst (N := 2) rfl ?_); refine box_event ?hg (N := 2) ?hd (cs := #[.string a0_0, .int .i64 a0_1, .string a0_2, .bool a0_3, .int .i64 a0_4, .slice A0_5 l0_5.length c0_5, .slice A0_6 l0_6.length c0_6]) (t := 48) ?hr ?_; (case hd => rfl); (case hg => rfl); (case hr => first | (go_simp; done) | (go_simp; rfl)); intro gb359 hg w21 hbox hb; have n0_ := hb_ HB hb; have n1_ := Aside0.mk (hbox); have n2_ := Aside0.mk ((by rw [hg]; exact (below_size (by repeat (first | (with_reducible first | exact HB.out | apply below_alloc | apply pw_below_drewN | apply below_drew1) | exact HB.out))) : w.heap.size ≤ gb359)); have n3_ := Aside0.mk ((by rw [hg]; exact (below_size (by repeat (first | (with_reducible first | exact HB.out | apply below_alloc | apply pw_below_drewN | apply below_drew1) | exact HB.out))) : w.heap.size ≤ gb359)); clear HB; have HB := n0_; have BK359 := n1_; have GW359 := n2_; have GE359 := n3_; clear n0_ n1_ n2_ n3_; clear hb hbox hg) | ((with_reducible refine gate_dst (N := 3) rfl ?_); refine box_event ?hg (N := 3) ?hd (cs := #[.string a1_0, .int .i64 a1_1, .string a1_2, .bool a1_3, .int .i64 a1_4, .slice A1_5 l1_5.length c1_5, .slice A1_6 l1_6.length c1_6]) (t := 48) ?hr ?_; (case hd => rfl); (case hg => rfl); (case hr => first | (go_simp; done) | (go_simp; rfl)); intro gb360 hg w22 hbox hb; have n0_ := bb_ BK359 hb; have n1_ := hb_ HB hb; have n2_ := Aside0.mk (hbox); have n3_ := Aside0.mk ((by rw [hg]; exact (below_size (by repeat (first | (with_reducible first | exact HB.out | apply below_alloc | apply pw_below_drewN | apply below_drew1 | refine below_set ?_ GE359.out) | exact HB.out))) : w.heap.size ≤ gb360)); have n4_ := Aside0.mk ((by rw [hg]; exact (below_size (by repeat (first | (with_reducible first | exact HB.out | apply below_alloc | apply pw_below_drewN | apply below_drew1 | refine below_set ?_ GE359.out) | exact HB.out))) : w.heap.size ≤ gb360)); have n5_ := Aside0.mk ((by rw [hg]; exact Nat.ne_of_lt (blk_lt (g := gb359) (o := .cells #[.string a0_0, .int .i64 a0_1, .string a0_2, .bool a0_3, .int .i64 a0_4, .slice A0_5 l0_5.length c0_5, .slice A0_6 l0_6.length c0_6] 48 (0, 0)) (by (with_reducible repeat (first | refine blk_drewN ?_ _ | refine blk_drew ?_ | refine blk_alloc ?_ _)); exact BK359.out)) : gb359 ≠ gb360)); have n6_ := Aside0.mk ((by rw [hg]; exact Nat.ne_of_gt (blk_lt (g := gb359) (o := .cells #[.string a0_0, .int .i64 a0_1, .string a0_2, .bool a0_3, .int .i64 a0_4, .slice A0_5 l0_5.length c0_5, .slice A0_6 l0_6.length c0_6] 48 (0, 0)) (by (with_reducible repeat (first | refine blk_drewN ?_ _ | refine blk_drew ?_ | refine blk_alloc ?_ _)); exact BK359.out)) : gb360 ≠ gb359)); clear BK359; clear HB; have BK359 := n0_; have HB := n1_; have BK360 := n2_; have GW360 := n3_; have GE360 := n4_; have NB359_360 := n5_; have NB360_359 := n6_; clear n0_ n1_ n2_ n3_ n4_ n5_ n6_; clear hb hbox hg; have hnb23 := NB359_360.out; have hnc23 := NB360_359.out; obtain ⟨hcz24_0, hcz24_1, hcz24_2, hcz24_3, hcz24_4, hcz24_5, hcz24_6, hfz24_0, hfz24_1, hfz24_2, hfz24_3, hfz24_4, hfz24_5, hfz24_6⟩ := bs7_ BK359; obtain ⟨hcz25_0, hcz25_1, hcz25_2, hcz25_3, hcz25_4, hcz25_5, hcz25_6, hfz25_0, hfz25_1, hfz25_2, hfz25_3, hfz25_4, hfz25_5, hfz25_6⟩ := bs7_ BK360))
      go_ret
      exact ⟨er_, hf_⟩
    ·rw [if_neg c6] at H
     have c6b0 : (a0_3 == a1_3) = false := by simpa using c6
     (try (have c6b1 : decide (a0_3 = a1_3) = false := by simpa using c6))
     (try (have c6b2 : (a0_3 == a1_3) = false := by simpa using c6))
     (try (have c6b3 : ¬ (a0_3 = a1_3) := by simpa using c6))
     clear c6
     obtain rfl := Option.some.inj H
     go_enter Try.func61, Try.ntmps61
     go_wp2_with (first | ((with_reducible refine gate_dst (N := 2) rfl ?_); refine box_event ?hg (N := 2) ?hd (cs := #[.string a0_0, .int .i64 a0_1, .string a0_2, .bool a0_3, .int .i64 a0_4, .slice A0_5 l0_5.length c0_5, .slice A0_6 l0_6.length c0_6]) (t := 48) ?hr ?_; (case hd => rfl); (case hg => rfl); (case hr => first | (go_simp; done) | (go_simp; rfl)); intro gb359 hg w26 hbox hb; have n0_ := hb_ HB hb; have n1_ := Aside0.mk (hbox); have n2_ := Aside0.mk ((by rw [hg]; exact (below_size (by repeat (first | (with_reducible first | exact HB.out | apply below_alloc | apply pw_below_drewN | apply below_drew1) | exact HB.out))) : w.heap.size ≤ gb359)); have n3_ := Aside0.mk ((by rw [hg]; exact (below_size (by repeat (first | (with_reducible first | exact HB.out | apply below_alloc | apply pw_below_drewN | apply below_drew1) | exact HB.out))) : w.heap.size ≤ gb359)); clear HB; have HB := n0_; have BK359 := n1_; have GW359 := n2_; have GE359 := n3_; clear n0_ n1_ n2_ n3_; clear hb hbox hg) | ((with_reducible refine gate_dst (N := 3) rfl ?_); refine box_event ?hg (N := 3) ?hd (cs := #[.string a1_0, .int .i64 a1_1, .string a1_2, .bool a1_3, .int .i64 a1_4, .slice A1_5 l1_5.length c1_5, .slice A1_6 l1_6.length c1_6]) (t := 48) ?hr ?_; (case hd => rfl); (case hg => rfl); (case hr => first | (go_simp; done) | (go_simp; rfl)); intro gb360 hg w27 hbox hb; have n0_ := bb_ BK359 hb; have n1_ := hb_ HB hb; have n2_ := Aside0.mk (hbox); have n3_ := Aside0.mk ((by rw [hg]; exact (below_size (by repeat (first | (with_reducible first | exact HB.out | apply below_alloc | apply pw_below_drewN | apply below_drew1 | refine below_set ?_ GE359.out) | exact HB.out))) : w.heap.size ≤ gb360)); have n4_ := Aside0.mk ((by rw [hg]; exact (below_size (by repeat (first | (with_reducible first | exact HB.out | apply below_alloc | apply pw_below_drewN | apply below_drew1 | refine below_set ?_ GE359.out) | exact HB.out))) : w.heap.size ≤ gb360)); have n5_ := Aside0.mk ((by rw [hg]; exact Nat.ne_of_lt (blk_lt (g := gb359) (o := .cells #[.string a0_0, .int .i64 a0_1, .string a0_2, .bool a0_3, .int .i64 a0_4, .slice A0_5 l0_5.length c0_5, .slice A0_6 l0_6.length c0_6] 48 (0, 0)) (by (with_reducible repeat (first | refine blk_drewN ?_ _ | refine blk_drew ?_ | refine blk_alloc ?_ _)); exact BK359.out)) : gb359 ≠ gb360)); have n6_ := Aside0.mk ((by rw [hg]; exact Nat.ne_of_gt (blk_lt (g := gb359) (o := .cells #[.string a0_0, .int .i64 a0_1, .string a0_2, .bool a0_3, .int .i64 a0_4, .slice A0_5 l0_5.length c0_5, .slice A0_6 l0_6.length c0_6] 48 (0, 0)) (by (with_reducible repeat (first | refine blk_drewN ?_ _ | refine blk_drew ?_ | refine blk_alloc ?_ _)); exact BK359.out)) : gb360 ≠ gb359)); clear BK359; clear HB; have BK359 := n0_; have HB := n1_; have BK360 := n2_; have GW360 := n3_; have GE360 := n4_; have NB359_360 := n5_; have NB360_359 := n6_; clear n0_ n1_ n2_ n3_ n4_ n5_ n6_; clear hb hbox hg; have hnb28 := NB359_360.out; have hnc28 := NB360_359.out; obtain ⟨hcz29_0, hcz29_1, hcz29_2, hcz29_3, hcz29_4, hcz29_5, hcz29_6, hfz29_0, hfz29_1, hfz29_2, hfz29_3, hfz29_4, hfz29_5, hfz29_6⟩ := bs7_ BK359; obtain ⟨hcz30_0, hcz30_1, hcz30_2, hcz30_3, hcz30_4, hcz30_5, hcz30_6, hfz30_0, hfz30_1, hfz30_2, hfz30_3, hfz30_4, hfz30_5, hfz30_6⟩ := bs7_ BK360))
     go_ret
     exact ⟨er_, hf_⟩
   ·rw [if_neg c5] at H
    have c5b0 : (a0_2.toList == a1_2.toList) = false := beq_eq_false_iff_ne.mpr c5
    have c5b1 : (a0_2.toList != a1_2.toList) = true := bne_iff_ne.mpr c5
    obtain rfl := Option.some.inj H
    go_enter Try.func61, Try.ntmps61
    go_wp2_with (first | ((with_reducible refine gate_dst (N := 2) rfl ?_); refine box_event ?hg (N := 2) ?hd (cs := #[.string a0_0, .int .i64 a0_1, .string a0_2, .bool a0_3, .int .i64 a0_4, .slice A0_5 l0_5.length c0_5, .slice A0_6 l0_6.length c0_6]) (t := 48) ?hr ?_; (case hd => rfl); (case hg => rfl); (case hr => first | (go_simp; done) | (go_simp; rfl)); intro gb359 hg w31 hbox hb; have n0_ := hb_ HB hb; have n1_ := Aside0.mk (hbox); have n2_ := Aside0.mk ((by rw [hg]; exact (below_size (by repeat (first | (with_reducible first | exact HB.out | apply below_alloc | apply pw_below_drewN | apply below_drew1) | exact HB.out))) : w.heap.size ≤ gb359)); have n3_ := Aside0.mk ((by rw [hg]; exact (below_size (by repeat (first | (with_reducible first | exact HB.out | apply below_alloc | apply pw_below_drewN | apply below_drew1) | exact HB.out))) : w.heap.size ≤ gb359)); clear HB; have HB := n0_; have BK359 := n1_; have GW359 := n2_; have GE359 := n3_; clear n0_ n1_ n2_ n3_; clear hb hbox hg) | ((with_reducible refine gate_dst (N := 3) rfl ?_); refine box_event ?hg (N := 3) ?hd (cs := #[.string a1_0, .int .i64 a1_1, .string a1_2, .bool a1_3, .int .i64 a1_4, .slice A1_5 l1_5.length c1_5, .slice A1_6 l1_6.length c1_6]) (t := 48) ?hr ?_; (case hd => rfl); (case hg => rfl); (case hr => first | (go_simp; done) | (go_simp; rfl)); intro gb360 hg w32 hbox hb; have n0_ := bb_ BK359 hb; have n1_ := hb_ HB hb; have n2_ := Aside0.mk (hbox); have n3_ := Aside0.mk ((by rw [hg]; exact (below_size (by repeat (first | (with_reducible first | exact HB.out | apply below_alloc | apply pw_below_drewN | apply below_drew1 | refine below_set ?_ GE359.out) | exact HB.out))) : w.heap.size ≤ gb360)); have n4_ := Aside0.mk ((by rw [hg]; exact (below_size (by repeat (first | (with_reducible first | exact HB.out | apply below_alloc | apply pw_below_drewN | apply below_drew1 | refine below_set ?_ GE359.out) | exact HB.out))) : w.heap.size ≤ gb360)); have n5_ := Aside0.mk ((by rw [hg]; exact Nat.ne_of_lt (blk_lt (g := gb359) (o := .cells #[.string a0_0, .int .i64 a0_1, .string a0_2, .bool a0_3, .int .i64 a0_4, .slice A0_5 l0_5.length c0_5, .slice A0_6 l0_6.length c0_6] 48 (0, 0)) (by (with_reducible repeat (first | refine blk_drewN ?_ _ | refine blk_drew ?_ | refine blk_alloc ?_ _)); exact BK359.out)) : gb359 ≠ gb360)); have n6_ := Aside0.mk ((by rw [hg]; exact Nat.ne_of_gt (blk_lt (g := gb359) (o := .cells #[.string a0_0, .int .i64 a0_1, .string a0_2, .bool a0_3, .int .i64 a0_4, .slice A0_5 l0_5.length c0_5, .slice A0_6 l0_6.length c0_6] 48 (0, 0)) (by (with_reducible repeat (first | refine blk_drewN ?_ _ | refine blk_drew ?_ | refine blk_alloc ?_ _)); exact BK359.out)) : gb360 ≠ gb359)); clear BK359; clear HB; have BK359 := n0_; have HB := n1_; have BK360 := n2_; have GW360 := n3_; have GE360 := n4_; have NB359_360 := n5_; have NB360_359 := n6_; clear n0_ n1_ n2_ n3_ n4_ n5_ n6_; clear hb hbox hg; have hnb33 := NB359_360.out; have hnc33 := NB360_359.out; obtain ⟨hcz34_0, hcz34_1, hcz34_2, hcz34_3, hcz34_4, hcz34_5, hcz34_6, hfz34_0, hfz34_1, hfz34_2, hfz34_3, hfz34_4, hfz34_5, hfz34_6⟩ := bs7_ BK359; obtain ⟨hcz35_0, hcz35_1, hcz35_2, hcz35_3, hcz35_4, hcz35_5, hcz35_6, hfz35_0, hfz35_1, hfz35_2, hfz35_3, hfz35_4, hfz35_5, hfz35_6⟩ := bs7_ BK360))
    go_ret
    exact ⟨er_, hf_⟩
  ·rw [if_neg c4] at H
   have c4b0 : (a0_1 == a1_1) = false := beq_eq_false_iff_ne.mpr c4
   have c4b1 : (a0_1 != a1_1) = true := bne_iff_ne.mpr c4
   obtain rfl := Option.some.inj H
   go_enter Try.func61, Try.ntmps61
   go_wp2_with (first | ((with_reducible refine gate_dst (N := 2) rfl ?_); refine box_event ?hg (N := 2) ?hd (cs := #[.string a0_0, .int .i64 a0_1, .string a0_2, .bool a0_3, .int .i64 a0_4, .slice A0_5 l0_5.length c0_5, .slice A0_6 l0_6.length c0_6]) (t := 48) ?hr ?_; (case hd => rfl); (case hg => rfl); (case hr => first | (go_simp; done) | (go_simp; rfl)); intro gb359 hg w36 hbox hb; have n0_ := hb_ HB hb; have n1_ := Aside0.mk (hbox); have n2_ := Aside0.mk ((by rw [hg]; exact (below_size (by repeat (first | (with_reducible first | exact HB.out | apply below_alloc | apply pw_below_drewN | apply below_drew1) | exact HB.out))) : w.heap.size ≤ gb359)); have n3_ := Aside0.mk ((by rw [hg]; exact (below_size (by repeat (first | (with_reducible first | exact HB.out | apply below_alloc | apply pw_below_drewN | apply below_drew1) | exact HB.out))) : w.heap.size ≤ gb359)); clear HB; have HB := n0_; have BK359 := n1_; have GW359 := n2_; have GE359 := n3_; clear n0_ n1_ n2_ n3_; clear hb hbox hg) | ((with_reducible refine gate_dst (N := 3) rfl ?_); refine box_event ?hg (N := 3) ?hd (cs := #[.string a1_0, .int .i64 a1_1, .string a1_2, .bool a1_3, .int .i64 a1_4, .slice A1_5 l1_5.length c1_5, .slice A1_6 l1_6.length c1_6]) (t := 48) ?hr ?_; (case hd => rfl); (case hg => rfl); (case hr => first | (go_simp; done) | (go_simp; rfl)); intro gb360 hg w37 hbox hb; have n0_ := bb_ BK359 hb; have n1_ := hb_ HB hb; have n2_ := Aside0.mk (hbox); have n3_ := Aside0.mk ((by rw [hg]; exact (below_size (by repeat (first | (with_reducible first | exact HB.out | apply below_alloc | apply pw_below_drewN | apply below_drew1 | refine below_set ?_ GE359.out) | exact HB.out))) : w.heap.size ≤ gb360)); have n4_ := Aside0.mk ((by rw [hg]; exact (below_size (by repeat (first | (with_reducible first | exact HB.out | apply below_alloc | apply pw_below_drewN | apply below_drew1 | refine below_set ?_ GE359.out) | exact HB.out))) : w.heap.size ≤ gb360)); have n5_ := Aside0.mk ((by rw [hg]; exact Nat.ne_of_lt (blk_lt (g := gb359) (o := .cells #[.string a0_0, .int .i64 a0_1, .string a0_2, .bool a0_3, .int .i64 a0_4, .slice A0_5 l0_5.length c0_5, .slice A0_6 l0_6.length c0_6] 48 (0, 0)) (by (with_reducible repeat (first | refine blk_drewN ?_ _ | refine blk_drew ?_ | refine blk_alloc ?_ _)); exact BK359.out)) : gb359 ≠ gb360)); have n6_ := Aside0.mk ((by rw [hg]; exact Nat.ne_of_gt (blk_lt (g := gb359) (o := .cells #[.string a0_0, .int .i64 a0_1, .string a0_2, .bool a0_3, .int .i64 a0_4, .slice A0_5 l0_5.length c0_5, .slice A0_6 l0_6.length c0_6] 48 (0, 0)) (by (with_reducible repeat (first | refine blk_drewN ?_ _ | refine blk_drew ?_ | refine blk_alloc ?_ _)); exact BK359.out)) : gb360 ≠ gb359)); clear BK359; clear HB; have BK359 := n0_; have HB := n1_; have BK360 := n2_; have GW360 := n3_; have GE360 := n4_; have NB359_360 := n5_; have NB360_359 := n6_; clear n0_ n1_ n2_ n3_ n4_ n5_ n6_; clear hb hbox hg; have hnb38 := NB359_360.out; have hnc38 := NB360_359.out; obtain ⟨hcz39_0, hcz39_1, hcz39_2, hcz39_3, hcz39_4, hcz39_5, hcz39_6, hfz39_0, hfz39_1, hfz39_2, hfz39_3, hfz39_4, hfz39_5, hfz39_6⟩ := bs7_ BK359; obtain ⟨hcz40_0, hcz40_1, hcz40_2, hcz40_3, hcz40_4, hcz40_5, hcz40_6, hfz40_0, hfz40_1, hfz40_2, hfz40_3, hfz40_4, hfz40_5, hfz40_6⟩ := bs7_ BK360))
   go_ret
   exact ⟨er_, hf_⟩
 ·rw [if_neg c3] at H
  have c3b0 : (a0_0.toList == a1_0.toList) = false := beq_eq_false_iff_ne.mpr c3
  have c3b1 : (a0_0.toList != a1_0.toList) = true := bne_iff_ne.mpr c3
  obtain rfl := Option.some.inj H
  go_enter Try.func61, Try.ntmps61
  go_wp2_with (first | ((with_reducible refine gate_dst (N := 2) rfl ?_); refine box_event ?hg (N := 2) ?hd (cs := #[.string a0_0, .int .i64 a0_1, .string a0_2, .bool a0_3, .int .i64 a0_4, .slice A0_5 l0_5.length c0_5, .slice A0_6 l0_6.length c0_6]) (t := 48) ?hr ?_; (case hd => rfl); (case hg => rfl); (case hr => first | (go_simp; done) | (go_simp; rfl)); intro gb359 hg w41 hbox hb; have n0_ := hb_ HB hb; have n1_ := Aside0.mk (hbox); have n2_ := Aside0.mk ((by rw [hg]; exact (below_size (by repeat (first | (with_reducible first | exact HB.out | apply below_alloc | apply pw_below_drewN | apply below_drew1) | exact HB.out))) : w.heap.size ≤ gb359)); have n3_ := Aside0.mk ((by rw [hg]; exact (below_size (by repeat (first | (with_reducible first | exact HB.out | apply below_alloc | apply pw_below_drewN | apply below_drew1) | exact HB.out))) : w.heap.size ≤ gb359)); clear HB; have HB := n0_; have BK359 := n1_; have GW359 := n2_; have GE359 := n3_; clear n0_ n1_ n2_ n3_; clear hb hbox hg) | ((with_reducible refine gate_dst (N := 3) rfl ?_); refine box_event ?hg (N := 3) ?hd (cs := #[.string a1_0, .int .i64 a1_1, .string a1_2, .bool a1_3, .int .i64 a1_4, .slice A1_5 l1_5.length c1_5, .slice A1_6 l1_6.length c1_6]) (t := 48) ?hr ?_; (case hd => rfl); (case hg => rfl); (case hr => first | (go_simp; done) | (go_simp; rfl)); intro gb360 hg w42 hbox hb; have n0_ := bb_ BK359 hb; have n1_ := hb_ HB hb; have n2_ := Aside0.mk (hbox); have n3_ := Aside0.mk ((by rw [hg]; exact (below_size (by repeat (first | (with_reducible first | exact HB.out | apply below_alloc | apply pw_below_drewN | apply below_drew1 | refine below_set ?_ GE359.out) | exact HB.out))) : w.heap.size ≤ gb360)); have n4_ := Aside0.mk ((by rw [hg]; exact (below_size (by repeat (first | (with_reducible first | exact HB.out | apply below_alloc | apply pw_below_drewN | apply below_drew1 | refine below_set ?_ GE359.out) | exact HB.out))) : w.heap.size ≤ gb360)); have n5_ := Aside0.mk ((by rw [hg]; exact Nat.ne_of_lt (blk_lt (g := gb359) (o := .cells #[.string a0_0, .int .i64 a0_1, .string a0_2, .bool a0_3, .int .i64 a0_4, .slice A0_5 l0_5.length c0_5, .slice A0_6 l0_6.length c0_6] 48 (0, 0)) (by (with_reducible repeat (first | refine blk_drewN ?_ _ | refine blk_drew ?_ | refine blk_alloc ?_ _)); exact BK359.out)) : gb359 ≠ gb360)); have n6_ := Aside0.mk ((by rw [hg]; exact Nat.ne_of_gt (blk_lt (g := gb359) (o := .cells #[.string a0_0, .int .i64 a0_1, .string a0_2, .bool a0_3, .int .i64 a0_4, .slice A0_5 l0_5.length c0_5, .slice A0_6 l0_6.length c0_6] 48 (0, 0)) (by (with_reducible repeat (first | refine blk_drewN ?_ _ | refine blk_drew ?_ | refine blk_alloc ?_ _)); exact BK359.out)) : gb360 ≠ gb359)); clear BK359; clear HB; have BK359 := n0_; have HB := n1_; have BK360 := n2_; have GW360 := n3_; have GE360 := n4_; have NB359_360 := n5_; have NB360_359 := n6_; clear n0_ n1_ n2_ n3_ n4_ n5_ n6_; clear hb hbox hg; have hnb43 := NB359_360.out; have hnc43 := NB360_359.out; obtain ⟨hcz44_0, hcz44_1, hcz44_2, hcz44_3, hcz44_4, hcz44_5, hcz44_6, hfz44_0, hfz44_1, hfz44_2, hfz44_3, hfz44_4, hfz44_5, hfz44_6⟩ := bs7_ BK359; obtain ⟨hcz45_0, hcz45_1, hcz45_2, hcz45_3, hcz45_4, hcz45_5, hcz45_6, hfz45_0, hfz45_1, hfz45_2, hfz45_3, hfz45_4, hfz45_5, hfz45_6⟩ := bs7_ BK360))
  go_ret
  exact ⟨er_, hf_⟩
end Go.Proofs.Ytaiglhfmmdajdaa.Pm
end
section
namespace Go.Proofs.Ytaiglhfmmdajdaa.Pm
open Go.RowKit Go.Proofs.YtaiglhfmmdajdaaW.PrintWords Go.Proofs.YtaiglhfmmdajdaaW.PrintLast Go.Proofs.YtaiglhfmmdajdaaW.PrintMore
attribute [local go_sem] max2_int min2_int max_two min_two max_three min_three max_four min_four   -- for this text's walks alone
set_option linter.unusedVariables false
set_option linter.unusedSimpArgs false
def sentryref4_SameItems.l0 : Nat → List (S48) → List (S48) → Int → Option (Bool)
 | 0, _, _, _ => none
 | k + 1, x0, x1, x5 => if x5 < (x0.length : Int) then (if 0 ≤ x5 then (if x5 < (x1.length : Int) then ((sentryref4_SameItem.f k ((rd_T48 x0 x5).f0) ((rd_T48 x0 x5).f1) ((rd_T48 x0 x5).f2) ((rd_T48 x0 x5).f3) ((rd_T48 x0 x5).f4) ((rd_T48 x0 x5).f5) ((rd_T48 x0 x5).f6) ((rd_T48 x1 x5).f0) ((rd_T48 x1 x5).f1) ((rd_T48 x1 x5).f2) ((rd_T48 x1 x5).f3) ((rd_T48 x1 x5).f4) ((rd_T48 x1 x5).f5) ((rd_T48 x1 x5).f6)).bind fun t365 => (if t365 = true then (sentryref4_SameItems.l0 k x0 x1 (wrap64 (x5 + 1))) else (some false))) else (none)) else (none)) else (some true)
def sentryref4_SameItems.f (k : Nat) (l0 : List (S48)) (l1 : List (S48)) : Option (Bool) := if (l0.length : Int) = (l1.length : Int) then (sentryref4_SameItems.l0 k l0 l1 0) else (some false)
theorem sentryref4_SameItems.mono_l : ∀ k, (∀ y0 y1 y2, LeO (sentryref4_SameItems.l0 k y0 y1 y2) (sentryref4_SameItems.l0 (k + 1) y0 y1 y2))
 | 0 => fun _ _ _ r h => by simp [sentryref4_SameItems.l0] at h
 | k + 1 => by
  have ih0 := sentryref4_SameItems.mono_l k
  ·intro y0 y1 y2
   unfold sentryref4_SameItems.l0
   repeat' first
   | (with_reducible exact ih0 _ _ _)
   | (with_reducible exact sentryref4_SameItem.mono _ _ _ _ _ _ _ _ _ _ _ _ _ _ _)
   | (with_reducible exact LeO.refl _)
   | (with_reducible exact LeO.none _)
   | (with_reducible refine LeO.ite ?_ ?_)
   | (with_reducible refine LeO.bind ?_ (fun _ => ?_))
   | exact ih0 _ _ _
   | exact sentryref4_SameItem.mono _ _ _ _ _ _ _ _ _ _ _ _ _ _ _
   | exact LeO.none _
   | refine LeO.ite ?_ ?_
   | refine LeO.bind ?_ (fun _ => ?_)
theorem sentryref4_SameItems.mono : ∀ a0 a1 k, LeO (sentryref4_SameItems.f k a0 a1) (sentryref4_SameItems.f (k + 1) a0 a1) := by
 intro a0 a1 k
 have ih0 := sentryref4_SameItems.mono_l k
 unfold sentryref4_SameItems.f
 repeat' first
   | (with_reducible exact ih0 _ _ _)
   | (with_reducible exact sentryref4_SameItem.mono _ _ _ _ _ _ _ _ _ _ _ _ _ _ _)
   | (with_reducible exact LeO.refl _)
   | (with_reducible exact LeO.none _)
   | (with_reducible refine LeO.ite ?_ ?_)
   | (with_reducible refine LeO.bind ?_ (fun _ => ?_))
   | exact ih0 _ _ _
   | exact sentryref4_SameItem.mono _ _ _ _ _ _ _ _ _ _ _ _ _ _ _
   | exact LeO.none _
   | refine LeO.ite ?_ ?_
   | refine LeO.bind ?_ (fun _ => ?_)
def sentryref4_SameItems.T6 : Bool × List (List Nat × List Nat) := (true, [([], []), ([], []), ([0, 1], [0, 1]), ([2], [2]), ([], []), ([], []), ([4, 5], [4, 5]), ([6], [6]), ([3, 7], [3, 7]), ([8], [8])])
def sentryref4_SameItems.B6 : List Nat := [0, 0, 3, 7, 0, 0, 48, 112, 255, 511]
theorem sentryref4_SameItems.tab6 : rtab .any (opsOf Try.f33 6) = sentryref4_SameItems.T6 := by kernel_rfl
theorem sentryref4_SameItems.bits6 : waitsOk sentryref4_SameItems.T6.2 sentryref4_SameItems.B6 = true := by kernel_rfl
set_option maxHeartbeats 8000000 in
set_option maxRecDepth 100000 in
theorem sentryref4_SameItems.calls (k : Nat) (A0 : Option Addr) (c0 : Nat) (l0 : List (S48)) (A1 : Option Addr) (c1 : Nat) (l1 : List (S48)) (r : Bool) (w : World) (hr0 : Kd.C k48 w A0 l0.length l0) (hc0 : l0.length ≤ c0) (hr1 : Kd.C k48 w A1 l1.length l1) (hc1 : l1.length ≤ c1) (h : sentryref4_SameItems.f k l0 l1 = some r) :
  Calls Try.prog 33 #[.slice A0 l0.length c0, .slice A1 l1.length c1] w fun e w' => e = .returned (.bool r) ∧ Below w.heap.size w w' := by
 have hu48 := Try.underlying48
 have HR0 := Aside0.mk hr0
 have HC0 := Aside0.mk hc0
 clear hr0 hc0
 have HR1 := Aside0.mk hr1
 have HC1 := Aside0.mk hc1
 clear hr1 hc1
 have HB := Aside0.mk (Below.refl w.heap.size w)
 have H : (if (l0.length : Int) = (l1.length : Int) then (sentryref4_SameItems.l0 k l0 l1 0) else (some false)) = some r := h
 clear h
 by_cases c3 : (l0.length : Int) = (l1.length : Int)
 ·rw [if_pos c3] at H
  have c3b0 : ((l0.length : Int) == (l1.length : Int)) = true := beq_iff_eq.mpr c3
  have c3b1 : ((l0.length : Int) != (l1.length : Int)) = false := bne_eq_false_iff_eq.mpr c3
  have c3b2 : (l0.length == l1.length) = true := by first | simpa using c3 | (simp at c3 ⊢; omega)
  clear c3
  have H' := Aside0.mk H
  clear H
  go_enter Try.func33, Try.ntmps33
  go_wp2
  go_loopg [5] k (fun kq v5 w' => ∃ (x5_1 : Int), v5 = .int .i64 x5_1 ∧ Aside0 (sentryref4_SameItems.l0 kq l0 l1 x5_1 = some r) ∧ Aside0 (kq ≤ k) ∧ Aside0 (Below w.heap.size w w'))
  case atStart => exact ⟨(0), (by first | rfl | (simp; done) | (simp [*]; done)), H', ⟨Nat.le_refl _⟩, ⟨hf_⟩⟩
  case round =>
   clear H'
   (try clear c1); (try clear p2); (try clear c3); (try clear c3b0); (try clear c3b1); (try clear c3b2)
   obtain ⟨x5_1, rfl, HA, HK1, HB⟩ := hrel
   cases gk with
   | zero => exact absurd HA.out (by simp [sentryref4_SameItems.l0])
   | succ k1 =>
    have H := HA.out
    clear HA
    simp only [sentryref4_SameItems.l0] at H
    by_cases c4 : x5_1 < (l0.length : Int)
    ·rw [if_pos c4] at H
     have c4b0 : decide (x5_1 < (l0.length : Int)) = true := decide_eq_true c4
     clear c4
     by_cases c5 : 0 ≤ x5_1
     ·rw [if_pos c5] at H
      have c5b0 : decide (0 ≤ x5_1) = true := decide_eq_true c5
      clear c5
      by_cases c6 : x5_1 < (l1.length : Int)
      ·rw [if_pos c6] at H
       have c6b0 : decide (x5_1 < (l1.length : Int)) = true := decide_eq_true c6
       clear c6
       replace H := Option.bind_eq_some_iff.mp H
       obtain ⟨t365, A70, H⟩ := H
       replace H : (if t365 = true then (sentryref4_SameItems.l0 k1 l0 l1 (wrap64 (x5_1 + 1))) else (some false)) = some r := H
       have A7 := Aside0.mk A70
       clear A70
       by_cases c8 : t365 = true
       ·subst c8
        have H1 : (sentryref4_SameItems.l0 k1 l0 l1 (wrap64 (x5_1 + 1))) = some r := by rw [if_pos rfl] at H; exact H
        clear H
        have H := H1
        clear H1
        have H' := Aside0.mk H
        clear H
        try go_wp2
        replace HB := Aside0.mk (below_drew1 HB.out)
        have p363 : 0 ≤ (x5_1 : Int) := od_
        have q363 : x5_1 < (l0.length : Int) := od_
        obtain ⟨ad363, A363_5, c363_5, A363_6, c363_6, e363, hx363_0, hx363_1, hx363_2, hx363_3, hx363_4, hx363_5, hx363_6, hl363_5, hi363_5, hl363_6, hi363_6⟩ := at_T48 HR0.out x5_1 p363 q363
        have hw363_6 := hx363_6
        have hw363_5 := hx363_5
        have hw363_4 := hx363_4
        have hw363_3 := hx363_3
        have hw363_2 := hx363_2
        have hw363_1 := hx363_1
        have hw363_0 := hx363_0
        cases e363
        replace hx363_0 := rr_ HB hx363_0
        replace hx363_1 := rr_ HB hx363_1
        replace hx363_2 := rr_ HB hx363_2
        replace hx363_3 := rr_ HB hx363_3
        replace hx363_4 := rr_ HB hx363_4
        replace hx363_5 := rr_ HB hx363_5
        replace hx363_6 := rr_ HB hx363_6
        have HR363_5 := Aside0.mk hi363_5
        have HC363_5 := Aside0.mk hl363_5
        clear hi363_5 hl363_5
        have HR363_6 := Aside0.mk hi363_6
        have HC363_6 := Aside0.mk hl363_6
        clear hi363_6 hl363_6
        replace p363 := eq_true p363
        replace q363 := eq_true q363
        have p364 : 0 ≤ (x5_1 : Int) := od_
        have q364 : x5_1 < (l1.length : Int) := od_
        obtain ⟨ad364, A364_5, c364_5, A364_6, c364_6, e364, hx364_0, hx364_1, hx364_2, hx364_3, hx364_4, hx364_5, hx364_6, hl364_5, hi364_5, hl364_6, hi364_6⟩ := at_T48 HR1.out x5_1 p364 q364
        have hw364_6 := hx364_6
        have hw364_5 := hx364_5
        have hw364_4 := hx364_4
        have hw364_3 := hx364_3
        have hw364_2 := hx364_2
        have hw364_1 := hx364_1
        have hw364_0 := hx364_0
        cases e364
        replace hx364_0 := rr_ HB hx364_0
        replace hx364_1 := rr_ HB hx364_1
        replace hx364_2 := rr_ HB hx364_2
        replace hx364_3 := rr_ HB hx364_3
        replace hx364_4 := rr_ HB hx364_4
        replace hx364_5 := rr_ HB hx364_5
        replace hx364_6 := rr_ HB hx364_6
        have HR364_5 := Aside0.mk hi364_5
        have HC364_5 := Aside0.mk hl364_5
        clear hi364_5 hl364_5
        have HR364_6 := Aside0.mk hi364_6
        have HC364_6 := Aside0.mk hl364_6
        clear hi364_6 hl364_6
        replace p364 := eq_true p364
        replace q364 := eq_true q364
        refine start_ (n := 10) (S := fun w' => w'.cell? (ad363.add ((x5_1).toNat * 7)) = some (.string ((rd_T48 l0 x5_1).f0)) ∧ w'.cell? ⟨(ad363.add ((x5_1).toNat * 7)).block, (ad363.add ((x5_1).toNat * 7)).off + 1, none⟩ = some (.int .i64 ((rd_T48 l0 x5_1).f1)) ∧ w'.cell? ⟨(ad363.add ((x5_1).toNat * 7)).block, (ad363.add ((x5_1).toNat * 7)).off + 2, none⟩ = some (.string ((rd_T48 l0 x5_1).f2)) ∧ w'.cell? ⟨(ad363.add ((x5_1).toNat * 7)).block, (ad363.add ((x5_1).toNat * 7)).off + 3, none⟩ = some (.bool ((rd_T48 l0 x5_1).f3)) ∧ w'.cell? ⟨(ad363.add ((x5_1).toNat * 7)).block, (ad363.add ((x5_1).toNat * 7)).off + 4, none⟩ = some (.int .i64 ((rd_T48 l0 x5_1).f4)) ∧ w'.cell? ⟨(ad363.add ((x5_1).toNat * 7)).block, (ad363.add ((x5_1).toNat * 7)).off + 5, none⟩ = some (.slice A363_5 ((rd_T48 l0 x5_1).f5).length c363_5) ∧ w'.cell? ⟨(ad363.add ((x5_1).toNat * 7)).block, (ad363.add ((x5_1).toNat * 7)).off + 6, none⟩ = some (.slice A363_6 ((rd_T48 l0 x5_1).f6).length c363_6) ∧ w'.cell? (ad364.add ((x5_1).toNat * 7)) = some (.string ((rd_T48 l1 x5_1).f0)) ∧ w'.cell? ⟨(ad364.add ((x5_1).toNat * 7)).block, (ad364.add ((x5_1).toNat * 7)).off + 1, none⟩ = some (.int .i64 ((rd_T48 l1 x5_1).f1)) ∧ w'.cell? ⟨(ad364.add ((x5_1).toNat * 7)).block, (ad364.add ((x5_1).toNat * 7)).off + 2, none⟩ = some (.string ((rd_T48 l1 x5_1).f2)) ∧ w'.cell? ⟨(ad364.add ((x5_1).toNat * 7)).block, (ad364.add ((x5_1).toNat * 7)).off + 3, none⟩ = some (.bool ((rd_T48 l1 x5_1).f3)) ∧ w'.cell? ⟨(ad364.add ((x5_1).toNat * 7)).block, (ad364.add ((x5_1).toNat * 7)).off + 4, none⟩ = some (.int .i64 ((rd_T48 l1 x5_1).f4)) ∧ w'.cell? ⟨(ad364.add ((x5_1).toNat * 7)).block, (ad364.add ((x5_1).toNat * 7)).off + 5, none⟩ = some (.slice A364_5 ((rd_T48 l1 x5_1).f5).length c364_5) ∧ w'.cell? ⟨(ad364.add ((x5_1).toNat * 7)).block, (ad364.add ((x5_1).toNat * 7)).off + 6, none⟩ = some (.slice A364_6 ((rd_T48 l1 x5_1).f6).length c364_6)) (ds := []) #[false, false, false, false, false, false, false, false, false, false] (by kernel_rfl) rfl rfl ⟨(rr_ HB hw363_0 :), (rr_ HB hw363_1 :), (rr_ HB hw363_2 :), (rr_ HB hw363_3 :), (rr_ HB hw363_4 :), (rr_ HB hw363_5 :), (rr_ HB hw363_6 :), (rr_ HB hw364_0 :), (rr_ HB hw364_1 :), (rr_ HB hw364_2 :), (rr_ HB hw364_3 :), (rr_ HB hw364_4 :), (rr_ HB hw364_5 :), (rr_ HB hw364_6 :)⟩ (fun hHeld => ?_); refine with_tabW sentryref4_SameItems.tab6 sentryref4_SameItems.bits6 (fun HT_ HW_ => ?_)
        generalize wr.drew = w9 at HB HR363_5 HR363_6 HR364_5 HR364_6 hx363_0 hx363_1 hx363_2 hx363_3 hx363_4 hx363_5 hx363_6 hx364_0 hx364_1 hx364_2 hx364_3 hx364_4 hx364_5 hx364_6 hHeld ⊢
        refine pz_ 0 (some 17) (bits_ 10 1) HT_.out ?_
        refine pz_ 1 (some 18) (bits_ 10 3) HT_.out ?_
        refine pz_ 2 (some 19) (bits_ 10 7) HT_.out ?_
        refine pz_ 4 (some 21) (bits_ 10 23) HT_.out ?_
        refine pz_ 5 (some 22) (bits_ 10 55) HT_.out ?_
        refine pz_ 6 (some 23) (bits_ 10 119) HT_.out ?_
        refine tz_ 3 (some 20) (bits_ 10 127) HT_.out HW_.out hHeld ?_ (hy := by rintro w' ⟨s0, s1, s2, s3, s4, s5, s6, s7, s8, s9, s10, s11, s12, s13⟩; go_simp; with_reducible rfl)
        refine tz_ 7 (some 24) (bits_ 10 255) HT_.out HW_.out hHeld ?_ (hy := by rintro w' ⟨s0, s1, s2, s3, s4, s5, s6, s7, s8, s9, s10, s11, s12, s13⟩; go_simp; with_reducible rfl)
        refine oz_ 8 (some 25) (bits_ 10 511) HT_.out (fun K hK => ?_)
        refine go_s_ Try.func61 #[.agg #[.string ((rd_T48 l0 x5_1).f0), .int .i64 ((rd_T48 l0 x5_1).f1), .string ((rd_T48 l0 x5_1).f2), .bool ((rd_T48 l0 x5_1).f3), .int .i64 ((rd_T48 l0 x5_1).f4), .slice A363_5 ((rd_T48 l0 x5_1).f5).length c363_5, .slice A363_6 ((rd_T48 l0 x5_1).f6).length c363_6], .agg #[.string ((rd_T48 l1 x5_1).f0), .int .i64 ((rd_T48 l1 x5_1).f1), .string ((rd_T48 l1 x5_1).f2), .bool ((rd_T48 l1 x5_1).f3), .int .i64 ((rd_T48 l1 x5_1).f4), .slice A364_5 ((rd_T48 l1 x5_1).f5).length c364_5, .slice A364_6 ((rd_T48 l1 x5_1).f6).length c364_6]] ?_
        with_reducible refine (sentryref4_SameItem.calls k1 ((rd_T48 l0 x5_1).f0) ((rd_T48 l0 x5_1).f1) ((rd_T48 l0 x5_1).f2) ((rd_T48 l0 x5_1).f3) ((rd_T48 l0 x5_1).f4) _ _ ((rd_T48 l0 x5_1).f5) _ _ ((rd_T48 l0 x5_1).f6) ((rd_T48 l1 x5_1).f0) ((rd_T48 l1 x5_1).f1) ((rd_T48 l1 x5_1).f2) ((rd_T48 l1 x5_1).f3) ((rd_T48 l1 x5_1).f4) _ _ ((rd_T48 l1 x5_1).f5) _ _ ((rd_T48 l1 x5_1).f6) true _ ?side1 ?side2 ?side3 ?side4 ?side5 ?side6 ?side7 ?side8 A7.out).mono ?_
        (case side1 => exact kc_ HR363_5 HB)
        (case side2 => exact HC363_5.out)
        (case side3 => exact kc_ HR363_6 HB)
        (case side4 => exact HC363_6.out)
        (case side5 => exact kc_ HR364_5 HB)
        (case side6 => exact HC364_5.out)
        (case side7 => exact kc_ HR364_6 HB)
        (case side8 => exact HC364_6.out)
        rintro e w10 ⟨rfl, hb⟩
        refine ⟨_, rfl, ?_⟩
        replace HB := hb_ HB hb
        (try clear hb); (try clear hb2); (try clear hk); (try clear hi)
        refine hK.out _ _ ⟨(rr_ HB hw363_0 :), (rr_ HB hw363_1 :), (rr_ HB hw363_2 :), (rr_ HB hw363_3 :), (rr_ HB hw363_4 :), (rr_ HB hw363_5 :), (rr_ HB hw363_6 :), (rr_ HB hw364_0 :), (rr_ HB hw364_1 :), (rr_ HB hw364_2 :), (rr_ HB hw364_3 :), (rr_ HB hw364_4 :), (rr_ HB hw364_5 :), (rr_ HB hw364_6 :)⟩ (fun hHeld => ?_)
        clear hK K
        refine nz_ (some 25) ?_
        refine pz_ 9 (some 26) (bits_ 10 1023) HT_.out ?_
        refine done_ (done_of HT_.out (by kernel_rfl)) ?_
        try go_wp2
        go_roundg k1
        case measure => have := HK1.out; omega
        case rel => exact ⟨(wrap64 (x5_1 + 1)), (by first | rfl | (simp; done) | (simp [*]; done)), H', ⟨by have := HK1.out; omega⟩, ⟨hf_⟩⟩
       ·replace c8 := Bool.eq_false_iff.mpr c8
        subst c8
        have H1 : (some false) = some r := by rw [if_neg (show ¬ (false = true) by decide)] at H; exact H
        clear H
        have H := H1
        clear H1
        obtain rfl := Option.some.inj H
        try go_wp2
        replace HB := Aside0.mk (below_drew1 HB.out)
        have p363 : 0 ≤ (x5_1 : Int) := od_
        have q363 : x5_1 < (l0.length : Int) := od_
        obtain ⟨ad363, A363_5, c363_5, A363_6, c363_6, e363, hx363_0, hx363_1, hx363_2, hx363_3, hx363_4, hx363_5, hx363_6, hl363_5, hi363_5, hl363_6, hi363_6⟩ := at_T48 HR0.out x5_1 p363 q363
        have hw363_6 := hx363_6
        have hw363_5 := hx363_5
        have hw363_4 := hx363_4
        have hw363_3 := hx363_3
        have hw363_2 := hx363_2
        have hw363_1 := hx363_1
        have hw363_0 := hx363_0
        cases e363
        replace hx363_0 := rr_ HB hx363_0
        replace hx363_1 := rr_ HB hx363_1
        replace hx363_2 := rr_ HB hx363_2
        replace hx363_3 := rr_ HB hx363_3
        replace hx363_4 := rr_ HB hx363_4
        replace hx363_5 := rr_ HB hx363_5
        replace hx363_6 := rr_ HB hx363_6
        have HR363_5 := Aside0.mk hi363_5
        have HC363_5 := Aside0.mk hl363_5
        clear hi363_5 hl363_5
        have HR363_6 := Aside0.mk hi363_6
        have HC363_6 := Aside0.mk hl363_6
        clear hi363_6 hl363_6
        replace p363 := eq_true p363
        replace q363 := eq_true q363
        have p364 : 0 ≤ (x5_1 : Int) := od_
        have q364 : x5_1 < (l1.length : Int) := od_
        obtain ⟨ad364, A364_5, c364_5, A364_6, c364_6, e364, hx364_0, hx364_1, hx364_2, hx364_3, hx364_4, hx364_5, hx364_6, hl364_5, hi364_5, hl364_6, hi364_6⟩ := at_T48 HR1.out x5_1 p364 q364
        have hw364_6 := hx364_6
        have hw364_5 := hx364_5
        have hw364_4 := hx364_4
        have hw364_3 := hx364_3
        have hw364_2 := hx364_2
        have hw364_1 := hx364_1
        have hw364_0 := hx364_0
        cases e364
        replace hx364_0 := rr_ HB hx364_0
        replace hx364_1 := rr_ HB hx364_1
        replace hx364_2 := rr_ HB hx364_2
        replace hx364_3 := rr_ HB hx364_3
        replace hx364_4 := rr_ HB hx364_4
        replace hx364_5 := rr_ HB hx364_5
        replace hx364_6 := rr_ HB hx364_6
        have HR364_5 := Aside0.mk hi364_5
        have HC364_5 := Aside0.mk hl364_5
        clear hi364_5 hl364_5
        have HR364_6 := Aside0.mk hi364_6
        have HC364_6 := Aside0.mk hl364_6
        clear hi364_6 hl364_6
        replace p364 := eq_true p364
        replace q364 := eq_true q364
        refine start_ (n := 10) (S := fun w' => w'.cell? (ad363.add ((x5_1).toNat * 7)) = some (.string ((rd_T48 l0 x5_1).f0)) ∧ w'.cell? ⟨(ad363.add ((x5_1).toNat * 7)).block, (ad363.add ((x5_1).toNat * 7)).off + 1, none⟩ = some (.int .i64 ((rd_T48 l0 x5_1).f1)) ∧ w'.cell? ⟨(ad363.add ((x5_1).toNat * 7)).block, (ad363.add ((x5_1).toNat * 7)).off + 2, none⟩ = some (.string ((rd_T48 l0 x5_1).f2)) ∧ w'.cell? ⟨(ad363.add ((x5_1).toNat * 7)).block, (ad363.add ((x5_1).toNat * 7)).off + 3, none⟩ = some (.bool ((rd_T48 l0 x5_1).f3)) ∧ w'.cell? ⟨(ad363.add ((x5_1).toNat * 7)).block, (ad363.add ((x5_1).toNat * 7)).off + 4, none⟩ = some (.int .i64 ((rd_T48 l0 x5_1).f4)) ∧ w'.cell? ⟨(ad363.add ((x5_1).toNat * 7)).block, (ad363.add ((x5_1).toNat * 7)).off + 5, none⟩ = some (.slice A363_5 ((rd_T48 l0 x5_1).f5).length c363_5) ∧ w'.cell? ⟨(ad363.add ((x5_1).toNat * 7)).block, (ad363.add ((x5_1).toNat * 7)).off + 6, none⟩ = some (.slice A363_6 ((rd_T48 l0 x5_1).f6).length c363_6) ∧ w'.cell? (ad364.add ((x5_1).toNat * 7)) = some (.string ((rd_T48 l1 x5_1).f0)) ∧ w'.cell? ⟨(ad364.add ((x5_1).toNat * 7)).block, (ad364.add ((x5_1).toNat * 7)).off + 1, none⟩ = some (.int .i64 ((rd_T48 l1 x5_1).f1)) ∧ w'.cell? ⟨(ad364.add ((x5_1).toNat * 7)).block, (ad364.add ((x5_1).toNat * 7)).off + 2, none⟩ = some (.string ((rd_T48 l1 x5_1).f2)) ∧ w'.cell? ⟨(ad364.add ((x5_1).toNat * 7)).block, (ad364.add ((x5_1).toNat * 7)).off + 3, none⟩ = some (.bool ((rd_T48 l1 x5_1).f3)) ∧ w'.cell? ⟨(ad364.add ((x5_1).toNat * 7)).block, (ad364.add ((x5_1).toNat * 7)).off + 4, none⟩ = some (.int .i64 ((rd_T48 l1 x5_1).f4)) ∧ w'.cell? ⟨(ad364.add ((x5_1).toNat * 7)).block, (ad364.add ((x5_1).toNat * 7)).off + 5, none⟩ = some (.slice A364_5 ((rd_T48 l1 x5_1).f5).length c364_5) ∧ w'.cell? ⟨(ad364.add ((x5_1).toNat * 7)).block, (ad364.add ((x5_1).toNat * 7)).off + 6, none⟩ = some (.slice A364_6 ((rd_T48 l1 x5_1).f6).length c364_6)) (ds := []) #[false, false, false, false, false, false, false, false, false, false] (by kernel_rfl) rfl rfl ⟨(rr_ HB hw363_0 :), (rr_ HB hw363_1 :), (rr_ HB hw363_2 :), (rr_ HB hw363_3 :), (rr_ HB hw363_4 :), (rr_ HB hw363_5 :), (rr_ HB hw363_6 :), (rr_ HB hw364_0 :), (rr_ HB hw364_1 :), (rr_ HB hw364_2 :), (rr_ HB hw364_3 :), (rr_ HB hw364_4 :), (rr_ HB hw364_5 :), (rr_ HB hw364_6 :)⟩ (fun hHeld => ?_); refine with_tabW sentryref4_SameItems.tab6 sentryref4_SameItems.bits6 (fun HT_ HW_ => ?_)
        generalize wr.drew = w11 at HB HR363_5 HR363_6 HR364_5 HR364_6 hx363_0 hx363_1 hx363_2 hx363_3 hx363_4 hx363_5 hx363_6 hx364_0 hx364_1 hx364_2 hx364_3 hx364_4 hx364_5 hx364_6 hHeld ⊢
        refine pz_ 0 (some 17) (bits_ 10 1) HT_.out ?_
        refine pz_ 1 (some 18) (bits_ 10 3) HT_.out ?_
        refine pz_ 2 (some 19) (bits_ 10 7) HT_.out ?_
        refine pz_ 4 (some 21) (bits_ 10 23) HT_.out ?_
        refine pz_ 5 (some 22) (bits_ 10 55) HT_.out ?_
        refine pz_ 6 (some 23) (bits_ 10 119) HT_.out ?_
        refine tz_ 3 (some 20) (bits_ 10 127) HT_.out HW_.out hHeld ?_ (hy := by rintro w' ⟨s0, s1, s2, s3, s4, s5, s6, s7, s8, s9, s10, s11, s12, s13⟩; go_simp; with_reducible rfl)
        refine tz_ 7 (some 24) (bits_ 10 255) HT_.out HW_.out hHeld ?_ (hy := by rintro w' ⟨s0, s1, s2, s3, s4, s5, s6, s7, s8, s9, s10, s11, s12, s13⟩; go_simp; with_reducible rfl)
        refine oz_ 8 (some 25) (bits_ 10 511) HT_.out (fun K hK => ?_)
        refine go_s_ Try.func61 #[.agg #[.string ((rd_T48 l0 x5_1).f0), .int .i64 ((rd_T48 l0 x5_1).f1), .string ((rd_T48 l0 x5_1).f2), .bool ((rd_T48 l0 x5_1).f3), .int .i64 ((rd_T48 l0 x5_1).f4), .slice A363_5 ((rd_T48 l0 x5_1).f5).length c363_5, .slice A363_6 ((rd_T48 l0 x5_1).f6).length c363_6], .agg #[.string ((rd_T48 l1 x5_1).f0), .int .i64 ((rd_T48 l1 x5_1).f1), .string ((rd_T48 l1 x5_1).f2), .bool ((rd_T48 l1 x5_1).f3), .int .i64 ((rd_T48 l1 x5_1).f4), .slice A364_5 ((rd_T48 l1 x5_1).f5).length c364_5, .slice A364_6 ((rd_T48 l1 x5_1).f6).length c364_6]] ?_
        with_reducible refine (sentryref4_SameItem.calls k1 ((rd_T48 l0 x5_1).f0) ((rd_T48 l0 x5_1).f1) ((rd_T48 l0 x5_1).f2) ((rd_T48 l0 x5_1).f3) ((rd_T48 l0 x5_1).f4) _ _ ((rd_T48 l0 x5_1).f5) _ _ ((rd_T48 l0 x5_1).f6) ((rd_T48 l1 x5_1).f0) ((rd_T48 l1 x5_1).f1) ((rd_T48 l1 x5_1).f2) ((rd_T48 l1 x5_1).f3) ((rd_T48 l1 x5_1).f4) _ _ ((rd_T48 l1 x5_1).f5) _ _ ((rd_T48 l1 x5_1).f6) false _ ?side1 ?side2 ?side3 ?side4 ?side5 ?side6 ?side7 ?side8 A7.out).mono ?_
        (case side1 => exact kc_ HR363_5 HB)
        (case side2 => exact HC363_5.out)
        (case side3 => exact kc_ HR363_6 HB)
        (case side4 => exact HC363_6.out)
        (case side5 => exact kc_ HR364_5 HB)
        (case side6 => exact HC364_5.out)
        (case side7 => exact kc_ HR364_6 HB)
        (case side8 => exact HC364_6.out)
        rintro e w12 ⟨rfl, hb⟩
        refine ⟨_, rfl, ?_⟩
        replace HB := hb_ HB hb
        (try clear hb); (try clear hb2); (try clear hk); (try clear hi)
        refine hK.out _ _ ⟨(rr_ HB hw363_0 :), (rr_ HB hw363_1 :), (rr_ HB hw363_2 :), (rr_ HB hw363_3 :), (rr_ HB hw363_4 :), (rr_ HB hw363_5 :), (rr_ HB hw363_6 :), (rr_ HB hw364_0 :), (rr_ HB hw364_1 :), (rr_ HB hw364_2 :), (rr_ HB hw364_3 :), (rr_ HB hw364_4 :), (rr_ HB hw364_5 :), (rr_ HB hw364_6 :)⟩ (fun hHeld => ?_)
        clear hK K
        refine nz_ (some 25) ?_
        refine pz_ 9 (some 26) (bits_ 10 1023) HT_.out ?_
        refine done_ (done_of HT_.out (by kernel_rfl)) ?_
        try go_wp2
        go_ret
        exact ⟨er_, hf_⟩
      ·rw [if_neg c6] at H
       exact absurd H (by simp)
     ·rw [if_neg c5] at H
      exact absurd H (by simp)
    ·rw [if_neg c4] at H
     have c4b0 : decide (x5_1 < (l0.length : Int)) = false := decide_eq_false c4
     clear c4
     obtain rfl := Option.some.inj H
     go_wp2
     go_ret
     exact ⟨er_, hf_⟩
 ·rw [if_neg c3] at H
  have c3b0 : ((l0.length : Int) == (l1.length : Int)) = false := beq_eq_false_iff_ne.mpr c3
  have c3b1 : ((l0.length : Int) != (l1.length : Int)) = true := bne_iff_ne.mpr c3
  have c3b2 : (l0.length == l1.length) = false := by first | simpa using c3 | (simp at c3 ⊢; omega)
  obtain rfl := Option.some.inj H
  go_enter Try.func33, Try.ntmps33
  go_wp2
  go_ret
  exact ⟨er_, hf_⟩
end Go.Proofs.Ytaiglhfmmdajdaa.Pm
end
section
namespace Go.Proofs.Ytaiglhfmmdajdaa.Pm
open Go.RowKit Go.Proofs.YtaiglhfmmdajdaaW.PrintWords Go.Proofs.YtaiglhfmmdajdaaW.PrintLast Go.Proofs.YtaiglhfmmdajdaaW.PrintMore
attribute [local go_sem] max2_int min2_int max_two min_two max_three min_three max_four min_four   -- for this text's walks alone
set_option linter.unusedVariables false
set_option linter.unusedSimpArgs false
def sentryref4_SameTexts.l0 : Nat → List ByteArray → List ByteArray → Int → Option (Bool)
 | 0, _, _, _ => none
 | k + 1, x0, x1, x5 => if x5 < (x0.length : Int) then (if 0 ≤ x5 then (if x5 < (x1.length : Int) then (if (rdOf ByteArray.empty x0 x5).toList = (rdOf ByteArray.empty x1 x5).toList then (sentryref4_SameTexts.l0 k x0 x1 (wrap64 (x5 + 1))) else (some false)) else (none)) else (none)) else (some true)
def sentryref4_SameTexts.f (k : Nat) (l0 : List ByteArray) (l1 : List ByteArray) : Option (Bool) := if (l0.length : Int) = (l1.length : Int) then (sentryref4_SameTexts.l0 k l0 l1 0) else (some false)
theorem sentryref4_SameTexts.mono_l : ∀ k, (∀ y0 y1 y2, LeO (sentryref4_SameTexts.l0 k y0 y1 y2) (sentryref4_SameTexts.l0 (k + 1) y0 y1 y2))
 | 0 => fun _ _ _ r h => by simp [sentryref4_SameTexts.l0] at h
 | k + 1 => by
  have ih0 := sentryref4_SameTexts.mono_l k
  ·intro y0 y1 y2
   unfold sentryref4_SameTexts.l0
   repeat' first
   | (with_reducible exact ih0 _ _ _)
   | (with_reducible exact LeO.refl _)
   | (with_reducible exact LeO.none _)
   | (with_reducible refine LeO.ite ?_ ?_)
   | (with_reducible refine LeO.bind ?_ (fun _ => ?_))
   | exact ih0 _ _ _
   | exact LeO.none _
   | refine LeO.ite ?_ ?_
   | refine LeO.bind ?_ (fun _ => ?_)
theorem sentryref4_SameTexts.mono : ∀ a0 a1 k, LeO (sentryref4_SameTexts.f k a0 a1) (sentryref4_SameTexts.f (k + 1) a0 a1) := by
 intro a0 a1 k
 have ih0 := sentryref4_SameTexts.mono_l k
 unfold sentryref4_SameTexts.f
 repeat' first
   | (with_reducible exact ih0 _ _ _)
   | (with_reducible exact LeO.refl _)
   | (with_reducible exact LeO.none _)
   | (with_reducible refine LeO.ite ?_ ?_)
   | (with_reducible refine LeO.bind ?_ (fun _ => ?_))
   | exact ih0 _ _ _
   | exact LeO.none _
   | refine LeO.ite ?_ ?_
   | refine LeO.bind ?_ (fun _ => ?_)
set_option maxHeartbeats 8000000 in
set_option maxRecDepth 100000 in
theorem sentryref4_SameTexts.calls (k : Nat) (A0 : Option Addr) (c0 : Nat) (l0 : List ByteArray) (A1 : Option Addr) (c1 : Nat) (l1 : List ByteArray) (r : Bool) (w : World) (hr0 : Kd.C Kd.string w A0 l0.length l0) (hc0 : l0.length ≤ c0) (hr1 : Kd.C Kd.string w A1 l1.length l1) (hc1 : l1.length ≤ c1) (h : sentryref4_SameTexts.f k l0 l1 = some r) :
  Calls Try.prog 32 #[.slice A0 l0.length c0, .slice A1 l1.length c1] w fun e w' => e = .returned (.bool r) ∧ Drawn0 w w' := by
 have HR0 := Aside0.mk hr0
 have HC0 := Aside0.mk hc0
 clear hr0 hc0
 have HR1 := Aside0.mk hr1
 have HC1 := Aside0.mk hc1
 clear hr1 hc1
 have H : (if (l0.length : Int) = (l1.length : Int) then (sentryref4_SameTexts.l0 k l0 l1 0) else (some false)) = some r := h
 clear h
 by_cases c3 : (l0.length : Int) = (l1.length : Int)
 ·rw [if_pos c3] at H
  have c3b0 : ((l0.length : Int) == (l1.length : Int)) = true := beq_iff_eq.mpr c3
  have c3b1 : ((l0.length : Int) != (l1.length : Int)) = false := bne_eq_false_iff_eq.mpr c3
  have c3b2 : (l0.length == l1.length) = true := by first | simpa using c3 | (simp at c3 ⊢; omega)
  clear c3
  have H' := Aside0.mk H
  clear H
  go_enter Try.func32, Try.ntmps32
  go_wp2
  repeat (go_quiet (fail); try go_wp2)
  go_loopg [5] k (fun kq v5 w' => ∃ (x5_1 : Int), v5 = .int .i64 x5_1 ∧ Aside0 (sentryref4_SameTexts.l0 kq l0 l1 x5_1 = some r) ∧ Aside0 (kq ≤ k) ∧ Drawn0 w w')
  case atStart => exact ⟨(0), (by first | rfl | (simp; done) | (simp [*]; done)), H', ⟨Nat.le_refl _⟩, by repeat (first | exact Drawn0.refl _ | apply Drawn0.step)⟩
  case round =>
   clear H'
   (try clear c1); (try clear p2); (try clear c3); (try clear c3b0); (try clear c3b1); (try clear c3b2)
   obtain ⟨x5_1, rfl, HA, HK1, ⟨m1, rfl⟩⟩ := hrel
   cases gk with
   | zero => exact absurd HA.out (by simp [sentryref4_SameTexts.l0])
   | succ k1 =>
    have H := HA.out
    clear HA
    simp only [sentryref4_SameTexts.l0] at H
    by_cases c4 : x5_1 < (l0.length : Int)
    ·rw [if_pos c4] at H
     have c4b0 : decide (x5_1 < (l0.length : Int)) = true := decide_eq_true c4
     clear c4
     by_cases c5 : 0 ≤ x5_1
     ·rw [if_pos c5] at H
      have c5b0 : decide (0 ≤ x5_1) = true := decide_eq_true c5
      clear c5
      by_cases c6 : x5_1 < (l1.length : Int)
      ·rw [if_pos c6] at H
       have c6b0 : decide (x5_1 < (l1.length : Int)) = true := decide_eq_true c6
       clear c6
       by_cases c7 : (rdOf ByteArray.empty l0 x5_1).toList = (rdOf ByteArray.empty l1 x5_1).toList
       ·rw [if_pos c7] at H
        have c7b0 : ((rdOf ByteArray.empty l0 x5_1).toList == (rdOf ByteArray.empty l1 x5_1).toList) = true := beq_iff_eq.mpr c7
        have c7b1 : ((rdOf ByteArray.empty l0 x5_1).toList != (rdOf ByteArray.empty l1 x5_1).toList) = false := bne_eq_false_iff_eq.mpr c7
        clear c7
        have H' := Aside0.mk H
        clear H
        have p343 : 0 ≤ (x5_1 : Int) := od_
        have q343 : x5_1 < (l0.length : Int) := od_
        obtain ⟨ad343, e343, hx343_0⟩ := Kd.at_string HR0.out x5_1 p343 q343
        cases e343
        replace p343 := eq_true p343
        replace q343 := eq_true q343
        have p344 : 0 ≤ (x5_1 : Int) := od_
        have q344 : x5_1 < (l1.length : Int) := od_
        obtain ⟨ad344, e344, hx344_0⟩ := Kd.at_string HR1.out x5_1 p344 q344
        cases e344
        replace p344 := eq_true p344
        replace q344 := eq_true q344
        go_wp2
        repeat (go_quiet (fail); try go_wp2)
        go_roundg k1
        case measure => have := HK1.out; omega
        case rel => exact ⟨(wrap64 (x5_1 + 1)), (by first | rfl | (simp; done) | (simp [*]; done)), H', ⟨by have := HK1.out; omega⟩, by repeat (first | exact Drawn0.refl _ | apply Drawn0.step)⟩
       ·rw [if_neg c7] at H
        have c7b0 : ((rdOf ByteArray.empty l0 x5_1).toList == (rdOf ByteArray.empty l1 x5_1).toList) = false := beq_eq_false_iff_ne.mpr c7
        have c7b1 : ((rdOf ByteArray.empty l0 x5_1).toList != (rdOf ByteArray.empty l1 x5_1).toList) = true := bne_iff_ne.mpr c7
        obtain rfl := Option.some.inj H
        have p343 : 0 ≤ (x5_1 : Int) := od_
        have q343 : x5_1 < (l0.length : Int) := od_
        obtain ⟨ad343, e343, hx343_0⟩ := Kd.at_string HR0.out x5_1 p343 q343
        cases e343
        replace p343 := eq_true p343
        replace q343 := eq_true q343
        have p344 : 0 ≤ (x5_1 : Int) := od_
        have q344 : x5_1 < (l1.length : Int) := od_
        obtain ⟨ad344, e344, hx344_0⟩ := Kd.at_string HR1.out x5_1 p344 q344
        cases e344
        replace p344 := eq_true p344
        replace q344 := eq_true q344
        go_wp2
        repeat (go_quiet (fail); try go_wp2)
        go_ret
        exact ⟨by first | rfl | (simp; done) | (simp [*]; done), by repeat (first | exact Drawn0.refl _ | apply Drawn0.step)⟩
      ·rw [if_neg c6] at H
       exact absurd H (by simp)
     ·rw [if_neg c5] at H
      exact absurd H (by simp)
    ·rw [if_neg c4] at H
     have c4b0 : decide (x5_1 < (l0.length : Int)) = false := decide_eq_false c4
     clear c4
     obtain rfl := Option.some.inj H
     go_wp2
     repeat (go_quiet (fail); try go_wp2)
     go_ret
     exact ⟨by first | rfl | (simp; done) | (simp [*]; done), by repeat (first | exact Drawn0.refl _ | apply Drawn0.step)⟩
 ·rw [if_neg c3] at H
  have c3b0 : ((l0.length : Int) == (l1.length : Int)) = false := beq_eq_false_iff_ne.mpr c3
  have c3b1 : ((l0.length : Int) != (l1.length : Int)) = true := bne_iff_ne.mpr c3
  have c3b2 : (l0.length == l1.length) = false := by first | simpa using c3 | (simp at c3 ⊢; omega)
  obtain rfl := Option.some.inj H
  go_enter Try.func32, Try.ntmps32
  go_wp2
  repeat (go_quiet (fail); try go_wp2)
  go_ret
  exact ⟨by first | rfl | (simp; done) | (simp [*]; done), by repeat (first | exact Drawn0.refl _ | apply Drawn0.step)⟩
end Go.Proofs.Ytaiglhfmmdajdaa.Pm
end
section
namespace Go.Proofs.Ytaiglhfmmdajdaa.Pm
open Go.RowKit Go.Proofs.YtaiglhfmmdajdaaW.PrintWords Go.Proofs.YtaiglhfmmdajdaaW.PrintLast Go.Proofs.YtaiglhfmmdajdaaW.PrintMore
attribute [local go_sem] max2_int min2_int max_two min_two max_three min_three max_four min_four   -- for this text's walks alone
set_option linter.unusedVariables false
set_option linter.unusedSimpArgs false
def sentryref4_Same.f (k : Nat) (l0_0 : List ByteArray) (l0_1 : List (S48)) (l1_0 : List ByteArray) (l1_1 : List (S48)) : Option (Bool) := (sentryref4_SameTexts.f k l0_0 l1_0).bind fun t368 => (if t368 = true then ((sentryref4_SameItems.f k l0_1 l1_1).bind fun t369 => (some t369)) else (some false))
theorem sentryref4_Same.mono : ∀ a0 a1 a2 a3 k, LeO (sentryref4_Same.f k a0 a1 a2 a3) (sentryref4_Same.f (k + 1) a0 a1 a2 a3) := by
 intro a0 a1 a2 a3 k
 unfold sentryref4_Same.f
 repeat' first
   | (with_reducible exact sentryref4_SameItems.mono _ _ _)
   | (with_reducible exact sentryref4_SameTexts.mono _ _ _)
   | (with_reducible exact LeO.refl _)
   | (with_reducible exact LeO.none _)
   | (with_reducible refine LeO.ite ?_ ?_)
   | (with_reducible refine LeO.bind ?_ (fun _ => ?_))
   | exact sentryref4_SameItems.mono _ _ _
   | exact sentryref4_SameTexts.mono _ _ _
   | exact LeO.none _
   | refine LeO.ite ?_ ?_
   | refine LeO.bind ?_ (fun _ => ?_)
set_option maxHeartbeats 8000000 in
set_option maxRecDepth 100000 in
theorem sentryref4_Same.calls (k : Nat) (A0_0 : Option Addr) (c0_0 : Nat) (l0_0 : List ByteArray) (A0_1 : Option Addr) (c0_1 : Nat) (l0_1 : List (S48)) (A1_0 : Option Addr) (c1_0 : Nat) (l1_0 : List ByteArray) (A1_1 : Option Addr) (c1_1 : Nat) (l1_1 : List (S48)) (r : Bool) (w : World) (hr0_0 : Kd.C Kd.string w A0_0 l0_0.length l0_0) (hc0_0 : l0_0.length ≤ c0_0) (hr0_1 : Kd.C k48 w A0_1 l0_1.length l0_1) (hc0_1 : l0_1.length ≤ c0_1) (hr1_0 : Kd.C Kd.string w A1_0 l1_0.length l1_0) (hc1_0 : l1_0.length ≤ c1_0) (hr1_1 : Kd.C k48 w A1_1 l1_1.length l1_1) (hc1_1 : l1_1.length ≤ c1_1) (h : sentryref4_Same.f k l0_0 l0_1 l1_0 l1_1 = some r) :
  Calls Try.prog 20 #[.agg #[.slice A0_0 l0_0.length c0_0, .slice A0_1 l0_1.length c0_1], .agg #[.slice A1_0 l1_0.length c1_0, .slice A1_1 l1_1.length c1_1]] w fun e w' => e = .returned (.bool r) ∧ Below w.heap.size w w' := by
 have hu25 := Try.underlying25
 have HR0_0 := Aside0.mk hr0_0
 have HC0_0 := Aside0.mk hc0_0
 clear hr0_0 hc0_0
 have HR0_1 := Aside0.mk hr0_1
 have HC0_1 := Aside0.mk hc0_1
 clear hr0_1 hc0_1
 have HR1_0 := Aside0.mk hr1_0
 have HC1_0 := Aside0.mk hc1_0
 clear hr1_0 hc1_0
 have HR1_1 := Aside0.mk hr1_1
 have HC1_1 := Aside0.mk hc1_1
 clear hr1_1 hc1_1
 have HB := Aside0.mk (Below.refl w.heap.size w)
 have H : ((sentryref4_SameTexts.f k l0_0 l1_0).bind fun t368 => (if t368 = true then ((sentryref4_SameItems.f k l0_1 l1_1).bind fun t369 => (some t369)) else (some false))) = some r := h
 clear h
 replace H := Option.bind_eq_some_iff.mp H
 obtain ⟨t368, A30, H⟩ := H
 replace H : (if t368 = true then ((sentryref4_SameItems.f k l0_1 l1_1).bind fun t369 => (some t369)) else (some false)) = some r := H
 have A3 := Aside0.mk A30
 clear A30
 by_cases c4 : t368 = true
 ·subst c4
  have H1 : ((sentryref4_SameItems.f k l0_1 l1_1).bind fun t369 => (some t369)) = some r := by rw [if_pos rfl] at H; exact H
  clear H
  have H := H1
  clear H1
  replace H := Option.bind_eq_some_iff.mp H
  obtain ⟨t369, A50, H⟩ := H
  replace H : (some t369) = some r := H
  have A5 := Aside0.mk A50
  clear A50
  obtain rfl := Option.some.inj H
  go_enter Try.func20, Try.ntmps20
  go_wp2_with (first | ((with_reducible refine gate_dst (N := 2) rfl ?_); refine box_event ?hg (N := 2) ?hd (cs := #[.slice A0_0 l0_0.length c0_0, .slice A0_1 l0_1.length c0_1]) (t := 25) ?hr ?_; (case hd => rfl); (case hg => rfl); (case hr => first | (go_simp; done) | (go_simp; rfl)); intro gb366 hg w6 hbox hb; have n0_ := hb_ HB hb; have n1_ := Aside0.mk (hbox); have n2_ := Aside0.mk ((by rw [hg]; exact (below_size (by repeat (first | (with_reducible first | exact HB.out | apply below_alloc | apply pw_below_drewN | apply below_drew1) | exact HB.out))) : w.heap.size ≤ gb366)); have n3_ := Aside0.mk ((by rw [hg]; exact (below_size (by repeat (first | (with_reducible first | exact HB.out | apply below_alloc | apply pw_below_drewN | apply below_drew1) | exact HB.out))) : w.heap.size ≤ gb366)); clear HB; have HB := n0_; have BK366 := n1_; have GW366 := n2_; have GE366 := n3_; clear n0_ n1_ n2_ n3_; clear hb hbox hg) | ((with_reducible refine gate_dst (N := 3) rfl ?_); refine box_event ?hg (N := 3) ?hd (cs := #[.slice A1_0 l1_0.length c1_0, .slice A1_1 l1_1.length c1_1]) (t := 25) ?hr ?_; (case hd => rfl); (case hg => rfl); (case hr => first | (go_simp; done) | (go_simp; rfl)); intro gb367 hg w7 hbox hb; have n0_ := bb_ BK366 hb; have n1_ := hb_ HB hb; have n2_ := Aside0.mk (hbox); have n3_ := Aside0.mk ((by rw [hg]; exact (below_size (by repeat (first | (with_reducible first | exact HB.out | apply below_alloc | apply pw_below_drewN | apply below_drew1 | refine below_set ?_ GE366.out) | exact HB.out))) : w.heap.size ≤ gb367)); have n4_ := Aside0.mk ((by rw [hg]; exact (below_size (by repeat (first | (with_reducible first | exact HB.out | apply below_alloc | apply pw_below_drewN | apply below_drew1 | refine below_set ?_ GE366.out) | exact HB.out))) : w.heap.size ≤ gb367)); have n5_ := Aside0.mk ((by rw [hg]; exact Nat.ne_of_lt (blk_lt (g := gb366) (o := .cells #[.slice A0_0 l0_0.length c0_0, .slice A0_1 l0_1.length c0_1] 25 (0, 0)) (by (with_reducible repeat (first | refine blk_drewN ?_ _ | refine blk_drew ?_ | refine blk_alloc ?_ _)); exact BK366.out)) : gb366 ≠ gb367)); have n6_ := Aside0.mk ((by rw [hg]; exact Nat.ne_of_gt (blk_lt (g := gb366) (o := .cells #[.slice A0_0 l0_0.length c0_0, .slice A0_1 l0_1.length c0_1] 25 (0, 0)) (by (with_reducible repeat (first | refine blk_drewN ?_ _ | refine blk_drew ?_ | refine blk_alloc ?_ _)); exact BK366.out)) : gb367 ≠ gb366)); clear BK366; clear HB; have BK366 := n0_; have HB := n1_; have BK367 := n2_; have GW367 := n3_; have GE367 := n4_; have NB366_367 := n5_; have NB367_366 := n6_; clear n0_ n1_ n2_ n3_ n4_ n5_ n6_; clear hb hbox hg; have hnb8 := NB366_367.out; have hnc8 := NB367_366.out; obtain ⟨hcz9_0, hcz9_1, hfz9_0, hfz9_1⟩ := bs2_ BK366; obtain ⟨hcz10_0, hcz10_1, hfz10_0, hfz10_1⟩ := bs2_ BK367) | ((with_reducible refine gate_callee (f := 32) rfl ?_); refine gl_ (some 9) Try.func32 #[.slice A0_0 l0_0.length c0_0, .slice A1_0 l1_0.length c1_0] ?_; (with_reducible refine (sentryref4_SameTexts.calls k _ _ l0_0 _ _ l1_0 true _ ?side1 ?side2 ?side3 ?side4 A3.out).mono ?_); (case side1 => exact kc_ HR0_0 HB); (case side2 => exact HC0_0.out); (case side3 => exact kc_ HR1_0 HB); (case side4 => exact HC1_0.out); rintro e w' ⟨rfl, ⟨nd, rfl⟩⟩; refine ⟨_, rfl, ?_⟩) | (go_at_call 33; (with_reducible refine (sentryref4_SameItems.calls k _ _ l0_1 _ _ l1_1 t369 _ ?side1 ?side2 ?side3 ?side4 A5.out).mono ?_); (case side1 => repeat (first | exact (Kd.C_below HR0_1.out (by repeat (first | (with_reducible first | exact HB.out | apply below_alloc | apply pw_below_drewN | apply below_drew1 | refine below_set ?_ GE366.out | refine below_set ?_ GE367.out) | exact HB.out))) | (with_reducible refine Kd.C_alloc ?_ _) | (with_reducible refine Kd.C_drewN ?_ _) | (with_reducible refine Kd.C_drew ?_))); (case side2 => exact HC0_1.out); (case side3 => repeat (first | exact (Kd.C_below HR1_1.out (by repeat (first | (with_reducible first | exact HB.out | apply below_alloc | apply pw_below_drewN | apply below_drew1 | refine below_set ?_ GE366.out | refine below_set ?_ GE367.out) | exact HB.out))) | (with_reducible refine Kd.C_alloc ?_ _) | (with_reducible refine Kd.C_drewN ?_ _) | (with_reducible refine Kd.C_drew ?_))); (case side4 => exact HC1_1.out); rintro e w11 ⟨rfl, hb⟩; have n0_ := bb_ BK366 hb; have n1_ := bb_ BK367 hb; have n2_ := hb_ HB hb; clear BK366; clear BK367; clear HB; have BK366 := n0_; have BK367 := n1_; have HB := n2_; clear n0_ n1_ n2_; (try clear hb); (try clear hb2); (try clear hk); (try clear hi)))
  go_ret
  exact ⟨er_, hf_⟩
 ·replace c4 := Bool.eq_false_iff.mpr c4
  subst c4
  have H1 : (some false) = some r := by rw [if_neg (show ¬ (false = true) by decide)] at H; exact H
  clear H
  have H := H1
  clear H1
  obtain rfl := Option.some.inj H
  go_enter Try.func20, Try.ntmps20
  go_wp2_with (first | ((with_reducible refine gate_dst (N := 2) rfl ?_); refine box_event ?hg (N := 2) ?hd (cs := #[.slice A0_0 l0_0.length c0_0, .slice A0_1 l0_1.length c0_1]) (t := 25) ?hr ?_; (case hd => rfl); (case hg => rfl); (case hr => first | (go_simp; done) | (go_simp; rfl)); intro gb366 hg w12 hbox hb; have n0_ := hb_ HB hb; have n1_ := Aside0.mk (hbox); have n2_ := Aside0.mk ((by rw [hg]; exact (below_size (by repeat (first | (with_reducible first | exact HB.out | apply below_alloc | apply pw_below_drewN | apply below_drew1) | exact HB.out))) : w.heap.size ≤ gb366)); have n3_ := Aside0.mk ((by rw [hg]; exact (below_size (by repeat (first | (with_reducible first | exact HB.out | apply below_alloc | apply pw_below_drewN | apply below_drew1) | exact HB.out))) : w.heap.size ≤ gb366)); clear HB; have HB := n0_; have BK366 := n1_; have GW366 := n2_; have GE366 := n3_; clear n0_ n1_ n2_ n3_; clear hb hbox hg) | ((with_reducible refine gate_dst (N := 3) rfl ?_); refine box_event ?hg (N := 3) ?hd (cs := #[.slice A1_0 l1_0.length c1_0, .slice A1_1 l1_1.length c1_1]) (t := 25) ?hr ?_; (case hd => rfl); (case hg => rfl); (case hr => first | (go_simp; done) | (go_simp; rfl)); intro gb367 hg w13 hbox hb; have n0_ := bb_ BK366 hb; have n1_ := hb_ HB hb; have n2_ := Aside0.mk (hbox); have n3_ := Aside0.mk ((by rw [hg]; exact (below_size (by repeat (first | (with_reducible first | exact HB.out | apply below_alloc | apply pw_below_drewN | apply below_drew1 | refine below_set ?_ GE366.out) | exact HB.out))) : w.heap.size ≤ gb367)); have n4_ := Aside0.mk ((by rw [hg]; exact (below_size (by repeat (first | (with_reducible first | exact HB.out | apply below_alloc | apply pw_below_drewN | apply below_drew1 | refine below_set ?_ GE366.out) | exact HB.out))) : w.heap.size ≤ gb367)); have n5_ := Aside0.mk ((by rw [hg]; exact Nat.ne_of_lt (blk_lt (g := gb366) (o := .cells #[.slice A0_0 l0_0.length c0_0, .slice A0_1 l0_1.length c0_1] 25 (0, 0)) (by (with_reducible repeat (first | refine blk_drewN ?_ _ | refine blk_drew ?_ | refine blk_alloc ?_ _)); exact BK366.out)) : gb366 ≠ gb367)); have n6_ := Aside0.mk ((by rw [hg]; exact Nat.ne_of_gt (blk_lt (g := gb366) (o := .cells #[.slice A0_0 l0_0.length c0_0, .slice A0_1 l0_1.length c0_1] 25 (0, 0)) (by (with_reducible repeat (first | refine blk_drewN ?_ _ | refine blk_drew ?_ | refine blk_alloc ?_ _)); exact BK366.out)) : gb367 ≠ gb366)); clear BK366; clear HB; have BK366 := n0_; have HB := n1_; have BK367 := n2_; have GW367 := n3_; have GE367 := n4_; have NB366_367 := n5_; have NB367_366 := n6_; clear n0_ n1_ n2_ n3_ n4_ n5_ n6_; clear hb hbox hg; have hnb14 := NB366_367.out; have hnc14 := NB367_366.out; obtain ⟨hcz15_0, hcz15_1, hfz15_0, hfz15_1⟩ := bs2_ BK366; obtain ⟨hcz16_0, hcz16_1, hfz16_0, hfz16_1⟩ := bs2_ BK367) | ((with_reducible refine gate_callee (f := 32) rfl ?_); refine gl_ (some 9) Try.func32 #[.slice A0_0 l0_0.length c0_0, .slice A1_0 l1_0.length c1_0] ?_; (with_reducible refine (sentryref4_SameTexts.calls k _ _ l0_0 _ _ l1_0 false _ ?side1 ?side2 ?side3 ?side4 A3.out).mono ?_); (case side1 => exact kc_ HR0_0 HB); (case side2 => exact HC0_0.out); (case side3 => exact kc_ HR1_0 HB); (case side4 => exact HC1_0.out); rintro e w' ⟨rfl, ⟨nd, rfl⟩⟩; refine ⟨_, rfl, ?_⟩))
  go_ret
  exact ⟨er_, hf_⟩
end Go.Proofs.Ytaiglhfmmdajdaa.Pm
end
section
namespace Go.Proofs.Ytaiglhfmmdajdaa.OpenKd
open Go Go.RowKit Go.ChangeShapes Go.WideShapes Go.Deep Go.Proofs.YtaiglhfmmdajdaaW.PrintWords
set_option linter.unusedVariables false
set_option linter.unusedSectionVars false
section
variable {H : Type} {enc : TypeId × Value → H} {P : Program} {w : World} {α β : Type}
theorem weights_mem_all {e : TypeId} : ∀ {ds : List (DataW H)} {d : DataW H}, d ∈ ds → ∀ n ∈ d.weights P e, n ∈ DataW.weightsAll P e ds
  | [], _, h, _, _ => by simp at h
  | x :: ds, d, h, n, hn => by
    rcases List.mem_cons.1 h with rfl | h
    · simp [DataW.weightsAll, hn]
    · simp [DataW.weightsAll, weights_mem_all h n hn]
def Light (P : Program) (t : TypeId) (d : DataW H) : Prop := ∀ n ∈ d.weights P t, n ≤ reachBytes
/-- Whatever is read at type t is of the kind d, and good. -/
structure Opens (enc : TypeId × Value → H) (P : Program) (w : World) (t : TypeId) (d : Kd α) (good : α → Prop) : Prop where
  cells : P.cellsOf t = d.sz
  go : ∀ (fuel : Nat) (cs : List Value) (x : DataW H × List MemPlace), DataW.trod enc P w 0 (fun _ => true) true fuel t cs = some x → Light P t x.1 → ∃ a, d.K w a cs ∧ good a
theorem opens_int {t : TypeId} {k : IntKind} (hu : P.underlying t = some (.int k)) (hc : P.cellsOf t = 1) : Opens enc P w t (Kd.int k) (fun n => (Lit.int k n).wf = true) :=
  ⟨hc, fun fuel cs x h _ => by
    obtain ⟨n, rfl, _, hw⟩ := DataW.trod_int hu h
    exact ⟨n, rfl, hw⟩⟩
theorem opens_bool {t : TypeId} (hu : P.underlying t = some .bool) (hc : P.cellsOf t = 1) : Opens enc P w t Kd.bool (fun _ => True) :=
  ⟨hc, fun fuel cs x h _ => by
    obtain ⟨n, rfl, _⟩ := DataW.trod_bool hu h
    exact ⟨n, rfl, trivial⟩⟩
theorem opens_string {t : TypeId} (hu : P.underlying t = some .string) (hc : P.cellsOf t = 1) : Opens enc P w t Kd.string (fun s => s.size ≤ 140737488351232) :=
  ⟨hc, fun fuel cs x h hl => by
    obtain ⟨s, rfl, rfl, _⟩ := DataW.trod_string hu h
    refine ⟨s, rfl, ?_⟩
    have := hl s.data.toList.length (by simp [DataW.weights])
    simpa [reachBytes] using this⟩
theorem opens_slice {t e : TypeId} {d : Kd α} {good : α → Prop} (hu : P.underlying t = some (.slice e)) (hc : P.cellsOf t = 1) (h : Opens enc P w e d good) : Opens enc P w t (Kd.slice e d) (fun xs => xs.length * P.bytesOf e ≤ 140737488351232 ∧ ∀ x ∈ xs, good x) :=
  ⟨hc, fun fuel cs x hx hl => by
    rcases open_slice hu hx with ⟨rfl, rfl⟩ | ⟨a, len, cap, m, n, D, Pl, rfl, hb, hlc, hcm, hm, rfl, hel⟩
    · exact ⟨[], ⟨none, 0, rfl, Nat.le_refl _, ⟨rfl, by simp, fun h => by simp at h⟩⟩, by simp, by simp⟩
    · have hle : len ≤ m := by rw [hm]; split <;> omega
      have hmem : ∀ i, i < m → D i ∈ (List.range len).map D ∨ D i ∈ (List.range (m - len)).map fun j => D (len + j) := by
        intro i hi
        by_cases h1 : i < len
        · exact .inl (List.mem_map.2 ⟨i, List.mem_range.2 h1, rfl⟩)
        · exact .inr (List.mem_map.2 ⟨i - len, List.mem_range.2 (by omega), by congr 1; omega⟩)
      have hlight : ∀ i, i < m → Light P e (D i) := by
        intro i hi q hq
        refine hl q ?_
        simp only [DataW.weights, hu]
        rcases hmem i hi with h1 | h1
        · exact List.mem_cons_of_mem _ (List.mem_append_left _ (weights_mem_all h1 q hq))
        · exact List.mem_cons_of_mem _ (List.mem_append_right _ (weights_mem_all h1 q hq))
      have hall : ∀ i, i < len → ∃ x : α, good x ∧ ∃ c, c.length = d.sz ∧ d.K w x c ∧ ∀ j u, c[j]? = some u → w.cell? (a.add (i * d.sz + j)) = some u := by
        intro i hi
        obtain ⟨cs', hcs, htr⟩ := hel i (by omega)
        obtain ⟨y, hK, hg⟩ := h.go n cs' _ htr (hlight i (by omega))
        obtain ⟨_, hcl, hcc⟩ := World.cells?_some hcs
        refine ⟨y, hg, cs', by rw [hcl, h.cells], hK, fun j u hj => ?_⟩
        have hjl : j < P.cellsOf e := by rw [← hcl]; exact (List.getElem?_eq_some_iff.1 hj).1
        have := hcc j hjl
        rw [hj, Deep.add_add, h.cells] at this
        exact this
      have hlist : ∃ xs : List α, xs.length = len ∧ ∀ i (x : α), xs[i]? = some x → good x ∧ ∃ c, c.length = d.sz ∧ d.K w x c ∧ ∀ j u, c[j]? = some u → w.cell? (a.add (i * d.sz + j)) = some u := by
        clear hmem hlight hle hlc hl hel hx hm
        induction len with
        | zero => exact ⟨[], rfl, fun i x h => by simp at h⟩
        | succ len ih =>
          obtain ⟨xs, hxl, hxs⟩ := ih (fun i hi => hall i (by omega))
          obtain ⟨y, hy⟩ := hall len (by omega)
          refine ⟨xs ++ [y], by simp [hxl], fun i x hi => ?_⟩
          by_cases h1 : i < xs.length
          · rw [List.getElem?_append_left h1] at hi
            exact hxs i x hi
          · rw [List.getElem?_append_right (by omega)] at hi
            have h2 : i = xs.length := by
              have := (List.getElem?_eq_some_iff.1 hi).1
              simp at this
              omega
            subst h2
            simp at hi
            subst hi
            rw [hxl]
            exact hy
      obtain ⟨xs, hxl, hxs⟩ := hlist
      subst hxl
      refine ⟨xs, ⟨some a, cap, rfl, hlc, rfl, by have := hcm; unfold maxLen at this; omega, fun _ => ⟨a, rfl, fun j p hj => (hxs j p hj).2⟩⟩, ?_, fun x hx => ?_⟩
      · have hw := hl ((((List.range xs.length).map D).length + ((List.range (m - xs.length)).map fun j => D (xs.length + j)).length) * P.bytesOf e) (by simp [DataW.weights, hu])
        simp only [List.length_map, List.length_range] at hw
        have h2 : xs.length * P.bytesOf e ≤ (xs.length + (m - xs.length)) * P.bytesOf e := Nat.mul_le_mul_right _ (by omega)
        unfold reachBytes at hw
        omega
      · obtain ⟨i, hi, rfl⟩ := List.getElem_of_mem hx
        exact (hxs i _ (List.getElem?_eq_getElem hi)).1⟩
/-- Fields in line, from cell o on. -/
structure OpensF (enc : TypeId × Value → H) (P : Program) (w : World) (fs : List Field) (o : Nat) (d : Kd α) (good : α → Prop) : Prop where
  go : ∀ (n : Nat) (cs : List Value) (xs : List (DataW H × List MemPlace)), (∀ (i : Nat) (f : Field), fs[i]? = some f → DataW.trod enc P w 0 (fun _ => true) true n f.type ((cs.drop f.offset).take (P.cellsOf f.type)) = xs[i]?) →
    xs.length = fs.length → cs.length = o + d.sz → (∀ q ∈ DataW.weightsEach P (fs.map (·.type)) (xs.map (·.1)), q ≤ reachBytes) → ∃ a, d.K w a (cs.drop o) ∧ good a
theorem opens_last {f : Field} {o : Nat} {d : Kd α} {good : α → Prop} (ho : f.offset = o) (h : Opens enc P w f.type d good) : OpensF enc P w [f] o d good :=
  ⟨fun n cs xs hx hxl hcl hw => by
    match xs, hxl with
    | [x], _ =>
      have h0 := hx 0 f rfl
      rw [ho, h.cells, List.take_of_length_le (by rw [List.length_drop]; omega)] at h0
      exact h.go n _ x (by simpa using h0) (fun q hq => hw q (by simp [DataW.weightsEach, hq]))⟩
theorem opens_cons {f : Field} {fs : List Field} {o o2 : Nat} {a : Kd α} {b : Kd β} {ga : α → Prop} {gb : β → Prop} (ho : f.offset = o) (h : Opens enc P w f.type a ga) (ho2 : o2 = o + a.sz) (h2 : OpensF enc P w fs o2 b gb) :
    OpensF enc P w (f :: fs) o (Kd.pair a b) (fun p => ga p.1 ∧ gb p.2) :=
  ⟨fun n cs xs hx hxl hcl hw => by
    match xs, hxl with
    | x :: xs, hxl =>
      have h0 := hx 0 f rfl
      rw [ho, h.cells] at h0
      have hcl' : cs.length = o + (a.sz + b.sz) := hcl
      obtain ⟨x1, hK1, hg1⟩ := h.go n _ x (by simpa using h0) (fun q hq => hw q (by simp [DataW.weightsEach, hq]))
      obtain ⟨x2, hK2, hg2⟩ := h2.go n cs xs (fun i f' hf => by simpa using hx (i + 1) f' (by simpa using hf)) (by simpa using hxl) (by omega) (fun q hq => hw q (by
        simp only [List.map_cons, DataW.weightsEach]
        exact List.mem_append_right _ hq))
      refine ⟨(x1, x2), ⟨(cs.drop o).take a.sz, cs.drop o2, ?_, hK1, hK2⟩, hg1, hg2⟩
      have h3 := List.take_append_drop a.sz (cs.drop o)
      rw [List.drop_drop] at h3
      rw [ho2]
      exact h3.symm⟩
theorem opens_struct {t : TypeId} {fs : Array Field} {d : Kd α} {good : α → Prop} (hu : P.underlying t = some (.struct fs)) (hc : P.cellsOf t = d.sz) (h : OpensF enc P w fs.toList 0 d good) {f : β → α} (g : α → β) (hg : ∀ a, f (g a) = a) :
    Opens enc P w t (Kd.iso d f) (fun y => good (f y)) :=
  ⟨hc, fun fuel cs x hx hl => by
    obtain ⟨xs, n, _, rfl, hcl, hxl, hxs⟩ := DataW.trod_struct hu hx
    obtain ⟨a, hK, hga⟩ := h.go n cs xs (fun i f' hf => hxs i f' (by rw [← Array.getElem?_toList]; exact hf)) (by simpa using hxl) (by rw [hcl, hc]; omega) (fun q hq => hl q (by simpa [DataW.weights, hu] using hq))
    refine ⟨g a, ?_, by rw [hg]; exact hga⟩
    show d.K w (f (g a)) cs
    rw [hg]
    simpa using hK⟩
end
end Go.Proofs.Ytaiglhfmmdajdaa.OpenKd
end
section
namespace Go.Proofs.Ytaiglhfmmdajdaa.Pm
open Go.RowKit Go.Proofs.YtaiglhfmmdajdaaW.PrintWords Go.Proofs.YtaiglhfmmdajdaaW.PrintLast Go.Proofs.YtaiglhfmmdajdaaW.PrintMore
attribute [local go_sem] max2_int min2_int max_two min_two max_three min_three max_four min_four   -- for this text's walks alone
set_option linter.unusedVariables false
set_option linter.unusedSimpArgs false
open OpenKd
def goodSentry (x : S54) : Prop := x.f0.length ≤ 140737488351232 ∧ x.f1.length ≤ 140737488351232
def goodItem (x : S48) : Prop := x.f0.size ≤ 140737488351232 ∧ x.f2.size ≤ 140737488351232 ∧ x.f5.length ≤ 140737488351232 ∧ x.f6.length ≤ 140737488351232 ∧ (∀ s ∈ x.f5, goodSentry s) ∧ ∀ s ∈ x.f6, goodSentry s
theorem Opens.imp {H : Type} {enc : TypeId × Value → H} {P : Program} {w : World} {t : TypeId} {α : Type} {d : Kd α} {g g' : α → Prop} (h : Opens enc P w t d g) (hg : ∀ x, g x → g' x) : Opens enc P w t d g' :=
  ⟨h.cells, fun n cs x hx hl => let ⟨a, hK, ha⟩ := h.go n cs x hx hl; ⟨a, hK, hg a ha⟩⟩
section
variable {H : Type} {enc : TypeId × Value → H} {w : World}
set_option maxRecDepth 100000 in
theorem opens_on : Opens enc Try.prog w 103 k103 (fun _ => True) :=
  Opens.imp (opens_struct Try.underlying103 (by kernel_rfl) (opens_cons rfl (opens_string Try.underlying9 (by kernel_rfl)) rfl (opens_last rfl (opens_int Try.underlying3 (by kernel_rfl)))) (fun a => ⟨a.1, a.2⟩) (fun _ => rfl)) (fun _ _ => trivial)
set_option maxRecDepth 100000 in
theorem opens_cond : Opens enc Try.prog w 50 k50 (fun _ => True) :=
  Opens.imp (opens_struct Try.underlying50 (by kernel_rfl) (opens_cons rfl (opens_string Try.underlying9 (by kernel_rfl)) rfl (opens_cons rfl (opens_string Try.underlying9 (by kernel_rfl)) rfl (opens_last rfl (opens_int Try.underlying3 (by kernel_rfl))))) (fun a => ⟨a.1, a.2.1, a.2.2⟩) (fun _ => rfl)) (fun _ _ => trivial)
set_option maxRecDepth 100000 in
theorem opens_ons : Opens enc Try.prog w 52 (Kd.slice 103 k103) (fun xs => xs.length ≤ 140737488351232) :=
  Opens.imp (opens_slice Try.underlying52 (by kernel_rfl) opens_on) (fun xs h => by have := h.1; rw [show Try.prog.bytesOf 103 = 24 by kernel_rfl] at this; omega)
set_option maxRecDepth 100000 in
theorem opens_conds : Opens enc Try.prog w 51 (Kd.slice 50 k50) (fun xs => xs.length ≤ 140737488351232) :=
  Opens.imp (opens_slice Try.underlying51 (by kernel_rfl) opens_cond) (fun xs h => by have := h.1; rw [show Try.prog.bytesOf 50 = 40 by kernel_rfl] at this; omega)
set_option maxRecDepth 100000 in
theorem opens_sentry : Opens enc Try.prog w 54 k54 goodSentry :=
  Opens.imp (opens_struct Try.underlying54 (by kernel_rfl) (opens_cons rfl opens_ons rfl (opens_last rfl opens_conds)) (fun a => ⟨a.1, a.2⟩) (fun _ => rfl)) (fun _ h => h)
set_option maxRecDepth 100000 in
theorem opens_sentries : Opens enc Try.prog w 46 (Kd.slice 54 k54) (fun xs => xs.length ≤ 140737488351232 ∧ ∀ s ∈ xs, goodSentry s) :=
  Opens.imp (opens_slice Try.underlying46 (by kernel_rfl) opens_sentry) (fun xs h => ⟨by have := h.1; rw [show Try.prog.bytesOf 54 = 48 by kernel_rfl] at this; omega, h.2⟩)
set_option maxRecDepth 100000 in
theorem opens_item : Opens enc Try.prog w 48 k48 goodItem :=
  Opens.imp (opens_struct Try.underlying48 (by kernel_rfl) (opens_cons rfl (opens_string Try.underlying9 (by kernel_rfl)) rfl (opens_cons rfl (opens_int Try.underlying3 (by kernel_rfl)) rfl (opens_cons rfl (opens_string Try.underlying9 (by kernel_rfl)) rfl (opens_cons rfl (opens_bool Try.underlying4 (by kernel_rfl)) rfl (opens_cons rfl (opens_int Try.underlying3 (by kernel_rfl)) rfl (opens_cons rfl opens_sentries rfl (opens_last rfl opens_sentries)))))))
    (fun a => ⟨a.1, a.2.1, a.2.2.1, a.2.2.2.1, a.2.2.2.2.1, a.2.2.2.2.2.1, a.2.2.2.2.2.2⟩) (fun _ => rfl)) (fun x h => ⟨h.1, h.2.2.1, h.2.2.2.2.2.1.1, h.2.2.2.2.2.2.1, h.2.2.2.2.2.1.2, h.2.2.2.2.2.2.2⟩)
set_option maxRecDepth 100000 in
theorem opens_items : Opens enc Try.prog w 23 (Kd.slice 48 k48) (fun xs => xs.length ≤ 140737488351232 ∧ ∀ x ∈ xs, goodItem x) :=
  Opens.imp (opens_slice Try.underlying23 (by kernel_rfl) opens_item) (fun xs h => ⟨by have := h.1; rw [show Try.prog.bytesOf 48 = 104 by kernel_rfl] at this; omega, h.2⟩)
set_option maxRecDepth 100000 in
theorem opens_files : Opens enc Try.prog w 22 (Kd.slice 9 Kd.string) (fun xs => xs.length ≤ 140737488351232) :=
  Opens.imp (opens_slice Try.underlying22 (by kernel_rfl) (opens_string Try.underlying9 (by kernel_rfl))) (fun xs h => by have := h.1; rw [show Try.prog.bytesOf 9 = 16 by kernel_rfl] at this; omega)
set_option maxRecDepth 100000 in
/-- A model, as the print's kinds read it. -/
theorem opens_model : Opens enc Try.prog w 25 (Kd.iso (Kd.pair (Kd.slice 9 Kd.string) (Kd.slice 48 k48)) (fun (p : List ByteArray × List (S48)) => p)) (fun p => p.1.length ≤ 140737488351232 ∧ p.2.length ≤ 140737488351232 ∧ ∀ x ∈ p.2, goodItem x) :=
  opens_struct Try.underlying25 (by kernel_rfl) (opens_cons rfl opens_files rfl (opens_last rfl opens_items)) (fun a => a) (fun _ => rfl)
set_option maxRecDepth 100000 in
theorem open_model {b0 : Nat} {v : Value} {d : DataW H} {p : List MemPlace} (hv : Value.okWide Try.prog w .any b0 25 v) (h : DataW.Trod enc Try.prog w 0 (fun _ => true) true 25 v d p) (hl : Light Try.prog 25 d) :
    ∃ A0 c0 fs A1 c1 l, v = .agg #[.slice A0 fs.length c0, .slice A1 l.length c1] ∧ Kd.C Kd.string w A0 fs.length fs ∧ fs.length ≤ c0 ∧ Kd.C k48 w A1 l.length l ∧ l.length ≤ c1 ∧ fs.length ≤ 140737488351232 ∧ l.length ≤ 140737488351232 ∧ ∀ x ∈ l, goodItem x := by
  obtain ⟨cs, rfl, hsz⟩ := Go.WideShapes.okWide_struct Try.underlying25 hv
  obtain ⟨fuel, hf⟩ := h
  obtain ⟨⟨fs, l⟩, hK, h1, h2, h3⟩ := opens_model.go fuel _ _ hf hl
  obtain ⟨z0, z1, hz, ⟨A0, c0, rfl, q1, q2⟩, ⟨A1, c1, rfl, q3, q4⟩⟩ := hK
  have hz' : cs = #[.slice A0 fs.length c0, .slice A1 l.length c1] := by
    have : cs.toList = [.slice A0 fs.length c0, .slice A1 l.length c1] := by simpa [Value.cells] using hz
    rw [← Array.toArray_toList (xs := cs), this]
  exact ⟨A0, c0, fs, A1, c1, l, by rw [hz'], q2, q1, q4, q3, h1, h2, h3⟩
set_option maxRecDepth 100000 in
theorem light_of {ts : List TypeId} {ds : List (DataW H)} (h : (DataW.weightsEach Try.prog ts ds).all (· ≤ reachBytes) = true) {j : Nat} {t : TypeId} {d : DataW H} (ht : ts[j]? = some t) (hd : ds[j]? = some d) : Light Try.prog t d := by
  intro n hn
  have := List.all_eq_true.1 h n (DataW.weights_mem_each ht hd n hn)
  simpa using this
end
end Go.Proofs.Ytaiglhfmmdajdaa.Pm
end
section
namespace Go.Proofs.Ytaiglhfmmdajdaa.Pm
open Go.RowKit Go.Proofs.YtaiglhfmmdajdaaW.PrintWords Go.Proofs.YtaiglhfmmdajdaaW.PrintLast Go.Proofs.YtaiglhfmmdajdaaW.PrintMore
attribute [local go_sem] max2_int min2_int max_two min_two max_three min_three max_four min_four   -- for this text's walks alone
set_option linter.unusedVariables false
set_option linter.unusedSimpArgs false
theorem bt_at (s : ByteArray) (i : Nat) (h : i < s.size) : bt s (i : Int) = byteAt s i := by
  unfold bt byteAt
  rw [dif_pos (by simpa using h), List.getD_eq_getElem?_getD, List.getElem?_eq_getElem (by simpa using h)]
  rfl
theorem first_eq (a : Int) : sentryref1_first.f a = some (letterB a) := letter_eq a
theorem rbyte_eq (a : Int) : sentryref1_Byte.f a = some (moreB a) := more_eq a
theorem ref_name_at (s : ByteArray) (hs : s.size ≤ 12) (d : Nat) : ∀ i k, i + d = s.size → d < k → sentryref1_Is.l0 k s (i : Nat) = some ((List.range' i d).all (fun j => moreB (byteAt s j))) := by
  induction d with
  | zero =>
    intro i k hi hk
    obtain ⟨k, rfl⟩ : ∃ m, k = m + 1 := ⟨k - 1, by omega⟩
    simp only [sentryref1_Is.l0]
    rw [if_neg (by omega)]
    rfl
  | succ d ih =>
    intro i k hi hk
    obtain ⟨k, rfl⟩ : ∃ m, k = m + 1 := ⟨k - 1, by omega⟩
    simp only [sentryref1_Is.l0]
    rw [if_pos (by omega), if_pos (by omega), bt_at s i (by omega), rbyte_eq, Option.bind_some, List.range'_succ, List.all_cons]
    cases moreB (byteAt s i) with
    | false => simp
    | true =>
      rw [if_pos rfl, wrap_lt (n := (s.size : Int)) (by omega) (by omega) (by omega), Bool.true_and]
      exact ih (i + 1) k (by omega) (by omega)
theorem ref_name (s : ByteArray) (k : Nat) (hk : 15 ≤ k) : sentryref1_Is.f k s = some (nameB s) := by
  obtain ⟨k, rfl⟩ : ∃ m, k = m + 1 := ⟨k - 1, by omega⟩
  unfold sentryref1_Is.f nameB
  by_cases h1 : s.size < 1
  · rw [if_pos (by omega), decide_eq_false (by omega)]; simp [sentryref1_Is.j0]
  by_cases h2 : s.size > 12
  · rw [if_neg (by omega), if_pos (by omega), decide_eq_false (by omega)]; simp [sentryref1_Is.j0]
  rw [if_neg (by omega), if_neg (by omega), if_pos (by omega), decide_eq_true (by omega), show (0 : Int) = ((0 : Nat) : Int) from rfl, bt_at s 0 (by omega), first_eq, Option.bind_some]
  cases letterB (byteAt s 0) with
  | false => simp [sentryref1_Is.j0]
  | true =>
    simp only [sentryref1_Is.j0, Bool.not_true, Bool.false_eq_true, if_false]
    rw [show (0 : Int) = ((0 : Nat) : Int) from rfl, ref_name_at s (by omega) s.size 0 k (by omega) (by omega), List.range_eq_range']
    rfl
theorem mem_any_at (l : List ByteArray) (s : ByteArray) (hn : l.length ≤ 9223372036854775807) (d : Nat) : ∀ (i k : Nat), i + d = l.length → d < k → sentryref4_File.l0 k l s (i : Nat) = some ((l.drop i).any (fun x => s.toList == x.toList)) := by
  induction d with
  | zero =>
    intro i k hi hk
    obtain ⟨k, rfl⟩ : ∃ m, k = m + 1 := ⟨k - 1, by omega⟩
    simp only [sentryref4_File.l0]
    rw [if_neg (by omega), List.drop_of_length_le (by omega)]
    rfl
  | succ d ih =>
    intro i k hi hk
    obtain ⟨k, rfl⟩ : ∃ m, k = m + 1 := ⟨k - 1, by omega⟩
    have hlt : i < l.length := by omega
    simp only [sentryref4_File.l0]
    rw [if_pos (by omega), if_pos (by omega), rdOf_get _ _ _ hlt, List.drop_eq_getElem_cons hlt, List.any_cons]
    by_cases he : l[i].toList = s.toList
    · rw [if_pos he, show (s.toList == l[i].toList) = true by rw [he]; simp]; rfl
    · rw [if_neg he, show (s.toList == l[i].toList) = false by simpa using Ne.symm he, Bool.false_or, wrap_lt (n := (l.length : Int)) (by omega) (by omega) (by omega)]
      exact ih (i + 1) k (by omega) (by omega)
theorem ref_file (l : List ByteArray) (s : ByteArray) (hn : l.length ≤ 9223372036854775807) (k : Nat) (hk : l.length < k) : sentryref4_File.f k l s = some (memB l s) := mem_any_at l s hn l.length 0 k (by omega) hk
theorem ref_op_at (s : ByteArray) (l : List ByteArray) (hn : l.length ≤ 9223372036854775807) (d : Nat) : ∀ (i k : Nat), i + d = l.length → d < k → ∃ r, sentryref4_Op.l0 k s l (i : Nat) = some r ∧ decide (r < 0) = !((l.drop i).any (fun x => s.toList == x.toList)) := by
  induction d with
  | zero =>
    intro i k hi hk
    obtain ⟨k, rfl⟩ : ∃ m, k = m + 1 := ⟨k - 1, by omega⟩
    refine ⟨-1, ?_, ?_⟩
    · simp only [sentryref4_Op.l0]
      rw [if_neg (by omega)]
    · rw [List.drop_of_length_le (by omega)]; rfl
  | succ d ih =>
    intro i k hi hk
    obtain ⟨k, rfl⟩ : ∃ m, k = m + 1 := ⟨k - 1, by omega⟩
    have hlt : i < l.length := by omega
    simp only [sentryref4_Op.l0]
    rw [if_pos (by omega), if_pos (by omega), rdOf_get _ _ _ hlt, List.drop_eq_getElem_cons hlt, List.any_cons]
    by_cases he : l[i].toList = s.toList
    · rw [if_pos he]
      refine ⟨i, rfl, ?_⟩
      rw [show (s.toList == l[i].toList) = true by rw [he]; simp, decide_eq_false (by omega)]; rfl
    · rw [if_neg he, show (s.toList == l[i].toList) = false by simpa using Ne.symm he, Bool.false_or, wrap_lt (n := (l.length : Int)) (by omega) (by omega) (by omega)]
      exact ih (i + 1) k (by omega) (by omega)
theorem ref_op (s : ByteArray) (k : Nat) (hk : 6 < k) : ∃ r, sentryref4_Op.f k s = some r ∧ decide (r < 0) = !memB opsL s := ref_op_at s opsL (by decide) 6 0 k (by decide) hk
theorem ref_place_at (fs : List ByteArray) (l : List (S48)) (id : ByteArray) (hn : l.length ≤ 9223372036854775807) (d : Nat) : ∀ (i k : Nat), i + d = l.length → d < k → (∀ j, j < i → model_Place.p id (l.getD j z48) = false) → sentryref4_Place.l0 k id (i : Nat) fs l = some (placeI l id) := by
  induction d with
  | zero =>
    intro i k hi hk hno
    obtain ⟨k, rfl⟩ : ∃ m, k = m + 1 := ⟨k - 1, by omega⟩
    simp only [sentryref4_Place.l0]
    rw [if_neg (by omega)]
    unfold placeI
    rw [fidx_miss _ l z48 (fun j hj => hno j (by omega))]
  | succ d ih =>
    intro i k hi hk hno
    obtain ⟨k, rfl⟩ : ∃ m, k = m + 1 := ⟨k - 1, by omega⟩
    have hlt : i < l.length := by omega
    have hrd : rd_T48 l (i : Int) = l.getD i z48 := rfl
    simp only [sentryref4_Place.l0]
    rw [if_pos (by omega), if_pos (by omega), hrd]
    by_cases he : (l.getD i z48).f0.toList = id.toList
    · rw [if_pos he]
      unfold placeI
      rw [fidx_hit _ l i z48 hlt (by unfold model_Place.p; simpa using he) hno]
    · rw [if_neg he, wrap_lt (n := (l.length : Int)) (by omega) (by omega) (by omega)]
      refine ih (i + 1) k (by omega) (by omega) (fun j hj => ?_)
      by_cases e : j = i
      · subst e; unfold model_Place.p; simpa using he
      · exact hno j (by omega)
theorem ref_place (fs : List ByteArray) (l : List (S48)) (id : ByteArray) (hn : l.length ≤ 9223372036854775807) (k : Nat) (hk : l.length < k) : sentryref4_Place.f k fs l id = some (placeI l id) := ref_place_at fs l id hn l.length 0 k (by omega) hk (fun j hj => by omega)
end Go.Proofs.Ytaiglhfmmdajdaa.Pm
end
section
namespace Go.Proofs.Ytaiglhfmmdajdaa.Pm
open Go.RowKit Go.Proofs.YtaiglhfmmdajdaaW.PrintWords Go.Proofs.YtaiglhfmmdajdaaW.PrintLast Go.Proofs.YtaiglhfmmdajdaaW.PrintMore
attribute [local go_sem] max2_int min2_int max_two min_two max_three min_three max_four min_four   -- for this text's walks alone
set_option linter.unusedVariables false
set_option linter.unusedSimpArgs false
theorem refLegal3 (a b : Int) : sentryref4_Legal.f 3 a b = some (legalB a b) := by
  unfold sentryref4_Legal.f legalB
  by_cases h1 : a < 1
  · rw [if_pos h1]
    simp only [sentryref4_Legal.j0, if_true]
    by_cases h15 : b = 1 ∨ b = 5
    · rw [if_pos h15, decide_eq_false (by omega)]
    · rw [if_neg h15]
      by_cases h23 : b = 2 ∨ b = 3
      · rw [if_pos h23, decide_eq_false (by omega)]
      · rw [if_neg h23]
        by_cases h4 : b = 4
        · rw [if_pos h4, decide_eq_false (by omega)]
        · rw [if_neg h4]
  · rw [if_neg h1]
    by_cases h5 : a > 5
    · rw [decide_eq_true h5]
      simp only [sentryref4_Legal.j0, if_true]
      by_cases h15 : b = 1 ∨ b = 5
      · rw [if_pos h15, decide_eq_false (by omega)]
      · rw [if_neg h15]
        by_cases h23 : b = 2 ∨ b = 3
        · rw [if_pos h23, decide_eq_false (by omega)]
        · rw [if_neg h23]
          by_cases h4 : b = 4
          · rw [if_pos h4, decide_eq_false (by omega)]
          · rw [if_neg h4]
    · rw [decide_eq_false h5]
      simp only [sentryref4_Legal.j0, Bool.false_eq_true, if_false]
      by_cases e1 : b = 1
      · subst e1; simp [sentryref4_Legal.j1]; omega
      · rw [if_neg e1]
        by_cases e5 : b = 5
        · subst e5; simp [sentryref4_Legal.j1]; omega
        · rw [show (b == 5) = false by simpa using e5, if_neg (by omega)]
          simp only [sentryref4_Legal.j1, Bool.false_eq_true, if_false]
          by_cases e2 : b = 2
          · subst e2; simp [sentryref4_Legal.j2]; rw [Bool.eq_iff_iff]; simp; omega
          · rw [if_neg e2]
            by_cases e3 : b = 3
            · subst e3; simp [sentryref4_Legal.j2]; rw [Bool.eq_iff_iff]; simp; omega
            · rw [show (b == 3) = false by simpa using e3, if_neg (by omega)]
              simp only [sentryref4_Legal.j2, Bool.false_eq_true, if_false]
              by_cases e4 : b = 4
              · subst e4; simp; rw [Bool.eq_iff_iff]; simp; omega
              · simp [e4]
end Go.Proofs.Ytaiglhfmmdajdaa.Pm
end
section
namespace Go.Proofs.Ytaiglhfmmdajdaa.Pm
open Go.RowKit Go.Proofs.YtaiglhfmmdajdaaW.PrintWords Go.Proofs.YtaiglhfmmdajdaaW.PrintLast Go.Proofs.YtaiglhfmmdajdaaW.PrintMore
attribute [local go_sem] max2_int min2_int max_two min_two max_three min_three max_four min_four   -- for this text's walks alone
set_option linter.unusedVariables false
set_option linter.unusedSimpArgs false
theorem Ev.at {α : Type} {g : Nat → Option α} {r : α} (K : Nat) (h : ∀ k, K ≤ k → g k = some r) : Ev g r := ⟨K, h⟩
theorem ev_place (fs : List ByteArray) (l : List (S48)) (id : ByteArray) (hn : l.length ≤ 9223372036854775807) : Ev (fun k => sentryref4_Place.f k fs l id) (placeI l id) := Ev.at (l.length + 1) (fun k hk => ref_place fs l id hn k (by omega))
theorem ev_l2 (fs : List ByteArray) (l : List (S48)) (on : List (S103)) (ifs : List (S50)) (hf : fs.length ≤ 9223372036854775807) (hn : ifs.length ≤ 9223372036854775807) (d : Nat) : ∀ i : Nat, i + d = ifs.length → Ev (fun k => sentryref4_sentry.l2 k (i : Int) fs l on ifs) ((ifs.drop i).all (fun c => ifB fs c.f0 c.f1 c.f2)) := by
  induction d with
  | zero =>
    intro i hi
    refine Ev.step (f := fun _ => some true) (fun k => ?_) ?_
    · simp only [sentryref4_sentry.l2]
      rw [if_neg (by omega)]
    · rw [List.drop_of_length_le (by omega)]
      exact Ev.now true
  | succ d ih =>
    intro i hi
    have hlt : i < ifs.length := by omega
    have hrd : rd_T50 ifs (i : Int) = ifs[i] := by simp [rd_T50, List.getD_eq_getElem?_getD, List.getElem?_eq_getElem hlt]
    refine Ev.step (f := fun k => (sentryref4_File.f k fs (ifs[i]).f0).bind fun t => (if t = true then ((sentryref4_Op.f k (ifs[i]).f1).bind fun t2 => (if t2 < 0 then (some false) else (if (ifs[i]).f2 < (-1000000) then (some false) else (if (ifs[i]).f2 > 1000000 then (some false) else (sentryref4_sentry.l2 k (((i + 1 : Nat)) : Int) fs l on ifs))))) else (some false))) (fun k => ?_) ?_
    · simp only [sentryref4_sentry.l2]
      rw [if_pos (by omega), if_pos (by omega), hrd, wrap_lt (n := (ifs.length : Int)) (by omega) (by omega) (by omega)]
      rfl
    · rw [List.drop_eq_getElem_cons hlt, List.all_cons]
      refine Ev.bind (Ev.at (fs.length + 1) (fun k hk => ref_file fs _ hf k (by omega))) ?_
      unfold ifB
      cases memB fs (ifs[i]).f0 with
      | false =>
        refine Ev.congr (fun k => if_neg (by simp)) ?_
        rw [Bool.false_and, Bool.and_false, Bool.false_and]
        exact Ev.now false
      | true =>
        refine Ev.congr (fun k => if_pos rfl) ?_
        obtain ⟨r, hr, hd⟩ := ref_op (ifs[i]).f1 7 (by omega)
        refine Ev.bind (Ev.at 7 (fun k hk => at_rounds (fun k => sentryref4_Op.mono _ k) hk hr)) ?_
        by_cases h0 : r < 0
        · have : memB opsL (ifs[i]).f1 = false := by rw [decide_eq_true h0] at hd; simpa using hd.symm
          rw [this, Bool.false_and, Bool.false_and]
          refine Ev.congr (fun k => if_pos h0) (Ev.now false)
        · have : memB opsL (ifs[i]).f1 = true := by rw [decide_eq_false h0] at hd; simpa using hd.symm
          rw [this, Bool.true_and, Bool.true_and]
          refine Ev.congr (fun k => if_neg h0) ?_
          by_cases h1 : (ifs[i]).f2 < -1000000
          · rw [decide_eq_false (by omega), Bool.false_and]
            exact Ev.congr (fun k => if_pos h1) (Ev.now false)
          · by_cases h2 : (ifs[i]).f2 > 1000000
            · rw [decide_eq_false (by omega), Bool.false_and]
              exact Ev.congr (fun k => (if_neg h1).trans (if_pos h2)) (Ev.now false)
            · rw [decide_eq_true (by omega), Bool.true_and]
              exact Ev.congr (fun k => (if_neg h1).trans (if_neg h2)) (ih (i + 1) (by omega))
theorem ev_l1 (fs : List ByteArray) (l : List (S48)) (on : List (S103)) (ifs : List (S50)) (hn : on.length ≤ 9223372036854775807) (i : Nat) (hi : i < on.length) (R : Bool) (hR : Ev (fun k => sentryref4_sentry.l0 k (((i + 1 : Nat)) : Int) fs l on ifs) R) (d : Nat) : ∀ j : Nat, j + d = i → Ev (fun k => sentryref4_sentry.l1 k (i : Int) (j : Int) fs l on ifs) (!(((on.take i).drop j).any (hasOn_p (rd_T103 on i).f0 (rd_T103 on i).f1)) && R) := by
  induction d with
  | zero =>
    intro j hj
    refine Ev.step (f := fun k => sentryref4_sentry.l0 k (((i + 1 : Nat)) : Int) fs l on ifs) (fun k => ?_) ?_
    · simp only [sentryref4_sentry.l1]
      rw [if_neg (by omega), wrap_lt (n := (on.length : Int)) (by omega) (by omega) (by omega)]
      rfl
    · rw [List.drop_of_length_le (by rw [List.length_take]; omega)]
      simpa using hR
  | succ d ih =>
    intro j hj
    have hjl : j < (on.take i).length := by rw [List.length_take]; omega
    have hrd : rd_T103 on (j : Int) = (on.take i)[j] := by simp [rd_T103, List.getD_eq_getElem?_getD, List.getElem?_eq_getElem (show j < on.length by omega)]
    rw [List.drop_eq_getElem_cons hjl, List.any_cons]
    have hsym : ((((on.take i)[j]).f0.toList == (rd_T103 on i).f0.toList) && (((on.take i)[j]).f1 == (rd_T103 on i).f1)) = hasOn_p (rd_T103 on i).f0 (rd_T103 on i).f1 (on.take i)[j] := by
      unfold hasOn_p
      rw [Bool.eq_iff_iff]
      simp only [Bool.and_eq_true, beq_iff_eq]
      exact ⟨fun h => ⟨h.1.symm, h.2.symm⟩, fun h => ⟨h.1.symm, h.2.symm⟩⟩
    refine Ev.step (f := fun k => if hasOn_p (rd_T103 on i).f0 (rd_T103 on i).f1 (on.take i)[j] = true then some false else sentryref4_sentry.l1 k (i : Int) (((j + 1 : Nat)) : Int) fs l on ifs) (fun k => ?_) ?_
    · simp only [sentryref4_sentry.l1]
      rw [if_pos (by omega), if_pos (by omega), if_pos (by omega), if_pos (by omega), if_pos (by omega), hrd, hsym, wrap_lt (n := (on.length : Int)) (by omega) (by omega) (by omega)]
      rfl
    · cases hq : hasOn_p (rd_T103 on i).f0 (rd_T103 on i).f1 (on.take i)[j] with
      | true => exact Ev.congr (fun k => if_pos rfl) (by simpa using Ev.now false)
      | false => exact Ev.congr (fun k => if_neg (by simp)) (by simpa using ih (j + 1) (by omega))
theorem ev_l0 (fs : List ByteArray) (l : List (S48)) (on : List (S103)) (ifs : List (S50)) (hf : fs.length ≤ 9223372036854775807) (hl : l.length ≤ 9223372036854775807) (hn : on.length ≤ 9223372036854775807) (hi2 : ifs.length ≤ 9223372036854775807) (d : Nat) : ∀ i : Nat, i + d = on.length → Ev (fun k => sentryref4_sentry.l0 k (i : Int) fs l on ifs) ((List.range' i d).all (onOk l on) && ifs.all (fun c => ifB fs c.f0 c.f1 c.f2)) := by
  induction d with
  | zero =>
    intro i hi
    refine Ev.step (f := fun k => sentryref4_sentry.l2 k ((0 : Nat) : Int) fs l on ifs) (fun k => ?_) ?_
    · simp only [sentryref4_sentry.l0]
      rw [if_neg (by omega)]
      rfl
    · simpa using ev_l2 fs l on ifs hf hi2 ifs.length 0 (by omega)
  | succ d ih =>
    intro i hi
    have hlt : i < on.length := by omega
    rw [List.range'_succ, List.all_cons]
    have hok : onOk l on i = (onB l (rd_T103 on i).f0 (rd_T103 on i).f1 && !hasOn (on.take i) (rd_T103 on i).f0 (rd_T103 on i).f1) := rfl
    rw [hok]
    refine Ev.step (f := fun k => (sentryref4_Place.f k fs l (rd_T103 on i).f0).bind fun t => (if t < 0 then (sentryref4_sentry.j2 k (i : Int) true fs l on ifs) else (if 0 ≤ t then (if t < (l.length : Int) then ((sentryref4_Legal.f k ((rd_T48 l t).f1) ((rd_T103 on i).f1)).bind fun t2 => (sentryref4_sentry.j2 k (i : Int) (!t2) fs l on ifs)) else (none)) else (none)))) (fun k => ?_) ?_
    · simp only [sentryref4_sentry.l0]
      rw [if_pos (by omega), if_pos (by omega)]
    · refine Ev.bind (ev_place fs l _ hl) ?_
      have hj2f : Ev (fun k => sentryref4_sentry.j2 k (i : Int) true fs l on ifs) false := Ev.step (f := fun _ => some false) (fun k => by simp [sentryref4_sentry.j2]) (Ev.now false)
      have hj2t : Ev (fun k => sentryref4_sentry.j2 k (i : Int) false fs l on ifs) (!hasOn (on.take i) (rd_T103 on i).f0 (rd_T103 on i).f1 && ((List.range' (i + 1) d).all (onOk l on) && ifs.all (fun c => ifB fs c.f0 c.f1 c.f2))) := by
        refine Ev.step (f := fun k => sentryref4_sentry.l1 k (i : Int) ((0 : Nat) : Int) fs l on ifs) (fun k => by simp [sentryref4_sentry.j2]) ?_
        have := ev_l1 fs l on ifs hn i hlt _ (ih (i + 1) (by omega)) i 0 (by omega)
        simpa [hasOn] using this
      unfold onB
      by_cases hp : 0 ≤ placeI l (rd_T103 on i).f0
      · rw [if_pos hp]
        refine Ev.congr (fun k => (if_neg (by omega)).trans ((if_pos hp).trans (if_pos (placeI_lt l _)))) ?_
        refine Ev.bind (Ev.at 3 (fun k hk => at_rounds (fun k => sentryref4_Legal.mono _ _ k) hk (refLegal3 _ _))) ?_
        cases legalB (rd_T48 l (placeI l (rd_T103 on i).f0)).f1 (rd_T103 on i).f1 with
        | true => simpa [Bool.and_assoc] using hj2t
        | false => simpa using hj2f
      · rw [if_neg hp]
        exact Ev.congr (fun k => if_pos (by omega)) (by simpa using hj2f)
theorem ev_sentry (fs : List ByteArray) (l : List (S48)) (on : List (S103)) (ifs : List (S50)) (hf : fs.length ≤ 9223372036854775807) (hl : l.length ≤ 9223372036854775807) (hn : on.length ≤ 9223372036854775807) (hi2 : ifs.length ≤ 9223372036854775807) : Ev (fun k => sentryref4_sentry.f k fs l on ifs) (sentryB fs l on ifs) := by
  have hjf : Ev (fun k => sentryref4_sentry.j0 k true fs l on ifs) false := Ev.step (f := fun _ => some false) (fun k => by simp [sentryref4_sentry.j0]) (Ev.now false)
  unfold sentryref4_sentry.f sentryB
  by_cases h3 : on.length > 3
  · rw [decide_eq_false (by omega), Bool.false_and]
    exact Ev.congr (fun k => if_pos (by omega)) hjf
  by_cases h2 : ifs.length > 2
  · rw [decide_eq_false (by omega), Bool.false_and]
    exact Ev.congr (fun k => (if_neg (by omega)).trans (if_pos (by omega))) hjf
  refine Ev.congr (fun k => (if_neg (by omega)).trans (if_neg (by omega))) ?_
  have hw : wrap64 ((on.length : Int) + (ifs.length : Int)) = (on.length : Int) + (ifs.length : Int) := by unfold wrap64; omega
  rw [hw]
  by_cases h0 : on.length + ifs.length = 0
  · rw [decide_eq_false (by omega), Bool.false_and, show (((on.length : Int) + (ifs.length : Int)) == 0) = true by simp; omega]
    exact hjf
  · rw [decide_eq_true (by omega), Bool.true_and, show (((on.length : Int) + (ifs.length : Int)) == 0) = false by
      have : (on.length : Int) + (ifs.length : Int) ≠ 0 := by omega
      simpa using this]
    refine Ev.step (f := fun k => sentryref4_sentry.l0 k ((0 : Nat) : Int) fs l on ifs) (fun k => by simp [sentryref4_sentry.j0]) ?_
    have := ev_l0 fs l on ifs hf hl hn hi2 on.length 0 (by omega)
    rw [List.range_eq_range']
    have he : ifsOk fs ifs = ifs.all (fun c => ifB fs c.f0 c.f1 c.f2) := by unfold ifsOk; rw [List.not_any_eq_all_not]; simp
    rw [he]
    exact this
theorem ev_sentries_at (fs : List ByteArray) (l : List (S48)) (ss : List (S54)) (hf : fs.length ≤ 9223372036854775807) (hl : l.length ≤ 9223372036854775807) (hs : ss.length ≤ 9223372036854775807) (hg : ∀ s ∈ ss, s.f0.length ≤ 9223372036854775807 ∧ s.f1.length ≤ 9223372036854775807) (d : Nat) : ∀ i : Nat, i + d = ss.length → Ev (fun k => sentryref4_sentries.l0 k ss (i : Int) fs l) ((ss.drop i).all (fun s => sentryB fs l s.f0 s.f1) && decide (ss.length ≤ 3)) := by
  induction d with
  | zero =>
    intro i hi
    refine Ev.step (f := fun _ => some (decide ((ss.length : Int) ≤ 3))) (fun k => ?_) ?_
    · simp only [sentryref4_sentries.l0]
      rw [if_neg (by omega)]
    · rw [List.drop_of_length_le (by omega), List.all_nil, Bool.true_and, show decide (ss.length ≤ 3) = decide ((ss.length : Int) ≤ 3) by rw [decide_eq_decide]; omega]
      exact Ev.now _
  | succ d ih =>
    intro i hi
    have hlt : i < ss.length := by omega
    have hrd : rd_T54 ss (i : Int) = ss[i] := by simp [rd_T54, List.getD_eq_getElem?_getD, List.getElem?_eq_getElem hlt]
    rw [List.drop_eq_getElem_cons hlt, List.all_cons]
    refine Ev.step (f := fun k => (sentryref4_sentry.f k fs l (ss[i]).f0 (ss[i]).f1).bind fun t => (if t = true then (sentryref4_sentries.l0 k ss (((i + 1 : Nat)) : Int) fs l) else (some false))) (fun k => ?_) ?_
    · simp only [sentryref4_sentries.l0]
      rw [if_pos (by omega), if_pos (by omega), hrd, wrap_lt (n := (ss.length : Int)) (by omega) (by omega) (by omega)]
      rfl
    · have hgi := hg ss[i] (List.getElem_mem hlt)
      refine Ev.bind (ev_sentry fs l _ _ hf hl hgi.1 hgi.2) ?_
      cases sentryB fs l (ss[i]).f0 (ss[i]).f1 with
      | true => exact Ev.congr (fun k => if_pos rfl) (by simpa using ih (i + 1) (by omega))
      | false => exact Ev.congr (fun k => if_neg (by simp)) (by simpa using Ev.now false)
theorem ev_sentries (fs : List ByteArray) (l : List (S48)) (ss : List (S54)) (hf : fs.length ≤ 9223372036854775807) (hl : l.length ≤ 9223372036854775807) (hs : ss.length ≤ 9223372036854775807) (hg : ∀ s ∈ ss, s.f0.length ≤ 9223372036854775807 ∧ s.f1.length ≤ 9223372036854775807) : Ev (fun k => sentryref4_sentries.f k fs l ss) (sentsB fs l ss) := by
  have := ev_sentries_at fs l ss hf hl hs hg ss.length 0 (by omega)
  have e : sentsB fs l ss = ((ss.drop 0).all (fun s => sentryB fs l s.f0 s.f1) && decide (ss.length ≤ 3)) := by
    unfold sentsB
    rw [List.not_any_eq_all_not, Bool.and_comm]
    simp
  rw [e]
  exact this
end Go.Proofs.Ytaiglhfmmdajdaa.Pm
end
section
namespace Go.Proofs.Ytaiglhfmmdajdaa.Pm
open Go.RowKit Go.Proofs.YtaiglhfmmdajdaaW.PrintWords Go.Proofs.YtaiglhfmmdajdaaW.PrintLast Go.Proofs.YtaiglhfmmdajdaaW.PrintMore
attribute [local go_sem] max2_int min2_int max_two min_two max_three min_three max_four min_four   -- for this text's walks alone
set_option linter.unusedVariables false
set_option linter.unusedSimpArgs false
theorem ev_name (s : ByteArray) : Ev (fun k => sentryref1_Is.f k s) (nameB s) := Ev.at 15 (fun k hk => ref_name s k hk)
abbrev nmA (l : List (S48)) (i : Int) : ByteArray := (rd_T48 l i).f0
abbrev kdA (l : List (S48)) (i : Int) : Int := (rd_T48 l i).f1
abbrev paA (l : List (S48)) (i : Int) : ByteArray := (rd_T48 l i).f2
def wnF (l : List (S48)) (id : ByteArray) : Nat → Int → Bool
  | 0, _ => false
  | d + 1, x => if x ≥ 0 then (if (nmA l x).toList = id.toList then true else wnF l id d (placeI l (paA l x))) else false
def dpF (l : List (S48)) : Nat → Int → Int → Int
  | 0, _, _ => -1
  | d + 1, x, c => if x > 0 then dpF l d (placeI l (paA l x)) (c + 1) else if x < 0 then -1 else c
theorem ev_within_at (fs : List ByteArray) (l : List (S48)) (id : ByteArray) (hn : l.length ≤ 9223372036854775806) (d : Nat) : ∀ (x : Int) (c : Nat), c + d = l.length + 1 → x < l.length → Ev (fun k => sentryref4_within.l0 k x id (c : Int) fs l) (wnF l id d x) := by
  induction d with
  | zero =>
    intro x c hc hx
    unfold wnF
    by_cases h : x ≥ 0
    · refine Ev.step (f := fun k => sentryref4_within.j1 k x id (c : Int) false fs l) (fun k => ?_) ?_
      · simp only [sentryref4_within.l0]
        rw [if_pos h, decide_eq_false (by omega)]
      · exact Ev.step (f := fun _ => some false) (fun k => by simp [sentryref4_within.j1]) (Ev.now false)
    · refine Ev.step (f := fun k => sentryref4_within.j1 k x id (c : Int) false fs l) (fun k => ?_) ?_
      · simp only [sentryref4_within.l0]
        rw [if_neg h]
      · exact Ev.step (f := fun _ => some false) (fun k => by simp [sentryref4_within.j1]) (Ev.now false)
  | succ d ih =>
    intro x c hc hx
    unfold wnF
    by_cases h : x ≥ 0
    · rw [if_pos h]
      refine Ev.step (f := fun k => sentryref4_within.j1 k x id (c : Int) true fs l) (fun k => ?_) ?_
      · simp only [sentryref4_within.l0]
        rw [if_pos h, decide_eq_true (by omega)]
      · refine Ev.step (f := fun k => if (nmA l x).toList = id.toList then (some true) else ((sentryref4_Place.f k fs l (paA l x)).bind fun t => (sentryref4_within.l0 k t id (((c + 1 : Nat)) : Int) fs l))) (fun k => ?_) ?_
        · simp only [sentryref4_within.j1]
          rw [if_pos trivial, if_pos h, if_pos hx, show wrap64 ((c : Int) + 1) = ((c + 1 : Nat) : Int) by unfold wrap64; omega]
        · by_cases he : (nmA l x).toList = id.toList
          · rw [if_pos he]
            exact Ev.congr (fun k => if_pos he) (Ev.now true)
          · rw [if_neg he]
            exact Ev.congr (fun k => if_neg he) (Ev.bind (ev_place fs l _ (by omega)) (ih _ (c + 1) (by omega) (placeI_lt l _)))
    · rw [if_neg h]
      refine Ev.step (f := fun k => sentryref4_within.j1 k x id (c : Int) false fs l) (fun k => ?_) ?_
      · simp only [sentryref4_within.l0]
        rw [if_neg h]
      · exact Ev.step (f := fun _ => some false) (fun k => by simp [sentryref4_within.j1]) (Ev.now false)
theorem ev_within (fs : List ByteArray) (l : List (S48)) (id : ByteArray) (hn : l.length ≤ 9223372036854775806) (x : Int) (hx : x < l.length) : Ev (fun k => sentryref4_within.f k fs l x id) (wnF l id (l.length + 1) x) := ev_within_at fs l id hn (l.length + 1) x 0 (by omega) hx
theorem ev_depth_at (fs : List ByteArray) (l : List (S48)) (hn : l.length ≤ 9223372036854775806) (d : Nat) : ∀ (x : Int) (c : Nat), c + d = l.length + 1 → x < l.length → Ev (fun k => sentryref4_Depth.l0 k x (c : Int) fs l) (dpF l d x c) := by
  induction d with
  | zero =>
    intro x c hc hx
    unfold dpF
    refine Ev.step (f := fun _ => some (-1)) (fun k => ?_) (Ev.now _)
    simp only [sentryref4_Depth.l0]
    by_cases h : x > 0
    · rw [if_pos h, if_neg (by omega), if_neg (by omega), if_pos (by omega)]
    · rw [if_neg h]
      by_cases h2 : x < 0
      · rw [if_pos h2]
      · rw [if_neg h2, if_pos (by omega)]
  | succ d ih =>
    intro x c hc hx
    unfold dpF
    by_cases h : x > 0
    · rw [if_pos h]
      refine Ev.step (f := fun k => ((sentryref4_Place.f k fs l (paA l x)).bind fun t => (sentryref4_Depth.l0 k t (((c + 1 : Nat)) : Int) fs l))) (fun k => ?_) ?_
      · simp only [sentryref4_Depth.l0]
        rw [if_pos h, if_pos (by omega), if_pos (by omega), if_pos hx, show wrap64 ((c : Int) + 1) = ((c + 1 : Nat) : Int) by unfold wrap64; omega]
      · exact Ev.bind (ev_place fs l _ (by omega)) (ih _ (c + 1) (by omega) (placeI_lt l _))
    · rw [if_neg h]
      by_cases h2 : x < 0
      · rw [if_pos h2]
        refine Ev.step (f := fun _ => some (-1)) (fun k => ?_) (Ev.now _)
        simp only [sentryref4_Depth.l0]
        rw [if_neg h, if_pos h2]
      · rw [if_neg h2]
        refine Ev.step (f := fun _ => some (c : Int)) (fun k => ?_) (Ev.now _)
        simp only [sentryref4_Depth.l0]
        rw [if_neg h, if_neg h2, if_neg (by omega)]
theorem ev_depth (fs : List ByteArray) (l : List (S48)) (hn : l.length ≤ 9223372036854775806) (x : Int) (hx : x < l.length) : Ev (fun k => sentryref4_Depth.f k fs l x) (dpF l (l.length + 1) x 0) := ev_depth_at fs l hn (l.length + 1) x 0 (by omega) hx
/-- What is asked of an item's place. -/
def rplace (l : List (S48)) (i : Nat) : Bool :=
  if i = 0 then planB (rd_T48 l i).f1 (rd_T48 l i).f2 (rd_T48 l i).f3 (rd_T48 l i).f5.length (rd_T48 l i).f6.length
  else !decide ((paA l i).toList = []) && (decide (0 ≤ placeI l (paA l i) ∧ placeI l (paA l i) < i ∧ kdA l (placeI l (paA l i)) = 1) && (wnF l (paA l i) (l.length + 1) ((i : Int) - 1) && decide (1 ≤ dpF l (l.length + 1) i 0 ∧ dpF l (l.length + 1) i 0 ≤ 5)))
/-- What is asked of an item's own. -/
def rown (x : S48) : Bool := decide (1 ≤ x.f1 ∧ x.f1 ≤ 5) && ((if x.f1 = 5 then decide (1 ≤ x.f4 ∧ x.f4 ≤ 100) else decide (x.f4 = 0)) && !(decide (x.f1 ≥ 4) && (x.f3 || decide (0 < x.f5.length))))
def ritem (l : List (S48)) (i : Nat) : Bool :=
  nameB (nmA l i) && (decide (placeI l (nmA l i) = i) && (rown (rd_T48 l i) && rplace l i))
theorem ev_j2f (fs : List ByteArray) (l : List (S48)) (i : Int) (a0 : ByteArray) (a1 : Int) (a2 : ByteArray) (a3 : Bool) (a4 : Int) (l5 l6 : List (S54)) : Ev (fun k => sentryref4_item.j2 k i true fs l a0 a1 a2 a3 a4 l5 l6) false := Ev.step (f := fun _ => some false) (fun k => by simp [sentryref4_item.j2]) (Ev.now false)
theorem ev_j2 (fs : List ByteArray) (l : List (S48)) (hn : l.length ≤ 9223372036854775806) (i : Nat) (hi : i < l.length) (x : S48) (hx : x = rd_T48 l i) : Ev (fun k => sentryref4_item.j2 k i false fs l x.f0 x.f1 x.f2 x.f3 x.f4 x.f5 x.f6) (rplace l i) := by
  unfold rplace
  rw [← hx]
  show Ev _ (if i = 0 then planB x.f1 x.f2 x.f3 x.f5.length x.f6.length else !decide ((paA l i).toList = []) && (decide (0 ≤ placeI l (paA l i) ∧ placeI l (paA l i) < i ∧ kdA l (placeI l (paA l i)) = 1) && (wnF l (paA l i) (l.length + 1) ((i : Int) - 1) && decide (1 ≤ dpF l (l.length + 1) i 0 ∧ dpF l (l.length + 1) i 0 ≤ 5))))
  have hpa : paA l i = x.f2 := by rw [hx]
  rw [hpa]
  by_cases h0 : i = 0
  · rw [if_pos h0]
    unfold planB
    refine Ev.step (f := fun _ => some (decide (x.f1 = 1) && (decide (x.f2.toList = []) && (!x.f3 && decide (x.f5.length + x.f6.length = 0))))) (fun k => ?_) (Ev.now _)
    simp only [sentryref4_item.j2]
    rw [if_neg (by simp), if_pos (by omega)]
    by_cases h1 : x.f1 = 1
    · by_cases h2 : x.f2.toList = []
      · cases h3 : x.f3 with
        | true => simp [h1, h2]
        | false =>
          by_cases h5 : x.f5.length = 0
          · by_cases h6 : x.f6.length = 0 <;> simp [h1, h2, h5, h6] <;> omega
          · have : ¬ ((x.f5.length : Int) = 0) := by omega
            simp [h1, h2, h5, this]
            
      · simp [h1, h2]
    · simp [h1]
  · rw [if_neg h0]
    refine Ev.step (f := fun k => ((sentryref4_Place.f k fs l x.f2).bind fun t180 => (if x.f2.toList = ([] : List UInt8) then (some false) else (if t180 ≥ 0 then (if t180 < (i : Int) then (if 0 ≤ t180 then (if t180 < (l.length : Int) then (if ((rd_T48 l t180).f1) = 1 then ((sentryref4_within.f k fs l ((i : Int) - 1) x.f2).bind fun t182 => (if t182 = true then ((sentryref4_Depth.f k fs l i).bind fun t183 => (if t183 ≥ 1 then ((sentryref4_Depth.f k fs l i).bind fun t184 => (some (decide (t184 ≤ 5)))) else (some false))) else (some false))) else (some false)) else (none)) else (none)) else (some false)) else (some false))))) (fun k => ?_) ?_
    · simp only [sentryref4_item.j2]
      rw [if_neg (by simp), if_neg (by omega), show wrap64 ((i : Int) - 1) = (i : Int) - 1 by unfold wrap64; omega]
    · refine Ev.bind (ev_place fs l _ (by omega)) ?_
      by_cases h1 : x.f2.toList = []
      · rw [decide_eq_true h1, Bool.not_true, Bool.false_and]
        exact Ev.congr (fun k => if_pos h1) (Ev.now false)
      rw [decide_eq_false h1, Bool.not_false, Bool.true_and]
      refine Ev.congr (fun k => if_neg h1) ?_
      by_cases h2 : 0 ≤ placeI l x.f2
      case neg =>
        rw [decide_eq_false (fun h => h2 h.1), Bool.false_and]
        exact Ev.congr (fun k => if_neg h2) (Ev.now false)
      refine Ev.congr (fun k => if_pos h2) ?_
      by_cases h3 : placeI l x.f2 < (i : Int)
      case neg =>
        rw [decide_eq_false (fun h => h3 h.2.1), Bool.false_and]
        exact Ev.congr (fun k => if_neg h3) (Ev.now false)
      refine Ev.congr (fun k => (if_pos h3).trans ((if_pos h2).trans (if_pos (placeI_lt l _)))) ?_
      by_cases h4 : kdA l (placeI l x.f2) = 1
      case neg =>
        rw [decide_eq_false (fun h => h4 h.2.2), Bool.false_and]
        exact Ev.congr (fun k => if_neg h4) (Ev.now false)
      rw [decide_eq_true ⟨h2, h3, h4⟩, Bool.true_and]
      refine Ev.congr (fun k => if_pos h4) ?_
      refine Ev.bind (ev_within fs l x.f2 hn _ (by omega)) ?_
      cases wnF l x.f2 (l.length + 1) ((i : Int) - 1) with
      | false => exact Ev.congr (fun k => if_neg (by simp)) (by simpa using Ev.now false)
      | true =>
        rw [Bool.true_and]
        refine Ev.congr (fun k => if_pos rfl) ?_
        refine Ev.bind (ev_depth fs l hn _ (by omega)) ?_
        by_cases h5 : dpF l (l.length + 1) i 0 ≥ 1
        case neg =>
          rw [decide_eq_false (fun h => h5 h.1)]
          exact Ev.congr (fun k => if_neg h5) (Ev.now false)
        refine Ev.congr (fun k => if_pos h5) ?_
        refine Ev.bind (ev_depth fs l hn _ (by omega)) ?_
        rw [show decide (1 ≤ dpF l (l.length + 1) i 0 ∧ dpF l (l.length + 1) i 0 ≤ 5) = decide (dpF l (l.length + 1) i 0 ≤ 5) by rw [decide_eq_decide]; exact ⟨fun h => h.2, fun h => ⟨h5, h⟩⟩]
        exact Ev.now _
theorem ev_item (fs : List ByteArray) (l : List (S48)) (hn : l.length ≤ 9223372036854775806) (i : Nat) (hi : i < l.length) : Ev (fun k => sentryref4_item.f k fs l i) (ritem l i) := by
  obtain ⟨x, hx⟩ : ∃ x, x = rd_T48 l i := ⟨_, rfl⟩
  unfold sentryref4_item.f ritem nmA
  rw [← hx]
  refine Ev.congr (fun k => (if_pos (by omega)).trans (if_pos (by omega))) ?_
  refine Ev.bind (ev_name _) ?_
  have hj0f : Ev (fun k => sentryref4_item.j0 k i true fs l x.f0 x.f1 x.f2 x.f3 x.f4 x.f5 x.f6) false := Ev.step (f := fun _ => some false) (fun k => by simp [sentryref4_item.j0]) (Ev.now false)
  cases nameB x.f0 with
  | false => exact Ev.congr (fun k => if_neg (by simp)) (by simpa using hj0f)
  | true =>
    rw [Bool.true_and]
    refine Ev.congr (fun k => if_pos rfl) (Ev.bind (ev_place fs l _ (by omega)) ?_)
    by_cases h1 : placeI l x.f0 = (i : Int)
    case neg =>
      rw [decide_eq_false h1, Bool.false_and]
      exact Ev.congr (fun k => if_neg h1) hj0f
    rw [decide_eq_true h1, Bool.true_and]
    refine Ev.congr (fun k => if_pos h1) ?_
    unfold rown
    by_cases h2 : x.f1 < 1
    · rw [decide_eq_false (p := 1 ≤ x.f1 ∧ x.f1 ≤ 5) (by omega), Bool.false_and, Bool.false_and]
      exact Ev.congr (fun k => if_pos h2) hj0f
    refine Ev.congr (fun k => if_neg h2) ?_
    by_cases h3 : x.f1 > 5
    · rw [decide_eq_false (p := 1 ≤ x.f1 ∧ x.f1 ≤ 5) (by omega), Bool.false_and, Bool.false_and, decide_eq_true (p := x.f1 > 5) h3]
      exact hj0f
    rw [decide_eq_true (p := 1 ≤ x.f1 ∧ x.f1 ≤ 5) (by omega), Bool.true_and, decide_eq_false (p := x.f1 > 5) h3]
    obtain ⟨T, hT⟩ : ∃ T, T = (if x.f1 = 5 then decide (1 ≤ x.f4 ∧ x.f4 ≤ 100) else decide (x.f4 = 0)) := ⟨_, rfl⟩
    rw [← hT]
    refine Ev.step (f := fun k => sentryref4_item.j1 k i T fs l x.f0 x.f1 x.f2 x.f3 x.f4 x.f5 x.f6) (fun k => ?_) ?_
    · simp only [sentryref4_item.j0, Bool.false_eq_true, if_false]
      rw [hT]
      by_cases h5 : x.f1 = 5
      · rw [if_pos h5, if_pos h5]
        by_cases ha : x.f4 ≥ 1
        · rw [if_pos ha, show decide (1 ≤ x.f4 ∧ x.f4 ≤ 100) = decide (x.f4 ≤ 100) by rw [decide_eq_decide]; omega]
        · rw [if_neg ha, decide_eq_false (by omega)]
      · rw [if_neg h5, if_neg h5]
        rfl
    · have hj2 := ev_j2 fs l hn i hi x hx
      have hj2f := ev_j2f fs l i x.f0 x.f1 x.f2 x.f3 x.f4 x.f5 x.f6
      cases T with
      | false => exact Ev.step (f := fun k => sentryref4_item.j2 k i true fs l x.f0 x.f1 x.f2 x.f3 x.f4 x.f5 x.f6) (fun k => by simp [sentryref4_item.j1]) (by simpa using hj2f)
      | true =>
        by_cases h4 : x.f1 ≥ 4
        · rw [decide_eq_true (p := x.f1 ≥ 4) h4, Bool.true_and]
          cases h6 : x.f3 with
          | true =>
            refine Ev.step (f := fun k => sentryref4_item.j2 k i true fs l x.f0 x.f1 x.f2 true x.f4 x.f5 x.f6) (fun k => by simp [sentryref4_item.j1, h4]) ?_
            rw [h6] at hj2f
            simpa using hj2f
          | false =>
            rw [h6] at hj2 hj2f
            by_cases h7 : 0 < x.f5.length
            · refine Ev.step (f := fun k => sentryref4_item.j2 k i true fs l x.f0 x.f1 x.f2 false x.f4 x.f5 x.f6) (fun k => ?_) ?_
              · simp only [sentryref4_item.j1]
                rw [if_pos trivial, if_pos h4, if_neg (by simp), decide_eq_true (by omega)]
              · rw [decide_eq_true h7]; simpa using hj2f
            · refine Ev.step (f := fun k => sentryref4_item.j2 k i false fs l x.f0 x.f1 x.f2 false x.f4 x.f5 x.f6) (fun k => ?_) ?_
              · simp only [sentryref4_item.j1]
                rw [if_pos trivial, if_pos h4, if_neg (by simp), decide_eq_false (by omega)]
              · rw [decide_eq_false h7]; simpa using hj2
        · rw [decide_eq_false (p := x.f1 ≥ 4) h4, Bool.false_and]
          refine Ev.step (f := fun k => sentryref4_item.j2 k i false fs l x.f0 x.f1 x.f2 x.f3 x.f4 x.f5 x.f6) (fun k => ?_) (by simpa using hj2)
          simp only [sentryref4_item.j1]
          rw [if_pos trivial, if_neg h4]
def risB (fs : List ByteArray) (l : List (S48)) : Bool :=
  decide (fs.length ≤ 6 ∧ 1 ≤ l.length ∧ l.length ≤ 16) && (namesB fs && ((List.range l.length).all (ritem l) && l.all (fun x => sentsB fs l x.f5 && sentsB fs l x.f6)))
/-- What fits of a model: no row in it is longer than a row can be. -/
def Fits (fs : List ByteArray) (l : List (S48)) : Prop := fs.length ≤ 9223372036854775806 ∧ l.length ≤ 9223372036854775806 ∧ ∀ x ∈ l, (x.f5.length ≤ 9223372036854775806 ∧ ∀ s ∈ x.f5, s.f0.length ≤ 9223372036854775806 ∧ s.f1.length ≤ 9223372036854775806) ∧ (x.f6.length ≤ 9223372036854775806 ∧ ∀ s ∈ x.f6, s.f0.length ≤ 9223372036854775806 ∧ s.f1.length ≤ 9223372036854775806)
theorem ev_is2 (fs : List ByteArray) (l : List (S48)) (hF : Fits fs l) (d : Nat) : ∀ i : Nat, i + d = l.length → Ev (fun k => sentryref4_Is.l2 k (i : Int) fs l) ((l.drop i).all (fun x => sentsB fs l x.f5 && sentsB fs l x.f6)) := by
  obtain ⟨h1, h2, h3⟩ := hF
  induction d with
  | zero =>
    intro i hi
    refine Ev.step (f := fun _ => some true) (fun k => ?_) ?_
    · simp only [sentryref4_Is.l2]
      rw [if_neg (by omega)]
    · rw [List.drop_of_length_le (by omega)]
      exact Ev.now true
  | succ d ih =>
    intro i hi
    have hlt : i < l.length := by omega
    have hrd : rd_T48 l (i : Int) = l[i] := by simp [rd_T48, List.getD_eq_getElem?_getD, List.getElem?_eq_getElem hlt]
    rw [List.drop_eq_getElem_cons hlt, List.all_cons]
    obtain ⟨⟨a5, b5⟩, a6, b6⟩ := h3 l[i] (List.getElem_mem hlt)
    refine Ev.step (f := fun k => ((sentryref4_sentries.f k fs l (l[i].f5)).bind fun t213 => (if t213 = true then ((sentryref4_sentries.f k fs l (l[i].f6)).bind fun t215 => (if t215 = true then (sentryref4_Is.l2 k (((i + 1 : Nat)) : Int) fs l) else (some false))) else (some false)))) (fun k => ?_) ?_
    · simp only [sentryref4_Is.l2]
      rw [if_pos (by omega), if_pos (by omega), hrd, wrap_lt (n := (l.length : Int)) (by omega) (by omega) (by omega)]
      rfl
    · refine Ev.bind (ev_sentries fs l _ (by omega) (by omega) (by omega) (fun s hs => ⟨by have := (b5 s hs).1; omega, by have := (b5 s hs).2; omega⟩)) ?_
      cases sentsB fs l l[i].f5 with
      | false => exact Ev.congr (fun k => if_neg (by simp)) (by simpa using Ev.now false)
      | true =>
        rw [Bool.true_and]
        refine Ev.congr (fun k => if_pos rfl) ?_
        refine Ev.bind (ev_sentries fs l _ (by omega) (by omega) (by omega) (fun s hs => ⟨by have := (b6 s hs).1; omega, by have := (b6 s hs).2; omega⟩)) ?_
        cases sentsB fs l l[i].f6 with
        | false => exact Ev.congr (fun k => if_neg (by simp)) (by simpa using Ev.now false)
        | true => exact Ev.congr (fun k => if_pos rfl) (by simpa using ih (i + 1) (by omega))
theorem ev_is1 (fs : List ByteArray) (l : List (S48)) (hF : Fits fs l) (d : Nat) : ∀ i : Nat, i + d = l.length → Ev (fun k => sentryref4_Is.l1 k (i : Int) fs l) ((List.range' i d).all (ritem l) && l.all (fun x => sentsB fs l x.f5 && sentsB fs l x.f6)) := by
  have h2 := hF.2.1
  induction d with
  | zero =>
    intro i hi
    refine Ev.step (f := fun k => sentryref4_Is.l2 k ((0 : Nat) : Int) fs l) (fun k => ?_) ?_
    · simp only [sentryref4_Is.l1]
      rw [if_neg (by omega)]
      rfl
    · simpa using ev_is2 fs l hF l.length 0 (by omega)
  | succ d ih =>
    intro i hi
    have hlt : i < l.length := by omega
    rw [List.range'_succ, List.all_cons]
    refine Ev.step (f := fun k => ((sentryref4_item.f k fs l i).bind fun t211 => (if t211 = true then (sentryref4_Is.l1 k (((i + 1 : Nat)) : Int) fs l) else (some false)))) (fun k => ?_) ?_
    · simp only [sentryref4_Is.l1]
      rw [if_pos (by omega), wrap_lt (n := (l.length : Int)) (by omega) (by omega) (by omega)]
      rfl
    · refine Ev.bind (ev_item fs l h2 i hlt) ?_
      cases ritem l i with
      | false => exact Ev.congr (fun k => if_neg (by simp)) (by simpa using Ev.now false)
      | true => exact Ev.congr (fun k => if_pos rfl) (by simpa using ih (i + 1) (by omega))
theorem ev_is0 (fs : List ByteArray) (l : List (S48)) (hF : Fits fs l) (d : Nat) : ∀ i : Nat, i + d = fs.length → Ev (fun k => sentryref4_Is.l0 k (i : Int) fs l) ((List.range' i d).all (nameOk fs) && ((List.range l.length).all (ritem l) && l.all (fun x => sentsB fs l x.f5 && sentsB fs l x.f6))) := by
  have h1 := hF.1
  induction d with
  | zero =>
    intro i hi
    refine Ev.step (f := fun k => sentryref4_Is.l1 k ((0 : Nat) : Int) fs l) (fun k => ?_) ?_
    · simp only [sentryref4_Is.l0]
      rw [if_neg (by omega)]
      rfl
    · have := ev_is1 fs l hF l.length 0 (by omega)
      rw [List.range_eq_range']
      simpa using this
  | succ d ih =>
    intro i hi
    have hlt : i < fs.length := by omega
    rw [List.range'_succ, List.all_cons]
    refine Ev.step (f := fun k => ((sentryref1_Is.f k (rdOf ByteArray.empty fs i)).bind fun t207 => (if t207 = true then ((sentryref4_File.f k (fs.take i) (rdOf ByteArray.empty fs i)).bind fun t210 => (if t210 = true then (some false) else (sentryref4_Is.l0 k (((i + 1 : Nat)) : Int) fs l))) else (some false)))) (fun k => ?_) ?_
    · simp only [sentryref4_Is.l0]
      rw [if_pos (by omega), if_pos (by omega), if_pos (by omega), wrap_lt (n := (fs.length : Int)) (by omega) (by omega) (by omega)]
      rfl
    · refine Ev.bind (ev_name _) ?_
      have hok : nameOk fs i = (nameB (rdOf ByteArray.empty fs i) && !memB (fs.take i) (rdOf ByteArray.empty fs i)) := rfl
      rw [hok]
      cases nameB (rdOf ByteArray.empty fs i) with
      | false => exact Ev.congr (fun k => if_neg (by simp)) (by simpa using Ev.now false)
      | true =>
        rw [Bool.true_and]
        refine Ev.congr (fun k => if_pos rfl) ?_
        refine Ev.bind (Ev.at ((fs.take i).length + 1) (fun k hk => ref_file _ _ (by rw [List.length_take]; omega) k (by omega))) ?_
        cases memB (fs.take i) (rdOf ByteArray.empty fs i) with
        | true => exact Ev.congr (fun k => if_pos rfl) (by simpa using Ev.now false)
        | false => exact Ev.congr (fun k => if_neg (by simp)) (by simpa using ih (i + 1) (by omega))
theorem ev_ris (fs : List ByteArray) (l : List (S48)) (hF : Fits fs l) : Ev (fun k => sentryref4_Is.f k fs l) (risB fs l) := by
  unfold sentryref4_Is.f risB
  have hjf : Ev (fun k => sentryref4_Is.j0 k true fs l) false := Ev.step (f := fun _ => some false) (fun k => by simp [sentryref4_Is.j0]) (Ev.now false)
  by_cases h1 : fs.length > 6
  · rw [decide_eq_false (p := fs.length ≤ 6 ∧ 1 ≤ l.length ∧ l.length ≤ 16) (by omega), Bool.false_and]
    exact Ev.congr (fun k => if_pos (by omega)) hjf
  refine Ev.congr (fun k => if_neg (by omega)) ?_
  by_cases h2 : l.length < 1
  · rw [decide_eq_false (p := fs.length ≤ 6 ∧ 1 ≤ l.length ∧ l.length ≤ 16) (by omega), Bool.false_and]
    exact Ev.congr (fun k => if_pos (by omega)) hjf
  refine Ev.congr (fun k => if_neg (by omega)) ?_
  by_cases h3 : l.length > 16
  · rw [decide_eq_false (p := fs.length ≤ 6 ∧ 1 ≤ l.length ∧ l.length ≤ 16) (by omega), Bool.false_and, decide_eq_true (p := (l.length : Int) > 16) (by omega)]
    exact hjf
  rw [decide_eq_true (p := fs.length ≤ 6 ∧ 1 ≤ l.length ∧ l.length ≤ 16) (by omega), Bool.true_and, decide_eq_false (p := (l.length : Int) > 16) (by omega)]
  refine Ev.step (f := fun k => sentryref4_Is.l0 k ((0 : Nat) : Int) fs l) (fun k => by simp [sentryref4_Is.j0]) ?_
  have := ev_is0 fs l hF fs.length 0 (by omega)
  unfold namesB
  rw [List.range_eq_range' (n := fs.length)]
  exact this
end Go.Proofs.Ytaiglhfmmdajdaa.Pm
end
section
namespace Go.Proofs.Ytaiglhfmmdajdaa.Pm
open Go.RowKit Go.Proofs.YtaiglhfmmdajdaaW.PrintWords Go.Proofs.YtaiglhfmmdajdaaW.PrintLast Go.Proofs.YtaiglhfmmdajdaaW.PrintMore
attribute [local go_sem] max2_int min2_int max_two min_two max_three min_three max_four min_four   -- for this text's walks alone
set_option linter.unusedVariables false
set_option linter.unusedSimpArgs false
theorem rd_in (l : List (S48)) (i : Nat) (h : i < l.length) : rd_T48 l (i : Int) = l[i] := by simp [rd_T48, List.getD_eq_getElem?_getD, List.getElem?_eq_getElem h]
theorem rd_getD (l : List (S48)) (i : Nat) : rd_T48 l (i : Int) = l.getD i z48 := rfl
theorem placeI_congr (l : List (S48)) (a b : ByteArray) (h : a.toList = b.toList) : placeI l a = placeI l b := by
  unfold placeI
  have : model_Place.p a = model_Place.p b := by funext x; unfold model_Place.p; rw [h]
  rw [this]
theorem placeI_at (l : List (S48)) (id : ByteArray) (p : Nat) (h : placeI l id = p) : p < l.length ∧ (nmA l p).toList = id.toList := by
  unfold placeI fidx at h
  cases e : l.findIdx? (model_Place.p id) with
  | none => rw [e] at h; simp only at h; omega
  | some q =>
    rw [e] at h
    simp only at h
    obtain rfl : q = p := by omega
    obtain ⟨hq, hp, _⟩ := List.findIdx?_eq_some_iff_getElem.1 e
    refine ⟨hq, ?_⟩
    unfold nmA
    rw [rd_in l q hq]
    unfold model_Place.p at hp
    simpa using hp
/-- An item's name stands first where it stands, just if no item ahead has it. -/
theorem placeI_self (l : List (S48)) (i : Nat) (hi : i < l.length) : decide (placeI l (nmA l i) = i) = !memB ((l.map (·.f0)).take i) (rdOf ByteArray.empty (l.map (·.f0)) (i : Int)) := by
  have hr : rdOf ByteArray.empty (l.map (·.f0)) (i : Int) = nmA l i := by
    rw [rdOf_get _ _ _ (by simpa using hi)]
    unfold nmA
    rw [rd_in l i hi]; simp
  rw [hr]
  cases hm : memB ((l.map (·.f0)).take i) (nmA l i) with
  | false =>
    have : placeI l (nmA l i) = i := by
      unfold placeI
      refine fidx_hit _ l i z48 hi ?_ (fun j hj => ?_)
      · rw [← rd_getD]; unfold model_Place.p; simp
      · unfold memB at hm
        rw [List.any_eq_false] at hm
        have hjl : j < l.length := by omega
        have hmem : l[j].f0 ∈ (l.map (·.f0)).take i := by
          rw [List.mem_take_iff_getElem]
          exact ⟨j, by rw [List.length_map]; omega, by simp⟩
        have := hm _ hmem
        rw [← rd_getD, rd_in l j hjl]
        unfold model_Place.p
        have hne : (nmA l i).toList ≠ l[j].f0.toList := by simpa using this
        simpa using Ne.symm hne
    rw [this]; simp
  | true =>
    unfold memB at hm
    obtain ⟨x, hx, he⟩ := List.any_eq_true.1 hm
    obtain ⟨j, hj, hjx⟩ := List.mem_take_iff_getElem.1 hx
    rw [List.length_map] at hj
    have hjl : j < l.length := by omega
    have : placeI l (nmA l i) ≠ i := by
      intro h
      unfold placeI fidx at h
      cases e : l.findIdx? (model_Place.p (nmA l i)) with
      | none => rw [e] at h; simp only at h; omega
      | some q =>
        rw [e] at h
        simp only at h
        obtain ⟨_, _, hno⟩ := List.findIdx?_eq_some_iff_getElem.1 e
        have := hno j (by omega)
        apply this
        unfold model_Place.p
        have hx2 : x = l[j].f0 := by rw [← hjx]; simp
        have he2 : (nmA l i).toList = x.toList := by simpa using he
        rw [hx2] at he2
        simp [he2]
    simp [this]
/-- The names of the way from the first item down to one. -/
inductive Pth (l : List (S48)) : Nat → List ByteArray → Prop
  | root : Pth l 0 [nmA l 0]
  | kid (p i : Nat) (st : List ByteArray) : Pth l p st → placeI l (paA l i) = p → p < i → Pth l i (st ++ [nmA l i])
theorem Pth.len {l : List (S48)} {i : Nat} {st : List ByteArray} (h : Pth l i st) : st.length ≤ i + 1 ∧ 0 < st.length := by
  induction h with
  | root => simp
  | kid p i st hp e hlt ih => simp only [List.length_append, List.length_singleton]; omega
theorem Pth.head {l : List (S48)} {i : Nat} {st : List ByteArray} (h : Pth l i st) : ∀ m, 0 < m → m ≤ st.length → ∃ q, q ≤ i ∧ Pth l q (st.take m) ∧ st[m-1]? = some (nmA l q) := by
  induction h with
  | root =>
    intro m h0 hm
    simp only [List.length_singleton] at hm
    obtain rfl : m = 1 := by omega
    exact ⟨0, Nat.le_refl _, Pth.root, rfl⟩
  | kid p i st hp e hlt ih =>
    intro m h0 hm
    simp only [List.length_append, List.length_singleton] at hm
    by_cases hq : m ≤ st.length
    · obtain ⟨q, hq1, hq2, hq3⟩ := ih m h0 hq
      refine ⟨q, by omega, ?_, ?_⟩
      · rw [List.take_append_of_le_length hq]; exact hq2
      · rw [List.getElem?_append_left (by omega)]; exact hq3
    · obtain rfl : m = st.length + 1 := by omega
      refine ⟨i, Nat.le_refl _, ?_, ?_⟩
      · rw [List.take_of_length_le (by simp)]
        exact Pth.kid p i st hp e hlt
      · simp
theorem Pth.wn {l : List (S48)} (h0 : placeI l (paA l 0) = -1) (id : ByteArray) {i : Nat} {st : List ByteArray} (h : Pth l i st) : ∀ d, st.length ≤ d → wnF l id d i = st.any (idxP id) := by
  induction h with
  | root =>
    intro d hd
    simp only [List.length_singleton] at hd
    obtain ⟨d, rfl⟩ : ∃ m, d = m + 1 := ⟨d - 1, by omega⟩
    unfold wnF
    rw [if_pos (by omega)]
    by_cases he : (nmA l 0).toList = id.toList
    · rw [if_pos (by exact he)]
      simp [idxP, he]
    · rw [if_neg (by exact he), show ((0 : Nat) : Int) = 0 from rfl, h0]
      have : wnF l id d (-1) = false := by cases d <;> simp [wnF]
      rw [this]
      simp [idxP, Ne.symm he]
  | kid p i st hp e hlt ih =>
    intro d hd
    simp only [List.length_append, List.length_singleton] at hd
    obtain ⟨d, rfl⟩ : ∃ m, d = m + 1 := ⟨d - 1, by omega⟩
    unfold wnF
    rw [if_pos (by omega), List.any_append]
    by_cases he : (nmA l i).toList = id.toList
    · rw [if_pos (by exact he)]
      simp [idxP, he]
    · rw [if_neg (by exact he), e, ih d (by omega)]
      simp [idxP, Ne.symm he]
theorem Pth.dp {l : List (S48)} {i : Nat} {st : List ByteArray} (h : Pth l i st) : ∀ d (c : Int), st.length ≤ d → dpF l d i c = c + st.length - 1 := by
  induction h with
  | root =>
    intro d c hd
    simp only [List.length_singleton] at hd
    obtain ⟨d, rfl⟩ : ∃ m, d = m + 1 := ⟨d - 1, by omega⟩
    simp [dpF]
  | kid p i st hp e hlt ih =>
    intro d c hd
    simp only [List.length_append, List.length_singleton] at hd ⊢
    obtain ⟨d, rfl⟩ : ∃ m, d = m + 1 := ⟨d - 1, by omega⟩
    unfold dpF
    rw [if_pos (by omega), e, ih d _ (by omega)]
    omega
/-- Where names stand once each, the stacks stand just if each item stands where it may. -/
theorem stk_places (l : List (S48)) (hD : ∀ i : Nat, i < l.length → placeI l (nmA l i) = i ∧ (nmA l i).toList ≠ []) (h0 : (paA l 0).toList = []) : ∀ i : Nat, i < l.length → (match stk l (i + 1) with | some st => Pth l i st ∧ ∀ q, q ≤ i → 0 < q → rplace l q = true | none => ∃ q, q ≤ i ∧ 0 < q ∧ rplace l q = false) := by
  have hroot : placeI l (paA l 0) = -1 := by
    unfold placeI
    refine fidx_miss _ l z48 (fun j hj => ?_)
    rw [← rd_getD]
    unfold model_Place.p
    have := (hD j hj).2
    rw [h0]
    simpa using this
  intro i
  induction i with
  | zero =>
    intro hi
    have : stk l (0 + 1) = some [nmA l 0] := by simp [stk, stkStep]
    rw [this]
    exact ⟨Pth.root, fun q h1 h2 => by omega⟩
  | succ i ih =>
    intro hi
    have hi' := ih (by omega)
    have hstk : stk l (i + 1 + 1) = (stk l (i + 1)).bind (stkStep l (i + 1)) := rfl
    rw [hstk]
    cases hs : stk l (i + 1) with
    | none =>
      rw [hs] at hi'
      obtain ⟨q, h1, h2, h3⟩ := hi'
      exact ⟨q, by omega, h2, h3⟩
    | some st =>
      rw [hs] at hi'
      obtain ⟨hp, hall⟩ := hi'
      rw [Option.bind_some]
      obtain ⟨a, ha⟩ : ∃ a, a = paA l ((i + 1 : Nat) : Int) := ⟨_, rfl⟩
      have hlen := hp.len
      have hwn : wnF l a (l.length + 1) ((i + 1 : Nat) - 1) = st.any (idxP a) := by
        have := hp.wn hroot a (l.length + 1) (by omega)
        rw [show (((i + 1 : Nat) : Int) - 1) = (i : Int) by omega]
        exact this
      have hrp : rplace l (i + 1) = (!decide (a.toList = []) && (decide (0 ≤ placeI l a ∧ placeI l a < ((i + 1 : Nat) : Int) ∧ kdA l (placeI l a) = 1) && (wnF l a (l.length + 1) (((i + 1 : Nat) : Int) - 1) && decide (1 ≤ dpF l (l.length + 1) ((i + 1 : Nat) : Int) 0 ∧ dpF l (l.length + 1) ((i + 1 : Nat) : Int) 0 ≤ 5)))) := by
        unfold rplace
        rw [if_neg (by omega), ha]
      rw [hwn] at hrp
      have hst : stkStep l (i + 1) st = if (st.take (fidx (idxP a) st + 1).toNat).length = 0 ∨ 5 < (st.take (fidx (idxP a) st + 1).toNat).length ∨ kdA l (placeI l a) ≠ 1 then none else some (st.take (fidx (idxP a) st + 1).toNat ++ [nmA l ((i + 1 : Nat) : Int)]) := by
        unfold stkStep
        rw [if_neg (by omega), ha]
      rw [hst]
      have hfl := fidx_lt (idxP a) st
      have hfa := fidx_any (idxP a) st
      by_cases hin : st.any (idxP a) = true
      case neg =>
        have hin2 : st.any (idxP a) = false := by simpa using hin
        have hneg : fidx (idxP a) st = -1 := fidx_neg _ _ (by rw [hin2] at hfa; have := of_decide_eq_false hfa; omega)
        rw [hneg, if_pos (Or.inl (by simp))]
        refine ⟨i + 1, Nat.le_refl _, by omega, ?_⟩
        rw [hrp, hin2]; simp
      rw [hin] at hrp hfa
      have hge : fidx (idxP a) st ≥ 0 := of_decide_eq_true hfa
      obtain ⟨m, hm⟩ : ∃ m : Nat, fidx (idxP a) st = m := ⟨(fidx (idxP a) st).toNat, by omega⟩
      rw [hm] at hfl ⊢
      rw [show ((m : Int) + 1).toNat = m + 1 by omega]
      obtain ⟨q, hq1, hq2, hq3⟩ := hp.head (m + 1) (by omega) (by omega)
      have hna : (nmA l q).toList = a.toList := by
        unfold fidx at hm
        cases e : st.findIdx? (idxP a) with
        | none => rw [e] at hm; simp only at hm; omega
        | some j =>
          rw [e] at hm
          simp only at hm
          obtain rfl : j = m := by omega
          obtain ⟨hj, hpj, _⟩ := List.findIdx?_eq_some_iff_getElem.1 e
          have : st[j] = nmA l q := by
            have h := hq3
            rw [show j + 1 - 1 = j by omega, List.getElem?_eq_getElem hj] at h
            exact Option.some.inj h
          unfold idxP at hpj
          rw [this] at hpj
          exact (by simpa using hpj : a.toList = (nmA l q).toList).symm
      have hpq : placeI l a = q := by rw [← placeI_congr l _ _ hna]; exact (hD q (by omega)).1
      have hne : ¬ a.toList = [] := by rw [← hna]; exact (hD q (by omega)).2
      have hpi : placeI l (paA l ((i + 1 : Nat) : Int)) = q := by rw [← ha]; exact hpq
      have hk := Pth.kid q (i + 1) _ hq2 hpi (by omega)
      have htl : (st.take (m + 1)).length = m + 1 := by rw [List.length_take]; omega
      have hd := hk.dp (l.length + 1) 0 (by rw [List.length_append, htl, List.length_singleton]; omega)
      rw [List.length_append, htl, List.length_singleton] at hd
      rw [hd, decide_eq_false hne, hpq] at hrp
      rw [htl, hpq]
      by_cases hc : (m + 1 = 0 ∨ 5 < m + 1 ∨ kdA l q ≠ 1)
      · rw [if_pos hc]
        refine ⟨i + 1, Nat.le_refl _, by omega, ?_⟩
        rw [hrp]
        rcases hc with hc | hc | hc
        · omega
        · rw [decide_eq_false (p := (1 ≤ (0 : Int) + ((m + 1 + 1 : Nat) : Int) - 1 ∧ _)) (by omega)]; simp
        · simp [hc]
      · rw [if_neg hc]
        have hk1 : kdA l q = 1 := by
          by_cases h : kdA l q = 1
          · exact h
          · exact absurd (Or.inr (Or.inr h)) hc
        refine ⟨hk, fun r hr h0 => ?_⟩
        by_cases e : r = i + 1
        · rw [e, hrp, decide_eq_true (p := 0 ≤ (q : Int) ∧ _) ⟨by omega, by omega, hk1⟩, decide_eq_true (p := (1 ≤ (0 : Int) + ((m + 1 + 1 : Nat) : Int) - 1 ∧ _)) (by omega)]
          rfl
        · exact hall r (by omega) h0
theorem stands_places (l : List (S48)) (hn : 0 < l.length) (hD : ∀ i : Nat, i < l.length → placeI l (nmA l i) = i ∧ (nmA l i).toList ≠ []) (h0 : (paA l 0).toList = []) : standsB l = true ↔ ∀ q, q < l.length → 0 < q → rplace l q = true := by
  have h := stk_places l hD h0 (l.length - 1) (by omega)
  rw [show l.length - 1 + 1 = l.length by omega] at h
  unfold standsB
  cases hs : stk l l.length with
  | none =>
    rw [hs] at h
    obtain ⟨q, h1, h2, h3⟩ := h
    constructor
    · intro h; simp at h
    · intro h
      rw [h q (by omega) h2] at h3
      simp at h3
  | some st =>
    rw [hs] at h
    constructor
    · intro _ q hq h0; exact h.2 q (by omega) h0
    · intro _; rfl
theorem nameB_ne (s : ByteArray) (h : nameB s = true) : s.toList ≠ [] := by
  unfold nameB at h
  simp only [Bool.and_eq_true, decide_eq_true_eq] at h
  intro he
  have := empty_size s
  rw [he] at this
  have h2 := of_decide_eq_true (this.symm.trans rfl)
  omega
theorem names_at (l : List (S48)) (i : Nat) (hi : i < l.length) : nameOk (l.map (·.f0)) i = (nameB (nmA l i) && decide (placeI l (nmA l i) = i)) := by
  unfold nameOk
  rw [placeI_self l i hi]
  have hr : rdOf ByteArray.empty (l.map (·.f0)) (i : Int) = nmA l i := by
    rw [rdOf_get _ _ _ (by simpa using hi)]
    unfold nmA
    rw [rd_in l i hi]; simp
  rw [hr]
theorem all_range {l : List (S48)} (p : S48 → Bool) : l.all p = true ↔ ∀ i : Nat, i < l.length → p (rd_T48 l i) = true := by
  rw [List.all_eq_true]
  constructor
  · intro h i hi; rw [rd_in l i hi]; exact h _ (List.getElem_mem hi)
  · intro h x hx
    obtain ⟨i, hi, rfl⟩ := List.getElem_of_mem hx
    rw [← rd_in l i hi]; exact h i hi
theorem itemB_eq (fs : List ByteArray) (l : List (S48)) (x : S48) : itemB fs l x.f1 x.f3 x.f4 x.f5 x.f6 = (rown x && (sentsB fs l x.f5 && sentsB fs l x.f6)) := by
  unfold itemB rown
  by_cases h1 : 1 ≤ x.f1 ∧ x.f1 ≤ 5
  · have h4 : decide (x.f1 = 4 ∨ x.f1 = 5) = decide (x.f1 ≥ 4) := by rw [decide_eq_decide]; omega
    rw [h4]
    generalize decide (x.f1 ≥ 4) = A
    generalize sentsB fs l x.f5 = B
    generalize sentsB fs l x.f6 = C
    generalize (if x.f1 = 5 then decide (1 ≤ x.f4 ∧ x.f4 ≤ 100) else decide (x.f4 = 0)) = D
    generalize decide (1 ≤ x.f1 ∧ x.f1 ≤ 5) = E
    generalize (x.f3 || decide (0 < x.f5.length)) = F
    cases A <;> cases B <;> cases C <;> cases D <;> cases E <;> cases F <;> rfl
  · rw [decide_eq_false h1]; simp
theorem ris_eq (fs : List ByteArray) (l : List (S48)) : risB fs l = isB fs l := by
  unfold risB isB
  by_cases hb : fs.length ≤ 6 ∧ 1 ≤ l.length ∧ l.length ≤ 16
  case neg => rw [decide_eq_false hb]; simp
  rw [decide_eq_true hb, Bool.true_and, Bool.true_and]
  congr 1
  rw [Bool.eq_iff_iff]
  have hR : rplace l 0 = planB (rd_T48 l 0).f1 (rd_T48 l 0).f2 (rd_T48 l 0).f3 (rd_T48 l 0).f5.length (rd_T48 l 0).f6.length := rfl
  have hn : namesB (l.map (·.f0)) = true ↔ ∀ i : Nat, i < l.length → nameB (nmA l i) = true ∧ placeI l (nmA l i) = i := by
    unfold namesB
    rw [List.all_eq_true]
    constructor
    · intro h i hi
      have := h i (List.mem_range.2 (by simpa using hi))
      rw [names_at l i hi] at this
      simpa using this
    · intro h i hi
      have hi' : i < l.length := by simpa using List.mem_range.1 hi
      rw [names_at l i hi']
      simpa using h i hi'
  rw [← hR]
  have hany : (!l.any fun x => !itemB fs l x.f1 x.f3 x.f4 x.f5 x.f6) = l.all (fun x => rown x && (sentsB fs l x.f5 && sentsB fs l x.f6)) := by
    rw [List.not_any_eq_all_not]
    congr 1
    funext x
    rw [Bool.not_not, itemB_eq]
  rw [hany]
  have h0 : rplace l 0 = true → (paA l 0).toList = [] := by
    intro h
    rw [hR] at h
    unfold planB at h
    simp only [Bool.and_eq_true, decide_eq_true_eq] at h
    exact h.2.1
  constructor
  · intro h
    rw [Bool.and_eq_true] at h
    obtain ⟨h1, h2⟩ := h
    have hi : ∀ i : Nat, i < l.length → nameB (nmA l i) = true ∧ placeI l (nmA l i) = i ∧ rown (rd_T48 l i) = true ∧ rplace l i = true := by
      intro i hi
      have := List.all_eq_true.1 h1 i (List.mem_range.2 hi)
      unfold ritem at this
      simpa using this
    have hp0 := (hi 0 (by omega)).2.2.2
    rw [Bool.and_eq_true, Bool.and_eq_true, Bool.and_eq_true]
    refine ⟨hn.2 (fun i h => ⟨(hi i h).1, (hi i h).2.1⟩), hp0, (stands_places l (by omega) (fun i h => ⟨(hi i h).2.1, nameB_ne _ (hi i h).1⟩) (h0 hp0)).2 (fun q hq _ => (hi q hq).2.2.2), ?_⟩
    rw [all_range] at h2 ⊢
    intro i h
    rw [(hi i h).2.2.1, Bool.true_and]
    exact h2 i h
  · intro h
    rw [Bool.and_eq_true, Bool.and_eq_true, Bool.and_eq_true] at h
    obtain ⟨h1, h2, h3, h4⟩ := h
    have hnm := hn.1 h1
    have hst := (stands_places l (by omega) (fun i h => ⟨(hnm i h).2, nameB_ne _ (hnm i h).1⟩) (h0 h2)).1 h3
    rw [all_range] at h4
    rw [Bool.and_eq_true]
    refine ⟨List.all_eq_true.2 (fun i hi => ?_), (all_range _).2 (fun i hi => ?_)⟩
    · have hi := List.mem_range.1 hi
      have := h4 i hi
      rw [Bool.and_eq_true] at this
      unfold ritem
      rw [(hnm i hi).1, (hnm i hi).2, this.1, Bool.true_and, decide_eq_true rfl, Bool.true_and, Bool.true_and]
      by_cases e : i = 0
      · rw [e]; exact h2
      · exact hst i hi (by omega)
    · have := h4 i hi
      rw [Bool.and_eq_true] at this
      exact this.2
end Go.Proofs.Ytaiglhfmmdajdaa.Pm
end
section
namespace Go.Proofs.Ytaiglhfmmdajdaa.Pm
open Go.RowKit Go.Proofs.YtaiglhfmmdajdaaW.PrintWords Go.Proofs.YtaiglhfmmdajdaaW.PrintLast Go.Proofs.YtaiglhfmmdajdaaW.PrintMore
attribute [local go_sem] max2_int min2_int max_two min_two max_three min_three max_four min_four   -- for this text's walks alone
set_option linter.unusedVariables false
set_option linter.unusedSimpArgs false
theorem legal_parts (fs : List ByteArray) (l : List (S48)) (h : isB fs l = true) : (fs.length ≤ 6 ∧ 1 ≤ l.length ∧ l.length ≤ 16) ∧ namesB fs = true ∧ (∀ i : Nat, i < l.length → ritem l i = true) ∧ (∀ i : Nat, i < l.length → sentsB fs l (rd_T48 l i).f5 = true ∧ sentsB fs l (rd_T48 l i).f6 = true) := by
  rw [← ris_eq] at h
  unfold risB at h
  rw [Bool.and_eq_true, Bool.and_eq_true, Bool.and_eq_true, decide_eq_true_eq, all_range] at h
  obtain ⟨h1, h2, h3, h4⟩ := h
  refine ⟨h1, h2, fun i hi => List.all_eq_true.1 h3 i (List.mem_range.2 hi), fun i hi => ?_⟩
  have := h4 i hi
  rw [Bool.and_eq_true] at this
  exact this
theorem legal_facts (fs : List ByteArray) (l : List (S48)) (h : isB fs l = true) : fs.length ≤ 6 ∧ 1 ≤ l.length ∧ l.length ≤ 16 ∧ (∀ i : Nat, i < l.length → placeI l (nmA l i) = i ∧ (nmA l i).toList ≠ []) ∧ (paA l 0).toList = [] ∧ ∀ q : Nat, 0 < q → q < l.length → ∃ p : Nat, p < q ∧ placeI l (paA l q) = p ∧ (paA l q).toList ≠ [] ∧ kdA l p = 1 := by
  obtain ⟨⟨h1, h2, h3⟩, -, hi, -⟩ := legal_parts fs l h
  have hr : ∀ i : Nat, i < l.length → nameB (nmA l i) = true ∧ placeI l (nmA l i) = i ∧ rplace l i = true := by
    intro i hl
    have := hi i hl
    unfold ritem at this
    rw [Bool.and_eq_true, Bool.and_eq_true, Bool.and_eq_true, decide_eq_true_eq] at this
    exact ⟨this.1, this.2.1, this.2.2.2⟩
  refine ⟨h1, h2, h3, fun i hl => ⟨(hr i hl).2.1, nameB_ne _ (hr i hl).1⟩, ?_, fun q h0 hq => ?_⟩
  · have := (hr 0 (by omega)).2.2
    rw [show rplace l 0 = planB (rd_T48 l 0).f1 (rd_T48 l 0).f2 (rd_T48 l 0).f3 (rd_T48 l 0).f5.length (rd_T48 l 0).f6.length from rfl] at this
    unfold planB at this
    simp only [Bool.and_eq_true, decide_eq_true_eq] at this
    exact this.2.1
  · have := (hr q hq).2.2
    unfold rplace at this
    rw [if_neg (by omega), Bool.and_eq_true, Bool.and_eq_true, decide_eq_true_eq, Bool.not_eq_true', decide_eq_false_iff_not] at this
    obtain ⟨e, ⟨a, b, c⟩, -⟩ := this
    obtain ⟨p, hp⟩ := Int.eq_ofNat_of_zero_le a
    rw [hp] at b c
    exact ⟨p, by omega, hp, e, c⟩
theorem fits_of (fs : List ByteArray) (l : List (S48)) (hf : fs.length ≤ 140737488351232) (hl : l.length ≤ 140737488351232) (hg : ∀ x ∈ l, goodItem x) : Fits fs l :=
  ⟨by omega, by omega, fun x hx => by
    obtain ⟨_, _, h5, h6, s5, s6⟩ := hg x hx
    exact ⟨⟨by omega, fun s hs => by obtain ⟨a, b⟩ := s5 s hs; constructor <;> omega⟩, ⟨by omega, fun s hs => by obtain ⟨a, b⟩ := s6 s hs; constructor <;> omega⟩⟩⟩
end Go.Proofs.Ytaiglhfmmdajdaa.Pm
end
section
namespace Go.Proofs.Ytaiglhfmmdajdaa.Pm
open Go.RowKit Go.Proofs.YtaiglhfmmdajdaaW.PrintWords Go.Proofs.YtaiglhfmmdajdaaW.PrintLast Go.Proofs.YtaiglhfmmdajdaaW.PrintMore
attribute [local go_sem] max2_int min2_int max_two min_two max_three min_three max_four min_four   -- for this text's walks alone
set_option linter.unusedVariables false
set_option linter.unusedSimpArgs false
theorem rd_s (l : List (S54)) (i : Nat) (h : i < l.length) : rd_T54 l (i : Int) = l[i] := by simp [rd_T54, List.getD_eq_getElem?_getD, List.getElem?_eq_getElem h]
theorem hv_add {a b c : Int} (h1 : 0 ≤ a) (h2 : a ≤ 1152921504606846976) (h3 : 0 ≤ b) (h4 : b ≤ 140737488351232) (h5 : 0 ≤ c) (h6 : c ≤ 140737488351232) : wrap64 (wrap64 (a + b) + c) = a + b + c := by
  unfold wrap64; omega
theorem hv_sum {y a b c d : Int} (h1 : 0 ≤ y) (h2 : y < 400) (a1 : 0 ≤ a) (a2 : a ≤ 140737488351232) (b1 : 0 ≤ b) (b2 : b ≤ 140737488351232) (c1 : 0 ≤ c) (c2 : c ≤ 140737488351232) (d1 : 0 ≤ d) (d2 : d ≤ 140737488351232) : wrap64 (wrap64 (wrap64 (wrap64 (y + a) + b) + wrap64 (c / 50)) + wrap64 (d / 50)) = y + a + b + c / 50 + d / 50 ∧ 0 ≤ c / 50 ∧ c / 50 ≤ 140737488351232 ∧ 0 ≤ d / 50 ∧ d / 50 ≤ 140737488351232 := by
  have e1 : 0 ≤ c / 50 ∧ c / 50 ≤ 140737488351232 := by omega
  have e2 : 0 ≤ d / 50 ∧ d / 50 ≤ 140737488351232 := by omega
  refine ⟨?_, e1.1, e1.2, e2.1, e2.2⟩
  revert e1 e2
  generalize c / 50 = c
  generalize d / 50 = d
  intro e1 e2
  rw [show wrap64 c = c by unfold wrap64; omega, show wrap64 d = d by unfold wrap64; omega, hv_add (a := y) h1 (by omega) a1 a2 b1 b2, hv_add (a := y + a + b) (by omega) (by omega) e1.1 e1.2 e2.1 e2.2]
theorem ev_hv2 (fs : List ByteArray) (l : List (S48)) (N0 : Int) (h0 : 0 ≤ N0) (x : S48) (hx : goodItem x) (i : Nat) (hi : i < l.length) (hl : l.length ≤ 140737488351232)
    (hR : ∀ y : Int, N0 ≤ y → y ≤ 1152921504606846976 → ∃ b, Ev (fun k => sentrylaw6_heavy.l0 k y (((i + 1 : Nat)) : Int) fs l) b ∧ (b = false → N0 < 400)) (d : Nat) : ∀ (j : Nat) (y : Int), j + d = x.f6.length → N0 ≤ y → y ≤ 1152921504606846976 → ∃ b, Ev (fun k => sentrylaw6_heavy.l2 k y (i : Int) (j : Int) fs l x.f0 x.f1 x.f2 x.f3 x.f4 x.f5 x.f6) b ∧ (b = false → N0 < 400) := by
  obtain ⟨_, _, _, g6, _, hs6⟩ := hx
  induction d with
  | zero =>
    intro j y hj h1 h2
    obtain ⟨b, hb, hc⟩ := hR y h1 h2
    refine ⟨b, Ev.step (f := fun k => sentrylaw6_heavy.l0 k y (((i + 1 : Nat)) : Int) fs l) (fun k => ?_) hb, hc⟩
    simp only [sentrylaw6_heavy.l2]
    rw [if_neg (by omega), wrap_lt (n := (l.length : Int)) (by omega) (by omega) (by omega)]
    rfl
  | succ d ih =>
    intro j y hj h1 h2
    by_cases hc : y < 400
    case neg =>
      obtain ⟨b, hb, hc'⟩ := hR y h1 h2
      refine ⟨b, Ev.step (f := fun k => sentrylaw6_heavy.l0 k y (((i + 1 : Nat)) : Int) fs l) (fun k => ?_) hb, hc'⟩
      simp only [sentrylaw6_heavy.l2]
      rw [if_pos (by omega), if_neg hc, wrap_lt (n := (l.length : Int)) (by omega) (by omega) (by omega)]
      rfl
    have hjl : j < x.f6.length := by omega
    obtain ⟨ga, gb⟩ := hs6 x.f6[j] (List.getElem_mem hjl)
    obtain ⟨b, hb, hc'⟩ := ih (j + 1) (y + (x.f6[j]).f0.length + (x.f6[j]).f1.length) (by omega) (by omega) (by omega)
    refine ⟨b, Ev.step (f := fun k => sentrylaw6_heavy.l2 k (y + (x.f6[j]).f0.length + (x.f6[j]).f1.length) (i : Int) (((j + 1 : Nat)) : Int) fs l x.f0 x.f1 x.f2 x.f3 x.f4 x.f5 x.f6) (fun k => ?_) hb, hc'⟩
    simp only [sentrylaw6_heavy.l2]
    rw [if_pos (by omega), if_pos hc, if_pos (by omega), rd_s _ _ hjl, hv_add (by omega) (by omega) (by omega) (by omega) (by omega) (by omega), wrap_lt (n := (x.f6.length : Int)) (by omega) (by omega) (by omega)]
    rfl
theorem ev_hv1 (fs : List ByteArray) (l : List (S48)) (N0 : Int) (h0 : 0 ≤ N0) (x : S48) (hx : goodItem x) (i : Nat) (hi : i < l.length) (hl : l.length ≤ 140737488351232)
    (hR : ∀ y : Int, N0 ≤ y → y ≤ 1152921504606846976 → ∃ b, Ev (fun k => sentrylaw6_heavy.l0 k y (((i + 1 : Nat)) : Int) fs l) b ∧ (b = false → N0 < 400)) (d : Nat) : ∀ (j : Nat) (y : Int), j + d = x.f5.length → N0 ≤ y → y ≤ 1152921504606846976 → ∃ b, Ev (fun k => sentrylaw6_heavy.l1 k y (i : Int) (j : Int) fs l x.f0 x.f1 x.f2 x.f3 x.f4 x.f5 x.f6) b ∧ (b = false → N0 < 400) := by
  have hx0 := hx
  obtain ⟨_, _, g5, _, hs5, _⟩ := hx
  have hnext : ∀ y : Int, N0 ≤ y → y ≤ 1152921504606846976 → ∃ b, Ev (fun k => sentrylaw6_heavy.j3 k y (i : Int) fs l x.f0 x.f1 x.f2 x.f3 x.f4 x.f5 x.f6) b ∧ (b = false → N0 < 400) := by
    intro y h1 h2
    obtain ⟨b, hb, hc⟩ := ev_hv2 fs l N0 h0 x hx0 i hi hl hR x.f6.length 0 y (by omega) h1 h2
    exact ⟨b, Ev.step (fun k => by simp only [sentrylaw6_heavy.j3]; rfl) hb, hc⟩
  induction d with
  | zero =>
    intro j y hj h1 h2
    obtain ⟨b, hb, hc⟩ := hnext y h1 h2
    refine ⟨b, Ev.step (fun k => ?_) hb, hc⟩
    simp only [sentrylaw6_heavy.l1]
    rw [if_neg (by omega)]
  | succ d ih =>
    intro j y hj h1 h2
    by_cases hc : y < 400
    case neg =>
      obtain ⟨b, hb, hc'⟩ := hnext y h1 h2
      refine ⟨b, Ev.step (fun k => ?_) hb, hc'⟩
      simp only [sentrylaw6_heavy.l1]
      rw [if_pos (by omega), if_neg hc]
    have hjl : j < x.f5.length := by omega
    obtain ⟨ga, gb⟩ := hs5 x.f5[j] (List.getElem_mem hjl)
    obtain ⟨b, hb, hc'⟩ := ih (j + 1) (y + (x.f5[j]).f0.length + (x.f5[j]).f1.length) (by omega) (by omega) (by omega)
    refine ⟨b, Ev.step (f := fun k => sentrylaw6_heavy.l1 k (y + (x.f5[j]).f0.length + (x.f5[j]).f1.length) (i : Int) (((j + 1 : Nat)) : Int) fs l x.f0 x.f1 x.f2 x.f3 x.f4 x.f5 x.f6) (fun k => ?_) hb, hc'⟩
    simp only [sentrylaw6_heavy.l1]
    rw [if_pos (by omega), if_pos hc, if_pos (by omega), rd_s _ _ hjl, hv_add (by omega) (by omega) (by omega) (by omega) (by omega) (by omega), wrap_lt (n := (x.f5.length : Int)) (by omega) (by omega) (by omega)]
    rfl
theorem ev_hv0 (fs : List ByteArray) (l : List (S48)) (hg : ∀ x ∈ l, goodItem x) (hl : l.length ≤ 140737488351232) (N0 : Int) (h0 : 0 ≤ N0) (d : Nat) : ∀ (i : Nat) (y : Int), i + d = l.length → N0 ≤ y → y ≤ 1152921504606846976 → ∃ b, Ev (fun k => sentrylaw6_heavy.l0 k y (i : Int) fs l) b ∧ (b = false → N0 < 400) := by
  have hend : ∀ (i : Nat) (y : Int), N0 ≤ y → ∃ b, Ev (fun k => sentrylaw6_heavy.j1 k y (i : Int) false fs l) b ∧ (b = false → N0 < 400) := by
    intro i y h1
    refine ⟨decide (y ≥ 400), Ev.step (f := fun _ => some (decide (y ≥ 400))) (fun k => by simp [sentrylaw6_heavy.j1]) (Ev.now _), fun h => ?_⟩
    have := of_decide_eq_false h
    omega
  induction d with
  | zero =>
    intro i y hi h1 h2
    obtain ⟨b, hb, hc⟩ := hend i y h1
    refine ⟨b, Ev.step (fun k => ?_) hb, hc⟩
    simp only [sentrylaw6_heavy.l0]
    rw [if_neg (by omega)]
  | succ d ih =>
    intro i y hi h1 h2
    by_cases hc : y < 400
    case neg =>
      obtain ⟨b, hb, hc'⟩ := hend i y h1
      refine ⟨b, Ev.step (fun k => ?_) hb, hc'⟩
      simp only [sentrylaw6_heavy.l0]
      rw [if_pos (by omega), decide_eq_false hc]
    have hil : i < l.length := by omega
    have hrd : rd_T48 l (i : Int) = l[i] := by simp [rd_T48, List.getD_eq_getElem?_getD, List.getElem?_eq_getElem hil]
    obtain ⟨x, hx⟩ : ∃ x, x = l[i] := ⟨_, rfl⟩
    have hgx : goodItem x := by rw [hx]; exact hg _ (List.getElem_mem hil)
    have hgx0 := hgx
    obtain ⟨g0, g2, g5, g6, _, _⟩ := hgx
    obtain ⟨z, hz⟩ : ∃ z : Int, z = y + x.f5.length + x.f6.length + (x.f0.size : Int) / 50 + (x.f2.size : Int) / 50 := ⟨_, rfl⟩
    obtain ⟨hsum, q1, q2, q3, q4⟩ := hv_sum (y := y) (a := (x.f5.length : Int)) (b := (x.f6.length : Int)) (c := (x.f0.size : Int)) (d := (x.f2.size : Int)) (by omega) hc (by omega) (by omega) (by omega) (by omega) (by omega) (by omega) (by omega) (by omega)
    rw [← hz] at hsum
    have hzb : N0 ≤ z ∧ z ≤ 1152921504606846976 := by
      clear hsum
      revert hz q1 q2 q3 q4
      generalize (x.f0.size : Int) / 50 = c
      generalize (x.f2.size : Int) / 50 = d
      intro hz q1 q2 q3 q4
      omega
    clear hz q1 q2 q3 q4
    obtain ⟨b, hb, hc'⟩ := ev_hv1 fs l N0 h0 x hgx0 i hil hl (fun y' h1' h2' => ih (i + 1) y' (by omega) h1' h2') x.f5.length 0 z (by omega) hzb.1 hzb.2
    have hb' : Ev (fun k => sentrylaw6_heavy.l1 k z (i : Int) 0 fs l x.f0 x.f1 x.f2 x.f3 x.f4 x.f5 x.f6) b := hb
    refine ⟨b, Ev.step (f := fun k => sentrylaw6_heavy.j1 k y (i : Int) true fs l) (fun k => ?_) (Ev.step (fun k => ?_) hb'), hc'⟩
    · simp only [sentrylaw6_heavy.l0]
      rw [if_pos (by omega), decide_eq_true hc]
    · simp only [sentrylaw6_heavy.j1]
      rw [if_pos trivial, if_pos (by omega), if_pos (by omega), hrd, ← hx, hsum]
theorem ev_heavy (fs : List ByteArray) (l : List (S48)) (hf : fs.length ≤ 140737488351232) (hl : l.length ≤ 140737488351232) (hg : ∀ x ∈ l, goodItem x) : ∃ b, Ev (fun k => sentrylaw6_heavy.f k fs l) b ∧ (b = false → fs.length + l.length < 400) := by
  unfold sentrylaw6_heavy.f
  rw [show wrap64 ((fs.length : Int) + (l.length : Int)) = (fs.length : Int) + (l.length : Int) by unfold wrap64; omega]
  obtain ⟨b, hb, hc⟩ := ev_hv0 fs l hg hl ((fs.length : Int) + (l.length : Int)) (by omega) l.length 0 _ (by omega) (Int.le_refl _) (by omega)
  exact ⟨b, hb, fun h => by have := hc h; omega⟩
end Go.Proofs.Ytaiglhfmmdajdaa.Pm
end
section
namespace Go.Proofs.Ytaiglhfmmdajdaa.Pm
open Go.RowKit Go.Proofs.YtaiglhfmmdajdaaW.PrintWords Go.Proofs.YtaiglhfmmdajdaaW.PrintLast Go.Proofs.YtaiglhfmmdajdaaW.PrintMore
attribute [local go_sem] max2_int min2_int max_two min_two max_three min_three max_four min_four   -- for this text's walks alone
set_option linter.unusedVariables false
set_option linter.unusedSimpArgs false
def pack_Sum.l0 : Nat → Int → Int → List Int → Int → Int → Option (Int)
 | 0, _, _, _, _, _ => none
 | k + 1, x3, x4, x7, x8, x9 => if x9 < x8 then (if 0 ≤ x9 then (if x9 < (x7.length : Int) then (pack_Sum.l0 k (((x3 + ((rd x7 x9) % 4294967296)) % 4294967296) % 65521) (((x4 + (((x3 + ((rd x7 x9) % 4294967296)) % 4294967296) % 65521)) % 4294967296) % 65521) x7 x8 (wrap64 (x9 + 1))) else (none)) else (none)) else (some (Go.bits .or .u32 ((x4 * 65536) % 4294967296) x3))
def pack_Sum.f (k : Nat) (l0 : List Int) : Option (Int) := pack_Sum.l0 k 1 0 l0 (l0.length : Int) 0
theorem pack_Sum.mono_l : ∀ k, (∀ y0 y1 y2 y3 y4, LeO (pack_Sum.l0 k y0 y1 y2 y3 y4) (pack_Sum.l0 (k + 1) y0 y1 y2 y3 y4))
 | 0 => fun _ _ _ _ _ r h => by simp [pack_Sum.l0] at h
 | k + 1 => by
  have ih0 := pack_Sum.mono_l k
  ·intro y0 y1 y2 y3 y4
   unfold pack_Sum.l0
   repeat' first
   | (with_reducible exact ih0 _ _ _ _ _)
   | (with_reducible exact LeO.refl _)
   | (with_reducible exact LeO.none _)
   | (with_reducible refine LeO.ite ?_ ?_)
   | (with_reducible refine LeO.bind ?_ (fun _ => ?_))
   | exact ih0 _ _ _ _ _
   | exact LeO.none _
   | refine LeO.ite ?_ ?_
   | refine LeO.bind ?_ (fun _ => ?_)
theorem pack_Sum.mono : ∀ a0 k, LeO (pack_Sum.f k a0) (pack_Sum.f (k + 1) a0) := by
 intro a0 k
 have ih0 := pack_Sum.mono_l k
 unfold pack_Sum.f
 repeat' first
   | (with_reducible exact ih0 _ _ _ _ _)
   | (with_reducible exact LeO.refl _)
   | (with_reducible exact LeO.none _)
   | (with_reducible refine LeO.ite ?_ ?_)
   | (with_reducible refine LeO.bind ?_ (fun _ => ?_))
   | exact ih0 _ _ _ _ _
   | exact LeO.none _
   | refine LeO.ite ?_ ?_
   | refine LeO.bind ?_ (fun _ => ?_)
set_option maxHeartbeats 8000000 in
set_option maxRecDepth 100000 in
theorem pack_Sum.calls (k : Nat) (A0 : Option Addr) (c0 : Nat) (l0 : List Int) (r : Int) (w : World) (hr0 : Kd.C (Kd.int .u8) w A0 l0.length l0) (hc0 : l0.length ≤ c0) (h : pack_Sum.f k l0 = some r) :
  Calls Try.prog 16 #[.slice A0 l0.length c0] w fun e w' => e = .returned (.int .u32 r) ∧ Drawn0 w w' := by
 have HR0 := Aside0.mk hr0
 have HC0 := Aside0.mk hc0
 clear hr0 hc0
 have H : (pack_Sum.l0 k 1 0 l0 (l0.length : Int) 0) = some r := h
 clear h
 have H' := Aside0.mk H
 clear H
 go_enter Try.func16, Try.ntmps16
 go_wp2
 go_loopg [3, 4, 9] k (fun kq v3 v4 v9 w' => ∃ (x3_1 : Int) (x4_1 : Int) (x9_1 : Int), v3 = .int .u32 x3_1 ∧ v4 = .int .u32 x4_1 ∧ v9 = .int .i64 x9_1 ∧ Aside0 (pack_Sum.l0 kq x3_1 x4_1 l0 (l0.length : Int) x9_1 = some r) ∧ Aside0 (kq ≤ k) ∧ Drawn0 w w')
 case atStart => exact ⟨(1), (0), (0), (by first | rfl | (simp; done) | (simp [*]; done)), (by first | rfl | (simp; done) | (simp [*]; done)), (by first | rfl | (simp; done) | (simp [*]; done)), H', ⟨Nat.le_refl _⟩, by repeat (first | exact Drawn0.refl _ | apply Drawn0.step)⟩
 case round =>
  clear H'
  try clear c1
  obtain ⟨x3_1, x4_1, x9_1, rfl, rfl, rfl, HA, HK1, ⟨m1, rfl⟩⟩ := hrel
  cases gk with
  | zero => exact absurd HA.out (by simp [pack_Sum.l0])
  | succ k1 =>
   have H := HA.out
   clear HA
   simp only [pack_Sum.l0] at H
   by_cases c2 : x9_1 < (l0.length : Int)
   ·rw [if_pos c2] at H
    have c2b0 : decide (x9_1 < (l0.length : Int)) = true := decide_eq_true c2
    clear c2
    by_cases c3 : 0 ≤ x9_1
    ·rw [if_pos c3] at H
     have c3b0 : decide (0 ≤ x9_1) = true := decide_eq_true c3
     clear c3
     by_cases c4 : x9_1 < (l0.length : Int)
     ·rw [if_pos c4] at H
      have c4b0 : decide (x9_1 < (l0.length : Int)) = true := decide_eq_true c4
      clear c4
      have H' := Aside0.mk H
      clear H
      have p305 : 0 ≤ (x9_1 : Int) := od_
      have q305 : x9_1 < (l0.length : Int) := od_
      obtain ⟨ad305, e305, hx305_0⟩ := Kd.at_int HR0.out x9_1 p305 q305
      cases e305
      replace p305 := eq_true p305
      replace q305 := eq_true q305
      go_wp2
      go_roundg k1
      case measure => have := HK1.out; omega
      case rel => exact ⟨(((x3_1 + ((rd l0 x9_1) % 4294967296)) % 4294967296) % 65521), (((x4_1 + (((x3_1 + ((rd l0 x9_1) % 4294967296)) % 4294967296) % 65521)) % 4294967296) % 65521), (wrap64 (x9_1 + 1)), (by first | rfl | (simp; done) | (simp [*]; done)), (by first | rfl | (simp; done) | (simp [*]; done)), (by first | rfl | (simp; done) | (simp [*]; done)), H', ⟨by have := HK1.out; omega⟩, by repeat (first | exact Drawn0.refl _ | apply Drawn0.step)⟩
     ·rw [if_neg c4] at H
      exact absurd H (by simp)
    ·rw [if_neg c3] at H
     exact absurd H (by simp)
   ·rw [if_neg c2] at H
    have c2b0 : decide (x9_1 < (l0.length : Int)) = false := decide_eq_false c2
    clear c2
    obtain rfl := Option.some.inj H
    go_wp2
    go_ret
    exact ⟨by first | rfl | (simp; done) | (simp [*]; done), by repeat (first | exact Drawn0.refl _ | apply Drawn0.step)⟩
end Go.Proofs.Ytaiglhfmmdajdaa.Pm
end
section
namespace Go.Proofs.Ytaiglhfmmdajdaa.Pm
open Go.RowKit Go.Proofs.YtaiglhfmmdajdaaW.PrintWords Go.Proofs.YtaiglhfmmdajdaaW.PrintLast Go.Proofs.YtaiglhfmmdajdaaW.PrintMore
attribute [local go_sem] max2_int min2_int max_two min_two max_three min_three max_four min_four   -- for this text's walks alone
set_option linter.unusedVariables false
set_option linter.unusedSimpArgs false
def model_Is.f (l0_0 : List ByteArray) (l0_1 : List (S48)) : Option Bool := some (isB l0_0 l0_1)
theorem model_Is.eg : ∀ args w, (callFunc 44 args).run Try.prog w = .ok (.enter 44 args) w := enters_of Try.func44 (by kernel_rfl) rfl
set_option maxHeartbeats 4000000 in
theorem model_Is.closure (b : Nat) (A0_0 : Option Addr) (c0_0 : Nat) (l0_0 : List ByteArray) (A0_1 : Option Addr) (c0_1 : Nat) (l0_1 : List (S48)) (W : World) (hm0 : W.cell? ⟨b, 0, none⟩ = some (.slice A0_0 l0_0.length c0_0)) (hm1 : W.cell? ⟨b, 1, none⟩ = some (.slice A0_1 l0_1.length c0_1))
    (hr0_0 : Kd.C Kd.string W A0_0 l0_0.length l0_0) (hc0_0 : l0_0.length ≤ c0_0) (hr0_1 : Kd.C k48 W A0_1 l0_1.length l0_1) (hc0_1 : l0_1.length ≤ c0_1) (x : S48) (cs : List Value) (hK : Kd.K k48 W x cs) :
    Calls Try.prog 44 (#[.agg cs.toArray] ++ #[.pointer (some ⟨b, 0, none⟩)]) W fun e w' => e = .returned (.bool (!itemB l0_0 l0_1 x.f1 x.f3 x.f4 x.f5 x.f6)) ∧ Below W.heap.size W w' := by
  obtain ⟨A5, c5, A6, c6, rfl, g5, h5, g6, h6⟩ := k48_open hK
  have hb := World.block_lt_of_cell? W _ hm0
  simp only at hb
  have hW1 := below_alloc (Below.refl W.heap.size W) (.cells #[.string x.f0, .int .i64 x.f1, .string x.f2, .bool x.f3, .int .i64 x.f4, .slice A5 x.f5.length c5, .slice A6 x.f6.length c6] 48)
  have hif := model_isItem.calls 1 A0_0 c0_0 l0_0 A0_1 c0_1 l0_1 x.f0 x.f1 x.f2 x.f3 x.f4 A5 c5 x.f5 A6 c6 x.f6 _ _ (Kd.C_below hr0_0 hW1) hc0_0 (Kd.C_below hr0_1 hW1) hc0_1 (Kd.C_below h5 hW1) g5 (Kd.C_below h6 hW1) g6 (isItem_eq l0_0 l0_1 x.f0 x.f1 x.f2 x.f3 x.f4 x.f5 x.f6)
  have HW := Lib.hid hW1
  clear hr0_0 hr0_1 hW1 hK h5 h6
  obtain ⟨T, hT⟩ : ∃ T, T = itemB l0_0 l0_1 x.f1 x.f3 x.f4 x.f5 x.f6 := ⟨_, rfl⟩
  rw [← hT] at hif ⊢
  clear hT
  have hu36 := Try.underlying25
  have hu32 := Try.underlying48
  go_enter Try.func44, Try.ntmps44
  go_wp2_with (go_at_call 45; refine hif.mono ?_; rintro e w' ⟨rfl, hb'⟩)
  go_ret
  exact ⟨rfl, keepb hb' HW.out⟩
set_option maxHeartbeats 8000000 in
set_option maxRecDepth 100000 in
theorem model_Is.calls (A0_0 : Option Addr) (c0_0 : Nat) (l0_0 : List ByteArray) (A0_1 : Option Addr) (c0_1 : Nat) (l0_1 : List (S48)) (r : Bool) (w : World) (hr0_0 : Kd.C Kd.string w A0_0 l0_0.length l0_0) (hc0_0 : l0_0.length ≤ c0_0) (hr0_1 : Kd.C k48 w A0_1 l0_1.length l0_1) (hc0_1 : l0_1.length ≤ c0_1) (h : model_Is.f l0_0 l0_1 = some r) :
    Calls Try.prog 24 #[.agg #[.slice A0_0 l0_0.length c0_0, .slice A0_1 l0_1.length c0_1]] w fun e w' => e = .returned (.bool r) ∧ Below w.heap.size w w' := by
  obtain rfl := Option.some.inj h
  clear h
  have hu36 := Try.underlying25
  have hu32 := Try.underlying48
  have HR := Lib.hid (And.intro hr0_0 hr0_1)
  clear hr0_0 hr0_1
  have W1 := below_alloc (Below.refl w.heap.size w) (.cells #[.slice A0_0 l0_0.length c0_0, .slice A0_1 l0_1.length c0_1] 25)
  have HW1 := Lib.hid W1
  clear W1
  by_cases hA : 6 < l0_0.length
  · have e : isB l0_0 l0_1 = false := by simp [isB]; omega
    rw [e]
    have hA' : (6 : Int) < l0_0.length := by omega
    clear e
    go_enter Try.func24, Try.ntmps24
    go_wp2
    go_ret
    exact ⟨rfl, HW1.out⟩
  have hA' : ¬ (6 : Int) < l0_0.length := by omega
  by_cases hB : l0_1.length < 1
  · have e : isB l0_0 l0_1 = false := by simp [isB]; omega
    rw [e]
    have hB' : (l0_1.length : Int) < 1 := by omega
    clear e
    go_enter Try.func24, Try.ntmps24
    go_wp2
    go_ret
    exact ⟨rfl, HW1.out⟩
  have hB' : ¬ (l0_1.length : Int) < 1 := by omega
  by_cases hC : 16 < l0_1.length
  · have e : isB l0_0 l0_1 = false := by simp [isB]; omega
    rw [e]
    have hC' : (16 : Int) < l0_1.length := by omega
    clear e
    go_enter Try.func24, Try.ntmps24
    go_wp2
    go_ret
    exact ⟨rfl, HW1.out⟩
  have hC' : ¬ (16 : Int) < l0_1.length := by omega
  have hd : decide (l0_0.length ≤ 6 ∧ 1 ≤ l0_1.length ∧ l0_1.length ≤ 16) = true := decide_eq_true (by omega)
  obtain ⟨P0, hP0⟩ : ∃ P, P = planB (rd_T48 l0_1 0).f1 (rd_T48 l0_1 0).f2 (rd_T48 l0_1 0).f3 (rd_T48 l0_1 0).f5.length (rd_T48 l0_1 0).f6.length := ⟨_, rfl⟩
  obtain ⟨T0, hT0⟩ : ∃ T, T = l0_1.any (fun x => !itemB l0_0 l0_1 x.f1 x.f3 x.f4 x.f5 x.f6) := ⟨_, rfl⟩
  have hI : isB l0_0 l0_1 = (namesB l0_0 && (namesB (l0_1.map (·.f0)) && (P0 && (standsB l0_1 && !T0)))) := by
    unfold isB
    rw [hd, ← hP0, ← hT0]; rfl
  have HI := Lib.hid hI
  have HP := Lib.hid (And.intro hP0 hT0)
  clear hI hd hP0 hT0
  -- the world behind the box
  obtain ⟨W1, hW1⟩ : ∃ W, W = w.alloc (.cells #[.slice A0_0 l0_0.length c0_0, .slice A0_1 l0_1.length c0_1] 25) := ⟨_, rfl⟩
  have hm0 : W1.cell? ⟨w.heap.size, 0, none⟩ = some (.slice A0_0 l0_0.length c0_0) := by rw [hW1]; simp
  have hm1 : W1.cell? ⟨w.heap.size, 1, none⟩ = some (.slice A0_1 l0_1.length c0_1) := by rw [hW1]; simp
  have hb1 : Below w.heap.size w W1 := by rw [hW1]; exact HW1.out
  have H1 := Lib.hid (And.intro hm0 (And.intro hm1 hb1))
  have HE1 := Lib.hid hW1
  have hn1 := fun (W : World) (hb : Below w.heap.size w W) => model_areNames.calls A0_0 c0_0 l0_0 _ W (Kd.C_below HR.out.1 hb) hc0_0 rfl
  have hn1' := hn1 W1 hb1
  clear hn1 hW1 hm0 hm1 hb1
  go_enter Try.func24, Try.ntmps24
  go_wp2_with fail
  rw [← HE1.out]
  go_at_call 39
  cases hq1 : namesB l0_0 with
  | false =>
    rw [hq1] at hn1' HI
    have HI2 : Hid (isB l0_0 l0_1 = false) := Lib.hid (by rw [HI.out]; rfl)
    clear hq1 HI
    refine hn1'.mono ?_
    rintro e w2 ⟨rfl, hb2⟩
    have HB := Lib.hid (keepb hb2 H1.out.2.2)
    clear hn1' hb2
    go_wp2
    go_ret
    exact ⟨by rw [HI2.out]; rfl, HB.out⟩
  | true =>
  rw [hq1] at hn1' HI
  clear hq1
  refine hn1'.mono ?_
  rintro e w2 ⟨rfl, hb2⟩
  have hm0 := keepc hb2 H1.out.1
  have hm1 := keepc hb2 H1.out.2.1
  have HB2 := Lib.hid (And.intro (keepb hb2 H1.out.2.2) (And.intro hm0 hm1))
  clear hn1' hb2
  have hids := model_ids.calls (l0_1.length + 1) A0_0 c0_0 l0_0 A0_1 c0_1 l0_1 _ w2 (Kd.C_below HR.out.1 HB2.out.1) hc0_0 (Kd.C_below HR.out.2 HB2.out.1) hc0_1 (ids_eq l0_0 l0_1 (by omega) (l0_1.length + 1) (by omega))
  go_wp2_with fail
  go_at_call 40
  refine hids.mono ?_
  rintro e w3 ⟨v3, rfl, hR3, hb3⟩
  obtain ⟨A3, c3, rfl, hl3, hC3⟩ := Kd.R_reads hR3
  have hn2 := model_areNames.calls A3 c3 (l0_1.map (·.f0)) _ w3 hC3 hl3 rfl
  rw [List.length_map] at hn2
  have hm03 := keepc hb3 hm0
  have hm13 := keepc hb3 hm1
  have HB3 := Lib.hid (And.intro (keepb hb3 HB2.out.1) (And.intro hm03 hm13))
  clear hids hR3 hb3 hC3 hm0 hm1
  go_wp2_with fail
  go_at_call 39
  cases hq2 : namesB (l0_1.map (·.f0)) with
  | false =>
    rw [hq2] at hn2 HI
    have HI2 : Hid (isB l0_0 l0_1 = false) := Lib.hid (by rw [HI.out]; rfl)
    clear hq2 HI
    refine hn2.mono ?_
    rintro e w4 ⟨rfl, hb4⟩
    have HB := Lib.hid (keepb hb4 HB3.out.1)
    clear hn2 hb4
    go_wp2
    go_ret
    exact ⟨by rw [HI2.out]; rfl, HB.out⟩
  | true =>
  rw [hq2] at hn2 HI
  clear hq2
  refine hn2.mono ?_
  rintro e w4 ⟨rfl, hb4⟩
  have hm04 := keepc hb4 hm03
  have hm14 := keepc hb4 hm13
  have HB4 := Lib.hid (And.intro (keepb hb4 HB3.out.1) (And.intro hm04 hm14))
  obtain ⟨ad, B5, d5, B6, d6, e, hx0, hx1, hx2, hx3, hx4, hx5, hx6, g5, h5, g6, h6⟩ := at_T48 HR.out.2 (0 : Int) (by omega) (by omega)
  cases e
  obtain ⟨x, hx⟩ : ∃ x, x = rd_T48 l0_1 (0 : Int) := ⟨_, rfl⟩
  rw [← hx] at hx0 hx1 hx2 hx3 hx4 hx5 hx6 g5 h5 g6 h6 HP
  have hip := model_isPlan.calls x.f0 x.f1 x.f2 x.f3 x.f4 B5 d5 x.f5 B6 d6 x.f6 _ w4 (Kd.C_below h5 HB4.out.1) g5 (Kd.C_below h6 HB4.out.1) g6 (isPlan_eq x.f0 x.f1 x.f2 x.f3 x.f4 x.f5 x.f6 h5.2.1 h6.2.1)
  rw [← HP.out.1] at hip
  replace hx0 := keepc HB4.out.1 hx0
  replace hx1 := keepc HB4.out.1 hx1
  replace hx2 := keepc HB4.out.1 hx2
  replace hx3 := keepc HB4.out.1 hx3
  replace hx4 := keepc HB4.out.1 hx4
  replace hx5 := keepc HB4.out.1 hx5
  replace hx6 := keepc HB4.out.1 hx6
  rw [show (0 : Int).toNat * 7 = 0 by rfl, show ad.add 0 = ad by simp [Addr.add]] at hx0 hx1 hx2 hx3 hx4 hx5 hx6
  have hl0 : (0 : Int) < l0_1.length := by omega
  clear hx hn2 hb4 hm03 hm13 h5 h6 g5 g6
  go_wp2_with fail
  go_at_call 41
  have HBox := Lib.hid (And.intro hm04 hm14)
  clear hx0 hx1 hx2 hx3 hx4 hx5 hx6
  cases P0 with
  | false =>
    have HI2 : Hid (isB l0_0 l0_1 = false) := Lib.hid (by rw [HI.out]; rfl)
    clear HI
    refine hip.mono ?_
    rintro e w5 ⟨rfl, hb5⟩
    have HB := Lib.hid (keepb hb5 HB4.out.1)
    clear hip hb5
    go_wp2
    go_ret
    exact ⟨by rw [HI2.out]; rfl, HB.out⟩
  | true =>
  refine hip.mono ?_
  rintro e w5 ⟨rfl, hb5⟩
  have hm05 := keepc hb5 HBox.out.1
  have hm15 := keepc hb5 HBox.out.2
  have hb5w := keepb hb5 HB4.out.1
  have hst := model_stands.calls A0_0 c0_0 l0_0 (some ad) c0_1 l0_1 _ w5 (Kd.C_below HR.out.1 hb5w) hc0_0 (Kd.C_below HR.out.2 hb5w) hc0_1 rfl
  have HB5 := Lib.hid hb5w
  clear hip hb5 hm04 hm14 hb5w
  go_wp2_with fail
  go_at_call 42
  have HBox5 := Lib.hid (And.intro hm05 hm15)
  cases hq3 : standsB l0_1 with
  | false =>
    rw [hq3] at hst HI
    have HI2 : Hid (isB l0_0 l0_1 = false) := Lib.hid (by rw [HI.out]; rfl)
    clear HI hq3
    refine hst.mono ?_
    rintro e w6 ⟨rfl, hb6⟩
    have HB := Lib.hid (keepb hb6 HB5.out)
    clear hst hb6
    go_wp2
    go_ret
    exact ⟨by rw [HI2.out]; rfl, HB.out⟩
  | true =>
  rw [hq3] at hst HI
  clear hq3
  refine hst.mono ?_
  rintro e w6 ⟨rfl, hb6⟩
  have hm06 := keepc hb6 hm05
  have hm16 := keepc hb6 hm15
  have hb6w := keepb hb6 HB5.out
  have hany := anyItem (some ad) c0_1 l0_1 w6 (Kd.C_below HR.out.2 hb6w) hc0_1 44 #[.pointer (some ⟨w.heap.size, 0, none⟩)] model_Is.eg (fun x => !itemB l0_0 l0_1 x.f1 x.f3 x.f4 x.f5 x.f6) (fun W x cs hx hb hK => model_Is.closure w.heap.size A0_0 c0_0 l0_0 (some ad) c0_1 l0_1 W (keepc hb hm06) (keepc hb hm16) (Kd.C_below (Kd.C_below HR.out.1 hb6w) hb) hc0_0 (Kd.C_below (Kd.C_below HR.out.2 hb6w) hb) hc0_1 x cs hK)
  rw [← HP.out.2] at hany
  have HB6 := Lib.hid hb6w
  clear hst hb6 hm05 hm15 hb6w
  go_wp2_with fail
  go_at_call 43
  refine hany.mono ?_
  rintro e w7 ⟨rfl, hb7⟩
  have HB := Lib.hid (keepb hb7 HB6.out)
  clear hany hb7
  go_wp2
  go_ret
  exact ⟨by rw [HI.out]; rfl, HB.out⟩
end Go.Proofs.Ytaiglhfmmdajdaa.Pm
end
section
namespace Go.Proofs.Ytaiglhfmmdajdaa.Pm
open Go.RowKit Go.Proofs.YtaiglhfmmdajdaaW.PrintWords Go.Proofs.YtaiglhfmmdajdaaW.PrintLast Go.Proofs.YtaiglhfmmdajdaaW.PrintMore
attribute [local go_sem] max2_int min2_int max_two min_two max_three min_three max_four min_four   -- for this text's walks alone
set_option linter.unusedVariables false
set_option linter.unusedSimpArgs false
def sentryref6_Sum.l0 : Nat → List Int → Int → Int → Int → Option (Int)
 | 0, _, _, _, _ => none
 | k + 1, x0, x3, x4, x5 => if x5 < (x0.length : Int) then (if 0 ≤ x5 then (sentryref6_Sum.l0 k x0 (((x3 + ((rd x0 x5) % 4294967296)) % 4294967296) % 65521) (((x4 + (((x3 + ((rd x0 x5) % 4294967296)) % 4294967296) % 65521)) % 4294967296) % 65521) (wrap64 (x5 + 1))) else (none)) else (some (Go.bits .or .u32 ((x4 * 65536) % 4294967296) x3))
def sentryref6_Sum.f (k : Nat) (l0 : List Int) : Option (Int) := sentryref6_Sum.l0 k l0 1 0 0
theorem sentryref6_Sum.mono_l : ∀ k, (∀ y0 y1 y2 y3, LeO (sentryref6_Sum.l0 k y0 y1 y2 y3) (sentryref6_Sum.l0 (k + 1) y0 y1 y2 y3))
 | 0 => fun _ _ _ _ r h => by simp [sentryref6_Sum.l0] at h
 | k + 1 => by
  have ih0 := sentryref6_Sum.mono_l k
  ·intro y0 y1 y2 y3
   unfold sentryref6_Sum.l0
   repeat' first
   | (with_reducible exact ih0 _ _ _ _)
   | (with_reducible exact LeO.refl _)
   | (with_reducible exact LeO.none _)
   | (with_reducible refine LeO.ite ?_ ?_)
   | (with_reducible refine LeO.bind ?_ (fun _ => ?_))
   | exact ih0 _ _ _ _
   | exact LeO.none _
   | refine LeO.ite ?_ ?_
   | refine LeO.bind ?_ (fun _ => ?_)
theorem sentryref6_Sum.mono : ∀ a0 k, LeO (sentryref6_Sum.f k a0) (sentryref6_Sum.f (k + 1) a0) := by
 intro a0 k
 have ih0 := sentryref6_Sum.mono_l k
 unfold sentryref6_Sum.f
 repeat' first
   | (with_reducible exact ih0 _ _ _ _)
   | (with_reducible exact LeO.refl _)
   | (with_reducible exact LeO.none _)
   | (with_reducible refine LeO.ite ?_ ?_)
   | (with_reducible refine LeO.bind ?_ (fun _ => ?_))
   | exact ih0 _ _ _ _
   | exact LeO.none _
   | refine LeO.ite ?_ ?_
   | refine LeO.bind ?_ (fun _ => ?_)
set_option maxHeartbeats 8000000 in
set_option maxRecDepth 100000 in
theorem sentryref6_Sum.calls (k : Nat) (A0 : Option Addr) (c0 : Nat) (l0 : List Int) (r : Int) (w : World) (hr0 : Kd.C (Kd.int .u8) w A0 l0.length l0) (hc0 : l0.length ≤ c0) (h : sentryref6_Sum.f k l0 = some r) :
  Calls Try.prog 17 #[.slice A0 l0.length c0] w fun e w' => e = .returned (.int .u32 r) ∧ Drawn0 w w' := by
 have HR0 := Aside0.mk hr0
 have HC0 := Aside0.mk hc0
 clear hr0 hc0
 have H : (sentryref6_Sum.l0 k l0 1 0 0) = some r := h
 clear h
 have H' := Aside0.mk H
 clear H
 go_enter Try.func17, Try.ntmps17
 go_wp2
 go_loopg [3, 4, 5] k (fun kq v3 v4 v5 w' => ∃ (x3_1 : Int) (x4_1 : Int) (x5_1 : Int), v3 = .int .u32 x3_1 ∧ v4 = .int .u32 x4_1 ∧ v5 = .int .i64 x5_1 ∧ Aside0 (sentryref6_Sum.l0 kq l0 x3_1 x4_1 x5_1 = some r) ∧ Aside0 (kq ≤ k) ∧ Drawn0 w w')
 case atStart => exact ⟨(1), (0), (0), (by first | rfl | (simp; done) | (simp [*]; done)), (by first | rfl | (simp; done) | (simp [*]; done)), (by first | rfl | (simp; done) | (simp [*]; done)), H', ⟨Nat.le_refl _⟩, by repeat (first | exact Drawn0.refl _ | apply Drawn0.step)⟩
 case round =>
  clear H'
  try clear c1
  obtain ⟨x3_1, x4_1, x5_1, rfl, rfl, rfl, HA, HK1, ⟨m1, rfl⟩⟩ := hrel
  cases gk with
  | zero => exact absurd HA.out (by simp [sentryref6_Sum.l0])
  | succ k1 =>
   have H := HA.out
   clear HA
   simp only [sentryref6_Sum.l0] at H
   by_cases c2 : x5_1 < (l0.length : Int)
   ·rw [if_pos c2] at H
    have c2b0 : decide (x5_1 < (l0.length : Int)) = true := decide_eq_true c2
    clear c2
    by_cases c3 : 0 ≤ x5_1
    ·rw [if_pos c3] at H
     have c3b0 : decide (0 ≤ x5_1) = true := decide_eq_true c3
     clear c3
     have H' := Aside0.mk H
     clear H
     have p155 : 0 ≤ (x5_1 : Int) := od_
     have q155 : x5_1 < (l0.length : Int) := od_
     obtain ⟨ad155, e155, hx155_0⟩ := Kd.at_int HR0.out x5_1 p155 q155
     cases e155
     replace p155 := eq_true p155
     replace q155 := eq_true q155
     go_wp2
     go_roundg k1
     case measure => have := HK1.out; omega
     case rel => exact ⟨(((x3_1 + ((rd l0 x5_1) % 4294967296)) % 4294967296) % 65521), (((x4_1 + (((x3_1 + ((rd l0 x5_1) % 4294967296)) % 4294967296) % 65521)) % 4294967296) % 65521), (wrap64 (x5_1 + 1)), (by first | rfl | (simp; done) | (simp [*]; done)), (by first | rfl | (simp; done) | (simp [*]; done)), (by first | rfl | (simp; done) | (simp [*]; done)), H', ⟨by have := HK1.out; omega⟩, by repeat (first | exact Drawn0.refl _ | apply Drawn0.step)⟩
    ·rw [if_neg c3] at H
     exact absurd H (by simp)
   ·rw [if_neg c2] at H
    have c2b0 : decide (x5_1 < (l0.length : Int)) = false := decide_eq_false c2
    clear c2
    obtain rfl := Option.some.inj H
    go_wp2
    go_ret
    exact ⟨by first | rfl | (simp; done) | (simp [*]; done), by repeat (first | exact Drawn0.refl _ | apply Drawn0.step)⟩
end Go.Proofs.Ytaiglhfmmdajdaa.Pm
end
section
namespace Go.Proofs.Ytaiglhfmmdajdaa.Pm
open Go.RowKit Go.Proofs.YtaiglhfmmdajdaaW.PrintWords Go.Proofs.YtaiglhfmmdajdaaW.PrintLast Go.Proofs.YtaiglhfmmdajdaaW.PrintMore
attribute [local go_sem] max2_int min2_int max_two min_two max_three min_three max_four min_four   -- for this text's walks alone
set_option linter.unusedVariables false
set_option linter.unusedSimpArgs false
def sumSt : List Int → Int → Int → Int × Int
  | [], a, c => (a, c)
  | x :: l, a, c => sumSt l (((a + (x % 4294967296)) % 4294967296) % 65521) (((c + (((a + (x % 4294967296)) % 4294967296) % 65521)) % 4294967296) % 65521)
def sumL (l : List Int) : Int := Go.bits .or .u32 (((sumSt l 1 0).2 * 65536) % 4294967296) (sumSt l 1 0).1
theorem ref_sum_at (l : List Int) (hn : l.length ≤ 9223372036854775806) (d : Nat) : ∀ (i k : Nat) (a c : Int), i + d = l.length → d < k → sentryref6_Sum.l0 k l a c i = some (Go.bits .or .u32 (((sumSt (l.drop i) a c).2 * 65536) % 4294967296) (sumSt (l.drop i) a c).1) := by
  induction d with
  | zero =>
    intro i k a c hi hk
    obtain ⟨k, rfl⟩ : ∃ m, k = m + 1 := ⟨k - 1, by omega⟩
    simp only [sentryref6_Sum.l0]
    rw [if_neg (by omega), List.drop_eq_nil_of_le (by omega)]
    rfl
  | succ d ih =>
    intro i k a c hi hk
    obtain ⟨k, rfl⟩ : ∃ m, k = m + 1 := ⟨k - 1, by omega⟩
    simp only [sentryref6_Sum.l0]
    rw [if_pos (by omega), if_pos (by omega), List.drop_eq_getElem_cons (by omega)]
    have hw : wrap64 ((i : Int) + 1) = ((i + 1 : Nat) : Int) := by unfold wrap64; omega
    have hr : rd l (i : Int) = l[i] := by simp [rd, List.getD_eq_getElem?_getD, List.getElem?_eq_getElem (show i < l.length by omega)]
    rw [hw, hr, ih (i + 1) k _ _ (by omega) (by omega)]
    rfl
theorem ref_sum (l : List Int) (hn : l.length ≤ 9223372036854775806) (k : Nat) (hk : l.length < k) : sentryref6_Sum.f k l = some (sumL l) := ref_sum_at l hn l.length 0 k 1 0 (by omega) hk
def sealL (l : List Int) : List Int := [83, 78, 84, 49] ++ [(sumL l / 16777216) % 256, (sumL l / 65536) % 256, (sumL l / 256) % 256, sumL l % 256] ++ l
/-- The world behind a conversion of bytes to bytes. -/
def markW (W : World) (a : Addr) : World := match W.shape? a.block with | some (_, n) => W.freeze ⟨a.block, n, none⟩ 1 | none => W
theorem kcv {P : Program} (t e : TypeId) (ht : P.underlying t = some (.slice e)) (he : P.underlying e = some (.int .u8)) (W : World) (a : Addr) (n c : Nat) : (convert t t (.slice (some a) n c)).run P W = .ok (.slice (some a) n c) (markW W a) := by
  unfold markW
  cases hs : W.shape? a.block with
  | none => simp [convert, run_underlying ht, run_underlying he, markStringish, hs, Result.andThen]
  | some p =>
    obtain ⟨e', m⟩ := p
    simp [convert, run_underlying ht, run_underlying he, markStringish, hs, Result.andThen]
theorem mark_below {B : Nat} {w W : World} (h : Below B w W) {a : Addr} (ha : B ≤ a.block) : Below B w (markW W a) := by
  unfold markW
  split
  · exact Lib.below_freeze (p := ⟨a.block, _, none⟩) h ha 1
  · exact h
theorem mark_cell (W : World) (a b : Addr) : (markW W a).cell? b = W.cell? b := by
  unfold markW
  split
  · unfold World.freeze World.cell?
    simp only [Nat.succ_ne_zero, ↓reduceIte, Array.getElem?_modify]
    by_cases h : a.block = b.block
    · rw [if_pos h]
      cases W.heap[b.block]? with
      | none => rfl
      | some o => cases o <;> rfl
    · rw [if_neg h]
  · rfl
theorem mark_C {W : World} {a : Addr} {A : Option Addr} {n : Nat} {xs : List Int} (h : Kd.C (Kd.int .u8) W A n xs) : Kd.C (Kd.int .u8) (markW W a) A n xs := by
  obtain ⟨h1, h2, h3⟩ := h
  refine ⟨h1, h2, fun hp => ?_⟩
  obtain ⟨ad, e, hc⟩ := h3 hp
  refine ⟨ad, e, fun j p hj => ?_⟩
  obtain ⟨c, hl, hK, hcc⟩ := hc j p hj
  exact ⟨c, hl, hK, fun i u hu => (mark_cell _ _ _).trans (hcc i u hu)⟩
theorem lit_reads (W : World) (b : Nat) (hb : b = W.heap.size) (e : TypeId) (xs : List Int) (hl : xs.length ≤ 9223372036854775807) : Kd.C (Kd.int .u8) (W.alloc (.cells (nums .u8 xs).toArray e)) (some ⟨b, 0, none⟩) xs.length xs := by
  subst hb
  refine ⟨rfl, hl, fun _ => ⟨_, rfl, fun j p hj => ⟨[.int .u8 p], rfl, rfl, fun i u hu => ?_⟩⟩⟩
  cases i with
  | succ i => simp at hu
  | zero =>
    cases hu
    rw [add_plain]
    have : j < xs.length := (List.getElem?_eq_some_iff.1 hj).1
    have e2 : xs[j]? = some p := hj
    show (W.alloc (.cells (nums .u8 xs).toArray e)).cell? ⟨W.heap.size, j * 1 + 0, none⟩ = _
    unfold World.cell?
    rw [show (⟨W.heap.size, j * 1 + 0, none⟩ : Addr).block = W.heap.size from rfl, heap_alloc_new]
    simp [nums, e2]
/-- append to a row that is full and only read: a new row of one's own. -/
theorem append_read_k {ops : Array Oper} {Q : Exit → Act → World → Prop} {rest : List Oper} {o : Oper} {a : Act} {W : World} (hgd : o.guard = none) (s x : Operand) (ho : o.op = .call { callee := .builtin .append, args := #[s, x], argTypes := #[26, 26] }) (ad : Addr) (n : Nat) (xs : List Int) (A2 : Option Addr) (m c2 : Nat) (ys : List Int) (hs : a.eval s = .slice (some ad) n n) (hx : a.eval x = .slice A2 m c2)
    (h1 : Kd.C (Kd.int .u8) W (some ad) n xs) (h2 : Kd.C (Kd.int .u8) W A2 m ys) (hm : 0 < m) (hl : n + m ≤ 140737488355328) (B : Nat) (hB : B ≤ W.heap.size)
    (h : ∀ v' w', Kd.R (Kd.int .u8) 5 w' B (fun _ => True) v' (xs ++ ys) → Below W.heap.size W w' → wpList Try.prog ops Q rest (a.put o.dst v') w') : wpList Try.prog ops Q (o :: rest) a W := by
  obtain ⟨i0, hi0, hz0, hz1, hz2⟩ := info_parts info5
  have hc : ∀ {A : Option Addr} {n : Nat} {xs : List Int} (ad : Addr) (_ : A = some ad) (_ : Kd.C (Kd.int .u8) W A n xs), ∀ (j : Nat) (u : Value), (encs (Value.int .u8) xs)[j]? = some u → W.cell? (ad.add j) = some u := by
    intro A n xs ad e hC j u hj
    have hjl : j < xs.length := by simpa [encs] using (List.getElem?_eq_some_iff.1 hj).1
    have hn := hC.1
    obtain ⟨ad', c, e', _, hK, hcc⟩ := Kd.C_get hC (0 : Int) (j : Int) (by omega) (by omega)
    rw [e] at e'
    cases e'
    obtain rfl : c = [.int .u8 (xs.getD j 0)] := hK
    have h1 := hcc 0 _ rfl
    have hu : u = .int .u8 (xs.getD j 0) := by
      simp [encs, List.getElem?_map, List.getElem?_eq_getElem hjl] at hj
      rw [List.getD_eq_getElem?_getD, List.getElem?_eq_getElem hjl]
      exact hj.symm
    rw [hu]
    simpa [Kd.int, Kd.scalar] using h1
  obtain ⟨ad2, rfl, -⟩ := h2.2.2 hm
  have hl1 := h1.1
  have hl2 := h2.1
  obtain ⟨v', w', hr, how, hg⟩ := run_append_arg_grows (P := Try.prog) (w := W) 26 o.type 5 i0 (.int .u8 0) 1 1 Try.underlying26 hi0 hz0 hz1 hz2 rfl (by decide) ad n n (encs (Value.int .u8) xs) (by simp [encs, hl1]) (hc ad rfl h1) ad2 m c2 (encs (Value.int .u8) ys) (by simp [encs, hl2]) (hc ad2 rfl h2) (by omega) (by simp [maxLen]; omega) (by omega)
  have hrun : (execOp a.eval o).run Try.prog W = .ok (.value v') w' := by
    unfold execOp
    simp only [ho, resolve, invoke, builtin, Sem.run_bind, Sem.run_pure, Result.andThen_ok, List.map_toArray, List.map_cons, List.map_nil, hs, hx, hr]
  refine Kd.event_run hgd hrun (h v' w' ?_ ?_)
  · refine Kd.R_of_own (own_weaken (by rw [List.length_append, hl1, hl2]; simpa [encs] using how) (by omega)) (fun _ _ => trivial)
  · exact (Below.refl _ _).grown hg (Nat.le_refl _) (by simp)
def sentryref6_Seal.f (l0 : List Int) : Option (List Int) := if l0.length ≤ 140737488355000 then some (sealL l0) else none
set_option maxHeartbeats 4000000 in
set_option maxRecDepth 100000 in
theorem sentryref6_Seal.calls (A0 : Option Addr) (c0 : Nat) (l0 : List Int) (r : List Int) (w : World) (hr0 : Kd.C (Kd.int .u8) w A0 l0.length l0) (hc0 : l0.length ≤ c0) (h : sentryref6_Seal.f l0 = some r) :
    Calls Try.prog 23 #[.slice A0 l0.length c0] w fun e w' => ∃ v0_ : Value, e = .returned (v0_) ∧ Kd.R (Kd.int .u8) 5 w' w.heap.size (fun _ => True) v0_ r ∧ Below w.heap.size w w' := by
  unfold sentryref6_Seal.f at h
  split at h
  case isFalse => cases h
  rename_i hs
  obtain rfl := Option.some.inj h
  clear h
  have hsum := sentryref6_Sum.calls (l0.length + 1) A0 c0 l0 _ w hr0 hc0 (ref_sum l0 (by omega) _ (by omega))
  unfold sealL
  obtain ⟨s, hss⟩ : ∃ s, s = sumL l0 := ⟨_, rfl⟩
  rw [← hss] at hsum ⊢
  clear hss
  obtain ⟨n, hn⟩ : ∃ n, n = l0.length := ⟨_, rfl⟩
  have HR := Lib.hid hr0
  have HN := Lib.hid hn
  rw [← hn] at hsum hs hc0 ⊢
  clear hn hr0
  have kb := fun W a n c => kcv (P := Try.prog) 26 5 Try.underlying26 Try.underlying5 W a n c
  go_enter Try.func23, Try.ntmps23
  go_wp2_with fail
  refine hsum.mono ?_
  rintro e w1 ⟨rfl, ⟨nd, rfl⟩⟩
  have HB := Lib.hid (pw_below_drewN (Below.refl w.heap.size w) nd)
  clear hsum
  generalize w.drewN nd = w1 at HB ⊢
  go_wp2_with (first | ((with_reducible refine gate_builtin (b := .append) (xs := #[.tmp 7, .tmp 19]) rfl ?_); at_builtin; refine append_read_k rfl (.tmp 7) (.tmp 19) rfl ⟨w1.heap.size, 0, none⟩ 4 [83, 78, 84, 49] _ _ _ [(s / 16777216) % 256, (s / 65536) % 256, (s / 256) % 256, s % 256] rfl rfl (Kd.C_alloc (mark_C (lit_reads w1 _ rfl 5 [83, 78, 84, 49] (by decide))) _) (lit_reads _ _ rfl 5 [(s / 16777216) % 256, (s / 65536) % 256, (s / 256) % 256, s % 256] (by simp)) (by decide) (by decide) w.heap.size (below_alloc (mark_below (below_alloc HB.out _) HB.out.size) _).size ?_; intro v2 w2 hR2 hB2; have hBB := keepb hB2 (below_alloc (mark_below (below_alloc HB.out _) HB.out.size) _)) | ((with_reducible refine gate_builtin (b := .append) (xs := #[.tmp 20, .tmp 21]) rfl ?_); at_builtin; refine Kd.R_append_rows (Kd.int .u8) (w0 := w) w.heap.size rfl (.tmp 20) (.tmp 21) 26 5 (.int .u8 0) 1 rfl Try.underlying26 info5 rfl (by decide) (by omega) v2 ([83, 78, 84, 49] ++ [(s / 16777216) % 256, (s / 65536) % 256, (s / 256) % 256, s % 256]) l0 _ _ _ (fun _ => True) (fun _ => False) rfl rfl hR2 ?aR (fun _ _ h => h) (fun _ h => h.elim) (fun _ _ => trivial) hBB hBB.size ?aL ?_; (case aR => exact HN.out ▸ Kd.C_below HR.out hBB); (case aL => simp only [List.length_append, List.length_cons, List.length_nil]; omega); intro v3 w3 hR3 hB3 hg1 hg2; clear hg1 hg2))
  go_ret
  exact ⟨_, rfl, hR3, hB3⟩
end Go.Proofs.Ytaiglhfmmdajdaa.Pm
end
section
namespace Go.Proofs.Ytaiglhfmmdajdaa.Pm
open Go.RowKit Go.Proofs.YtaiglhfmmdajdaaW.PrintWords Go.Proofs.YtaiglhfmmdajdaaW.PrintLast Go.Proofs.YtaiglhfmmdajdaaW.PrintMore
attribute [local go_sem] max2_int min2_int max_two min_two max_three min_three max_four min_four   -- for this text's walks alone
set_option linter.unusedVariables false
set_option linter.unusedSimpArgs false
def pack_ops.f  : Option (List ByteArray) := some (([(⟨#[60]⟩ : ByteArray), (⟨#[60, 61]⟩ : ByteArray), (⟨#[61]⟩ : ByteArray), (⟨#[33, 61]⟩ : ByteArray), (⟨#[62, 61]⟩ : ByteArray), (⟨#[62]⟩ : ByteArray)] : List ByteArray))
set_option maxHeartbeats 8000000 in
set_option maxRecDepth 100000 in
theorem pack_ops.calls  (r : List ByteArray) (w : World) (h : pack_ops.f  = some r) :
  Calls Try.prog 73 #[] w fun e w' => ∃ v0_ : Value, e = .returned (v0_) ∧ Kd.R Kd.string 9 w' w.heap.size (fun _ => True) v0_ r ∧ Below w.heap.size w w' := by
 have HB := Aside0.mk (Below.refl w.heap.size w)
 have H : (some (([(⟨#[60]⟩ : ByteArray), (⟨#[60, 61]⟩ : ByteArray), (⟨#[61]⟩ : ByteArray), (⟨#[33, 61]⟩ : ByteArray), (⟨#[62, 61]⟩ : ByteArray), (⟨#[62]⟩ : ByteArray)] : List ByteArray))) = some r := h
 clear h
 obtain ⟨y378, hy378⟩ : ∃ y_ : List ByteArray, y_ = (([(⟨#[60]⟩ : ByteArray), (⟨#[60, 61]⟩ : ByteArray), (⟨#[61]⟩ : ByteArray), (⟨#[33, 61]⟩ : ByteArray), (⟨#[62, 61]⟩ : ByteArray), (⟨#[62]⟩ : ByteArray)] : List ByteArray)) := ⟨_, rfl⟩
 replace H : (some y378) = some r := by first | (rw [hy378]; with_reducible exact H) | (have H2_ := (Option.bind_some _ _).symm.trans H; rw [hy378]; with_reducible exact H2_) | (have H2_ := (Option.bind_some _ _).symm.trans H; with_reducible exact H2_) | with_reducible exact H | (rw [hy378]; exact H) | exact H
 have Ny378 := Aside0.mk hy378
 clear hy378
 obtain rfl := Option.some.inj H
 go_enter Try.func73, Try.ntmps73
 go_wp2_with (first | ((with_reducible refine gate_dst (N := 1) rfl ?_); refine Kd.R_lit Kd.string _ 9 ?hg (N := 1) ?hd (xs := ([(⟨#[60]⟩ : ByteArray), (⟨#[60, 61]⟩ : ByteArray), (⟨#[61]⟩ : ByteArray), (⟨#[33, 61]⟩ : ByteArray), (⟨#[62, 61]⟩ : ByteArray), (⟨#[62]⟩ : ByteArray)] : List ByteArray)) (inner := [.string (⟨#[60]⟩ : ByteArray), .string (⟨#[60, 61]⟩ : ByteArray), .string (⟨#[61]⟩ : ByteArray), .string (⟨#[33, 61]⟩ : ByteArray), .string (⟨#[62, 61]⟩ : ByteArray), .string (⟨#[62]⟩ : ByteArray)]) (ok := fun _ => True) (okp := fun _ => True) ?hr ?hp (fun _ hk => hk) trivial (Below.refl _ _) (Nat.le_refl _) (by simp) ?_; (case hd => rfl); (case hg => rfl); (case hr => first | (go_simp; done) | (go_simp; rfl)); (case hp => exact (Reps.one (show Kd.M Kd.string _ _ _ (⟨#[60]⟩ : ByteArray) [.string (⟨#[60]⟩ : ByteArray)] from rfl) (Reps.one (show Kd.M Kd.string _ _ _ (⟨#[60, 61]⟩ : ByteArray) [.string (⟨#[60, 61]⟩ : ByteArray)] from rfl) (Reps.one (show Kd.M Kd.string _ _ _ (⟨#[61]⟩ : ByteArray) [.string (⟨#[61]⟩ : ByteArray)] from rfl) (Reps.one (show Kd.M Kd.string _ _ _ (⟨#[33, 61]⟩ : ByteArray) [.string (⟨#[33, 61]⟩ : ByteArray)] from rfl) (Reps.one (show Kd.M Kd.string _ _ _ (⟨#[62, 61]⟩ : ByteArray) [.string (⟨#[62, 61]⟩ : ByteArray)] from rfl) (Reps.one (show Kd.M Kd.string _ _ _ (⟨#[62]⟩ : ByteArray) [.string (⟨#[62]⟩ : ByteArray)] from rfl) (Reps.none _ _)))))))); intro v379 w1 ho2 hb hg_ hnew_; clear hg_ hnew_; (first | rw [← Ny378.out] at ho2 | (simp only [Int.reduceToNat] at ho2; rw [← Ny378.out] at ho2)); have n0_ := Aside0.mk (Kd.R_lower ho2 (below_size (by repeat (first | (with_reducible first | exact HB.out | apply below_alloc | apply pw_below_drewN | apply below_drew1) | exact HB.out)))); have n1_ := hb_ HB hb; clear HB; have HO380 := n0_; have HB := n1_; clear n0_ n1_; clear hb ho2))
 go_ret
 exact ⟨_, by first | rfl | (simp [errW_none, errW_some] <;> rfl) | (simp [*, errW_none, errW_some] <;> rfl), by (with_reducible repeat (first | apply Kd.R_alloc | apply Kd.R_drewN | apply Kd.R_drew)); exact HO380.out, by repeat (first | (with_reducible first | exact HB.out | apply below_alloc | apply pw_below_drewN | apply below_drew1) | exact HB.out)⟩
end Go.Proofs.Ytaiglhfmmdajdaa.Pm
end
section
namespace Go.Proofs.Ytaiglhfmmdajdaa.Pm
open Go.RowKit Go.Proofs.YtaiglhfmmdajdaaW.PrintWords Go.Proofs.YtaiglhfmmdajdaaW.PrintLast Go.Proofs.YtaiglhfmmdajdaaW.PrintMore
attribute [local go_sem] max2_int min2_int max_two min_two max_three min_three max_four min_four   -- for this text's walks alone
set_option linter.unusedVariables false
set_option linter.unusedSimpArgs false
def bits (n m : Nat) : Array Bool := ((List.range n).map (fun i => m.testBit i)).toArray
section
variable {P : Program} {md : Region.Mode} {ops : Array Oper} {Q : Exit → Act → World → Prop} {S : World → Prop} {ds : List Nat}
theorem st_ {id : Nat} {a : Act} {w : World} (S : World → Prop) (n : Nat) (hS : S w.drew) (h : S w.drew → wpAnyLast P .any ops Q S [] n (bits n 0) a w.drew)
    (hm : P.follows .mixedOrders = true := by kernel_rfl) (hn : ops.size = n := by exact rfl) (hl : Array.replicate n false = bits n 0 := by kernel_rfl) : (Code.region id ops true).wp P Q a w :=
  start_ (bits n 0) hm hn hl hS h
theorem pu_ {n m fuel : Nat} {oi : Oper} {v : Value} {a a' : Act} {w : World} (i : Nat) (N : Option Tmp) (h : wpAnyLast P md ops Q S ds fuel (bits n (m ||| 1 <<< i)) a' w)
    (hi : ops[i]? = some oi := by exact rfl) (hN : oi.dst = N := by exact rfl) (hc : anyB md ops (bits n m) (bits n (m ||| 1 <<< i)) i = true := by kernel_rfl)
    (hw : Region.wanted oi (yielded ops a.tmps) = true := by exact rfl) (hy : ∀ w', (execOp a.eval oi).run P w' = .ok (.value v) w' := by (intro w'; go_simp; with_reducible rfl))
    (ha : a.put N v = a' := by (simp only [Act.put, List.setIfInBounds_toArray, List.set_cons_zero, List.set_cons_succ, i64_w, i32_w]; rfl))
    (hQ : ∀ c a w, Q (.panic c) (a.put oi.dst v) w → Q (.panic c) a w := by exact fun _ _ _ h => h) : wpAnyLast P md ops Q S ds (fuel + 1) (bits n m) a w :=
  pure_ _ hi hN hc hQ (Or.inl ⟨hw, hy⟩) ha h
theorem tk_ {n m fuel : Nat} {oi : Oper} {v : Value} {a a' : Act} {w : World} (i : Nat) (N : Option Tmp) (hS : S w) (h : wpAnyLast P md ops Q S ds fuel (bits n (m ||| 1 <<< i)) a' w)
    (hi : ops[i]? = some oi := by exact rfl) (hN : oi.dst = N := by exact rfl) (hc : takeB md ops ds (bits n m) (bits n (m ||| 1 <<< i)) i = true := by kernel_rfl)
    (hw : Region.wanted oi (yielded ops a.tmps) = true := by exact rfl) (hy : ∀ w', S w' → (execOp a.eval oi).run P w' = .ok (.value v) w')
    (ha : a.put N v = a' := by (simp only [Act.put, List.setIfInBounds_toArray, List.set_cons_zero, List.set_cons_succ, i64_w, i32_w]; rfl))
    (hQ : ∀ c a w, Q (.panic c) (a.put oi.dst v) w → Q (.panic c) a w := by exact fun _ _ _ h => h) : wpAnyLast P md ops Q S ds (fuel + 1) (bits n m) a w :=
  take_ _ hi hN hc hQ (Or.inl ⟨hw, hy⟩) hS ha h
/-- A call that alone may come up: its contract gives the answer v and a world in which S holds. -/
theorem ca_ {n m fuel : Nat} {oi : Oper} {a : Act} {w : World} {f : FuncId} {fn : Func} {os : Array Operand} {ts : Array TypeId} (i : Nat) (N : Option Tmp) (hf : P.funcs[f]? = some fn) (args : Array Value)
    (h : Calls P f args w fun e w' => ∃ v, e = .returned v ∧ S w' ∧ (S w' → ∃ a', a.put N v = a' ∧ wpAnyLast P md ops Q S ds fuel (bits n (m ||| 1 <<< i)) a' w'))
    (hi : ops[i]? = some oi := by exact rfl) (hN : oi.dst = N := by exact rfl) (hc : readyB md ops (bits n m) (bits n (m ||| 1 <<< i)) i = true := by kernel_rfl) (hd : i ∉ ds := by decide)
    (hop : oi.op = .call { callee := .value (.func f), args := os, argTypes := ts } := by exact rfl) (hargs : os.map a.eval = args := by ((try simp only [List.map_toArray, List.map_cons, List.map_nil]); first | done | rfl))
    (hw : Region.wanted oi (yielded ops a.tmps) = true := by exact rfl)
    (hname : (fn.name == "runtime.NumGoroutine") = false := by kernel_rfl) (hb : fn.body.isSome = true := by exact rfl) : wpAnyLast P md ops Q S ds (fuel + 1) (bits n m) a w :=
  one_ _ hi hN hc hd fun K hK => goes_ hf hname hb args hw hN hop hargs (h.mono fun e w' hh => by
    obtain ⟨v, rfl, hS, hW⟩ := hh
    refine ⟨v, rfl, hK.out _ _ hS fun hs => ?_⟩
    obtain ⟨a', rfl, h'⟩ := hW hs
    exact h')
theorem dn_ {n m : Nat} {a : Act} {w : World} {k : Nat} (h : Q .normal a w) (hr : (Region.ready md ops (bits n m) == []) = true := by kernel_rfl) : wpAnyLast P md ops Q S ds k (bits n m) a w := done_ hr h
end
end Go.Proofs.Ytaiglhfmmdajdaa.Pm
end
section
namespace Go.Proofs.Ytaiglhfmmdajdaa.Pm
open Go.RowKit Go.Proofs.YtaiglhfmmdajdaaW.PrintWords Go.Proofs.YtaiglhfmmdajdaaW.PrintLast Go.Proofs.YtaiglhfmmdajdaaW.PrintMore
attribute [local go_sem] max2_int min2_int max_two min_two max_three min_three max_four min_four   -- for this text's walks alone
set_option linter.unusedVariables false
set_option linter.unusedSimpArgs false
def Wr (w : World) (g base : Nat) (ok : Nat → Prop) (xs : List Int) : Prop := ∃ v, w.heap[g]? = some (.cells #[v] 58 (0, 0)) ∧ Kd.R (Kd.int .u8) 5 w base ok v xs
def WPost (w0 w : World) (g : Nat) (ok : Nat → Prop) (xs : List Int) (e : Ending) (w' : World) : Prop :=
  e = .returned (.tuple #[]) ∧ Wr w' g w0.heap.size ok xs ∧ Below w0.heap.size w0 w' ∧ Kept w w' (fun k => ok k ∨ k = g)
def byteW (n : Int) : Int := Go.bits .or .u8 (n % 256) 128
def numW : Nat → Int → List Int
  | 0, _ => []
  | d + 1, n => if n ≥ 128 then byteW n :: numW d (n / 128) else [n % 256]
theorem numW_length (d : Nat) : ∀ n, (numW d n).length ≤ d := by
  induction d with
  | zero => intro n; exact Nat.le_refl _
  | succ d ih =>
    intro n
    simp only [numW]
    split
    · rw [List.length_cons]; have := ih (n / 128); omega
    · simp
theorem flat_length (l : List Int) : (l.flatMap (numW 10)).length ≤ 10 * l.length := by
  induction l with
  | nil => simp
  | cons a l ih =>
    rw [List.flatMap_cons, List.length_append, List.length_cons]
    have := numW_length 10 a
    omega
theorem C_stay {α : Type} {enc : α → Value} {h1 : ∀ x, (enc x).oneCell' = true} {w w' : World} {A : Option Addr} {n : Nat} {xs : List α} (h : Kd.C (Kd.scalar enc h1) w A n xs) (hb : ∀ ad, A = some ad → w'.heap[ad.block]? = w.heap[ad.block]?) : Kd.C (Kd.scalar enc h1) w' A n xs := by
  obtain ⟨h1, h2, h3⟩ := h
  refine ⟨h1, h2, fun hp => ?_⟩
  obtain ⟨ad, rfl, hc⟩ := h3 hp
  refine ⟨ad, rfl, fun j p hj => ?_⟩
  obtain ⟨c, hl, hK, hcc⟩ := hc j p hj
  refine ⟨c, hl, hK, fun i u hu => ?_⟩
  have := hcc i u hu
  have hblk : ∀ m, (ad.add m).block = ad.block := fun m => by unfold Addr.add; split <;> rfl
  unfold World.cell? at this ⊢
  rw [hblk] at this ⊢
  rw [hb ad rfl]
  exact this
/-- One byte more: the walk's own rows from the load to the store, as_ facts. -/
theorem wr_put {w w1 : World} {g base : Nat} {ok : Nat → Prop} {v v1 : Value} {xs : List Int} (hg : w.heap[g]? = some (.cells #[v] 58 (0, 0))) (hok : ∀ k, ok k → k ≠ g) (hR : Kd.R (Kd.int .u8) 5 w1 base ok v1 xs) (hg1 : w1.heap[g]? = some (.cells #[v] 58 (0, 0))) : Wr (w1.setCell ⟨g, 0, none⟩ v1) g base ok xs :=
  ⟨v1, blk_put hg1 0 v1 rfl, Kd.R_far (p := ⟨g, 0, none⟩) hR (fun k hk => hok k hk) v1⟩
set_option maxHeartbeats 8000000 in
set_option maxRecDepth 100000 in
theorem num_any (w0 w : World) (g : Nat) (ok : Nat → Prop) (xs : List Int) (A : Option Addr) (c : Nat) (l : List Int) (hB : Below w0.heap.size w0 w) (hg0 : w0.heap.size ≤ g) (hok : ∀ k, ok k → k ≠ g) (hfr : ∀ k, w.heap.size ≤ k → ok k) (hW : Wr w g w0.heap.size ok xs)
    (hC : Kd.C (Kd.int .i64) w A l.length l) (hA : ∀ ad, A = some ad → ad.block < w.heap.size ∧ ¬ ok ad.block ∧ ad.block ≠ g) (hlim : xs.length + 10 * l.length ≤ 140737488000000) (hl : ∀ n ∈ l, n < 9223372036854775808) :
    Calls Try.prog 47 #[.pointer (some ⟨g, 0, none⟩), .slice A l.length c] w (WPost w0 w g ok (xs ++ l.flatMap (numW 10))) := by
  have HW := Lib.hid hW
  have HC := Lib.hid hC
  have HB := Lib.hid hB
  have HFR := Lib.hid hfr
  have HOK := Lib.hid hok
  have HA := Lib.hid hA
  have HL := Lib.hid hl
  obtain ⟨n, hn⟩ : ∃ n, n = l.length := ⟨_, rfl⟩
  rw [← hn] at hlim ⊢
  have HN := Lib.hid hn
  clear hW hC hB hfr hok hA hl hn
  go_enter Try.func47, Try.ntmps47
  go_wp2
  go_loopg [8] n (fun gg s8 wr => ∃ (i : Nat), s8 = .int .i64 i ∧ i ≤ n ∧ n - i ≤ gg ∧ Hid (Wr wr g w0.heap.size ok (xs ++ (l.take i).flatMap (numW 10)) ∧ Below w0.heap.size w0 wr ∧ Kept w wr (fun k => ok k ∨ k = g)))
  case atStart => exact ⟨0, rfl, Nat.zero_le _, by omega, Lib.hid ⟨by simpa using HW.out, HB.out, Kept.refl _ _⟩⟩
  case round =>
    obtain ⟨i, rfl, hin, hig, X⟩ := hrel
    by_cases hlt : i < n
    case neg =>
      have hltz : ¬ (i : Int) < (n : Int) := by omega
      obtain rfl : n = i := by omega
      go_wp2
      go_end0
      rw [HN.out, List.take_length] at X
      exact ⟨rfl, X.out.1, X.out.2.1, X.out.2.2⟩
    have hltz : (i : Int) < (n : Int) := by omega
    have hCr := C_stay (w' := wr) HC.out (fun ad e => X.out.2.2.2 _ (HA.out ad e).1 (fun h => h.elim (HA.out ad e).2.1 (HA.out ad e).2.2))
    obtain ⟨ad, cs, e, _, hK, hcc⟩ := Kd.C_get hCr (0 : Int) (i : Int) (by omega) (by have := HN.out; omega)
    cases e
    obtain rfl : cs = [.int .i64 (l.getD i 0)] := hK
    have hx0 : wr.cell? (ad.add i) = some (.int .i64 (l.getD i 0)) := by have := hcc 0 _ rfl; simpa [Kd.int, Kd.scalar] using this
    clear hcc
    obtain ⟨m, hm⟩ : ∃ m, m = l.getD i 0 := ⟨_, rfl⟩
    rw [← hm] at hx0
    have HM := Lib.hid hm
    clear hm hCr
    obtain ⟨pre, hpre⟩ : ∃ p, p = xs ++ (l.take i).flatMap (numW 10) := ⟨_, rfl⟩
    have hpl : pre.length ≤ 140737488000000 - 10 := by
      rw [hpre, List.length_append]
      have h1 := flat_length (l.take i)
      rw [List.length_take] at h1
      have := HN.out
      omega
    have HP := Lib.hid hpl
    have HPRE := Lib.hid hpre
    rw [← hpre] at X
    have hm63 : m < 9223372036854775808 := by
      have := HN.out
      rw [HM.out]
      refine HL.out _ ?_
      rw [List.getD_eq_getElem?_getD, List.getElem?_eq_getElem (by omega)]
      exact List.getElem_mem _
    have HM63 := Lib.hid hm63
    clear hpl hpre hm63
    go_wp2
    go_loopg [5] 10 (fun gg s5 wr => ∃ (m' : Int) (d : Nat) (ys : List Int), s5 = .int .i64 m' ∧ 1 ≤ d ∧ d ≤ gg ∧ Hid (numW 10 m = ys ++ numW d m' ∧ m' < (128 : Int) ^ d ∧ ys.length + d = 10 ∧ Wr wr g w0.heap.size ok (pre ++ ys) ∧ Below w0.heap.size w0 wr ∧ Kept w wr (fun k => ok k ∨ k = g)))
    case atStart =>
      have h128 : (128 : Int) ^ 10 = 1180591620717411303424 := by decide
      exact ⟨m, 10, [], rfl, by omega, by omega, Lib.hid ⟨rfl, by rw [h128]; have := HM63.out; omega, rfl, by rw [List.append_nil]; exact X.out.1, X.out.2.1, X.out.2.2⟩⟩
    case round =>
      obtain ⟨m', d, ys, rfl, hd1, hdg, Z⟩ := hrel
      obtain ⟨d, rfl⟩ : ∃ e, d = e + 1 := ⟨d - 1, by omega⟩
      have hnum : numW 10 m = ys ++ (if m' ≥ 128 then byteW m' :: numW d (m' / 128) else [m' % 256]) := Z.out.1
      have hpow := Z.out.2.1
      by_cases h128 : m' ≥ 128
      case pos =>
        rw [if_pos h128] at hnum
        have hd : 1 ≤ d := by
          rcases Nat.eq_zero_or_pos d with rfl | h'
          · simp at hpow; omega
          · exact h'
        have hpow' : m' / 128 < (128 : Int) ^ d := by
          rw [Int.pow_succ] at hpow
          omega
        have HNUM := Lib.hid hnum
        have HPOW := Lib.hid hpow'
        clear hnum hpow hpow'
        obtain ⟨v, hg, hR⟩ := Z.out.2.2.2.1
        obtain ⟨Av, cv, rfl⟩ := Kd.R_slice hR
        obtain ⟨zs, hzs⟩ : ∃ zs, zs = pre ++ ys := ⟨_, rfl⟩
        rw [← hzs] at hg hR
        obtain ⟨lv, hlv⟩ : ∃ lv, lv = zs.length := ⟨_, rfl⟩
        rw [← hlv] at hg hR
        have hlz : (zs.length + 1) * 1 ≤ 140737488355328 := by
          have := Z.out.2.2.1
          rw [hzs, List.length_append]
          have := HP.out
          omega
        have hne : some g ≠ (Value.slice Av lv cv).ownBlock := Kd.R_away hR (fun k hk => HOK.out k hk)
        have hcv : wr.cell? ⟨g, 0, none⟩ = some (.slice Av lv cv) := (blk_cell hg 0).trans rfl
        have HLZ := Lib.hid hlz
        have HNE := Lib.hid (fun h => hne h)
        have HGL := Lib.hid (blk_lt hg)
        have HG := Lib.hid hg
        have HRv := Lib.hid hR
        have HBr := Lib.hid Z.out.2.2.2.2.1
        have HKr := Lib.hid Z.out.2.2.2.2.2
        have HF := Lib.hid (fun k (hk : wr.heap.size ≤ k) => HFR.out k (Nat.le_trans Z.out.2.2.2.2.2.1 hk))
        have HZS := Lib.hid hzs
        clear hg hR hlz hne hzs hlv
        go_wp2_with (first | ((with_reducible refine gate_builtin (b := .append) (xs := #[.tmp 20, .tmp 24]) rfl ?_); at_builtin; refine Kd.R_append (Kd.int .u8) (w0 := w0) w0.heap.size rfl (.tmp 20) (.tmp 24) 26 5 (.int .u8 0) 1 rfl Try.underlying26 info5 rfl (by decide) (by omega) (.slice Av lv cv) zs (byteW m') [.int .u8 (byteW m')] ok (fun _ => False) rfl rfl rfl (fun _ h => h.elim) HF.out HRv.out HBr.out HBr.out.size HLZ.out ?_; intro v1 w1 hR1 hB1 hgr hat; obtain ⟨A1, c1, rfl⟩ := Kd.R_slice hR1; have hg1 := (hgr.block g HGL.out HNE.out).trans HG.out; have hcz := (blk_cell hg1 0).trans rfl; have hfz := blk_frozen hg1 0; have HR1 := Lib.hid hR1; have HB1 := Lib.hid hB1; have HG1 := Lib.hid hg1; have HGR := Lib.hid hgr; clear hR1 hB1 hg1 hgr hat))
        have hwr := wr_put HG.out HOK.out HR1.out HG1.out
        rw [List.length_append, List.length_singleton] at hwr
        have HWR := Lib.hid hwr
        have HKK := Lib.hid ((Kept.of_grown HGR.out HKr.out (fun k e => .inl (.inl (HRv.out.1 k e)))).setCell (p := ⟨g, 0, none⟩) (.inl (.inr rfl)) (.slice A1 (zs.length + 1) c1))
        have HBB := Lib.hid (HB1.out.setCell hg0 (.slice A1 (zs.length + 1) c1) : Below w0.heap.size w0 (w1.setCell ⟨g, 0, none⟩ (.slice A1 (zs.length + 1) c1)))
        clear hwr
        go_roundg d
        case measure => omega
        case rel => exact ⟨m' / 128, d, ys ++ [byteW m'], rfl, hd, by omega, Lib.hid ⟨by rw [HNUM.out, List.append_assoc]; rfl, HPOW.out, by have := Z.out.2.2.1; rw [List.length_append, List.length_singleton]; omega, by rw [← List.append_assoc, ← HZS.out]; exact HWR.out, HBB.out, HKK.out⟩⟩
      case neg =>
        rw [if_neg h128] at hnum
        have HNUM := Lib.hid hnum
        clear hnum hpow
        obtain ⟨v, hg, hR⟩ := Z.out.2.2.2.1
        obtain ⟨Av, cv, rfl⟩ := Kd.R_slice hR
        obtain ⟨zs, hzs⟩ : ∃ zs, zs = pre ++ ys := ⟨_, rfl⟩
        rw [← hzs] at hg hR
        obtain ⟨lv, hlv⟩ : ∃ lv, lv = zs.length := ⟨_, rfl⟩
        rw [← hlv] at hg hR
        have hlz : (zs.length + 1) * 1 ≤ 140737488355328 := by
          have := Z.out.2.2.1
          rw [hzs, List.length_append]
          have := HP.out
          omega
        have hne : some g ≠ (Value.slice Av lv cv).ownBlock := Kd.R_away hR (fun k hk => HOK.out k hk)
        have hcv : wr.cell? ⟨g, 0, none⟩ = some (.slice Av lv cv) := (blk_cell hg 0).trans rfl
        have HLZ := Lib.hid hlz
        have HNE := Lib.hid (fun h => hne h)
        have HGL := Lib.hid (blk_lt hg)
        have HG := Lib.hid hg
        have HRv := Lib.hid hR
        have HBr := Lib.hid Z.out.2.2.2.2.1
        have HKr := Lib.hid Z.out.2.2.2.2.2
        have HF := Lib.hid (fun k (hk : wr.heap.size ≤ k) => HFR.out k (Nat.le_trans Z.out.2.2.2.2.2.1 hk))
        have HZS := Lib.hid hzs
        clear hg hR hlz hne hzs hlv
        go_wp2_with (first | ((with_reducible refine gate_builtin (b := .append) (xs := #[.tmp 32, .tmp 35]) rfl ?_); at_builtin; refine Kd.R_append (Kd.int .u8) (w0 := w0) w0.heap.size rfl (.tmp 32) (.tmp 35) 26 5 (.int .u8 0) 1 rfl Try.underlying26 info5 rfl (by decide) (by omega) (.slice Av lv cv) zs (m' % 256) [.int .u8 (m' % 256)] ok (fun _ => False) rfl rfl rfl (fun _ h => h.elim) HF.out HRv.out HBr.out HBr.out.size HLZ.out ?_; intro v1 w1 hR1 hB1 hgr hat; obtain ⟨A1, c1, rfl⟩ := Kd.R_slice hR1; have hg1 := (hgr.block g HGL.out HNE.out).trans HG.out; have hcz := (blk_cell hg1 0).trans rfl; have hfz := blk_frozen hg1 0; have HR1 := Lib.hid hR1; have HB1 := Lib.hid hB1; have HG1 := Lib.hid hg1; have HGR := Lib.hid hgr; clear hR1 hB1 hg1 hgr hat))
        have hwr := wr_put HG.out HOK.out HR1.out HG1.out
        rw [List.length_append, List.length_singleton] at hwr
        have HWR := Lib.hid hwr
        have HKK := Lib.hid ((Kept.of_grown HGR.out HKr.out (fun k e => .inl (.inl (HRv.out.1 k e)))).setCell (p := ⟨g, 0, none⟩) (.inl (.inr rfl)) (.slice A1 (zs.length + 1) c1))
        have HBB := Lib.hid (HB1.out.setCell hg0 (.slice A1 (zs.length + 1) c1) : Below w0.heap.size w0 (w1.setCell ⟨g, 0, none⟩ (.slice A1 (zs.length + 1) c1)))
        clear hwr
        have HT : Hid (zs ++ [m' % 256] = xs ++ (l.take (i + 1)).flatMap (numW 10)) := Lib.hid (by
          have e1 : l.take (i + 1) = l.take i ++ [m] := by
            have := HN.out
            rw [List.take_add_one, HM.out, List.getD_eq_getElem?_getD, List.getElem?_eq_getElem (by omega)]
            rfl
          rw [e1, List.flatMap_append, ← List.append_assoc, ← HPRE.out, HZS.out, List.append_assoc, ← HNUM.out]
          simp)
        go_roundg (n - (i + 1))
        case measure => omega
        case rel => exact ⟨i + 1, by go_num, by omega, by omega, Lib.hid ⟨by rw [← HT.out]; exact HWR.out, HBB.out, HKK.out⟩⟩
end Go.Proofs.Ytaiglhfmmdajdaa.Pm
end
section
namespace Go.Proofs.Ytaiglhfmmdajdaa.Pm
open Go.RowKit Go.Proofs.YtaiglhfmmdajdaaW.PrintWords Go.Proofs.YtaiglhfmmdajdaaW.PrintLast Go.Proofs.YtaiglhfmmdajdaaW.PrintMore
attribute [local go_sem] max2_int min2_int max_two min_two max_three min_three max_four min_four   -- for this text's walks alone
set_option linter.unusedVariables false
set_option linter.unusedSimpArgs false
theorem lit_ints (W : World) (b : Nat) (hb : b = W.heap.size) (e : TypeId) (xs : List Int) (hl : xs.length ≤ 9223372036854775807) : Kd.C (Kd.int .i64) (W.alloc (.cells (nums .i64 xs).toArray e)) (some ⟨b, 0, none⟩) xs.length xs := by
  subst hb
  refine ⟨rfl, hl, fun _ => ⟨_, rfl, fun j p hj => ⟨[.int .i64 p], rfl, rfl, fun i u hu => ?_⟩⟩⟩
  cases i with
  | succ i => simp at hu
  | zero =>
    cases hu
    rw [add_plain]
    have e2 : xs[j]? = some p := hj
    show (W.alloc (.cells (nums .i64 xs).toArray e)).cell? ⟨W.heap.size, j * 1 + 0, none⟩ = _
    unfold World.cell?
    rw [show (⟨W.heap.size, j * 1 + 0, none⟩ : Addr).block = W.heap.size from rfl, heap_alloc_new]
    simp [nums, e2]
theorem Wr.mono {w : World} {g base : Nat} {ok ok' : Nat → Prop} {xs : List Int} (h : Wr w g base ok xs) (hok : ∀ k, ok k → ok' k) : Wr w g base ok' xs := by
  obtain ⟨v, hg, hR⟩ := h
  exact ⟨v, hg, Kd.R_mono hR hok⟩
theorem Wr.below {w w' : World} {g base : Nat} {ok : Nat → Prop} {xs : List Int} (h : Wr w g base ok xs) (hb : Below w.heap.size w w') : Wr w' g base ok xs := by
  obtain ⟨v, hg, hR⟩ := h
  exact ⟨v, blk_below hg hb, Kd.R_below hR hb⟩
theorem Wr.apart {w : World} {g base : Nat} {ok : Nat → Prop} {xs : List Int} (h : Wr w g base ok xs) (a : Nat) (ha : w.heap.size ≤ a) : Wr w g base (fun k => ok k ∧ k ≠ a) xs := by
  obtain ⟨v, hg, hR⟩ := h
  exact ⟨v, hg, Kd.R_elderB hR a ha⟩
theorem Wr.lt {w : World} {g base : Nat} {ok : Nat → Prop} {xs : List Int} (h : Wr w g base ok xs) : g < w.heap.size := by
  obtain ⟨v, hg, hR⟩ := h
  exact blk_lt hg
/-- num of a row that is made for it. -/
theorem num_call (w0 W : World) (g : Nat) (ok : Nat → Prop) (xs : List Int) (hB : Below w0.heap.size w0 W) (hg0 : w0.heap.size ≤ g) (hok : ∀ k, ok k → k ≠ g) (hfr : ∀ k, W.heap.size ≤ k → ok k) (hW : Wr W g w0.heap.size ok xs) (e : TypeId) (l : List Int) (hlim : xs.length + 10 * l.length ≤ 140737488000000) (hl : ∀ n ∈ l, n < 9223372036854775808) (b : Nat) (hb : b = W.heap.size) (m : Nat) (hm : m = l.length) :
    Calls Try.prog 47 #[.pointer (some ⟨g, 0, none⟩), .slice (some ⟨b, 0, none⟩) m m] (W.alloc (.cells (nums .i64 l).toArray e)) (WPost w0 W g ok (xs ++ l.flatMap (numW 10))) := by
  subst hb hm
  have hgl := hW.lt
  have hba := below_alloc (Below.refl W.heap.size W) (.cells (nums .i64 l).toArray e)
  have hsz : (W.alloc (.cells (nums .i64 l).toArray e)).heap.size = W.heap.size + 1 := by simp
  refine (num_any w0 (W.alloc (.cells (nums .i64 l).toArray e)) g (fun k => ok k ∧ k ≠ W.heap.size) xs _ _ l (below_then hB hB.size hba) hg0 (fun k h => hok k h.1) (fun k h => ⟨hfr k (by omega), by omega⟩) ((hW.apart _ (Nat.le_refl _)).below hba) (lit_ints W _ rfl e l (by omega)) (fun ad h => ?_) hlim hl).mono fun e' w' hp => ?_
  · cases h
    exact ⟨by rw [hsz]; exact Nat.lt_succ_self _, fun h => h.2 rfl, by show W.heap.size ≠ g; omega⟩
  · obtain ⟨h1, h2, h3, h4⟩ := hp
    refine ⟨h1, h2.mono (fun k h => h.1), h3, (Kept.of_below hba (fun k => ok k ∨ k = g)).then_ h4 (fun k h => ?_)⟩
    rcases h with h | h
    · exact .inl (.inl h.1)
    · exact .inl (.inr h)
def sgn (n : Int) : Int := if n < 0 then -2 * n - 1 else 2 * n
set_option maxHeartbeats 4000000 in
theorem signed_any (w0 w : World) (g : Nat) (ok : Nat → Prop) (xs : List Int) (x : Int) (hB : Below w0.heap.size w0 w) (hg0 : w0.heap.size ≤ g) (hok : ∀ k, ok k → k ≠ g) (hfr : ∀ k, w.heap.size ≤ k → ok k) (hW : Wr w g w0.heap.size ok xs) (hlim : xs.length + 10 ≤ 140737488000000) (hx : -1000000 ≤ x ∧ x ≤ 1000000) :
    Calls Try.prog 74 #[.pointer (some ⟨g, 0, none⟩), .int .i64 x] w (WPost w0 w g ok (xs ++ numW 10 (sgn x))) := by
  have hc := fun (l : List Int) (h1 : l.length = 1) (h2 : ∀ n ∈ l, n < 9223372036854775808) => num_call w0 w g ok xs hB hg0 hok hfr hW 3 l (by omega) h2 _ rfl 1 h1.symm
  by_cases h0 : x < 0
  · have hcc := hc [-2 * x - 1] rfl (by simp; omega)
    have e : sgn x = -2 * x - 1 := by unfold sgn; rw [if_pos h0]
    rw [e]
    have hw1 : wrap64 (-2 * x) = -2 * x := by unfold wrap64; omega
    have hw2 : wrap64 (-2 * x - 1) = -2 * x - 1 := by unfold wrap64; omega
    have HC := Lib.hid hcc
    clear hc hcc hB hok hfr hW e
    go_enter Try.func74, Try.ntmps74
    go_wp2_with fail
    refine HC.out.mono ?_
    rintro e w' ⟨rfl, h1, h2, h3⟩
    have HH := Lib.hid (And.intro h1 (And.intro h2 h3))
    clear h1 h2 h3 HC
    go_wp2
    go_end0
    exact ⟨rfl, by simpa using HH.out.1, HH.out.2.1, HH.out.2.2⟩
  · have hcc := hc [2 * x] rfl (by simp; omega)
    have e : sgn x = 2 * x := by unfold sgn; rw [if_neg h0]
    rw [e]
    have hw1 : wrap64 (2 * x) = 2 * x := by unfold wrap64; omega
    have HC := Lib.hid hcc
    clear hc hcc hB hok hfr hW e
    go_enter Try.func74, Try.ntmps74
    go_wp2_with fail
    refine HC.out.mono ?_
    rintro e w' ⟨rfl, h1, h2, h3⟩
    have HH := Lib.hid (And.intro h1 (And.intro h2 h3))
    clear h1 h2 h3 HC
    go_wp2
    go_end0
    exact ⟨rfl, by simpa using HH.out.1, HH.out.2.1, HH.out.2.2⟩
end Go.Proofs.Ytaiglhfmmdajdaa.Pm
end
