/- The law PackSealedOne: for every input the call answers true, and the input reads as it did. No condition. (Walks and laws of several texts, merged, and what is not used struck, by a program.) -/
import Derived.Test.YtaiglhfmmdajdaaMPackSealedOne0
import Derived.Test.YtaiglhfmmdajdaaMPackSealedOne5
import Derived.Test.YtaiglhfmmdajdaaMPackSealedOne4
import Derived.Test.YtaiglhfmmdajdaaMPackSealedOne3
import Derived.Lib.Hide
import Derived.Laws.Strings
import Derived.Test.YtaiglhfmmdajdaaMPackSealedOne1
import Derived.Lib.EndianBits
import Derived.Below
import Derived.ChangeOld
import Derived.ChangeSlices
import Derived.OpenShut
import Derived.ProofKit
import Derived.ShutString
import Derived.SizedLaws
import Derived.Test.YtaiglhfmmdajdaaRows
import Derived.WalkKit
section
namespace Go.Proofs.Ytaiglhfmmdajdaa.Pm
open Go.RowKit Go.Proofs.YtaiglhfmmdajdaaW.PrintWords Go.Proofs.YtaiglhfmmdajdaaW.PrintLast Go.Proofs.YtaiglhfmmdajdaaW.PrintMore
attribute [local go_sem] max2_int min2_int max_two min_two max_three min_three max_four min_four   -- for this text's walks alone
set_option linter.unusedVariables false
set_option linter.unusedSimpArgs false
def q13.f (k : Nat) (a0_0 : ByteArray) (a0_1 : Int) (a0_2 : ByteArray) (a0_3 : Bool) (a0_4 : Int) (l0_5 : List (S54)) (l0_6 : List (S54)) (a1_0 : ByteArray) (a1_1 : Int) (a1_2 : ByteArray) (a1_3 : Bool) (a1_4 : Int) (l1_5 : List (S54)) (l1_6 : List (S54)) : Option (Bool) := if a0_0.toList = a1_0.toList then (if a0_1 = a1_1 then (if a0_2.toList = a1_2.toList then (if (a0_3 == a1_3) = true then (if a0_4 = a1_4 then ((q8.f k l0_5 l1_5).bind fun t361 => (if t361 = true then ((q8.f k l0_6 l1_6).bind fun t362 => (some t362)) else (some false))) else (some false)) else (some false)) else (some false)) else (some false)) else (some false)
theorem q13.mono : ∀ a0 a1 a2 a3 a4 a5 a6 a7 a8 a9 a10 a11 a12 a13 k, LeO (q13.f k a0 a1 a2 a3 a4 a5 a6 a7 a8 a9 a10 a11 a12 a13) (q13.f (k + 1) a0 a1 a2 a3 a4 a5 a6 a7 a8 a9 a10 a11 a12 a13) := by
 intro a0 a1 a2 a3 a4 a5 a6 a7 a8 a9 a10 a11 a12 a13 k
 unfold q13.f
 repeat' first
  | (with_reducible exact q8.mono _ _ _)
  | (with_reducible exact LeO.refl _)
  | (with_reducible exact LeO.none _)
  | (with_reducible refine LeO.ite ?_ ?_)
  | (with_reducible refine LeO.bind ?_ (fun _ => ?_))
  | exact q8.mono _ _ _
  | exact LeO.none _
  | refine LeO.ite ?_ ?_
  | refine LeO.bind ?_ (fun _ => ?_)
set_option maxHeartbeats 8000000 in
set_option maxRecDepth 100000 in
theorem q13.calls (k : Nat) (a0_0 : ByteArray) (a0_1 : Int) (a0_2 : ByteArray) (a0_3 : Bool) (a0_4 : Int) (A0_5 : Option Addr) (c0_5 : Nat) (l0_5 : List (S54)) (A0_6 : Option Addr) (c0_6 : Nat) (l0_6 : List (S54)) (a1_0 : ByteArray) (a1_1 : Int) (a1_2 : ByteArray) (a1_3 : Bool) (a1_4 : Int) (A1_5 : Option Addr) (c1_5 : Nat) (l1_5 : List (S54)) (A1_6 : Option Addr) (c1_6 : Nat) (l1_6 : List (S54)) (r : Bool) (w : World) (hr0_5 : Kd.C k54 w A0_5 l0_5.length l0_5) (hc0_5 : l0_5.length ≤ c0_5) (hr0_6 : Kd.C k54 w A0_6 l0_6.length l0_6) (hc0_6 : l0_6.length ≤ c0_6) (hr1_5 : Kd.C k54 w A1_5 l1_5.length l1_5) (hc1_5 : l1_5.length ≤ c1_5) (hr1_6 : Kd.C k54 w A1_6 l1_6.length l1_6) (hc1_6 : l1_6.length ≤ c1_6) (h : q13.f k a0_0 a0_1 a0_2 a0_3 a0_4 l0_5 l0_6 a1_0 a1_1 a1_2 a1_3 a1_4 l1_5 l1_6 = some r) :
 Calls Try.prog 61 #[.agg #[.string a0_0, .int .i64 a0_1, .string a0_2, .bool a0_3, .int .i64 a0_4, .slice A0_5 l0_5.length c0_5, .slice A0_6 l0_6.length c0_6], .agg #[.string a1_0, .int .i64 a1_1, .string a1_2, .bool a1_3, .int .i64 a1_4, .slice A1_5 l1_5.length c1_5, .slice A1_6 l1_6.length c1_6]] w fun e w' => e = .returned (.bool r) ∧ Below w.heap.size w w' := by
 have hu48 := Try.underlying48
 have HR0_5 := q66.mk hr0_5
 have HC0_5 := q66.mk hc0_5
 clear hr0_5 hc0_5
 have HR0_6 := q66.mk hr0_6
 have HC0_6 := q66.mk hc0_6
 clear hr0_6 hc0_6
 have HR1_5 := q66.mk hr1_5
 have HC1_5 := q66.mk hc1_5
 clear hr1_5 hc1_5
 have HR1_6 := q66.mk hr1_6
 have HC1_6 := q66.mk hc1_6
 clear hr1_6 hc1_6
 have HB := q66.mk (Below.refl w.heap.size w)
 unfold q13.f at h
 have H := h
 clear h
 by_cases c3 : a0_0.toList = a1_0.toList
 ·rw [if_pos c3] at H
  have c3b0 : (a0_0.toList == a1_0.toList) = true := beq_iff_eq.mpr c3
  have c3b1 : (a0_0.toList != a1_0.toList) = false := bne_eq_false_iff_eq.mpr c3
  clear c3
  by_cases c4 : a0_1 = a1_1
  ·rw [if_pos c4] at H
   have c4b0 : (a0_1 == a1_1) = true := beq_iff_eq.mpr c4
   have c4b1 : (a0_1 != a1_1) = false := bne_eq_false_iff_eq.mpr c4
   clear c4
   by_cases c5 : a0_2.toList = a1_2.toList
   ·rw [if_pos c5] at H
    have c5b0 : (a0_2.toList == a1_2.toList) = true := beq_iff_eq.mpr c5
    have c5b1 : (a0_2.toList != a1_2.toList) = false := bne_eq_false_iff_eq.mpr c5
    clear c5
    by_cases c6 : (a0_3 == a1_3) = true
    ·rw [if_pos c6] at H
     have c6b0 : (a0_3 == a1_3) = true := c6
     (try (have c6b1 : decide (a0_3 = a1_3) = true := by simpa using c6))
     (try (have c6b2 : (a0_3 == a1_3) = true := by simpa using c6))
     clear c6
     by_cases c7 : a0_4 = a1_4
     ·rw [if_pos c7] at H
      have c7b0 : (a0_4 == a1_4) = true := beq_iff_eq.mpr c7
      have c7b1 : (a0_4 != a1_4) = false := bne_eq_false_iff_eq.mpr c7
      clear c7
      replace H := Option.bind_eq_some_iff.mp H
      obtain ⟨t361, A80, H⟩ := H
      have A8 := q66.mk A80
      clear A80
      by_cases c9 : t361 = true
      ·subst c9
       have H1 : ((q8.f k l0_6 l1_6).bind fun t362 => (some t362)) = some r := by rw [if_pos rfl] at H; exact H
       clear H
       have H := H1
       clear H1
       replace H := Option.bind_eq_some_iff.mp H
       obtain ⟨t362, A100, H⟩ := H
       have A10 := q66.mk A100
       clear A100
       obtain rfl := Option.some.inj H
       go_enter Try.func61, Try.ntmps61
       go_wp2_with (first | ((with_reducible refine q81 (N := 2) rfl ?_); refine bx_ 2 #[.string a0_0, .int .i64 a0_1, .string a0_2, .bool a0_3, .int .i64 a0_4, .slice A0_5 l0_5.length c0_5, .slice A0_6 l0_6.length c0_6] 48 ?_; intro gb359 hg w11 hbox hb; have BK359 := q66.mk (hbox); have GW359 := zz_ (w := w) hg; have GE359 := zz_ (w := w) hg; replace HB := hb_ HB hb;  clear hb hbox hg) | ((with_reducible refine q81 (N := 3) rfl ?_); refine bx_ 3 #[.string a1_0, .int .i64 a1_1, .string a1_2, .bool a1_3, .int .i64 a1_4, .slice A1_5 l1_5.length c1_5, .slice A1_6 l1_6.length c1_6] 48 ?_; intro gb360 hg w12 hbox hb; have BK360 := q66.mk (hbox); have GW360 := zz_ (w := w) hg; have GE360 := zz_ (w := w) hg; replace HB := hb_ HB hb; have NB359_360 := ne1_ hg BK359; have NB360_359 := ne2_ hg BK359; replace BK359 := bb_ BK359 hb;  clear hb hbox hg; have hnb13 := NB359_360.out; have hnc13 := NB360_359.out; obtain ⟨hcz14_0, hcz14_1, hcz14_2, hcz14_3, hcz14_4, hcz14_5, hcz14_6, hfz14_0, hfz14_1, hfz14_2, hfz14_3, hfz14_4, hfz14_5, hfz14_6⟩ := bs7_ BK359; obtain ⟨hcz15_0, hcz15_1, hcz15_2, hcz15_3, hcz15_4, hcz15_5, hcz15_6, hfz15_0, hfz15_1, hfz15_2, hfz15_3, hfz15_4, hfz15_5, hfz15_6⟩ := bs7_ BK360) | (go_at_call 78; (with_reducible refine (q8.calls k _ _ l0_5 _ _ l1_5 true _ ?side1 ?side2 ?side3 ?side4 A8.out).mono ?_); (case side1 => exact kc_ HR0_5 HB); (case side2 => exact HC0_5.out); (case side3 => exact kc_ HR1_5 HB); (case side4 => exact HC1_5.out); rintro e w' ⟨rfl, ⟨nd, rfl⟩⟩) | (go_at_call 78; (with_reducible refine (q8.calls k _ _ l0_6 _ _ l1_6 t362 _ ?side1 ?side2 ?side3 ?side4 A10.out).mono ?_); (case side1 => repeat (first | exact (Kd.C_below HR0_6.out hf_) | (with_reducible refine Kd.C_alloc ?_ _) | (with_reducible refine Kd.C_drewN ?_ _) | (with_reducible refine Kd.C_drew ?_))); (case side2 => exact HC0_6.out); (case side3 => repeat (first | exact (Kd.C_below HR1_6.out hf_) | (with_reducible refine Kd.C_alloc ?_ _) | (with_reducible refine Kd.C_drewN ?_ _) | (with_reducible refine Kd.C_drew ?_))); (case side4 => exact HC1_6.out); rintro e w' ⟨rfl, ⟨nd, rfl⟩⟩))
       go_ret
       exact ⟨er_, hf_⟩
      ·replace c9 := Bool.eq_false_iff.mpr c9
       subst c9
       have H1 : (some false) = some r := by rw [if_neg (show ¬ (false = true) by decide)] at H; exact H
       clear H
       have H := H1
       clear H1
       obtain rfl := Option.some.inj H
       go_enter Try.func61, Try.ntmps61
       go_wp2_with (first | ((with_reducible refine q81 (N := 2) rfl ?_); refine bx_ 2 #[.string a0_0, .int .i64 a0_1, .string a0_2, .bool a0_3, .int .i64 a0_4, .slice A0_5 l0_5.length c0_5, .slice A0_6 l0_6.length c0_6] 48 ?_; intro gb359 hg w16 hbox hb; have BK359 := q66.mk (hbox); have GW359 := zz_ (w := w) hg; have GE359 := zz_ (w := w) hg; replace HB := hb_ HB hb;  clear hb hbox hg) | ((with_reducible refine q81 (N := 3) rfl ?_); refine bx_ 3 #[.string a1_0, .int .i64 a1_1, .string a1_2, .bool a1_3, .int .i64 a1_4, .slice A1_5 l1_5.length c1_5, .slice A1_6 l1_6.length c1_6] 48 ?_; intro gb360 hg w17 hbox hb; have BK360 := q66.mk (hbox); have GW360 := zz_ (w := w) hg; have GE360 := zz_ (w := w) hg; replace HB := hb_ HB hb; have NB359_360 := ne1_ hg BK359; have NB360_359 := ne2_ hg BK359; replace BK359 := bb_ BK359 hb;  clear hb hbox hg; have hnb18 := NB359_360.out; have hnc18 := NB360_359.out; obtain ⟨hcz19_0, hcz19_1, hcz19_2, hcz19_3, hcz19_4, hcz19_5, hcz19_6, hfz19_0, hfz19_1, hfz19_2, hfz19_3, hfz19_4, hfz19_5, hfz19_6⟩ := bs7_ BK359; obtain ⟨hcz20_0, hcz20_1, hcz20_2, hcz20_3, hcz20_4, hcz20_5, hcz20_6, hfz20_0, hfz20_1, hfz20_2, hfz20_3, hfz20_4, hfz20_5, hfz20_6⟩ := bs7_ BK360) | (go_at_call 78; (with_reducible refine (q8.calls k _ _ l0_5 _ _ l1_5 false _ ?side1 ?side2 ?side3 ?side4 A8.out).mono ?_); (case side1 => exact kc_ HR0_5 HB); (case side2 => exact HC0_5.out); (case side3 => exact kc_ HR1_5 HB); (case side4 => exact HC1_5.out); rintro e w' ⟨rfl, ⟨nd, rfl⟩⟩))
       go_ret
       exact ⟨er_, hf_⟩
     ·rw [if_neg c7] at H
      have c7b0 : (a0_4 == a1_4) = false := beq_eq_false_iff_ne.mpr c7
      have c7b1 : (a0_4 != a1_4) = true := bne_iff_ne.mpr c7
      obtain rfl := Option.some.inj H
      go_enter Try.func61, Try.ntmps61
      go_wp2_with (first | ((with_reducible refine q81 (N := 2) rfl ?_); refine bx_ 2 #[.string a0_0, .int .i64 a0_1, .string a0_2, .bool a0_3, .int .i64 a0_4, .slice A0_5 l0_5.length c0_5, .slice A0_6 l0_6.length c0_6] 48 ?_; intro gb359 hg w21 hbox hb; have BK359 := q66.mk (hbox); have GW359 := zz_ (w := w) hg; have GE359 := zz_ (w := w) hg; replace HB := hb_ HB hb;  clear hb hbox hg) | ((with_reducible refine q81 (N := 3) rfl ?_); refine bx_ 3 #[.string a1_0, .int .i64 a1_1, .string a1_2, .bool a1_3, .int .i64 a1_4, .slice A1_5 l1_5.length c1_5, .slice A1_6 l1_6.length c1_6] 48 ?_; intro gb360 hg w22 hbox hb; have BK360 := q66.mk (hbox); have GW360 := zz_ (w := w) hg; have GE360 := zz_ (w := w) hg; replace HB := hb_ HB hb; have NB359_360 := ne1_ hg BK359; have NB360_359 := ne2_ hg BK359; replace BK359 := bb_ BK359 hb;  clear hb hbox hg; have hnb23 := NB359_360.out; have hnc23 := NB360_359.out; obtain ⟨hcz24_0, hcz24_1, hcz24_2, hcz24_3, hcz24_4, hcz24_5, hcz24_6, hfz24_0, hfz24_1, hfz24_2, hfz24_3, hfz24_4, hfz24_5, hfz24_6⟩ := bs7_ BK359; obtain ⟨hcz25_0, hcz25_1, hcz25_2, hcz25_3, hcz25_4, hcz25_5, hcz25_6, hfz25_0, hfz25_1, hfz25_2, hfz25_3, hfz25_4, hfz25_5, hfz25_6⟩ := bs7_ BK360))
      go_ret
      exact ⟨er_, hf_⟩
    ·rw [if_neg c6] at H
     have c6b0 : (a0_3 == a1_3) = false := by simpa using c6
     (try (have c6b1 : decide (a0_3 = a1_3) = false := by simpa using c6))
     (try (have c6b2 : (a0_3 == a1_3) = false := by simpa using c6))
     (try (have c6b3 : ¬ (a0_3 = a1_3) := by simpa using c6))
     clear c6
     obtain rfl := Option.some.inj H
     go_enter Try.func61, Try.ntmps61
     go_wp2_with (first | ((with_reducible refine q81 (N := 2) rfl ?_); refine bx_ 2 #[.string a0_0, .int .i64 a0_1, .string a0_2, .bool a0_3, .int .i64 a0_4, .slice A0_5 l0_5.length c0_5, .slice A0_6 l0_6.length c0_6] 48 ?_; intro gb359 hg w26 hbox hb; have BK359 := q66.mk (hbox); have GW359 := zz_ (w := w) hg; have GE359 := zz_ (w := w) hg; replace HB := hb_ HB hb;  clear hb hbox hg) | ((with_reducible refine q81 (N := 3) rfl ?_); refine bx_ 3 #[.string a1_0, .int .i64 a1_1, .string a1_2, .bool a1_3, .int .i64 a1_4, .slice A1_5 l1_5.length c1_5, .slice A1_6 l1_6.length c1_6] 48 ?_; intro gb360 hg w27 hbox hb; have BK360 := q66.mk (hbox); have GW360 := zz_ (w := w) hg; have GE360 := zz_ (w := w) hg; replace HB := hb_ HB hb; have NB359_360 := ne1_ hg BK359; have NB360_359 := ne2_ hg BK359; replace BK359 := bb_ BK359 hb;  clear hb hbox hg; have hnb28 := NB359_360.out; have hnc28 := NB360_359.out; obtain ⟨hcz29_0, hcz29_1, hcz29_2, hcz29_3, hcz29_4, hcz29_5, hcz29_6, hfz29_0, hfz29_1, hfz29_2, hfz29_3, hfz29_4, hfz29_5, hfz29_6⟩ := bs7_ BK359; obtain ⟨hcz30_0, hcz30_1, hcz30_2, hcz30_3, hcz30_4, hcz30_5, hcz30_6, hfz30_0, hfz30_1, hfz30_2, hfz30_3, hfz30_4, hfz30_5, hfz30_6⟩ := bs7_ BK360))
     go_ret
     exact ⟨er_, hf_⟩
   ·rw [if_neg c5] at H
    have c5b0 : (a0_2.toList == a1_2.toList) = false := beq_eq_false_iff_ne.mpr c5
    have c5b1 : (a0_2.toList != a1_2.toList) = true := bne_iff_ne.mpr c5
    obtain rfl := Option.some.inj H
    go_enter Try.func61, Try.ntmps61
    go_wp2_with (first | ((with_reducible refine q81 (N := 2) rfl ?_); refine bx_ 2 #[.string a0_0, .int .i64 a0_1, .string a0_2, .bool a0_3, .int .i64 a0_4, .slice A0_5 l0_5.length c0_5, .slice A0_6 l0_6.length c0_6] 48 ?_; intro gb359 hg w31 hbox hb; have BK359 := q66.mk (hbox); have GW359 := zz_ (w := w) hg; have GE359 := zz_ (w := w) hg; replace HB := hb_ HB hb;  clear hb hbox hg) | ((with_reducible refine q81 (N := 3) rfl ?_); refine bx_ 3 #[.string a1_0, .int .i64 a1_1, .string a1_2, .bool a1_3, .int .i64 a1_4, .slice A1_5 l1_5.length c1_5, .slice A1_6 l1_6.length c1_6] 48 ?_; intro gb360 hg w32 hbox hb; have BK360 := q66.mk (hbox); have GW360 := zz_ (w := w) hg; have GE360 := zz_ (w := w) hg; replace HB := hb_ HB hb; have NB359_360 := ne1_ hg BK359; have NB360_359 := ne2_ hg BK359; replace BK359 := bb_ BK359 hb;  clear hb hbox hg; have hnb33 := NB359_360.out; have hnc33 := NB360_359.out; obtain ⟨hcz34_0, hcz34_1, hcz34_2, hcz34_3, hcz34_4, hcz34_5, hcz34_6, hfz34_0, hfz34_1, hfz34_2, hfz34_3, hfz34_4, hfz34_5, hfz34_6⟩ := bs7_ BK359; obtain ⟨hcz35_0, hcz35_1, hcz35_2, hcz35_3, hcz35_4, hcz35_5, hcz35_6, hfz35_0, hfz35_1, hfz35_2, hfz35_3, hfz35_4, hfz35_5, hfz35_6⟩ := bs7_ BK360))
    go_ret
    exact ⟨er_, hf_⟩
  ·rw [if_neg c4] at H
   have c4b0 : (a0_1 == a1_1) = false := beq_eq_false_iff_ne.mpr c4
   have c4b1 : (a0_1 != a1_1) = true := bne_iff_ne.mpr c4
   obtain rfl := Option.some.inj H
   go_enter Try.func61, Try.ntmps61
   go_wp2_with (first | ((with_reducible refine q81 (N := 2) rfl ?_); refine bx_ 2 #[.string a0_0, .int .i64 a0_1, .string a0_2, .bool a0_3, .int .i64 a0_4, .slice A0_5 l0_5.length c0_5, .slice A0_6 l0_6.length c0_6] 48 ?_; intro gb359 hg w36 hbox hb; have BK359 := q66.mk (hbox); have GW359 := zz_ (w := w) hg; have GE359 := zz_ (w := w) hg; replace HB := hb_ HB hb;  clear hb hbox hg) | ((with_reducible refine q81 (N := 3) rfl ?_); refine bx_ 3 #[.string a1_0, .int .i64 a1_1, .string a1_2, .bool a1_3, .int .i64 a1_4, .slice A1_5 l1_5.length c1_5, .slice A1_6 l1_6.length c1_6] 48 ?_; intro gb360 hg w37 hbox hb; have BK360 := q66.mk (hbox); have GW360 := zz_ (w := w) hg; have GE360 := zz_ (w := w) hg; replace HB := hb_ HB hb; have NB359_360 := ne1_ hg BK359; have NB360_359 := ne2_ hg BK359; replace BK359 := bb_ BK359 hb;  clear hb hbox hg; have hnb38 := NB359_360.out; have hnc38 := NB360_359.out; obtain ⟨hcz39_0, hcz39_1, hcz39_2, hcz39_3, hcz39_4, hcz39_5, hcz39_6, hfz39_0, hfz39_1, hfz39_2, hfz39_3, hfz39_4, hfz39_5, hfz39_6⟩ := bs7_ BK359; obtain ⟨hcz40_0, hcz40_1, hcz40_2, hcz40_3, hcz40_4, hcz40_5, hcz40_6, hfz40_0, hfz40_1, hfz40_2, hfz40_3, hfz40_4, hfz40_5, hfz40_6⟩ := bs7_ BK360))
   go_ret
   exact ⟨er_, hf_⟩
 ·rw [if_neg c3] at H
  have c3b0 : (a0_0.toList == a1_0.toList) = false := beq_eq_false_iff_ne.mpr c3
  have c3b1 : (a0_0.toList != a1_0.toList) = true := bne_iff_ne.mpr c3
  obtain rfl := Option.some.inj H
  go_enter Try.func61, Try.ntmps61
  go_wp2_with (first | ((with_reducible refine q81 (N := 2) rfl ?_); refine bx_ 2 #[.string a0_0, .int .i64 a0_1, .string a0_2, .bool a0_3, .int .i64 a0_4, .slice A0_5 l0_5.length c0_5, .slice A0_6 l0_6.length c0_6] 48 ?_; intro gb359 hg w41 hbox hb; have BK359 := q66.mk (hbox); have GW359 := zz_ (w := w) hg; have GE359 := zz_ (w := w) hg; replace HB := hb_ HB hb;  clear hb hbox hg) | ((with_reducible refine q81 (N := 3) rfl ?_); refine bx_ 3 #[.string a1_0, .int .i64 a1_1, .string a1_2, .bool a1_3, .int .i64 a1_4, .slice A1_5 l1_5.length c1_5, .slice A1_6 l1_6.length c1_6] 48 ?_; intro gb360 hg w42 hbox hb; have BK360 := q66.mk (hbox); have GW360 := zz_ (w := w) hg; have GE360 := zz_ (w := w) hg; replace HB := hb_ HB hb; have NB359_360 := ne1_ hg BK359; have NB360_359 := ne2_ hg BK359; replace BK359 := bb_ BK359 hb;  clear hb hbox hg; have hnb43 := NB359_360.out; have hnc43 := NB360_359.out; obtain ⟨hcz44_0, hcz44_1, hcz44_2, hcz44_3, hcz44_4, hcz44_5, hcz44_6, hfz44_0, hfz44_1, hfz44_2, hfz44_3, hfz44_4, hfz44_5, hfz44_6⟩ := bs7_ BK359; obtain ⟨hcz45_0, hcz45_1, hcz45_2, hcz45_3, hcz45_4, hcz45_5, hcz45_6, hfz45_0, hfz45_1, hfz45_2, hfz45_3, hfz45_4, hfz45_5, hfz45_6⟩ := bs7_ BK360))
  go_ret
  exact ⟨er_, hf_⟩
def q9.l0 : Nat → List (S48) → List (S48) → Int → Option (Bool)
 | 0, _, _, _ => none
 | k + 1, x0, x1, x5 => if x5 < (x0.length : Int) then (if 0 ≤ x5 then (if x5 < (x1.length : Int) then ((q13.f k ((q89 x0 x5).f0) ((q89 x0 x5).f1) ((q89 x0 x5).f2) ((q89 x0 x5).f3) ((q89 x0 x5).f4) ((q89 x0 x5).f5) ((q89 x0 x5).f6) ((q89 x1 x5).f0) ((q89 x1 x5).f1) ((q89 x1 x5).f2) ((q89 x1 x5).f3) ((q89 x1 x5).f4) ((q89 x1 x5).f5) ((q89 x1 x5).f6)).bind fun t365 => (if t365 = true then (q9.l0 k x0 x1 (wrap64 (x5 + 1))) else (some false))) else (none)) else (none)) else (some true)
def q9.f (k : Nat) (l0 : List (S48)) (l1 : List (S48)) : Option (Bool) := if (l0.length : Int) = (l1.length : Int) then (q9.l0 k l0 l1 0) else (some false)
theorem q9.mono_l : ∀ k, (∀ y0 y1 y2, LeO (q9.l0 k y0 y1 y2) (q9.l0 (k + 1) y0 y1 y2))
 | 0 => fun _ _ _ r h => by simp [q9.l0] at h
 | k + 1 => by
  have ih0 := q9.mono_l k
  ·intro y0 y1 y2
   unfold q9.l0
   repeat' first
   | (with_reducible exact ih0 _ _ _)
   | (with_reducible exact q13.mono _ _ _ _ _ _ _ _ _ _ _ _ _ _ _)
   | (with_reducible exact LeO.refl _)
   | (with_reducible exact LeO.none _)
   | (with_reducible refine LeO.ite ?_ ?_)
   | (with_reducible refine LeO.bind ?_ (fun _ => ?_))
   | exact ih0 _ _ _
   | exact q13.mono _ _ _ _ _ _ _ _ _ _ _ _ _ _ _
   | exact LeO.none _
   | refine LeO.ite ?_ ?_
   | refine LeO.bind ?_ (fun _ => ?_)
theorem q9.mono : ∀ a0 a1 k, LeO (q9.f k a0 a1) (q9.f (k + 1) a0 a1) := by
 intro a0 a1 k
 have ih0 := q9.mono_l k
 unfold q9.f
 repeat' first
  | (with_reducible exact ih0 _ _ _)
  | (with_reducible exact q13.mono _ _ _ _ _ _ _ _ _ _ _ _ _ _ _)
  | (with_reducible exact LeO.refl _)
  | (with_reducible exact LeO.none _)
  | (with_reducible refine LeO.ite ?_ ?_)
  | (with_reducible refine LeO.bind ?_ (fun _ => ?_))
  | exact ih0 _ _ _
  | exact q13.mono _ _ _ _ _ _ _ _ _ _ _ _ _ _ _
  | exact LeO.none _
  | refine LeO.ite ?_ ?_
  | refine LeO.bind ?_ (fun _ => ?_)
def q9.T6 : Bool × List (List Nat × List Nat) := (true, [([], []), ([], []), ([0, 1], [0, 1]), ([2], [2]), ([], []), ([], []), ([4, 5], [4, 5]), ([6], [6]), ([3, 7], [3, 7]), ([8], [8])])
def q9.B6 : List Nat := [0, 0, 3, 7, 0, 0, 48, 112, 255, 511]
theorem q9.tab6 : rtab .any (opsOf Try.f33 6) = q9.T6 := by kernel_rfl
theorem q9.bits6 : waitsOk q9.T6.2 q9.B6 = true := by kernel_rfl
set_option maxHeartbeats 8000000 in
set_option maxRecDepth 100000 in
theorem q9.calls (k : Nat) (A0 : Option Addr) (c0 : Nat) (l0 : List (S48)) (A1 : Option Addr) (c1 : Nat) (l1 : List (S48)) (r : Bool) (w : World) (hr0 : Kd.C k48 w A0 l0.length l0) (hc0 : l0.length ≤ c0) (hr1 : Kd.C k48 w A1 l1.length l1) (hc1 : l1.length ≤ c1) (h : q9.f k l0 l1 = some r) :
 Calls Try.prog 33 #[.slice A0 l0.length c0, .slice A1 l1.length c1] w fun e w' => e = .returned (.bool r) ∧ Below w.heap.size w w' := by
 have hu48 := Try.underlying48
 have HR0 := q66.mk hr0
 have HC0 := q66.mk hc0
 clear hr0 hc0
 have HR1 := q66.mk hr1
 have HC1 := q66.mk hc1
 clear hr1 hc1
 have HB := q66.mk (Below.refl w.heap.size w)
 unfold q9.f at h
 have H := h
 clear h
 by_cases c3 : (l0.length : Int) = (l1.length : Int)
 ·rw [if_pos c3] at H
  have c3b0 : ((l0.length : Int) == (l1.length : Int)) = true := beq_iff_eq.mpr c3
  have c3b1 : ((l0.length : Int) != (l1.length : Int)) = false := bne_eq_false_iff_eq.mpr c3
  have c3b2 : (l0.length == l1.length) = true := by first | simpa using c3 | (simp at c3 ⊢; omega)
  clear c3
  have H' := q66.mk H
  clear H
  go_enter Try.func33, Try.ntmps33
  go_wp2
  go_loopg [5] k (fun kq v5 w' => ∃ (x5_1 : Int), v5 = .int .i64 x5_1 ∧ q66 (q9.l0 kq l0 l1 x5_1 = some r) ∧ q66 (kq ≤ k) ∧ q66 (Below w.heap.size w w'))
  case atStart => exact ⟨(0), rf_, H', ⟨Nat.le_refl _⟩, ⟨hf_⟩⟩
  case round =>
   clear H'
   clear c3b0 c3b1 c3b2
   obtain ⟨x5_1, rfl, HA, HK1, HB⟩ := hrel
   cases gk with
   | zero => exact absurd HA.out (by simp [q9.l0])
   | succ k1 =>
    have H := HA.out
    clear HA
    simp only [q9.l0] at H
    by_cases c4 : x5_1 < (l0.length : Int)
    ·rw [if_pos c4] at H
     replace c4 := decide_eq_true c4
     by_cases c5 : 0 ≤ x5_1
     ·rw [if_pos c5] at H
      replace c5 := decide_eq_true c5
      by_cases c6 : x5_1 < (l1.length : Int)
      ·rw [if_pos c6] at H
       replace c6 := decide_eq_true c6
       replace H := Option.bind_eq_some_iff.mp H
       obtain ⟨t365, A70, H⟩ := H
       have A7 := q66.mk A70
       clear A70
       by_cases c8 : t365 = true
       ·subst c8
        have H1 : (q9.l0 k1 l0 l1 (wrap64 (x5_1 + 1))) = some r := by rw [if_pos rfl] at H; exact H
        clear H
        have H := H1
        clear H1
        have H' := q66.mk H
        clear H
        try go_wp2
        replace HB := q66.mk (q68 HB.out)
        have p363 : 0 ≤ (x5_1 : Int) := od_
        have q363 : x5_1 < (l0.length : Int) := od_
        obtain ⟨ad363, A363_5, c363_5, A363_6, c363_6, e363, hx363_0, hx363_1, hx363_2, hx363_3, hx363_4, hx363_5, hx363_6, hl363_5, hi363_5, hl363_6, hi363_6⟩ := at_T48 HR0.out x5_1 p363 q363
        have hw363_6 := hx363_6
        have hw363_5 := hx363_5
        have hw363_4 := hx363_4
        have hw363_3 := hx363_3
        have hw363_2 := hx363_2
        have hw363_1 := hx363_1
        have hw363_0 := hx363_0
        cases e363
        replace hx363_0 := rr_ HB hx363_0
        replace hx363_1 := rr_ HB hx363_1
        replace hx363_2 := rr_ HB hx363_2
        replace hx363_3 := rr_ HB hx363_3
        replace hx363_4 := rr_ HB hx363_4
        replace hx363_5 := rr_ HB hx363_5
        replace hx363_6 := rr_ HB hx363_6
        have HR363_5 := q66.mk hi363_5
        have HC363_5 := q66.mk hl363_5
        clear hi363_5 hl363_5
        have HR363_6 := q66.mk hi363_6
        have HC363_6 := q66.mk hl363_6
        clear hi363_6 hl363_6
        replace p363 := eq_true p363
        replace q363 := eq_true q363
        have p364 : 0 ≤ (x5_1 : Int) := od_
        have q364 : x5_1 < (l1.length : Int) := od_
        obtain ⟨ad364, A364_5, c364_5, A364_6, c364_6, e364, hx364_0, hx364_1, hx364_2, hx364_3, hx364_4, hx364_5, hx364_6, hl364_5, hi364_5, hl364_6, hi364_6⟩ := at_T48 HR1.out x5_1 p364 q364
        have hw364_6 := hx364_6
        have hw364_5 := hx364_5
        have hw364_4 := hx364_4
        have hw364_3 := hx364_3
        have hw364_2 := hx364_2
        have hw364_1 := hx364_1
        have hw364_0 := hx364_0
        cases e364
        replace hx364_0 := rr_ HB hx364_0
        replace hx364_1 := rr_ HB hx364_1
        replace hx364_2 := rr_ HB hx364_2
        replace hx364_3 := rr_ HB hx364_3
        replace hx364_4 := rr_ HB hx364_4
        replace hx364_5 := rr_ HB hx364_5
        replace hx364_6 := rr_ HB hx364_6
        have HR364_5 := q66.mk hi364_5
        have HC364_5 := q66.mk hl364_5
        clear hi364_5 hl364_5
        have HR364_6 := q66.mk hi364_6
        have HC364_6 := q66.mk hl364_6
        clear hi364_6 hl364_6
        replace p364 := eq_true p364
        replace q364 := eq_true q364
        refine start_ (n := 10) (S := fun w' => w'.cell? (ad363.add ((x5_1).toNat * 7)) = some (.string ((q89 l0 x5_1).f0)) ∧ w'.cell? ⟨(ad363.add ((x5_1).toNat * 7)).block, (ad363.add ((x5_1).toNat * 7)).off + 1, none⟩ = some (.int .i64 ((q89 l0 x5_1).f1)) ∧ w'.cell? ⟨(ad363.add ((x5_1).toNat * 7)).block, (ad363.add ((x5_1).toNat * 7)).off + 2, none⟩ = some (.string ((q89 l0 x5_1).f2)) ∧ w'.cell? ⟨(ad363.add ((x5_1).toNat * 7)).block, (ad363.add ((x5_1).toNat * 7)).off + 3, none⟩ = some (.bool ((q89 l0 x5_1).f3)) ∧ w'.cell? ⟨(ad363.add ((x5_1).toNat * 7)).block, (ad363.add ((x5_1).toNat * 7)).off + 4, none⟩ = some (.int .i64 ((q89 l0 x5_1).f4)) ∧ w'.cell? ⟨(ad363.add ((x5_1).toNat * 7)).block, (ad363.add ((x5_1).toNat * 7)).off + 5, none⟩ = some (.slice A363_5 ((q89 l0 x5_1).f5).length c363_5) ∧ w'.cell? ⟨(ad363.add ((x5_1).toNat * 7)).block, (ad363.add ((x5_1).toNat * 7)).off + 6, none⟩ = some (.slice A363_6 ((q89 l0 x5_1).f6).length c363_6) ∧ w'.cell? (ad364.add ((x5_1).toNat * 7)) = some (.string ((q89 l1 x5_1).f0)) ∧ w'.cell? ⟨(ad364.add ((x5_1).toNat * 7)).block, (ad364.add ((x5_1).toNat * 7)).off + 1, none⟩ = some (.int .i64 ((q89 l1 x5_1).f1)) ∧ w'.cell? ⟨(ad364.add ((x5_1).toNat * 7)).block, (ad364.add ((x5_1).toNat * 7)).off + 2, none⟩ = some (.string ((q89 l1 x5_1).f2)) ∧ w'.cell? ⟨(ad364.add ((x5_1).toNat * 7)).block, (ad364.add ((x5_1).toNat * 7)).off + 3, none⟩ = some (.bool ((q89 l1 x5_1).f3)) ∧ w'.cell? ⟨(ad364.add ((x5_1).toNat * 7)).block, (ad364.add ((x5_1).toNat * 7)).off + 4, none⟩ = some (.int .i64 ((q89 l1 x5_1).f4)) ∧ w'.cell? ⟨(ad364.add ((x5_1).toNat * 7)).block, (ad364.add ((x5_1).toNat * 7)).off + 5, none⟩ = some (.slice A364_5 ((q89 l1 x5_1).f5).length c364_5) ∧ w'.cell? ⟨(ad364.add ((x5_1).toNat * 7)).block, (ad364.add ((x5_1).toNat * 7)).off + 6, none⟩ = some (.slice A364_6 ((q89 l1 x5_1).f6).length c364_6)) (ds := []) (bits_ 10 0) (by kernel_rfl) rfl rfl ⟨(rr_ HB hw363_0 :), (rr_ HB hw363_1 :), (rr_ HB hw363_2 :), (rr_ HB hw363_3 :), (rr_ HB hw363_4 :), (rr_ HB hw363_5 :), (rr_ HB hw363_6 :), (rr_ HB hw364_0 :), (rr_ HB hw364_1 :), (rr_ HB hw364_2 :), (rr_ HB hw364_3 :), (rr_ HB hw364_4 :), (rr_ HB hw364_5 :), (rr_ HB hw364_6 :)⟩ (fun hHeld => ?_); refine with_tabW q9.tab6 q9.bits6 (fun HT_ HW_ => ?_)
        generalize wr.drew = w9 at HB HR363_5 HR363_6 HR364_5 HR364_6 hx363_0 hx363_1 hx363_2 hx363_3 hx363_4 hx363_5 hx363_6 hx364_0 hx364_1 hx364_2 hx364_3 hx364_4 hx364_5 hx364_6 hHeld ⊢
        refine pz_ 0 (some 17) (bits_ 10 1) HT_.out ?_
        refine pz_ 1 (some 18) (bits_ 10 3) HT_.out ?_
        refine pz_ 2 (some 19) (bits_ 10 7) HT_.out ?_
        refine pz_ 4 (some 21) (bits_ 10 23) HT_.out ?_
        refine pz_ 5 (some 22) (bits_ 10 55) HT_.out ?_
        refine pz_ 6 (some 23) (bits_ 10 119) HT_.out ?_
        refine tz_ 3 (some 20) (bits_ 10 127) HT_.out HW_.out hHeld ?_ (hy := by rintro w' ⟨s0, s1, s2, s3, s4, s5, s6, s7, s8, s9, s10, s11, s12, s13⟩; go_simp; with_reducible rfl)
        refine tz_ 7 (some 24) (bits_ 10 255) HT_.out HW_.out hHeld ?_ (hy := by rintro w' ⟨s0, s1, s2, s3, s4, s5, s6, s7, s8, s9, s10, s11, s12, s13⟩; go_simp; with_reducible rfl)
        refine oz_ 8 (some 25) (bits_ 10 511) HT_.out (fun K hK => ?_)
        refine go_s_ Try.func61 #[.agg #[.string ((q89 l0 x5_1).f0), .int .i64 ((q89 l0 x5_1).f1), .string ((q89 l0 x5_1).f2), .bool ((q89 l0 x5_1).f3), .int .i64 ((q89 l0 x5_1).f4), .slice A363_5 ((q89 l0 x5_1).f5).length c363_5, .slice A363_6 ((q89 l0 x5_1).f6).length c363_6], .agg #[.string ((q89 l1 x5_1).f0), .int .i64 ((q89 l1 x5_1).f1), .string ((q89 l1 x5_1).f2), .bool ((q89 l1 x5_1).f3), .int .i64 ((q89 l1 x5_1).f4), .slice A364_5 ((q89 l1 x5_1).f5).length c364_5, .slice A364_6 ((q89 l1 x5_1).f6).length c364_6]] ?_
        with_reducible refine (q13.calls k1 ((q89 l0 x5_1).f0) ((q89 l0 x5_1).f1) ((q89 l0 x5_1).f2) ((q89 l0 x5_1).f3) ((q89 l0 x5_1).f4) _ _ ((q89 l0 x5_1).f5) _ _ ((q89 l0 x5_1).f6) ((q89 l1 x5_1).f0) ((q89 l1 x5_1).f1) ((q89 l1 x5_1).f2) ((q89 l1 x5_1).f3) ((q89 l1 x5_1).f4) _ _ ((q89 l1 x5_1).f5) _ _ ((q89 l1 x5_1).f6) true _ ?side1 ?side2 ?side3 ?side4 ?side5 ?side6 ?side7 ?side8 A7.out).mono ?_
        (case side1 => exact kc_ HR363_5 HB)
        (case side2 => exact HC363_5.out)
        (case side3 => exact kc_ HR363_6 HB)
        (case side4 => exact HC363_6.out)
        (case side5 => exact kc_ HR364_5 HB)
        (case side6 => exact HC364_5.out)
        (case side7 => exact kc_ HR364_6 HB)
        (case side8 => exact HC364_6.out)
        rintro e w10 ⟨rfl, hb⟩
        refine ⟨_, rfl, ?_⟩
        replace HB := hb_ HB hb
        clear hb
        refine hK.out _ _ ⟨(rr_ HB hw363_0 :), (rr_ HB hw363_1 :), (rr_ HB hw363_2 :), (rr_ HB hw363_3 :), (rr_ HB hw363_4 :), (rr_ HB hw363_5 :), (rr_ HB hw363_6 :), (rr_ HB hw364_0 :), (rr_ HB hw364_1 :), (rr_ HB hw364_2 :), (rr_ HB hw364_3 :), (rr_ HB hw364_4 :), (rr_ HB hw364_5 :), (rr_ HB hw364_6 :)⟩ (fun hHeld => ?_)
        clear hK K
        refine nz_ (some 25) ?_
        refine pz_ 9 (some 26) (bits_ 10 1023) HT_.out ?_
        refine done_ (done_of HT_.out (by kernel_rfl)) ?_
        try go_wp2
        go_roundg k1
        case measure => have := HK1.out; omega
        case rel => exact ⟨(wrap64 (x5_1 + 1)), rf_, H', ⟨by have := HK1.out; omega⟩, ⟨hf_⟩⟩
       ·replace c8 := Bool.eq_false_iff.mpr c8
        subst c8
        have H1 : (some false) = some r := by rw [if_neg (show ¬ (false = true) by decide)] at H; exact H
        clear H
        have H := H1
        clear H1
        obtain rfl := Option.some.inj H
        try go_wp2
        replace HB := q66.mk (q68 HB.out)
        have p363 : 0 ≤ (x5_1 : Int) := od_
        have q363 : x5_1 < (l0.length : Int) := od_
        obtain ⟨ad363, A363_5, c363_5, A363_6, c363_6, e363, hx363_0, hx363_1, hx363_2, hx363_3, hx363_4, hx363_5, hx363_6, hl363_5, hi363_5, hl363_6, hi363_6⟩ := at_T48 HR0.out x5_1 p363 q363
        have hw363_6 := hx363_6
        have hw363_5 := hx363_5
        have hw363_4 := hx363_4
        have hw363_3 := hx363_3
        have hw363_2 := hx363_2
        have hw363_1 := hx363_1
        have hw363_0 := hx363_0
        cases e363
        replace hx363_0 := rr_ HB hx363_0
        replace hx363_1 := rr_ HB hx363_1
        replace hx363_2 := rr_ HB hx363_2
        replace hx363_3 := rr_ HB hx363_3
        replace hx363_4 := rr_ HB hx363_4
        replace hx363_5 := rr_ HB hx363_5
        replace hx363_6 := rr_ HB hx363_6
        have HR363_5 := q66.mk hi363_5
        have HC363_5 := q66.mk hl363_5
        clear hi363_5 hl363_5
        have HR363_6 := q66.mk hi363_6
        have HC363_6 := q66.mk hl363_6
        clear hi363_6 hl363_6
        replace p363 := eq_true p363
        replace q363 := eq_true q363
        have p364 : 0 ≤ (x5_1 : Int) := od_
        have q364 : x5_1 < (l1.length : Int) := od_
        obtain ⟨ad364, A364_5, c364_5, A364_6, c364_6, e364, hx364_0, hx364_1, hx364_2, hx364_3, hx364_4, hx364_5, hx364_6, hl364_5, hi364_5, hl364_6, hi364_6⟩ := at_T48 HR1.out x5_1 p364 q364
        have hw364_6 := hx364_6
        have hw364_5 := hx364_5
        have hw364_4 := hx364_4
        have hw364_3 := hx364_3
        have hw364_2 := hx364_2
        have hw364_1 := hx364_1
        have hw364_0 := hx364_0
        cases e364
        replace hx364_0 := rr_ HB hx364_0
        replace hx364_1 := rr_ HB hx364_1
        replace hx364_2 := rr_ HB hx364_2
        replace hx364_3 := rr_ HB hx364_3
        replace hx364_4 := rr_ HB hx364_4
        replace hx364_5 := rr_ HB hx364_5
        replace hx364_6 := rr_ HB hx364_6
        have HR364_5 := q66.mk hi364_5
        have HC364_5 := q66.mk hl364_5
        clear hi364_5 hl364_5
        have HR364_6 := q66.mk hi364_6
        have HC364_6 := q66.mk hl364_6
        clear hi364_6 hl364_6
        replace p364 := eq_true p364
        replace q364 := eq_true q364
        refine start_ (n := 10) (S := fun w' => w'.cell? (ad363.add ((x5_1).toNat * 7)) = some (.string ((q89 l0 x5_1).f0)) ∧ w'.cell? ⟨(ad363.add ((x5_1).toNat * 7)).block, (ad363.add ((x5_1).toNat * 7)).off + 1, none⟩ = some (.int .i64 ((q89 l0 x5_1).f1)) ∧ w'.cell? ⟨(ad363.add ((x5_1).toNat * 7)).block, (ad363.add ((x5_1).toNat * 7)).off + 2, none⟩ = some (.string ((q89 l0 x5_1).f2)) ∧ w'.cell? ⟨(ad363.add ((x5_1).toNat * 7)).block, (ad363.add ((x5_1).toNat * 7)).off + 3, none⟩ = some (.bool ((q89 l0 x5_1).f3)) ∧ w'.cell? ⟨(ad363.add ((x5_1).toNat * 7)).block, (ad363.add ((x5_1).toNat * 7)).off + 4, none⟩ = some (.int .i64 ((q89 l0 x5_1).f4)) ∧ w'.cell? ⟨(ad363.add ((x5_1).toNat * 7)).block, (ad363.add ((x5_1).toNat * 7)).off + 5, none⟩ = some (.slice A363_5 ((q89 l0 x5_1).f5).length c363_5) ∧ w'.cell? ⟨(ad363.add ((x5_1).toNat * 7)).block, (ad363.add ((x5_1).toNat * 7)).off + 6, none⟩ = some (.slice A363_6 ((q89 l0 x5_1).f6).length c363_6) ∧ w'.cell? (ad364.add ((x5_1).toNat * 7)) = some (.string ((q89 l1 x5_1).f0)) ∧ w'.cell? ⟨(ad364.add ((x5_1).toNat * 7)).block, (ad364.add ((x5_1).toNat * 7)).off + 1, none⟩ = some (.int .i64 ((q89 l1 x5_1).f1)) ∧ w'.cell? ⟨(ad364.add ((x5_1).toNat * 7)).block, (ad364.add ((x5_1).toNat * 7)).off + 2, none⟩ = some (.string ((q89 l1 x5_1).f2)) ∧ w'.cell? ⟨(ad364.add ((x5_1).toNat * 7)).block, (ad364.add ((x5_1).toNat * 7)).off + 3, none⟩ = some (.bool ((q89 l1 x5_1).f3)) ∧ w'.cell? ⟨(ad364.add ((x5_1).toNat * 7)).block, (ad364.add ((x5_1).toNat * 7)).off + 4, none⟩ = some (.int .i64 ((q89 l1 x5_1).f4)) ∧ w'.cell? ⟨(ad364.add ((x5_1).toNat * 7)).block, (ad364.add ((x5_1).toNat * 7)).off + 5, none⟩ = some (.slice A364_5 ((q89 l1 x5_1).f5).length c364_5) ∧ w'.cell? ⟨(ad364.add ((x5_1).toNat * 7)).block, (ad364.add ((x5_1).toNat * 7)).off + 6, none⟩ = some (.slice A364_6 ((q89 l1 x5_1).f6).length c364_6)) (ds := []) (bits_ 10 0) (by kernel_rfl) rfl rfl ⟨(rr_ HB hw363_0 :), (rr_ HB hw363_1 :), (rr_ HB hw363_2 :), (rr_ HB hw363_3 :), (rr_ HB hw363_4 :), (rr_ HB hw363_5 :), (rr_ HB hw363_6 :), (rr_ HB hw364_0 :), (rr_ HB hw364_1 :), (rr_ HB hw364_2 :), (rr_ HB hw364_3 :), (rr_ HB hw364_4 :), (rr_ HB hw364_5 :), (rr_ HB hw364_6 :)⟩ (fun hHeld => ?_); refine with_tabW q9.tab6 q9.bits6 (fun HT_ HW_ => ?_)
        generalize wr.drew = w11 at HB HR363_5 HR363_6 HR364_5 HR364_6 hx363_0 hx363_1 hx363_2 hx363_3 hx363_4 hx363_5 hx363_6 hx364_0 hx364_1 hx364_2 hx364_3 hx364_4 hx364_5 hx364_6 hHeld ⊢
        refine pz_ 0 (some 17) (bits_ 10 1) HT_.out ?_
        refine pz_ 1 (some 18) (bits_ 10 3) HT_.out ?_
        refine pz_ 2 (some 19) (bits_ 10 7) HT_.out ?_
        refine pz_ 4 (some 21) (bits_ 10 23) HT_.out ?_
        refine pz_ 5 (some 22) (bits_ 10 55) HT_.out ?_
        refine pz_ 6 (some 23) (bits_ 10 119) HT_.out ?_
        refine tz_ 3 (some 20) (bits_ 10 127) HT_.out HW_.out hHeld ?_ (hy := by rintro w' ⟨s0, s1, s2, s3, s4, s5, s6, s7, s8, s9, s10, s11, s12, s13⟩; go_simp; with_reducible rfl)
        refine tz_ 7 (some 24) (bits_ 10 255) HT_.out HW_.out hHeld ?_ (hy := by rintro w' ⟨s0, s1, s2, s3, s4, s5, s6, s7, s8, s9, s10, s11, s12, s13⟩; go_simp; with_reducible rfl)
        refine oz_ 8 (some 25) (bits_ 10 511) HT_.out (fun K hK => ?_)
        refine go_s_ Try.func61 #[.agg #[.string ((q89 l0 x5_1).f0), .int .i64 ((q89 l0 x5_1).f1), .string ((q89 l0 x5_1).f2), .bool ((q89 l0 x5_1).f3), .int .i64 ((q89 l0 x5_1).f4), .slice A363_5 ((q89 l0 x5_1).f5).length c363_5, .slice A363_6 ((q89 l0 x5_1).f6).length c363_6], .agg #[.string ((q89 l1 x5_1).f0), .int .i64 ((q89 l1 x5_1).f1), .string ((q89 l1 x5_1).f2), .bool ((q89 l1 x5_1).f3), .int .i64 ((q89 l1 x5_1).f4), .slice A364_5 ((q89 l1 x5_1).f5).length c364_5, .slice A364_6 ((q89 l1 x5_1).f6).length c364_6]] ?_
        with_reducible refine (q13.calls k1 ((q89 l0 x5_1).f0) ((q89 l0 x5_1).f1) ((q89 l0 x5_1).f2) ((q89 l0 x5_1).f3) ((q89 l0 x5_1).f4) _ _ ((q89 l0 x5_1).f5) _ _ ((q89 l0 x5_1).f6) ((q89 l1 x5_1).f0) ((q89 l1 x5_1).f1) ((q89 l1 x5_1).f2) ((q89 l1 x5_1).f3) ((q89 l1 x5_1).f4) _ _ ((q89 l1 x5_1).f5) _ _ ((q89 l1 x5_1).f6) false _ ?side1 ?side2 ?side3 ?side4 ?side5 ?side6 ?side7 ?side8 A7.out).mono ?_
        (case side1 => exact kc_ HR363_5 HB)
        (case side2 => exact HC363_5.out)
        (case side3 => exact kc_ HR363_6 HB)
        (case side4 => exact HC363_6.out)
        (case side5 => exact kc_ HR364_5 HB)
        (case side6 => exact HC364_5.out)
        (case side7 => exact kc_ HR364_6 HB)
        (case side8 => exact HC364_6.out)
        rintro e w12 ⟨rfl, hb⟩
        refine ⟨_, rfl, ?_⟩
        replace HB := hb_ HB hb
        clear hb
        refine hK.out _ _ ⟨(rr_ HB hw363_0 :), (rr_ HB hw363_1 :), (rr_ HB hw363_2 :), (rr_ HB hw363_3 :), (rr_ HB hw363_4 :), (rr_ HB hw363_5 :), (rr_ HB hw363_6 :), (rr_ HB hw364_0 :), (rr_ HB hw364_1 :), (rr_ HB hw364_2 :), (rr_ HB hw364_3 :), (rr_ HB hw364_4 :), (rr_ HB hw364_5 :), (rr_ HB hw364_6 :)⟩ (fun hHeld => ?_)
        clear hK K
        refine nz_ (some 25) ?_
        refine pz_ 9 (some 26) (bits_ 10 1023) HT_.out ?_
        refine done_ (done_of HT_.out (by kernel_rfl)) ?_
        try go_wp2
        go_ret
        exact ⟨er_, hf_⟩
      ·rw [if_neg c6] at H
       exact absurd H (by simp)
     ·rw [if_neg c5] at H
      exact absurd H (by simp)
    ·rw [if_neg c4] at H
     replace c4 := decide_eq_false c4
     obtain rfl := Option.some.inj H
     go_wp2
     go_ret
     exact ⟨er_, hf_⟩
 ·rw [if_neg c3] at H
  have c3b0 : ((l0.length : Int) == (l1.length : Int)) = false := beq_eq_false_iff_ne.mpr c3
  have c3b1 : ((l0.length : Int) != (l1.length : Int)) = true := bne_iff_ne.mpr c3
  have c3b2 : (l0.length == l1.length) = false := by first | simpa using c3 | (simp at c3 ⊢; omega)
  obtain rfl := Option.some.inj H
  go_enter Try.func33, Try.ntmps33
  go_wp2
  go_ret
  exact ⟨er_, hf_⟩
def q10.l0 : Nat → List ByteArray → List ByteArray → Int → Option (Bool)
 | 0, _, _, _ => none
 | k + 1, x0, x1, x5 => if x5 < (x0.length : Int) then (if 0 ≤ x5 then (if x5 < (x1.length : Int) then (if (rdOf ByteArray.empty x0 x5).toList = (rdOf ByteArray.empty x1 x5).toList then (q10.l0 k x0 x1 (wrap64 (x5 + 1))) else (some false)) else (none)) else (none)) else (some true)
def q10.f (k : Nat) (l0 : List ByteArray) (l1 : List ByteArray) : Option (Bool) := if (l0.length : Int) = (l1.length : Int) then (q10.l0 k l0 l1 0) else (some false)
theorem q10.mono_l : ∀ k, (∀ y0 y1 y2, LeO (q10.l0 k y0 y1 y2) (q10.l0 (k + 1) y0 y1 y2))
 | 0 => fun _ _ _ r h => by simp [q10.l0] at h
 | k + 1 => by
  have ih0 := q10.mono_l k
  ·intro y0 y1 y2
   unfold q10.l0
   repeat' first
   | (with_reducible exact ih0 _ _ _)
   | (with_reducible exact LeO.refl _)
   | (with_reducible exact LeO.none _)
   | (with_reducible refine LeO.ite ?_ ?_)
   | (with_reducible refine LeO.bind ?_ (fun _ => ?_))
   | exact ih0 _ _ _
   | exact LeO.none _
   | refine LeO.ite ?_ ?_
   | refine LeO.bind ?_ (fun _ => ?_)
theorem q10.mono : ∀ a0 a1 k, LeO (q10.f k a0 a1) (q10.f (k + 1) a0 a1) := by
 intro a0 a1 k
 have ih0 := q10.mono_l k
 unfold q10.f
 repeat' first
  | (with_reducible exact ih0 _ _ _)
  | (with_reducible exact LeO.refl _)
  | (with_reducible exact LeO.none _)
  | (with_reducible refine LeO.ite ?_ ?_)
  | (with_reducible refine LeO.bind ?_ (fun _ => ?_))
  | exact ih0 _ _ _
  | exact LeO.none _
  | refine LeO.ite ?_ ?_
  | refine LeO.bind ?_ (fun _ => ?_)
set_option maxHeartbeats 8000000 in
set_option maxRecDepth 100000 in
theorem q10.calls (k : Nat) (A0 : Option Addr) (c0 : Nat) (l0 : List ByteArray) (A1 : Option Addr) (c1 : Nat) (l1 : List ByteArray) (r : Bool) (w : World) (hr0 : Kd.C Kd.string w A0 l0.length l0) (hc0 : l0.length ≤ c0) (hr1 : Kd.C Kd.string w A1 l1.length l1) (hc1 : l1.length ≤ c1) (h : q10.f k l0 l1 = some r) :
 Calls Try.prog 32 #[.slice A0 l0.length c0, .slice A1 l1.length c1] w fun e w' => e = .returned (.bool r) ∧ Drawn0 w w' := by
 have HR0 := q66.mk hr0
 have HC0 := q66.mk hc0
 clear hr0 hc0
 have HR1 := q66.mk hr1
 have HC1 := q66.mk hc1
 clear hr1 hc1
 unfold q10.f at h
 have H := h
 clear h
 by_cases c3 : (l0.length : Int) = (l1.length : Int)
 ·rw [if_pos c3] at H
  have c3b0 : ((l0.length : Int) == (l1.length : Int)) = true := beq_iff_eq.mpr c3
  have c3b1 : ((l0.length : Int) != (l1.length : Int)) = false := bne_eq_false_iff_eq.mpr c3
  have c3b2 : (l0.length == l1.length) = true := by first | simpa using c3 | (simp at c3 ⊢; omega)
  clear c3
  have H' := q66.mk H
  clear H
  go_enter Try.func32, Try.ntmps32
  go_wp2
  repeat (go_quiet (fail); try go_wp2)
  go_loopg [5] k (fun kq v5 w' => ∃ (x5_1 : Int), v5 = .int .i64 x5_1 ∧ q66 (q10.l0 kq l0 l1 x5_1 = some r) ∧ q66 (kq ≤ k) ∧ Drawn0 w w')
  case atStart => exact ⟨(0), rf_, H', ⟨Nat.le_refl _⟩, by repeat (first | exact Drawn0.refl _ | apply Drawn0.step)⟩
  case round =>
   clear H'
   clear c3b0 c3b1 c3b2
   obtain ⟨x5_1, rfl, HA, HK1, ⟨m1, rfl⟩⟩ := hrel
   cases gk with
   | zero => exact absurd HA.out (by simp [q10.l0])
   | succ k1 =>
    have H := HA.out
    clear HA
    simp only [q10.l0] at H
    by_cases c4 : x5_1 < (l0.length : Int)
    ·rw [if_pos c4] at H
     replace c4 := decide_eq_true c4
     by_cases c5 : 0 ≤ x5_1
     ·rw [if_pos c5] at H
      replace c5 := decide_eq_true c5
      by_cases c6 : x5_1 < (l1.length : Int)
      ·rw [if_pos c6] at H
       replace c6 := decide_eq_true c6
       by_cases c7 : (rdOf ByteArray.empty l0 x5_1).toList = (rdOf ByteArray.empty l1 x5_1).toList
       ·rw [if_pos c7] at H
        have c7b0 : ((rdOf ByteArray.empty l0 x5_1).toList == (rdOf ByteArray.empty l1 x5_1).toList) = true := beq_iff_eq.mpr c7
        have c7b1 : ((rdOf ByteArray.empty l0 x5_1).toList != (rdOf ByteArray.empty l1 x5_1).toList) = false := bne_eq_false_iff_eq.mpr c7
        clear c7
        have H' := q66.mk H
        clear H
        obtain ⟨ad343, e343, hx343_0, p343, q343⟩ := au_string HR0 ⟨Below.refl _ _⟩ (x5_1)
        cases e343
        obtain ⟨ad344, e344, hx344_0, p344, q344⟩ := au_string HR1 ⟨Below.refl _ _⟩ (x5_1)
        cases e344
        go_wp2
        repeat (go_quiet (fail); try go_wp2)
        go_roundg k1
        case measure => have := HK1.out; omega
        case rel => exact ⟨(wrap64 (x5_1 + 1)), rf_, H', ⟨by have := HK1.out; omega⟩, by repeat (first | exact Drawn0.refl _ | apply Drawn0.step)⟩
       ·rw [if_neg c7] at H
        have c7b0 : ((rdOf ByteArray.empty l0 x5_1).toList == (rdOf ByteArray.empty l1 x5_1).toList) = false := beq_eq_false_iff_ne.mpr c7
        have c7b1 : ((rdOf ByteArray.empty l0 x5_1).toList != (rdOf ByteArray.empty l1 x5_1).toList) = true := bne_iff_ne.mpr c7
        obtain rfl := Option.some.inj H
        obtain ⟨ad343, e343, hx343_0, p343, q343⟩ := au_string HR0 ⟨Below.refl _ _⟩ (x5_1)
        cases e343
        obtain ⟨ad344, e344, hx344_0, p344, q344⟩ := au_string HR1 ⟨Below.refl _ _⟩ (x5_1)
        cases e344
        go_wp2
        repeat (go_quiet (fail); try go_wp2)
        go_ret
        exact ⟨by first | rfl | (simp; done) | (simp [*]; done), by repeat (first | exact Drawn0.refl _ | apply Drawn0.step)⟩
      ·rw [if_neg c6] at H
       exact absurd H (by simp)
     ·rw [if_neg c5] at H
      exact absurd H (by simp)
    ·rw [if_neg c4] at H
     replace c4 := decide_eq_false c4
     obtain rfl := Option.some.inj H
     go_wp2
     repeat (go_quiet (fail); try go_wp2)
     go_ret
     exact ⟨by first | rfl | (simp; done) | (simp [*]; done), by repeat (first | exact Drawn0.refl _ | apply Drawn0.step)⟩
 ·rw [if_neg c3] at H
  have c3b0 : ((l0.length : Int) == (l1.length : Int)) = false := beq_eq_false_iff_ne.mpr c3
  have c3b1 : ((l0.length : Int) != (l1.length : Int)) = true := bne_iff_ne.mpr c3
  have c3b2 : (l0.length == l1.length) = false := by first | simpa using c3 | (simp at c3 ⊢; omega)
  obtain rfl := Option.some.inj H
  go_enter Try.func32, Try.ntmps32
  go_wp2
  repeat (go_quiet (fail); try go_wp2)
  go_ret
  exact ⟨by first | rfl | (simp; done) | (simp [*]; done), by repeat (first | exact Drawn0.refl _ | apply Drawn0.step)⟩
def q30.f (k : Nat) (l0_0 : List ByteArray) (l0_1 : List (S48)) (l1_0 : List ByteArray) (l1_1 : List (S48)) : Option (Bool) := (q10.f k l0_0 l1_0).bind fun t368 => (if t368 = true then ((q9.f k l0_1 l1_1).bind fun t369 => (some t369)) else (some false))
theorem q30.mono : ∀ a0 a1 a2 a3 k, LeO (q30.f k a0 a1 a2 a3) (q30.f (k + 1) a0 a1 a2 a3) := by
 intro a0 a1 a2 a3 k
 unfold q30.f
 repeat' first
  | (with_reducible exact q9.mono _ _ _)
  | (with_reducible exact q10.mono _ _ _)
  | (with_reducible exact LeO.refl _)
  | (with_reducible exact LeO.none _)
  | (with_reducible refine LeO.ite ?_ ?_)
  | (with_reducible refine LeO.bind ?_ (fun _ => ?_))
  | exact q9.mono _ _ _
  | exact q10.mono _ _ _
  | exact LeO.none _
  | refine LeO.ite ?_ ?_
  | refine LeO.bind ?_ (fun _ => ?_)
set_option maxHeartbeats 8000000 in
set_option maxRecDepth 100000 in
theorem q30.calls (k : Nat) (A0_0 : Option Addr) (c0_0 : Nat) (l0_0 : List ByteArray) (A0_1 : Option Addr) (c0_1 : Nat) (l0_1 : List (S48)) (A1_0 : Option Addr) (c1_0 : Nat) (l1_0 : List ByteArray) (A1_1 : Option Addr) (c1_1 : Nat) (l1_1 : List (S48)) (r : Bool) (w : World) (hr0_0 : Kd.C Kd.string w A0_0 l0_0.length l0_0) (hc0_0 : l0_0.length ≤ c0_0) (hr0_1 : Kd.C k48 w A0_1 l0_1.length l0_1) (hc0_1 : l0_1.length ≤ c0_1) (hr1_0 : Kd.C Kd.string w A1_0 l1_0.length l1_0) (hc1_0 : l1_0.length ≤ c1_0) (hr1_1 : Kd.C k48 w A1_1 l1_1.length l1_1) (hc1_1 : l1_1.length ≤ c1_1) (h : q30.f k l0_0 l0_1 l1_0 l1_1 = some r) :
 Calls Try.prog 20 #[.agg #[.slice A0_0 l0_0.length c0_0, .slice A0_1 l0_1.length c0_1], .agg #[.slice A1_0 l1_0.length c1_0, .slice A1_1 l1_1.length c1_1]] w fun e w' => e = .returned (.bool r) ∧ Below w.heap.size w w' := by
 have hu25 := Try.underlying25
 have HR0_0 := q66.mk hr0_0
 have HC0_0 := q66.mk hc0_0
 clear hr0_0 hc0_0
 have HR0_1 := q66.mk hr0_1
 have HC0_1 := q66.mk hc0_1
 clear hr0_1 hc0_1
 have HR1_0 := q66.mk hr1_0
 have HC1_0 := q66.mk hc1_0
 clear hr1_0 hc1_0
 have HR1_1 := q66.mk hr1_1
 have HC1_1 := q66.mk hc1_1
 clear hr1_1 hc1_1
 have HB := q66.mk (Below.refl w.heap.size w)
 unfold q30.f at h
 have H := h
 clear h
 replace H := Option.bind_eq_some_iff.mp H
 obtain ⟨t368, A30, H⟩ := H
 have A3 := q66.mk A30
 clear A30
 by_cases c4 : t368 = true
 ·subst c4
  have H1 : ((q9.f k l0_1 l1_1).bind fun t369 => (some t369)) = some r := by rw [if_pos rfl] at H; exact H
  clear H
  have H := H1
  clear H1
  replace H := Option.bind_eq_some_iff.mp H
  obtain ⟨t369, A50, H⟩ := H
  have A5 := q66.mk A50
  clear A50
  obtain rfl := Option.some.inj H
  go_enter Try.func20, Try.ntmps20
  go_wp2_with (first | ((with_reducible refine q81 (N := 2) rfl ?_); refine bx_ 2 #[.slice A0_0 l0_0.length c0_0, .slice A0_1 l0_1.length c0_1] 25 ?_; intro gb366 hg w6 hbox hb; have BK366 := q66.mk (hbox); have GW366 := zz_ (w := w) hg; have GE366 := zz_ (w := w) hg; replace HB := hb_ HB hb;  clear hb hbox hg) | ((with_reducible refine q81 (N := 3) rfl ?_); refine bx_ 3 #[.slice A1_0 l1_0.length c1_0, .slice A1_1 l1_1.length c1_1] 25 ?_; intro gb367 hg w7 hbox hb; have BK367 := q66.mk (hbox); have GW367 := zz_ (w := w) hg; have GE367 := zz_ (w := w) hg; replace HB := hb_ HB hb; have NB366_367 := ne1_ hg BK366; have NB367_366 := ne2_ hg BK366; replace BK366 := bb_ BK366 hb;  clear hb hbox hg; have hnb8 := NB366_367.out; have hnc8 := NB367_366.out; obtain ⟨hcz9_0, hcz9_1, hfz9_0, hfz9_1⟩ := bs2_ BK366; obtain ⟨hcz10_0, hcz10_1, hfz10_0, hfz10_1⟩ := bs2_ BK367) | ((with_reducible refine q80 (f := 32) rfl ?_); refine gl_ (some 9) Try.func32 #[.slice A0_0 l0_0.length c0_0, .slice A1_0 l1_0.length c1_0] ?_; (with_reducible refine (q10.calls k _ _ l0_0 _ _ l1_0 true _ ?side1 ?side2 ?side3 ?side4 A3.out).mono ?_); (case side1 => exact kc_ HR0_0 HB); (case side2 => exact HC0_0.out); (case side3 => exact kc_ HR1_0 HB); (case side4 => exact HC1_0.out); rintro e w' ⟨rfl, ⟨nd, rfl⟩⟩; refine ⟨_, rfl, ?_⟩) | (go_at_call 33; (with_reducible refine (q9.calls k _ _ l0_1 _ _ l1_1 t369 _ ?side1 ?side2 ?side3 ?side4 A5.out).mono ?_); (case side1 => repeat (first | exact (Kd.C_below HR0_1.out hf_) | (with_reducible refine Kd.C_alloc ?_ _) | (with_reducible refine Kd.C_drewN ?_ _) | (with_reducible refine Kd.C_drew ?_))); (case side2 => exact HC0_1.out); (case side3 => repeat (first | exact (Kd.C_below HR1_1.out hf_) | (with_reducible refine Kd.C_alloc ?_ _) | (with_reducible refine Kd.C_drewN ?_ _) | (with_reducible refine Kd.C_drew ?_))); (case side4 => exact HC1_1.out); rintro e w11 ⟨rfl, hb⟩; replace BK366 := bb_ BK366 hb; replace BK367 := bb_ BK367 hb; replace HB := hb_ HB hb;  (try clear hb)))
  go_ret
  exact ⟨er_, hf_⟩
 ·replace c4 := Bool.eq_false_iff.mpr c4
  subst c4
  have H1 : (some false) = some r := by rw [if_neg (show ¬ (false = true) by decide)] at H; exact H
  clear H
  have H := H1
  clear H1
  obtain rfl := Option.some.inj H
  go_enter Try.func20, Try.ntmps20
  go_wp2_with (first | ((with_reducible refine q81 (N := 2) rfl ?_); refine bx_ 2 #[.slice A0_0 l0_0.length c0_0, .slice A0_1 l0_1.length c0_1] 25 ?_; intro gb366 hg w12 hbox hb; have BK366 := q66.mk (hbox); have GW366 := zz_ (w := w) hg; have GE366 := zz_ (w := w) hg; replace HB := hb_ HB hb;  clear hb hbox hg) | ((with_reducible refine q81 (N := 3) rfl ?_); refine bx_ 3 #[.slice A1_0 l1_0.length c1_0, .slice A1_1 l1_1.length c1_1] 25 ?_; intro gb367 hg w13 hbox hb; have BK367 := q66.mk (hbox); have GW367 := zz_ (w := w) hg; have GE367 := zz_ (w := w) hg; replace HB := hb_ HB hb; have NB366_367 := ne1_ hg BK366; have NB367_366 := ne2_ hg BK366; replace BK366 := bb_ BK366 hb;  clear hb hbox hg; have hnb14 := NB366_367.out; have hnc14 := NB367_366.out; obtain ⟨hcz15_0, hcz15_1, hfz15_0, hfz15_1⟩ := bs2_ BK366; obtain ⟨hcz16_0, hcz16_1, hfz16_0, hfz16_1⟩ := bs2_ BK367) | ((with_reducible refine q80 (f := 32) rfl ?_); refine gl_ (some 9) Try.func32 #[.slice A0_0 l0_0.length c0_0, .slice A1_0 l1_0.length c1_0] ?_; (with_reducible refine (q10.calls k _ _ l0_0 _ _ l1_0 false _ ?side1 ?side2 ?side3 ?side4 A3.out).mono ?_); (case side1 => exact kc_ HR0_0 HB); (case side2 => exact HC0_0.out); (case side3 => exact kc_ HR1_0 HB); (case side4 => exact HC1_0.out); rintro e w' ⟨rfl, ⟨nd, rfl⟩⟩; refine ⟨_, rfl, ?_⟩))
  go_ret
  exact ⟨er_, hf_⟩
theorem rd_s (l : List (S54)) (i : Nat) (h : i < l.length) : q91 l (i : Int) = l[i] := by simp [q91, List.getD_eq_getElem?_getD, List.getElem?_eq_getElem h]
theorem hv_add {a b c : Int} (h1 : 0 ≤ a) (h2 : a ≤ 1152921504606846976) (h3 : 0 ≤ b) (h4 : b ≤ 140737488351232) (h5 : 0 ≤ c) (h6 : c ≤ 140737488351232) : wrap64 (wrap64 (a + b) + c) = a + b + c := by
 unfold wrap64; omega
theorem hv_sum {y a b c d : Int} (h1 : 0 ≤ y) (h2 : y < 400) (a1 : 0 ≤ a) (a2 : a ≤ 140737488351232) (b1 : 0 ≤ b) (b2 : b ≤ 140737488351232) (c1 : 0 ≤ c) (c2 : c ≤ 140737488351232) (d1 : 0 ≤ d) (d2 : d ≤ 140737488351232) : wrap64 (wrap64 (wrap64 (wrap64 (y + a) + b) + wrap64 (c / 50)) + wrap64 (d / 50)) = y + a + b + c / 50 + d / 50 ∧ 0 ≤ c / 50 ∧ c / 50 ≤ 140737488351232 ∧ 0 ≤ d / 50 ∧ d / 50 ≤ 140737488351232 := by
 have e1 : 0 ≤ c / 50 ∧ c / 50 ≤ 140737488351232 := by omega
 have e2 : 0 ≤ d / 50 ∧ d / 50 ≤ 140737488351232 := by omega
 refine ⟨?_, e1.1, e1.2, e2.1, e2.2⟩
 revert e1 e2
 generalize c / 50 = c
 generalize d / 50 = d
 intro e1 e2
 rw [show wrap64 c = c by unfold wrap64; omega, show wrap64 d = d by unfold wrap64; omega, hv_add (a := y) h1 (by omega) a1 a2 b1 b2, hv_add (a := y + a + b) (by omega) (by omega) e1.1 e1.2 e2.1 e2.2]
theorem ev_hv2 (fs : List ByteArray) (l : List (S48)) (N0 : Int) (h0 : 0 ≤ N0) (x : S48) (hx : goodItem x) (i : Nat) (hi : i < l.length) (hl : l.length ≤ 140737488351232)
    (hR : ∀ y : Int, N0 ≤ y → y ≤ 1152921504606846976 → ∃ b, Ev (fun k => q20.l0 k y (((i + 1 : Nat)) : Int) fs l) b ∧ (b = false → N0 < 400)) (d : Nat) : ∀ (j : Nat) (y : Int), j + d = x.f6.length → N0 ≤ y → y ≤ 1152921504606846976 → ∃ b, Ev (fun k => q20.l2 k y (i : Int) (j : Int) fs l x.f0 x.f1 x.f2 x.f3 x.f4 x.f5 x.f6) b ∧ (b = false → N0 < 400) := by
  obtain ⟨_, _, _, g6, _, hs6⟩ := hx
  induction d with
  | zero =>
    intro j y hj h1 h2
    obtain ⟨b, hb, hc⟩ := hR y h1 h2
    refine ⟨b, Ev.step (f := fun k => q20.l0 k y (((i + 1 : Nat)) : Int) fs l) (fun k => ?_) hb, hc⟩
    simp only [q20.l2]
    rw [if_neg (by omega), wrap_lt (n := (l.length : Int)) (by omega) (by omega) (by omega)]
    rfl
  | succ d ih =>
    intro j y hj h1 h2
    by_cases hc : y < 400
    case neg =>
      obtain ⟨b, hb, hc'⟩ := hR y h1 h2
      refine ⟨b, Ev.step (f := fun k => q20.l0 k y (((i + 1 : Nat)) : Int) fs l) (fun k => ?_) hb, hc'⟩
      simp only [q20.l2]
      rw [if_pos (by omega), if_neg hc, wrap_lt (n := (l.length : Int)) (by omega) (by omega) (by omega)]
      rfl
    have hjl : j < x.f6.length := by omega
    obtain ⟨ga, gb⟩ := hs6 x.f6[j] (List.getElem_mem hjl)
    obtain ⟨b, hb, hc'⟩ := ih (j + 1) (y + (x.f6[j]).f0.length + (x.f6[j]).f1.length) (by omega) (by omega) (by omega)
    refine ⟨b, Ev.step (f := fun k => q20.l2 k (y + (x.f6[j]).f0.length + (x.f6[j]).f1.length) (i : Int) (((j + 1 : Nat)) : Int) fs l x.f0 x.f1 x.f2 x.f3 x.f4 x.f5 x.f6) (fun k => ?_) hb, hc'⟩
    simp only [q20.l2]
    rw [if_pos (by omega), if_pos hc, if_pos (by omega), rd_s _ _ hjl, hv_add (by omega) (by omega) (by omega) (by omega) (by omega) (by omega), wrap_lt (n := (x.f6.length : Int)) (by omega) (by omega) (by omega)]
    rfl
theorem ev_hv1 (fs : List ByteArray) (l : List (S48)) (N0 : Int) (h0 : 0 ≤ N0) (x : S48) (hx : goodItem x) (i : Nat) (hi : i < l.length) (hl : l.length ≤ 140737488351232)
    (hR : ∀ y : Int, N0 ≤ y → y ≤ 1152921504606846976 → ∃ b, Ev (fun k => q20.l0 k y (((i + 1 : Nat)) : Int) fs l) b ∧ (b = false → N0 < 400)) (d : Nat) : ∀ (j : Nat) (y : Int), j + d = x.f5.length → N0 ≤ y → y ≤ 1152921504606846976 → ∃ b, Ev (fun k => q20.l1 k y (i : Int) (j : Int) fs l x.f0 x.f1 x.f2 x.f3 x.f4 x.f5 x.f6) b ∧ (b = false → N0 < 400) := by
  have hx0 := hx
  obtain ⟨_, _, g5, _, hs5, _⟩ := hx
  have hnext : ∀ y : Int, N0 ≤ y → y ≤ 1152921504606846976 → ∃ b, Ev (fun k => q20.j3 k y (i : Int) fs l x.f0 x.f1 x.f2 x.f3 x.f4 x.f5 x.f6) b ∧ (b = false → N0 < 400) := by
    intro y h1 h2
    obtain ⟨b, hb, hc⟩ := ev_hv2 fs l N0 h0 x hx0 i hi hl hR x.f6.length 0 y (by omega) h1 h2
    exact ⟨b, Ev.step (fun k => by simp only [q20.j3]; rfl) hb, hc⟩
  induction d with
  | zero =>
    intro j y hj h1 h2
    obtain ⟨b, hb, hc⟩ := hnext y h1 h2
    refine ⟨b, Ev.step (fun k => ?_) hb, hc⟩
    simp only [q20.l1]
    rw [if_neg (by omega)]
  | succ d ih =>
    intro j y hj h1 h2
    by_cases hc : y < 400
    case neg =>
      obtain ⟨b, hb, hc'⟩ := hnext y h1 h2
      refine ⟨b, Ev.step (fun k => ?_) hb, hc'⟩
      simp only [q20.l1]
      rw [if_pos (by omega), if_neg hc]
    have hjl : j < x.f5.length := by omega
    obtain ⟨ga, gb⟩ := hs5 x.f5[j] (List.getElem_mem hjl)
    obtain ⟨b, hb, hc'⟩ := ih (j + 1) (y + (x.f5[j]).f0.length + (x.f5[j]).f1.length) (by omega) (by omega) (by omega)
    refine ⟨b, Ev.step (f := fun k => q20.l1 k (y + (x.f5[j]).f0.length + (x.f5[j]).f1.length) (i : Int) (((j + 1 : Nat)) : Int) fs l x.f0 x.f1 x.f2 x.f3 x.f4 x.f5 x.f6) (fun k => ?_) hb, hc'⟩
    simp only [q20.l1]
    rw [if_pos (by omega), if_pos hc, if_pos (by omega), rd_s _ _ hjl, hv_add (by omega) (by omega) (by omega) (by omega) (by omega) (by omega), wrap_lt (n := (x.f5.length : Int)) (by omega) (by omega) (by omega)]
    rfl
theorem ev_hv0 (fs : List ByteArray) (l : List (S48)) (hg : ∀ x ∈ l, goodItem x) (hl : l.length ≤ 140737488351232) (N0 : Int) (h0 : 0 ≤ N0) (d : Nat) : ∀ (i : Nat) (y : Int), i + d = l.length → N0 ≤ y → y ≤ 1152921504606846976 → ∃ b, Ev (fun k => q20.l0 k y (i : Int) fs l) b ∧ (b = false → N0 < 400) := by
  have hend : ∀ (i : Nat) (y : Int), N0 ≤ y → ∃ b, Ev (fun k => q20.j1 k y (i : Int) false fs l) b ∧ (b = false → N0 < 400) := by
    intro i y h1
    refine ⟨decide (y ≥ 400), Ev.step (f := fun _ => some (decide (y ≥ 400))) (fun k => by simp [q20.j1]) (Ev.now _), fun h => ?_⟩
    have := of_decide_eq_false h
    omega
  induction d with
  | zero =>
    intro i y hi h1 h2
    obtain ⟨b, hb, hc⟩ := hend i y h1
    refine ⟨b, Ev.step (fun k => ?_) hb, hc⟩
    simp only [q20.l0]
    rw [if_neg (by omega)]
  | succ d ih =>
    intro i y hi h1 h2
    by_cases hc : y < 400
    case neg =>
      obtain ⟨b, hb, hc'⟩ := hend i y h1
      refine ⟨b, Ev.step (fun k => ?_) hb, hc'⟩
      simp only [q20.l0]
      rw [if_pos (by omega), decide_eq_false hc]
    have hil : i < l.length := by omega
    have hrd : q89 l (i : Int) = l[i] := by simp [q89, List.getD_eq_getElem?_getD, List.getElem?_eq_getElem hil]
    obtain ⟨x, hx⟩ : ∃ x, x = l[i] := ⟨_, rfl⟩
    have hgx : goodItem x := by rw [hx]; exact hg _ (List.getElem_mem hil)
    have hgx0 := hgx
    obtain ⟨g0, g2, g5, g6, _, _⟩ := hgx
    obtain ⟨z, hz⟩ : ∃ z : Int, z = y + x.f5.length + x.f6.length + (x.f0.size : Int) / 50 + (x.f2.size : Int) / 50 := ⟨_, rfl⟩
    obtain ⟨hsum, q1, q2, q3, q4⟩ := hv_sum (y := y) (a := (x.f5.length : Int)) (b := (x.f6.length : Int)) (c := (x.f0.size : Int)) (d := (x.f2.size : Int)) (by omega) hc (by omega) (by omega) (by omega) (by omega) (by omega) (by omega) (by omega) (by omega)
    rw [← hz] at hsum
    have hzb : N0 ≤ z ∧ z ≤ 1152921504606846976 := by
      clear hsum
      revert hz q1 q2 q3 q4
      generalize (x.f0.size : Int) / 50 = c
      generalize (x.f2.size : Int) / 50 = d
      intro hz q1 q2 q3 q4
      omega
    clear hz q1 q2 q3 q4
    obtain ⟨b, hb, hc'⟩ := ev_hv1 fs l N0 h0 x hgx0 i hil hl (fun y' h1' h2' => ih (i + 1) y' (by omega) h1' h2') x.f5.length 0 z (by omega) hzb.1 hzb.2
    have hb' : Ev (fun k => q20.l1 k z (i : Int) 0 fs l x.f0 x.f1 x.f2 x.f3 x.f4 x.f5 x.f6) b := hb
    refine ⟨b, Ev.step (f := fun k => q20.j1 k y (i : Int) true fs l) (fun k => ?_) (Ev.step (fun k => ?_) hb'), hc'⟩
    · simp only [q20.l0]
      rw [if_pos (by omega), decide_eq_true hc]
    · simp only [q20.j1]
      rw [if_pos trivial, if_pos (by omega), if_pos (by omega), hrd, ← hx, hsum]
theorem ev_heavy (fs : List ByteArray) (l : List (S48)) (hf : fs.length ≤ 140737488351232) (hl : l.length ≤ 140737488351232) (hg : ∀ x ∈ l, goodItem x) : ∃ b, Ev (fun k => q20.f k fs l) b ∧ (b = false → fs.length + l.length < 400) := by
 unfold q20.f
 rw [show wrap64 ((fs.length : Int) + (l.length : Int)) = (fs.length : Int) + (l.length : Int) by unfold wrap64; omega]
 obtain ⟨b, hb, hc⟩ := ev_hv0 fs l hg hl ((fs.length : Int) + (l.length : Int)) (by omega) l.length 0 _ (by omega) (Int.le_refl _) (by omega)
 exact ⟨b, hb, fun h => by have := hc h; omega⟩
def q22.f : Option Bool := some true
def planItem : S48 := ⟨(⟨#[112]⟩ : ByteArray), 1, (⟨#[]⟩ : ByteArray), false, 0, [], []⟩
set_option maxRecDepth 100000 in
theorem isB_plan : isB [] [planItem] = true := by decide +kernel
set_option maxRecDepth 100000 in
theorem sum_abc : sumL [97, 98, 99] = 38600999 := by decide +kernel
theorem plan_C (W : World) (g : Nat) (hc : ∀ j u, [Value.string ⟨#[112]⟩, .int .i64 1, .string ⟨#[]⟩, .bool false, .int .i64 0, .slice none 0 0, .slice none 0 0][j]? = some u → W.cell? ((⟨g, 0, none⟩ : Addr).add j) = some u) : Kd.C k48 W (some ⟨g, 0, none⟩) [planItem].length [planItem] := by
 refine ⟨rfl, by decide, fun _ => ⟨_, rfl, fun j p hj => ?_⟩⟩
 obtain rfl : j = 0 := by
  have := (List.getElem?_eq_some_iff.1 hj).1
  simp at this
  exact this
 obtain rfl : planItem = p := by simpa using hj
 refine ⟨_, rfl, k48_mk W planItem (A5 := none) (c5 := 0) (Nat.le_refl _) (Kd.C_nil _ W) (A6 := none) (c6 := 0) (Nat.le_refl _) (Kd.C_nil _ W), fun i u hi => ?_⟩
 have h2 := hc i u hi
 rwa [show 0 * (Kd.sz k48) + i = i by omega]
theorem q51 (fs : List ByteArray) (l : List (S48)) : 1 ≤ (modelW fs l).length := by
 unfold modelW
 rw [List.length_append, List.length_append, List.length_append]
 have : 1 ≤ (numW 10 (textsOf fs l).length).length := by
  simp only [numW]
  split <;> simp
 omega
theorem q54 (fs : List ByteArray) (l : List (S48)) : 9 ≤ (packL fs l).length := by
 have := q51 fs l
 unfold packL sealL
 rw [List.length_append, List.length_append]
 simp only [List.length_cons, List.length_nil]
 omega
theorem q53 (fs : List ByteArray) (l : List (S48)) : (packL fs l).take 4 = [83, 78, 84, 49] := rfl
set_option maxHeartbeats 8000000 in
set_option maxRecDepth 100000 in
theorem q22.calls (r : Bool) (w : World) (h : q22.f = some r) :
 Calls Try.prog 18 #[] w fun e w' => e = .returned (.bool r) ∧ Below w.heap.size w w' := by
 obtain rfl := Option.some.inj h
 clear h
 have hu25 := Try.underlying25
 have hu48 := Try.underlying48
 have hC := plan_C (w.alloc (.cells #[.string ⟨#[112]⟩, .int .i64 1, .string ⟨#[]⟩, .bool false, .int .i64 0, .slice none 0 0, .slice none 0 0] 48)) w.heap.size (World.news_of_block (cs := #[.string ⟨#[112]⟩, .int .i64 1, .string ⟨#[]⟩, .bool false, .int .i64 0, .slice none 0 0, .slice none 0 0]) (t := 48) (fr := (0, 0)) (heap_alloc_new w _))
 have h3 := q58.calls none 0 [] (some ⟨w.heap.size, 0, none⟩) 1 [planItem] (packL [] [planItem]) 0 _ (Kd.C_nil _ _) (Nat.le_refl _) hC (Nat.le_refl _) (by unfold q58.f; rw [if_pos isB_plan])
 have hl := q54 [] [planItem]
 have ht := q53 [] [planItem]
 obtain ⟨L, hL⟩ : ∃ L, L = packL [] [planItem] := ⟨_, rfl⟩
 rw [← hL] at h3 hl ht
 clear hL hC
 have HB := Lib.hid (q67 (Below.refl w.heap.size w) (.cells #[.string ⟨#[112]⟩, .int .i64 1, .string ⟨#[]⟩, .bool false, .int .i64 0, .slice none 0 0, .slice none 0 0] 48))
 have HT := Lib.hid ht
 clear ht
 go_enter Try.func18, Try.ntmps18
 go_wp2_with fail
 refine h3.mono ?_
 rintro e w2 ⟨v, rfl, hR, hb2⟩
 obtain ⟨A, c, rfl⟩ := Kd.R_slice hR
 obtain ⟨hn, hlc, hC⟩ := Kd.R_reads' hR
 have hC4 := Kd.C_take hC (show 4 ≤ L.length by omega)
 rw [HT.out] at hC4
 obtain ⟨n, hnn⟩ : ∃ n, n = L.length := ⟨_, rfl⟩
 rw [← hnn] at hlc hl ⊢
 have hl8 : (n : Int) > 8 := by omega
 have hl4 : (4 : Int) ≤ n := by omega
 have hc4 : (4 : Int) ≤ c := by omega
 have HB2 := Lib.hid (q70 HB.out HB.out.size hb2)
 have HC4 := Lib.hid hC4
 clear hb2 hR h3 hC hC4 hn hnn
 have kb := fun W a n c => kcv (P := Try.prog) 26 5 Try.underlying26 Try.underlying5 W a n c
 go_wp2_with fail
 clear kb
 obtain ⟨Wa, hWa⟩ : ∃ Wa, Wa = markW (w2.alloc (.cells #[.int .u8 97, .int .u8 98, .int .u8 99] 5)) ⟨w2.heap.size, 0, none⟩ := ⟨_, rfl⟩
 have hba : Below w2.heap.size w2 Wa := by rw [hWa]; exact mark_below (q67 (Below.refl _ _) _) (Nat.le_refl _)
 have hca : Kd.C (Kd.int .u8) Wa (some ⟨w2.heap.size, 0, none⟩) 3 [97, 98, 99] := by rw [hWa]; exact mark_C (lit_reads w2 _ rfl 5 [97, 98, 99] (by decide))
 rw [← hWa]
 clear hWa
 have hsum := q61.calls 4 (some ⟨w2.heap.size, 0, none⟩) 3 [97, 98, 99] _ Wa hca (Nat.le_refl _) (q64 _ (by decide) _ (by decide))
 rw [sum_abc] at hsum
 refine hsum.mono ?_
 rintro e w3 ⟨rfl, hd⟩
 have hb3 := q70 hba hba.size hd.below
 have HB3 := Lib.hid (q70 HB2.out HB2.out.size hb3)
 have hks : (convert 26 9 (.slice A 4 c)).run Try.prog w3 = .ok (.string ⟨#[83, 78, 84, 49]⟩) w3 := Kd.C_string Try.underlying26 Try.underlying5 Try.underlying9 (Kd.C_below HC4.out hb3)
 clear hsum hba hca hd hb3
 go_wp2
 go_ret
 exact ⟨rfl, HB3.out⟩
def Evb (g : Nat → Option Bool) (P : Prop) : Prop := ∃ r, Ev g r ∧ (r = true ↔ P)
theorem ba_ext' {a b : ByteArray} (h : a.toList = b.toList) : a = b := by
 rw [ByteArray.toList_eq, ByteArray.toList_eq] at h
 exact Go.WideShapes.bytes_inj h
theorem Evb.yes {P : Prop} (h : P) : Evb (fun _ => some true) P := ⟨true, Ev.now true, by simp [h]⟩
theorem Evb.no {P : Prop} (h : ¬ P) : Evb (fun _ => some false) P := ⟨false, Ev.now false, by simp [h]⟩
theorem Evb.iff {g : Nat → Option Bool} {P Q : Prop} (h : Evb g P) (e : P ↔ Q) : Evb g Q := by obtain ⟨r, h1, h2⟩ := h; exact ⟨r, h1, h2.trans e⟩
theorem Evb.step {f g : Nat → Option Bool} {P : Prop} (h : ∀ k, g (k + 1) = f k) (hf : Evb f P) : Evb g P := by obtain ⟨r, h1, h2⟩ := hf; exact ⟨r, Ev.step h h1, h2⟩
theorem Evb.congr {f g : Nat → Option Bool} {P : Prop} (h : ∀ k, g k = f k) (hf : Evb f P) : Evb g P := by obtain ⟨r, h1, h2⟩ := hf; exact ⟨r, Ev.congr h h1, h2⟩
theorem Evb.and {g n : Nat → Option Bool} {P Q : Prop} (hg : Evb g P) (hn : P → Evb n Q) : Evb (fun k => (g k).bind fun t => if t = true then n k else some false) (P ∧ Q) := by
  obtain ⟨r, h1, h2⟩ := hg
  cases r with
  | true =>
    obtain ⟨r, h3, h4⟩ := hn (h2.1 rfl)
    exact ⟨r, Ev.bind h1 (Ev.congr (fun k => if_pos rfl) h3), h4.trans ⟨fun h => ⟨h2.1 rfl, h⟩, fun h => h.2⟩⟩
  | false => exact ⟨false, Ev.bind h1 (Ev.congr (fun k => if_neg (by decide)) (Ev.now false)), by simp; intro h; exact absurd (h2.2 h) (by decide)⟩
theorem drop_iff {α : Type} {l m : List α} (h : l.length = m.length) (i : Nat) (hi : i < l.length) : l.drop i = m.drop i ↔ l[i] = m[i]'(h ▸ hi) ∧ l.drop (i + 1) = m.drop (i + 1) := by
 have hj : i < m.length := h ▸ hi
 rw [List.drop_eq_getElem_cons hi, List.drop_eq_getElem_cons hj, List.cons.injEq]
theorem evb_texts (l m : List ByteArray) (hn : l.length ≤ 9223372036854775806) : Evb (fun k => q10.f k l m) (l = m) := by
  by_cases hl : l.length = m.length
  case neg => exact Evb.congr (fun k => by unfold q10.f; exact if_neg (by omega)) (Evb.no (fun h => hl (by rw [h])))
  have main : ∀ (d i : Nat), i + d = l.length → Evb (fun k => q10.l0 k l m (i : Int)) (l.drop i = m.drop i) := by
    intro d
    induction d with
    | zero =>
      intro i hi
      refine Evb.step (f := fun _ => some true) (fun k => ?_) (Evb.yes (by rw [List.drop_of_length_le (by omega), List.drop_of_length_le (by omega)]))
      simp only [q10.l0]
      rw [if_neg (by omega)]
    | succ d ih =>
      intro i hi
      have h1 : i < l.length := by omega
      have h2 : i < m.length := by omega
      by_cases he : l[i].toList = m[i].toList
      · refine Evb.step (f := fun k => q10.l0 k l m ((i + 1 : Nat) : Int)) (fun k => ?_) ((ih (i + 1) (by omega)).iff ?_)
        · simp only [q10.l0]
          rw [if_pos (by omega), if_pos (by omega), if_pos (by omega), rdOf_get _ _ _ h1, rdOf_get _ _ _ h2, if_pos he, wrap_lt (n := (l.length : Int)) (by omega) (by omega) (by omega)]
          rfl
        · rw [drop_iff hl i h1]
          exact ⟨fun h => ⟨ba_ext' he, h⟩, fun h => h.2⟩
      · refine Evb.step (f := fun _ => some false) (fun k => ?_) (Evb.no ?_)
        · simp only [q10.l0]
          rw [if_pos (by omega), if_pos (by omega), if_pos (by omega), rdOf_get _ _ _ h1, rdOf_get _ _ _ h2, if_neg he]
        · rw [drop_iff hl i h1]
          exact fun h => he (by rw [h.1])
  exact Evb.congr (fun k => by unfold q10.f; exact if_pos (by omega)) (main l.length 0 (by omega))
theorem evb_s2 {Q : Prop} (l m : List (S54)) (i : Nat) (h1 : i < l.length) (h2 : i < m.length) (hl : l[i].f1.length = m[i].f1.length) (hn : l[i].f1.length ≤ 9223372036854775806) (hln : l.length ≤ 9223372036854775806) (hR : Evb (fun k => q8.l0 k l m ((i + 1 : Nat) : Int)) Q) (d : Nat) : ∀ j : Nat, j + d = l[i].f1.length → Evb (fun k => q8.l2 k l m (i : Int) (j : Int)) (l[i].f1.drop j = m[i].f1.drop j ∧ Q) := by
  have r1 : q91 l (i : Int) = l[i] := by simp [q91, List.getD_eq_getElem?_getD, List.getElem?_eq_getElem h1]
  have r2 : q91 m (i : Int) = m[i] := by simp [q91, List.getD_eq_getElem?_getD, List.getElem?_eq_getElem h2]
  induction d with
  | zero =>
    intro j hj
    refine Evb.step (f := fun k => q8.l0 k l m ((i + 1 : Nat) : Int)) (fun k => ?_) (hR.iff ?_)
    · simp only [q8.l2]
      rw [if_pos (by omega), if_pos (by omega), r1, if_neg (by omega), wrap_lt (n := (l.length : Int)) (by omega) (by omega) (by omega)]
      rfl
    · rw [List.drop_of_length_le (by omega), List.drop_of_length_le (by omega)]
      simp
  | succ d ih =>
    intro j hj
    have g1 : j < l[i].f1.length := by omega
    have g2 : j < m[i].f1.length := by omega
    have q1 : q90 l[i].f1 (j : Int) = l[i].f1[j] := by simp [q90, List.getD_eq_getElem?_getD, List.getElem?_eq_getElem g1]
    have q2 : q90 m[i].f1 (j : Int) = m[i].f1[j] := by simp [q90, List.getD_eq_getElem?_getD, List.getElem?_eq_getElem g2]
    have hb : (!((l[i].f1[j].f0.toList) == (m[i].f1[j].f0.toList)) || (!((l[i].f1[j].f1.toList) == (m[i].f1[j].f1.toList)) || (!(l[i].f1[j].f2 == m[i].f1[j].f2)))) = true ↔ l[i].f1[j] ≠ m[i].f1[j] := by
      generalize l[i].f1[j] = a
      generalize m[i].f1[j] = b
      obtain ⟨a0, a1, a2⟩ := a
      obtain ⟨b0, b1, b2⟩ := b
      simp only [Bool.or_eq_true, Bool.not_eq_true', beq_eq_false_iff_ne, ne_eq, S50.mk.injEq]
      constructor
      · rintro (h | h | h) ⟨e1, e2, e3⟩
        · exact h (by rw [e1])
        · exact h (by rw [e2])
        · exact h e3
      · intro h
        by_cases e1 : a0.toList = b0.toList
        · by_cases e2 : a1.toList = b1.toList
          · exact .inr (.inr (fun e3 => h ⟨ba_ext' e1, ba_ext' e2, e3⟩))
          · exact .inr (.inl e2)
        · exact .inl e1
    by_cases he : l[i].f1[j] = m[i].f1[j]
    · refine Evb.step (f := fun k => q8.l2 k l m (i : Int) ((j + 1 : Nat) : Int)) (fun k => ?_) ((ih (j + 1) (by omega)).iff ?_)
      · simp only [q8.l2]
        rw [if_pos (by omega), if_pos (by omega), r1, if_pos (by omega), if_pos (by omega), if_pos (by omega), r2, if_pos (by omega), q1, q2, if_neg (fun h => hb.1 h he), wrap_lt (n := (l[i].f1.length : Int)) (by omega) (by omega) (by omega)]
        rfl
      · rw [drop_iff hl j g1]
        exact ⟨fun h => ⟨⟨he, h.1⟩, h.2⟩, fun h => ⟨h.1.2, h.2⟩⟩
    · refine Evb.step (f := fun _ => some false) (fun k => ?_) (Evb.no ?_)
      · simp only [q8.l2]
        rw [if_pos (by omega), if_pos (by omega), r1, if_pos (by omega), if_pos (by omega), if_pos (by omega), r2, if_pos (by omega), q1, q2, if_pos (hb.2 he)]
      · rw [drop_iff hl j g1]
        exact fun h => he h.1.1
theorem evb_s1 {Q : Prop} (l m : List (S54)) (i : Nat) (h1 : i < l.length) (h2 : i < m.length) (hl : l[i].f0.length = m[i].f0.length) (hl1 : l[i].f1.length = m[i].f1.length) (hn : l[i].f0.length ≤ 9223372036854775806) (hn1 : l[i].f1.length ≤ 9223372036854775806) (hln : l.length ≤ 9223372036854775806) (hR : Evb (fun k => q8.l0 k l m ((i + 1 : Nat) : Int)) Q) (d : Nat) : ∀ j : Nat, j + d = l[i].f0.length → Evb (fun k => q8.l1 k l m (i : Int) (j : Int)) (l[i].f0.drop j = m[i].f0.drop j ∧ l[i].f1 = m[i].f1 ∧ Q) := by
  have r1 : q91 l (i : Int) = l[i] := by simp [q91, List.getD_eq_getElem?_getD, List.getElem?_eq_getElem h1]
  have r2 : q91 m (i : Int) = m[i] := by simp [q91, List.getD_eq_getElem?_getD, List.getElem?_eq_getElem h2]
  induction d with
  | zero =>
    intro j hj
    refine Evb.step (f := fun k => q8.l2 k l m (i : Int) ((0 : Nat) : Int)) (fun k => ?_) ((evb_s2 l m i h1 h2 hl1 hn1 hln hR l[i].f1.length 0 (by omega)).iff ?_)
    · simp only [q8.l1]
      rw [if_pos (by omega), if_pos (by omega), r1, if_neg (by omega)]
      rfl
    · rw [List.drop_of_length_le (l := l[i].f0) (by omega), List.drop_of_length_le (l := m[i].f0) (by omega)]
      simp
  | succ d ih =>
    intro j hj
    have g1 : j < l[i].f0.length := by omega
    have g2 : j < m[i].f0.length := by omega
    have q1 : q87 l[i].f0 (j : Int) = l[i].f0[j] := by simp [q87, List.getD_eq_getElem?_getD, List.getElem?_eq_getElem g1]
    have q2 : q87 m[i].f0 (j : Int) = m[i].f0[j] := by simp [q87, List.getD_eq_getElem?_getD, List.getElem?_eq_getElem g2]
    have hb : (!((l[i].f0[j].f0.toList) == (m[i].f0[j].f0.toList)) || (!(l[i].f0[j].f1 == m[i].f0[j].f1))) = true ↔ l[i].f0[j] ≠ m[i].f0[j] := by
      generalize l[i].f0[j] = a
      generalize m[i].f0[j] = b
      obtain ⟨a0, a1⟩ := a
      obtain ⟨b0, b1⟩ := b
      simp only [Bool.or_eq_true, Bool.not_eq_true', beq_eq_false_iff_ne, ne_eq, S103.mk.injEq]
      constructor
      · rintro (h | h) ⟨e1, e2⟩
        · exact h (by rw [e1])
        · exact h e2
      · intro h
        by_cases e1 : a0.toList = b0.toList
        · exact .inr (fun e3 => h ⟨ba_ext' e1, e3⟩)
        · exact .inl e1
    by_cases he : l[i].f0[j] = m[i].f0[j]
    · refine Evb.step (f := fun k => q8.l1 k l m (i : Int) ((j + 1 : Nat) : Int)) (fun k => ?_) ((ih (j + 1) (by omega)).iff ?_)
      · simp only [q8.l1]
        rw [if_pos (by omega), if_pos (by omega), r1, if_pos (by omega), if_pos (by omega), if_pos (by omega), r2, if_pos (by omega), q1, q2, if_neg (fun h => hb.1 h he), wrap_lt (n := (l[i].f0.length : Int)) (by omega) (by omega) (by omega)]
        rfl
      · rw [drop_iff hl j g1]
        exact ⟨fun h => ⟨⟨he, h.1⟩, h.2⟩, fun h => ⟨h.1.2, h.2⟩⟩
    · refine Evb.step (f := fun _ => some false) (fun k => ?_) (Evb.no ?_)
      · simp only [q8.l1]
        rw [if_pos (by omega), if_pos (by omega), r1, if_pos (by omega), if_pos (by omega), if_pos (by omega), r2, if_pos (by omega), q1, q2, if_pos (hb.2 he)]
      · rw [drop_iff hl j g1]
        exact fun h => he h.1.1
def fitS (l : List (S54)) : Prop := l.length ≤ 9223372036854775806 ∧ ∀ s ∈ l, s.f0.length ≤ 9223372036854775806 ∧ s.f1.length ≤ 9223372036854775806
theorem evb_sents (l m : List (S54)) (hn : fitS l) : Evb (fun k => q8.f k l m) (l = m) := by
  by_cases hl : l.length = m.length
  case neg => exact Evb.congr (fun k => by unfold q8.f; exact if_neg (by omega)) (Evb.no (fun h => hl (by rw [h])))
  have main : ∀ (d i : Nat), i + d = l.length → Evb (fun k => q8.l0 k l m (i : Int)) (l.drop i = m.drop i) := by
    intro d
    induction d with
    | zero =>
      intro i hi
      refine Evb.step (f := fun _ => some true) (fun k => ?_) (Evb.yes (by rw [List.drop_of_length_le (by omega), List.drop_of_length_le (by omega)]))
      simp only [q8.l0]
      rw [if_neg (by omega)]
    | succ d ih =>
      intro i hi
      have h1 : i < l.length := by omega
      have h2 : i < m.length := by omega
      have r1 : q91 l (i : Int) = l[i] := by simp [q91, List.getD_eq_getElem?_getD, List.getElem?_eq_getElem h1]
      have r2 : q91 m (i : Int) = m[i] := by simp [q91, List.getD_eq_getElem?_getD, List.getElem?_eq_getElem h2]
      have hb := hn.2 _ (List.getElem_mem h1)
      have hno : ∀ b, b = true → Evb (fun k => q8.j1 k l m (i : Int) b) False := fun b e => Evb.step (f := fun _ => some false) (fun k => by simp [q8.j1, e]) (Evb.no id)
      have hln := hn.1
      by_cases e0 : l[i].f0.length = m[i].f0.length
      · by_cases e1 : l[i].f1.length = m[i].f1.length
        · refine Evb.step (f := fun k => q8.j1 k l m (i : Int) false) (fun k => ?_) (Evb.step (f := fun k => q8.l1 k l m (i : Int) ((0 : Nat) : Int)) (fun k => ?_) ((evb_s1 l m i h1 h2 e0 e1 hb.1 hb.2 hn.1 (ih (i + 1) (by omega)) l[i].f0.length 0 (by omega)).iff ?_))
          · simp only [q8.l0]
            rw [if_pos (by omega), if_pos (by omega), if_pos (by omega), r1, r2, if_pos (by omega), show (((l[i].f1.length : Nat) : Int) != (m[i].f1.length : Int)) = false by rw [e1]; simp]
          · simp only [q8.j1]
            rw [if_neg (by decide)]
            rfl
          · rw [drop_iff hl i h1]
            constructor
            · rintro ⟨a, b, c⟩
              refine ⟨?_, c⟩
              simp only [List.drop_zero] at a
              revert a b
              generalize l[i] = x
              generalize m[i] = y
              obtain ⟨x0, x1⟩ := x
              obtain ⟨y0, y1⟩ := y
              intro a b
              simp only at a b
              rw [a, b]
            · rintro ⟨a, c⟩
              exact ⟨by rw [a], by rw [a], c⟩
        · refine Evb.step (f := fun k => q8.j1 k l m (i : Int) true) (fun k => ?_) ((hno true rfl).iff ?_)
          · simp only [q8.l0]
            rw [if_pos (by omega), if_pos (by omega), if_pos (by omega), r1, r2, if_pos (by omega), show (((l[i].f1.length : Nat) : Int) != (m[i].f1.length : Int)) = true by simp; omega]
          · rw [drop_iff hl i h1]
            exact ⟨False.elim, fun h => e1 (by rw [h.1])⟩
      · refine Evb.step (f := fun k => q8.j1 k l m (i : Int) true) (fun k => ?_) ((hno true rfl).iff ?_)
        · simp only [q8.l0]
          rw [if_pos (by omega), if_pos (by omega), if_pos (by omega), r1, r2, if_neg (by omega)]
        · rw [drop_iff hl i h1]
          exact ⟨False.elim, fun h => e0 (by rw [h.1])⟩
  exact Evb.congr (fun k => by unfold q8.f; exact if_pos (by omega)) (main l.length 0 (by omega))
theorem evb_item (x y : S48) (h5 : fitS x.f5) (h6 : fitS x.f6) : Evb (fun k => q13.f k x.f0 x.f1 x.f2 x.f3 x.f4 x.f5 x.f6 y.f0 y.f1 y.f2 y.f3 y.f4 y.f5 y.f6) (x = y) := by
 obtain ⟨x0, x1, x2, x3, x4, x5, x6⟩ := x
 obtain ⟨y0, y1, y2, y3, y4, y5, y6⟩ := y
 simp only at h5 h6 ⊢
 unfold q13.f
 rw [show ((⟨x0, x1, x2, x3, x4, x5, x6⟩ : S48) = ⟨y0, y1, y2, y3, y4, y5, y6⟩) = (x0 = y0 ∧ x1 = y1 ∧ x2 = y2 ∧ x3 = y3 ∧ x4 = y4 ∧ x5 = y5 ∧ x6 = y6) by rw [S48.mk.injEq]]
 by_cases e0 : x0.toList = y0.toList
 case neg => exact Evb.congr (fun k => if_neg e0) (Evb.no (fun h => e0 (by rw [h.1])))
 by_cases e1 : x1 = y1
 case neg => exact Evb.congr (fun k => by rw [if_pos e0, if_neg e1]) (Evb.no (fun h => e1 h.2.1))
 by_cases e2 : x2.toList = y2.toList
 case neg => exact Evb.congr (fun k => by rw [if_pos e0, if_pos e1, if_neg e2]) (Evb.no (fun h => e2 (by rw [h.2.2.1])))
 by_cases e3 : x3 = y3
 case neg => exact Evb.congr (fun k => by rw [if_pos e0, if_pos e1, if_pos e2, if_neg (by simpa using e3)]) (Evb.no (fun h => e3 h.2.2.2.1))
 by_cases e4 : x4 = y4
 case neg => exact Evb.congr (fun k => by rw [if_pos e0, if_pos e1, if_pos e2, if_pos (by simpa using e3), if_neg e4]) (Evb.no (fun h => e4 h.2.2.2.2.1))
 refine Evb.congr (fun k => by rw [if_pos e0, if_pos e1, if_pos e2, if_pos (by simpa using e3), if_pos e4]) ((Evb.and (evb_sents x5 y5 h5) (fun _ => Evb.congr (fun k => ?_) (evb_sents x6 y6 h6))).iff ?_)
 ·cases q8.f k x6 y6 <;> rfl
 ·exact ⟨fun h => ⟨ba_ext' e0, e1, ba_ext' e2, e3, e4, h.1, h.2⟩, fun h => ⟨h.2.2.2.2.2.1, h.2.2.2.2.2.2⟩⟩
theorem evb_items (l m : List (S48)) (hn : l.length ≤ 9223372036854775806) (hs : ∀ x ∈ l, fitS x.f5 ∧ fitS x.f6) : Evb (fun k => q9.f k l m) (l = m) := by
  by_cases hl : l.length = m.length
  case neg => exact Evb.congr (fun k => by unfold q9.f; exact if_neg (by omega)) (Evb.no (fun h => hl (by rw [h])))
  have main : ∀ (d i : Nat), i + d = l.length → Evb (fun k => q9.l0 k l m (i : Int)) (l.drop i = m.drop i) := by
    intro d
    induction d with
    | zero =>
      intro i hi
      refine Evb.step (f := fun _ => some true) (fun k => ?_) (Evb.yes (by rw [List.drop_of_length_le (by omega), List.drop_of_length_le (by omega)]))
      simp only [q9.l0]
      rw [if_neg (by omega)]
    | succ d ih =>
      intro i hi
      have h1 : i < l.length := by omega
      have h2 : i < m.length := by omega
      have r1 : q89 l (i : Int) = l[i] := by simp [q89, List.getD_eq_getElem?_getD, List.getElem?_eq_getElem h1]
      have r2 : q89 m (i : Int) = m[i] := by simp [q89, List.getD_eq_getElem?_getD, List.getElem?_eq_getElem h2]
      have hb := hs _ (List.getElem_mem h1)
      refine Evb.step (fun k => ?_) ((Evb.and (evb_item l[i] m[i] hb.1 hb.2) (fun _ => ih (i + 1) (by omega))).iff (drop_iff hl i h1).symm)
      simp only [q9.l0]
      rw [if_pos (by omega), if_pos (by omega), if_pos (by omega), r1, r2, wrap_lt (n := (l.length : Int)) (by omega) (by omega) (by omega)]
      rfl
  exact Evb.congr (fun k => by unfold q9.f; exact if_pos (by omega)) (main l.length 0 (by omega))
theorem ev_same (fs gs : List ByteArray) (l m : List (S48)) (hf : fs.length ≤ 9223372036854775806) (hn : l.length ≤ 9223372036854775806) (hs : ∀ x ∈ l, fitS x.f5 ∧ fitS x.f6) : Evb (fun k => q30.f k fs l gs m) (fs = gs ∧ l = m) := by
 unfold q30.f
 refine Evb.and (evb_texts fs gs hf) (fun _ => Evb.congr (fun k => ?_) (evb_items l m hn hs))
 cases q9.f k l m <;> rfl
def TB (v : Bool) (W : World) (e : Ending) (w' : World) : Prop := e = .returned (.bool v) ∧ Below W.heap.size W w'
def Md (w : World) (A0 : Option Addr) (c0 : Nat) (fs : List ByteArray) (A1 : Option Addr) (c1 : Nat) (l : List (S48)) : Prop := (Kd.C Kd.string w A0 fs.length fs ∧ fs.length ≤ c0 ∧ Kd.C k48 w A1 l.length l ∧ l.length ≤ c1) ∧ fs.length ≤ 140737488351232 ∧ l.length ≤ 140737488351232 ∧ ∀ x ∈ l, goodItem x
section
variable {w : World} {A0 : Option Addr} {c0 : Nat} {fs : List ByteArray} {A1 : Option Addr} {c1 : Nat} {l : List (S48)}
theorem Md.heavy (h : Md w A0 c0 fs A1 c1 l) : ∃ v, ∀ W, Below w.heap.size w W → Calls Try.prog 13 #[.agg #[.slice A0 fs.length c0, .slice A1 l.length c1]] W (TB v W) := by
 obtain ⟨⟨h0, h1, h2, h3⟩, h4, h5, h6⟩ := h
 obtain ⟨v, ⟨k, hk⟩, -⟩ := ev_heavy fs l h4 h5 h6
 exact ⟨v, fun W hb => q20.calls k A0 c0 fs A1 c1 l v W (Kd.C_below h0 hb) h1 (Kd.C_below h2 hb) h3 (hk k (Nat.le_refl _))⟩
theorem Md.is (h : Md w A0 c0 fs A1 c1 l) : ∀ W, Below w.heap.size w W → Calls Try.prog 19 #[.agg #[.slice A0 fs.length c0, .slice A1 l.length c1]] W (TB (isB fs l) W) := by
 obtain ⟨⟨h0, h1, h2, h3⟩, h4, h5, h6⟩ := h
 obtain ⟨k, hk⟩ := ev_ris fs l (fits_of fs l h4 h5 h6)
 exact fun W hb => q40.calls k A0 c0 fs A1 c1 l _ W (Kd.C_below h0 hb) h1 (Kd.C_below h2 hb) h3 (by rw [← ris_eq]; exact hk k (Nat.le_refl _))
end
theorem fit_of {fs : List ByteArray} {l : List (S48)} (h : isB fs l = true) : fs.length ≤ 9223372036854775806 ∧ l.length ≤ 9223372036854775806 ∧ ∀ x ∈ l, fitS x.f5 ∧ fitS x.f6 := by
 have hm := MOk_of fs l h
 have h1 := hm.1
 have h2 := hm.2.1
 refine ⟨by omega, by omega, fun x hx => ?_⟩
 obtain ⟨-, -, -, h5, h6⟩ := hm.2.2.2 x hx
 exact ⟨⟨by omega, fun s hs => by have := (h5.2 s hs).1; have := (h5.2 s hs).2.1; constructor <;> omega⟩, ⟨by omega, fun s hs => by have := (h6.2 s hs).1; have := (h6.2 s hs).2.1; constructor <;> omega⟩⟩
theorem same_call (gs : List ByteArray) (m : List (S48)) (fs : List ByteArray) (l : List (S48)) (hf : gs.length ≤ 9223372036854775806 ∧ m.length ≤ 9223372036854775806 ∧ ∀ x ∈ m, fitS x.f5 ∧ fitS x.f6) : ∃ r : Bool, (r = true ↔ gs = fs ∧ m = l) ∧ ∀ (W : World) (A2 : Option Addr) (c2 : Nat) (A3 : Option Addr) (c3 : Nat) (A0 : Option Addr) (c0 : Nat) (A1 : Option Addr) (c1 : Nat), (Kd.C Kd.string W A2 gs.length gs ∧ gs.length ≤ c2 ∧ Kd.C k48 W A3 m.length m ∧ m.length ≤ c3) → (Kd.C Kd.string W A0 fs.length fs ∧ fs.length ≤ c0 ∧ Kd.C k48 W A1 l.length l ∧ l.length ≤ c1) →
 Calls Try.prog 20 #[.agg #[.slice A2 gs.length c2, .slice A3 m.length c3], .agg #[.slice A0 fs.length c0, .slice A1 l.length c1]] W (TB r W) := by
 obtain ⟨r, ⟨k, hk⟩, hr⟩ := ev_same gs fs m l hf.1 hf.2.1 hf.2.2
 exact ⟨r, hr, fun W A2 c2 A3 c3 A0 c0 A1 c1 h1 h2 => q30.calls k A2 c2 gs A3 c3 m A0 c0 fs A1 c1 l r W h1.1 h1.2.1 h1.2.2.1 h1.2.2.2 h2.1 h2.2.1 h2.2.2.1 h2.2.2.2 (hk k (Nat.le_refl _))⟩
theorem known_call (W : World) : Calls Try.prog 18 #[] W (TB true W) := q22.calls true W rfl
theorem and65535 (a : Int) : 0 ≤ Go.bits .and .i64 a 65535 ∧ Go.bits .and .i64 a 65535 ≤ 65535 := by
 have h : (BitVec.ofInt 64 a &&& BitVec.ofInt 64 65535).toNat ≤ 65535 := by
  rw [BitVec.toNat_and]
  exact Nat.le_trans Nat.and_le_right (by decide)
 have e : Go.bits .and .i64 a 65535 = IntKind.i64.wrap ((BitVec.ofInt 64 a &&& BitVec.ofInt 64 65535).toNat : Int) := rfl
 rw [e, IntKind.wrap_i64]
 omega
theorem lit_none (W : World) (b : Nat) (hb : b = W.heap.size) : Kd.R (Kd.int .u8) 5 (W.alloc (.cells #[] 5)) b (fun _ => True) (.slice (some ⟨b, 0, none⟩) 0 0) [] := by
 subst hb
 exact Kd.R_of_own (by simpa [encs] using World.ownsRow_lit (base := W.heap.size) (e := 5) (size := 1) W #[] 0 (Nat.le_refl _) (by decide) (by simp)) (fun _ _ => trivial)
theorem wf8 {x : Int} (h : (Lit.int .u8 x).wf = true) : 0 ≤ x ∧ x ≤ 255 := by
 simp [Lit.wf, IntKind.wrap_u8] at h
 have e1 : IntKind.u8.min = 0 := by decide
 have e2 : IntKind.u8.max = 255 := by decide
 omega
theorem un_fit (l : List Int) : (unpackR l).1.1.length ≤ 9223372036854775806 ∧ (unpackR l).1.2.length ≤ 9223372036854775806 ∧ ∀ x ∈ (unpackR l).1.2, fitS x.f5 ∧ fitS x.f6 := by
 rcases unpackR_or l with h | ⟨fs, items, h, rfl⟩
 ·rw [h]
  exact ⟨by decide, by decide, fun x hx => by cases hx⟩
 ·rw [unpack_pack fs items h]
  exact fit_of h
theorem sealL_len (l : List Int) : (sealL l).length = 8 + l.length := by unfold sealL; simp; omega
theorem seal_call (A0 : Option Addr) (c0 : Nat) (l : List Int) (W : World) (hr : Kd.C (Kd.int .u8) W A0 l.length l) (hc : l.length ≤ c0) (hl : l.length ≤ 140737488351232) :
 Calls Try.prog 23 #[.slice A0 l.length c0] W fun e w' => ∃ A c, e = .returned (.slice A (sealL l).length c) ∧ (sealL l).length ≤ c ∧ Kd.C (Kd.int .u8) w' A (sealL l).length (sealL l) ∧ Below W.heap.size W w' := by
 refine (q25.calls A0 c0 l (sealL l) W hr hc (by unfold q25.f; rw [if_pos (by omega)])).mono ?_
 rintro e w' ⟨v, rfl, hR, hb⟩
 obtain ⟨A, c, rfl⟩ := Kd.R_slice hR
 have hrd := Kd.R_reads' hR
 exact ⟨A, c, rfl, hrd.2.1, hrd.2.2, hb⟩

set_option maxHeartbeats 16000000 in
set_option maxRecDepth 100000 in
theorem packSealedOne_any (A0 : Option Addr) (c0 : Nat) (fs : List ByteArray) (A1 : Option Addr) (c1 : Nat) (l : List (S48)) (at_ by_ : Int) (w : World) (hM : Md w A0 c0 fs A1 c1 l) (hb : 0 ≤ by_ ∧ by_ ≤ 255) :
    Calls Try.prog 11 #[.agg #[.slice A0 fs.length c0, .slice A1 l.length c1], .int .i64 at_, .int .u8 by_] w (TB true w) := by
  have hu25 := Try.underlying25
  obtain ⟨v, hv⟩ := hM.heavy
  have hi := hM.is
  have hp : ∀ W, Below w.heap.size w W → isB fs l = true → Calls Try.prog 15 #[.agg #[.slice A0 fs.length c0, .slice A1 l.length c1]] W fun e w' => ∃ v, e = .returned (.tuple #[v, .int .i64 0]) ∧ Kd.R (Kd.int .u8) 5 w' W.heap.size (fun _ => True) v (packL fs l) ∧ Below W.heap.size W w' := by
    obtain ⟨⟨h0, h1, h2, h3⟩, h4, h5, h6⟩ := hM
    obtain ⟨k, hk⟩ := ev_rpack fs l (fits_of fs l h4 h5 h6)
    exact fun W hb hB => q27.calls k A0 c0 fs A1 c1 l (packL fs l) 0 W (Kd.C_below h0 hb) h1 (Kd.C_below h2 hb) h3 (by have h9 : q27.f k fs l = some _ := hk k (Nat.le_refl _); rw [h9, if_pos hB])
  have HM := Lib.hid hM
  have HB0 := Lib.hid (q67 (Below.refl w.heap.size w) (.cells #[.slice A0 fs.length c0, .slice A1 l.length c1] 25))
  have hv := hv _ HB0.out
  have HI := Lib.hid hi
  have HP := Lib.hid hp
  obtain ⟨nf, hnf⟩ : ∃ nf, nf = fs.length := ⟨_, rfl⟩
  obtain ⟨nl, hnl⟩ : ∃ nl, nl = l.length := ⟨_, rfl⟩
  rw [← hnf, ← hnl] at hv HI HP HB0 ⊢
  obtain ⟨iB, hiB⟩ : ∃ b, b = isB fs l := ⟨_, rfl⟩
  rw [← hiB] at HI HP
  have HIB := Lib.hid hiB
  clear hi hp hM hnf hnl hiB
  have hcz0 : (w.alloc (.cells #[.slice A0 nf c0, .slice A1 nl c1] 25)).cell? ⟨w.heap.size, 0, none⟩ = some (.slice A0 nf c0) := by simp
  have hcz1 : (w.alloc (.cells #[.slice A0 nf c0, .slice A1 nl c1] 25)).cell? ⟨w.heap.size, 1, none⟩ = some (.slice A1 nl c1) := by simp
  have HCZ := Lib.hid (And.intro hcz0 hcz1)
  clear hcz0 hcz1
  go_enter Try.func11, Try.ntmps11
  go_wp2_with fail
  refine hv.mono ?_
  rintro e w2 ⟨rfl, hb2⟩
  have HB2 := Lib.hid (q70 HB0.out HB0.out.size hb2)
  have HC2 := Lib.hid (And.intro (q83 hb2 HCZ.out.1) (q83 hb2 HCZ.out.2))
  clear hb2 hv
  cases v with
  | true =>
    go_wp2
    go_ret
    exact ⟨rfl, HB2.out⟩
  | false =>
    obtain ⟨hm0, hm1⟩ := HC2.out
    have hi := HI.out w2 HB2.out
    go_wp2_with fail
    refine hi.mono ?_
    rintro e w3 ⟨rfl, hb3⟩
    have HB3 := Lib.hid (q70 HB2.out HB2.out.size hb3)
    have HC3 := Lib.hid (And.intro (q83 hb3 HC2.out.1) (q83 hb3 HC2.out.2))
    clear hb3 hi hm0 hm1
    cases iB with
    | false =>
      go_wp2
      go_ret
      exact ⟨rfl, HB3.out⟩
    | true =>
      have hpk := HP.out w3 HB3.out rfl
      have hd8 : (packL fs l).drop 8 = modelW fs l := rfl
      have hpl : (packL fs l).length = 8 + (modelW fs l).length := by unfold packL; exact sealL_len _
      have hpn : 9 ≤ (packL fs l).length := q54 fs l
      have hml := modelW_le fs l (MOk_of fs l HIB.out.symm)
      have hbm := bytes_model fs l
      obtain ⟨p, hpp⟩ : ∃ p, p = packL fs l := ⟨_, rfl⟩
      rw [← hpp] at hpk hd8 hpl hpn
      obtain ⟨q, hqq⟩ : ∃ q, q = modelW fs l := ⟨_, rfl⟩
      rw [← hqq] at hd8 hpl hml hbm
      obtain ⟨n, hn⟩ : ∃ n, n = p.length := ⟨_, rfl⟩
      obtain ⟨nq, hnq⟩ : ∃ nq, nq = q.length := ⟨_, rfl⟩
      rw [← hn] at hpl hpn
      rw [← hnq] at hpl hml
      have hpa : n ≤ 8 + nq := by omega
      have hpb : 8 + nq ≤ n := by omega
      clear hpl
      have HN := Lib.hid (And.intro hn hnq)
      obtain ⟨j, hj, hjn⟩ : ∃ j : Nat, Int.tmod (Go.bits .and .i64 at_ 65535) (nq : Int) = j ∧ j < nq := by
        have ha := and65535 at_
        rw [Int.tmod_eq_emod_of_nonneg ha.1]
        have := Int.emod_nonneg (Go.bits .and .i64 at_ 65535) (show (nq : Int) ≠ 0 by omega)
        have := Int.emod_lt_of_pos (Go.bits .and .i64 at_ 65535) (show (0 : Int) < nq by omega)
        exact ⟨(Go.bits .and .i64 at_ 65535 % (nq : Int)).toNat, by omega, by omega⟩
      have HJ := Lib.hid hj
      have HBY := Lib.hid hb
      have HBM := Lib.hid hbm
      have HD8 := Lib.hid hd8
      clear hpp hqq hn hnq hj hbm hd8
      obtain ⟨hm0, hm1⟩ := HC3.out
      go_wp2_with fail
      refine hpk.mono ?_
      rintro e w4 ⟨v4, rfl, hR4, hb4⟩
      obtain ⟨A4, c4, rfl⟩ := Kd.R_slice hR4
      have hrd := Kd.R_reads' hR4
      have HB4 := Lib.hid (q70 HB3.out HB3.out.size hb4)
      obtain ⟨i0, hi0, hz0, hz1, hz2⟩ := info_parts info5
      have hnc : n ≤ c4 := by have := hrd.2.1; rw [HN.out.1]; exact this
      have k2 := cut_from (P := Try.prog) 26 5 .i64 Try.underlying26 hi0 1 hz1 A4 n c4 8 (by omega) (by omega)
      have h8t : (8 : Int).toNat = 8 := rfl
      obtain ⟨A5, hA5⟩ : ∃ A5, A5 = if c4 = (8 : Int).toNat then A4 else A4.map (·.add ((8 : Int).toNat * 1)) := ⟨_, rfl⟩
      have hC5 : Kd.C (Kd.int .u8) w4 A5 (p.drop 8).length (p.drop 8) := by rw [hA5]; exact Kd.C_drop hrd.2.2 (show 8 ≤ p.length by rw [← HN.out.1]; omega) hrd.2.1
      rw [HD8.out] at hC5
      rw [← hA5] at k2
      rw [h8t, show n - 8 = nq by omega] at k2
      have HC1 := Lib.hid (Kd.C_alloc hC5 (.cells #[] 5))
      rw [← HN.out.1]
      clear hb4 hpk hm0 hm1 hR4 hrd hi0 hz0 hz1 hz2 hA5 hC5 h8t
      go_wp2_with (first | ((with_reducible refine q79 (b := .append) (xs := #[.tmp 26, .tmp 28]) rfl ?_); at_builtin; refine Kd.R_append_rows (Kd.int .u8) (w0 := _) w4.heap.size rfl (.tmp 26) (.tmp 28) 26 5 (.int .u8 0) 1 rfl Try.underlying26 info5 rfl (by decide) (by omega) (.slice (some ⟨w4.heap.size, 0, none⟩) 0 0) [] q A5 nq (c4 - 8) (fun _ => True) (fun _ => False) rfl rfl (lit_none w4 _ rfl) (HN.out.2 ▸ HC1.out) (fun _ _ h => h) (fun _ h => h.elim) (fun _ _ => trivial) (q67 (Below.refl w4.heap.size w4) _) (by simp) (by simp; omega) ?_; intro v6 w6 hR6 hB6 hgr hat; clear hgr hat k2; rw [List.nil_append] at hR6; obtain ⟨g6, c6, rfl, hg6, hgl6, cells6, hcells6⟩ := Kd.R_form hR6 (by have := HN.out.2; omega); rw [← HN.out.2] at hR6 ⊢; obtain ⟨hx0, hf0⟩ := Kd.R_celln 0 hR6 (j : Int) (by omega) (by omega); rw [Int.toNat_natCast] at hx0 hf0; have hy0 : w6.cell? ⟨g6, j, none⟩ = some (.int .u8 (q.getD j 0)) := (by rw [hx0]; simp [rdOf]); clear hx0; have HR6 := Lib.hid hR6; have HB6 := Lib.hid (q70 HB4.out HB4.out.size hB6); have HG6 := Lib.hid (Nat.le_trans HB4.out.size hg6); clear hR6 hB6 hg6 hgl6 hcells6; have hjt := HJ.out; have hja := (and65535 at_).1; have hn0 : (0 : Int) < nq := (by omega); have hnz : ((nq : Int) == 0) = false := (beq_eq_false_iff_ne.mpr (by omega)); have hje := (Int.tmod_eq_emod_of_nonneg hja).symm.trans hjt))
      clear hjt hja hn0 hnz hje hy0 hf0
      have hput := Kd.R_putg HR6.out (j : Int) by_
      rw [Int.toNat_natCast] at hput
      obtain ⟨qs, hqs⟩ : ∃ qs, qs = q.set j by_ := ⟨_, rfl⟩
      rw [← hqs] at hput
      have hql : qs.length = nq := by rw [hqs, List.length_set, HN.out.2]
      have h8q : Bytes qs := by
        intro z hz
        rw [hqs] at hz
        rcases List.mem_or_eq_of_mem_set hz with h' | rfl
        · exact HBM.out z h'
        · exact HBY.out
      have hrd := Kd.R_reads' hput.1
      have hse := seal_call (some ⟨g6, 0, none⟩) c6 qs (w6.setCell ⟨g6, j, none⟩ (.int .u8 by_)) (by rw [hql]; exact hql ▸ hrd.2.2) (by rw [hql]; exact hrd.2.1) (by rw [hql]; omega)
      have HCB := Lib.hid (show Kd.C (Kd.int .u8) (w6.setCell ⟨g6, j, none⟩ (.int .u8 by_)) (some ⟨g6, 0, none⟩) qs.length qs by rw [hql]; exact hql ▸ hrd.2.2)
      have hcq : qs.length ≤ c6 := by rw [hql]; exact hrd.2.1
      have HBW := Lib.hid (HB6.out.setCell HG6.out (.int .u8 by_) : Below w.heap.size w (w6.setCell ⟨g6, j, none⟩ (.int .u8 by_)))
      obtain ⟨w7, hw7⟩ : ∃ w7, w7 = w6.setCell ⟨g6, j, none⟩ (.int .u8 by_) := ⟨_, rfl⟩
      rw [← hw7] at hse HCB HBW ⊢
      have h8l := bytes_seal h8q
      have hln : (sealL qs).length = 8 + nq := by rw [sealL_len, hql]
      obtain ⟨lb, hlb⟩ : ∃ lb, lb = sealL qs := ⟨_, rfl⟩
      have HLB := Lib.hid hlb
      rw [← hlb] at hse h8l hln
      have hfit := un_fit lb
      have hre := readers_eq lb
      obtain ⟨⟨⟨F, I⟩, r⟩, hU⟩ : ∃ U, U = unpackR lb := ⟨_, rfl⟩
      rw [← hU] at hfit hre
      simp only at hfit
      have H8 := Lib.hid h8l
      have HU := Lib.hid (And.intro hU hre)
      have HFIT := Lib.hid hfit
      have HCQ := Lib.hid hcq
      have HQL := Lib.hid hql
      obtain ⟨nb, hnb⟩ : ∃ nb, nb = lb.length := ⟨_, rfl⟩
      have HNB := Lib.hid hnb
      rw [← hnb] at hse hln
      rw [hql] at hse
      have hnl : nb ≤ 140737488351232 := by omega
      clear hput hqs hql h8q hrd hcq hw7 h8l hlb hfit hre hU hnb hln HR6 HB6 HG6
      refine hse.mono ?_
      rintro e w8 ⟨A8, c8, rfl, hc8, hC8, hb8⟩
      have hup := unpack_any w8 A8 c8 lb (HNB.out ▸ hC8) (HNB.out ▸ hc8) H8.out (by rw [← HNB.out]; exact hnl)
      rw [← HU.out.1, ← HNB.out] at hup
      have HB8 := Lib.hid hb8
      clear hse hC8 hc8 hb8
      go_wp2_with fail
      refine hup.mono ?_
      rintro e w9 ⟨A9, c9, v9, rfl, hc9, hC9, -, hR9, hb9⟩
      obtain ⟨A10, c10, rfl⟩ := Kd.R_slice hR9
      have hrd9 := Kd.R_reads' hR9
      simp only at hc9 hC9 hrd9 ⊢
      obtain ⟨wX, hwX⟩ : ∃ wX, wX = w9.alloc (.cells #[.slice A9 F.length c9, .slice A10 I.length c10] 25) := ⟨_, rfl⟩
      have hbX : Below w9.heap.size w9 wX := by rw [hwX]; exact q67 (Below.refl _ _) _
      have hgX : wX.heap[w9.heap.size]? = some (.cells #[.slice A9 F.length c9, .slice A10 I.length c10] 25 (0, 0)) := by rw [hwX]; exact heap_alloc_new w9 _
      have hb7X := q70 (q70 HB8.out HB8.out.size hb9) (q70 HB8.out HB8.out.size hb9).size hbX
      have HBX := Lib.hid (q70 HBW.out HBW.out.size hb7X)
      have hse2 := seal_call (some ⟨g6, 0, none⟩) c6 qs wX (Kd.C_below HCB.out hb7X) HCQ.out (by rw [HQL.out]; omega)
      rw [← HLB.out, ← HNB.out, HQL.out] at hse2
      have HWX := Lib.hid hwX
      have HGX := Lib.hid hgX
      have HXX := Lib.hid (show Kd.C Kd.string wX A9 F.length F ∧ F.length ≤ c9 ∧ Kd.C k48 wX A10 I.length I ∧ I.length ≤ c10 from ⟨Kd.C_below hC9 hbX, hc9, Kd.C_below hrd9.2.2 hbX, hrd9.2.1⟩)
      clear hup hb9 hR9 hrd9 hc9 hC9 hwX hgX hbX hb7X HB8
      go_wp2_with fail
      rw [← HWX.out]
      refine hse2.mono ?_
      rintro e w11 ⟨A11, c11, rfl, hc11, hC11, hb11⟩
      have hru := refun_any w11 A11 c11 lb (HNB.out ▸ hC11) (HNB.out ▸ hc11) H8.out (by rw [← HNB.out]; exact hnl)
      rw [HU.out.2, ← HNB.out] at hru
      have HB11 := Lib.hid hb11
      clear hse2 hc11 hC11 hb11
      go_wp2_with fail
      refine hru.mono ?_
      rintro e w12 ⟨A12, c12, v12, rfl, hc12, hC12, -, hR12, hb12⟩
      obtain ⟨A13, c13, rfl⟩ := Kd.R_slice hR12
      have hrd12 := Kd.R_reads' hR12
      simp only at hc12 hC12 hrd12 ⊢
      obtain ⟨wZ, hwZ⟩ : ∃ wZ, wZ = w12.alloc (.cells #[.slice A12 F.length c12, .slice A13 I.length c13] 25) := ⟨_, rfl⟩
      have hbZ : Below w12.heap.size w12 wZ := by rw [hwZ]; exact q67 (Below.refl _ _) _
      have hgZ : wZ.heap[w12.heap.size]? = some (.cells #[.slice A12 F.length c12, .slice A13 I.length c13] 25 (0, 0)) := by rw [hwZ]; exact heap_alloc_new w12 _
      have hb12' := q70 HB11.out HB11.out.size hb12
      have hbXZ := q70 hb12' hb12'.size hbZ
      have hxZ := q72 HGX.out hbXZ
      have hx_0 := (q73 hxZ 0).trans rfl
      have hx_1 := (q73 hxZ 1).trans rfl
      have HBZ := Lib.hid (q70 HBX.out HBX.out.size hbXZ)
      obtain ⟨rr, hrr, hsame⟩ := same_call F I F I HFIT.out
      obtain rfl : rr = true := hrr.2 ⟨rfl, rfl⟩
      have hsm := hsame wZ A9 c9 A10 c10 A12 c12 A13 c13 ⟨Kd.C_below HXX.out.1 hbXZ, HXX.out.2.1, Kd.C_below HXX.out.2.2.1 hbXZ, HXX.out.2.2.2⟩ ⟨Kd.C_below hC12 hbZ, hc12, Kd.C_below hrd12.2.2 hbZ, hrd12.2.1⟩
      have HWZ := Lib.hid hwZ
      have HXC := Lib.hid (And.intro hx_0 hx_1)
      clear hru hb12 hb12' hR12 hrd12 hc12 hC12 hwZ hgZ hbZ hbXZ hxZ hrr hsame hx_0 hx_1
      have hz1 : (w12.alloc (.cells #[.slice A12 F.length c12, .slice A13 I.length c13] 25)).cell? ⟨w9.heap.size, 0, none⟩ = some (.slice A9 F.length c9) := HWZ.out ▸ HXC.out.1
      have hz2 : (w12.alloc (.cells #[.slice A12 F.length c12, .slice A13 I.length c13] 25)).cell? ⟨w9.heap.size, 1, none⟩ = some (.slice A10 I.length c10) := HWZ.out ▸ HXC.out.2
      go_wp2_with fail
      rw [← HWZ.out]
      clear hz1 hz2
      refine hsm.mono ?_
      rintro e w16 ⟨rfl, hb16⟩
      have HB16 := Lib.hid (q70 HBZ.out HBZ.out.size hb16)
      clear hsm hb16
      have hkn := known_call w16
      go_wp2_with fail
      refine hkn.mono ?_
      rintro e w17 ⟨rfl, hb17⟩
      have HB17 := Lib.hid (q70 HB16.out HB16.out.size hb17)
      clear hkn hb17
      go_wp2
      go_ret
      exact ⟨rfl, HB17.out⟩
end Go.Proofs.Ytaiglhfmmdajdaa.Pm
end
section
namespace Go.Proofs.Ytaiglhfmmdajdaa.packSealedOne
open Go.ChangeShapes Go.WideShapes Go.ChangeAt Go.RowKit Go.Proofs.YtaiglhfmmdajdaaW.PrintWords
open Go.ChangeMaps (open_string shut_string)
set_option linter.unusedVariables false
theorem own : ownKnob Try.prog.godebug = none := by kernel_rfl
theorem laidOut : laidOutB Try.prog = true := by kernel_rfl
set_option maxRecDepth 100000 in
theorem lifted (os : Os) (started : os.Started) (H : Type) (enc : TypeId × Value → H) :
 ReturnsInHanded {} Try.checked os 11 .any (Rows.packSealedOneSpec.pre6 enc Try.prog Try.f11 Rows.packSealedOneRow.domain false) (Rows.packSealedOneSpec.post enc Try.prog Try.f11 false true false false) := by
 refine returnsInHanded_of_change_sized (C := Try.checked) own started (by kernel_rfl) Try.func11
  (ChangeSpec.witness6 (enc := enc) (C := Try.checked) false ⟨#[], #[.agg #[.slice none 0 0, .slice none 0 0], .int .i64 0, .int .u8 0], []⟩ 8 (by kernel_rfl) (by kernel_rfl) (by kernel_rfl) (by kernel_rfl)) ?_
 intro W base args ds gs before hval0 hW hcnd hsz0 _
 have hsz : (DataW.weightsEach Try.prog (Try.f11.params.toList ++ Rows.packSealedOneSpec.plain.varTypes Try.prog) (ds ++ gs)).all (· ≤ reachBytes) = true := hsz0
 have hval : ∀ (j : Nat) t v, Try.f11.params[j]? = some t → args[j]? = some v → Value.okWide Try.prog W .any base t v := hval0
 have hW' := hW
 obtain ⟨p, q, hA0, hV, rfl, hfz, hnd⟩ := hW
 have hA : DataW.TrodAll enc Try.prog W 0 (fun _ => true) true Try.f11.params.toList args.toList ds p := hA0
 rw [Try.params11] at hA hval hsz
 obtain ⟨v0, vs0, d0, ds0, p0, q0, hargs, rfl, rfl, h0, r0⟩ := trodAll_cons hA
 obtain ⟨v1, vs1, d1, ds1, p1, q1, rfl, rfl, rfl, h1, r1⟩ := trodAll_cons r0
 obtain ⟨v2, vs2, d2, ds2, p2, q2, rfl, rfl, rfl, h2, r2⟩ := trodAll_cons r1
 obtain ⟨rfl, rfl, rfl⟩ := trodAll_nil r2
 obtain rfl : args = #[v0, v1, v2] := by cases args; simp_all
 obtain ⟨rfl, rfl⟩ := trodVars_none hV
 have k0 := h0
 have lt0 : ∀ x ∈ p0, x.block < W.heap.size := by obtain ⟨m, hm⟩ := k0; exact DataW.trod_lt m _ _ _ hm
 obtain ⟨A0, c0, fs0, B0, e0, l0, rfl, rdf0, hcf0, rdl0, hcl0, hf0, hl0, hg0⟩ := Pm.open_model (hval 0 25 v0 rfl rfl) h0 (Pm.light_of hsz (j := 0) (t := 25) rfl rfl)
 obtain ⟨a1, rfl, rfl, rfl, w1⟩ := open_int Try.underlying3 (hval 1 3 v1 rfl rfl) h1
 obtain ⟨a2, rfl, rfl, rfl, w2⟩ := open_int Try.underlying5 (hval 2 5 v2 rfl rfl) h2
 clear hA0 hval0 hsz0 hsz
 refine ((Pm.packSealedOne_any A0 c0 fs0 B0 e0 l0 a1 a2 W ⟨⟨rdf0, hcf0, rdl0, hcl0⟩, hf0, hl0, hg0⟩ (Pm.wf8 w2)).mono fun e w' h => (⟨h.1, h.2⟩ : e = .returned (.bool true) ∧ Below W.heap.size W w')).mono fun e W' ⟨he, bel⟩ => ?_
 subst he
 exact ⟨_, rfl, _, _, _, [], _, [], hW', trodAll_mk1 (shut_bool Try.underlying4 _), (trodAll_cons_mk (Below.trod laidOut (by kernel_rfl) (of_decide_eq_true (by kernel_rfl)) k0 bel lt0) (trodAll_cons_mk (shut_int Try.underlying3 w1) (trodAll_cons_mk (shut_int Try.underlying5 w2) trodAll_mk0))), rfl, bel.frame _, fun h => by cases h⟩
theorem over : Rows.packSealedOneRow.holds Try.pinned (OpenSpec.ofChange Rows.packSealedOneSpec) :=
 OpenClaim.holds_of_wide 11 Try.f11 rfl rfl rfl rfl rfl rfl rfl ⟨rfl, rfl, rfl, rfl, rfl⟩ rfl rfl rfl rfl rfl (by kernel_rfl) Try.func11 (by kernel_rfl)
  (of_decide_eq_true (by kernel_rfl)) (by unfold Func.isWrapper; first | (rw [if_pos (by decide +kernel)]; kernel_rfl) | (rw [if_neg (by decide +kernel)]; exact ⟨rfl, rfl⟩))
  (fun os started H enc _ => lifted os started H enc)
theorem proved : Rows.PackSealedOneSaid := over
end Go.Proofs.Ytaiglhfmmdajdaa.packSealedOne
namespace Go.Proofs.Ytaiglhfmmdajdaa
theorem packSealedOne_holds : Rows.PackSealedOneSaid := packSealedOne.proved
end Go.Proofs.Ytaiglhfmmdajdaa
end
