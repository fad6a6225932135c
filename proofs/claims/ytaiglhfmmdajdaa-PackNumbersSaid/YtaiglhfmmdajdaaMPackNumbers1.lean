/- Walks and plain laws on the way to the law PackNumbers: several texts of this workplace and of the kit's printer, merged; what is not used is struck, by a program. No condition. -/
import Derived.Test.YtaiglhfmmdajdaaMPackNumbers0
import Derived.Lib.Hide
import Derived.Shelf.Abstract
import Derived.Deep.RegionHeld3
import Derived.Outline
section
namespace Go.Proofs.Ytaiglhfmmdajdaa.Pm
open Go.RowKit Go.Proofs.YtaiglhfmmdajdaaW.PrintWords Go.Proofs.YtaiglhfmmdajdaaW.PrintLast Go.Proofs.YtaiglhfmmdajdaaW.PrintMore
attribute [local go_sem] max2_int min2_int max_two min_two max_three min_three max_four min_four   -- for this text's walks alone
set_option linter.unusedVariables false
set_option linter.unusedSimpArgs false
def model_isIf.f (k : Nat) (l0_0 : List ByteArray) (l0_1 : List (S48)) (a1_0 : ByteArray) (a1_1 : ByteArray) (a1_2 : Int) : Option (Bool) := (slices_Contains_string_string.f k (([(⟨#[60]⟩ : ByteArray), (⟨#[60, 61]⟩ : ByteArray), (⟨#[61]⟩ : ByteArray), (⟨#[33, 61]⟩ : ByteArray), (⟨#[62, 61]⟩ : ByteArray), (⟨#[62]⟩ : ByteArray)] : List ByteArray)) a1_1).bind fun t320 => (if t320 = true then ((slices_Contains_string_string.f k l0_0 a1_0).bind fun t321 => (if t321 = true then (if a1_2 ≥ (-1000000) then (some (decide (a1_2 ≤ 1000000))) else (some false)) else (some false))) else (some false))
theorem model_isIf.mono : ∀ a0 a1 a2 a3 a4 k, LeO (model_isIf.f k a0 a1 a2 a3 a4) (model_isIf.f (k + 1) a0 a1 a2 a3 a4) := by
 intro a0 a1 a2 a3 a4 k
 unfold model_isIf.f
 repeat' first
   | (with_reducible exact slices_Contains_string_string.mono _ _ _)
   | (with_reducible exact LeO.refl _)
   | (with_reducible exact LeO.none _)
   | (with_reducible refine LeO.ite ?_ ?_)
   | (with_reducible refine LeO.bind ?_ (fun _ => ?_))
   | exact slices_Contains_string_string.mono _ _ _
   | exact LeO.none _
   | refine LeO.ite ?_ ?_
   | refine LeO.bind ?_ (fun _ => ?_)
set_option maxHeartbeats 8000000 in
set_option maxRecDepth 100000 in
theorem model_isIf.calls (k : Nat) (A0_0 : Option Addr) (c0_0 : Nat) (l0_0 : List ByteArray) (A0_1 : Option Addr) (c0_1 : Nat) (l0_1 : List (S48)) (a1_0 : ByteArray) (a1_1 : ByteArray) (a1_2 : Int) (r : Bool) (w : World) (hr0_0 : Kd.C Kd.string w A0_0 l0_0.length l0_0) (hc0_0 : l0_0.length ≤ c0_0) (hr0_1 : Kd.C k48 w A0_1 l0_1.length l0_1) (hc0_1 : l0_1.length ≤ c0_1) (h : model_isIf.f k l0_0 l0_1 a1_0 a1_1 a1_2 = some r) :
  Calls Try.prog 92 #[.agg #[.slice A0_0 l0_0.length c0_0, .slice A0_1 l0_1.length c0_1], .agg #[.string a1_0, .string a1_1, .int .i64 a1_2]] w fun e w' => e = .returned (.bool r) ∧ Below w.heap.size w w' := by
 have hu25 := Try.underlying25
 have hu50 := Try.underlying50
 have HR0_0 := Aside0.mk hr0_0
 have HC0_0 := Aside0.mk hc0_0
 clear hr0_0 hc0_0
 have HR0_1 := Aside0.mk hr0_1
 have HC0_1 := Aside0.mk hc0_1
 clear hr0_1 hc0_1
 have HB := Aside0.mk (Below.refl w.heap.size w)
 have H : ((slices_Contains_string_string.f k (([(⟨#[60]⟩ : ByteArray), (⟨#[60, 61]⟩ : ByteArray), (⟨#[61]⟩ : ByteArray), (⟨#[33, 61]⟩ : ByteArray), (⟨#[62, 61]⟩ : ByteArray), (⟨#[62]⟩ : ByteArray)] : List ByteArray)) a1_1).bind fun t320 => (if t320 = true then ((slices_Contains_string_string.f k l0_0 a1_0).bind fun t321 => (if t321 = true then (if a1_2 ≥ (-1000000) then (some (decide (a1_2 ≤ 1000000))) else (some false)) else (some false))) else (some false))) = some r := h
 clear h
 obtain ⟨y317, hy317⟩ : ∃ y_ : List ByteArray, y_ = (([(⟨#[60]⟩ : ByteArray), (⟨#[60, 61]⟩ : ByteArray), (⟨#[61]⟩ : ByteArray), (⟨#[33, 61]⟩ : ByteArray), (⟨#[62, 61]⟩ : ByteArray), (⟨#[62]⟩ : ByteArray)] : List ByteArray)) := ⟨_, rfl⟩
 replace H : ((slices_Contains_string_string.f k y317 a1_1).bind fun t320 => (if t320 = true then ((slices_Contains_string_string.f k l0_0 a1_0).bind fun t321 => (if t321 = true then (if a1_2 ≥ (-1000000) then (some (decide (a1_2 ≤ 1000000))) else (some false)) else (some false))) else (some false))) = some r := by first | (rw [hy317]; with_reducible exact H) | (have H2_ := (Option.bind_some _ _).symm.trans H; rw [hy317]; with_reducible exact H2_) | (have H2_ := (Option.bind_some _ _).symm.trans H; with_reducible exact H2_) | with_reducible exact H | (rw [hy317]; exact H) | exact H
 have Ny317 := Aside0.mk hy317
 clear hy317
 replace H := Option.bind_eq_some_iff.mp H
 obtain ⟨t320, A30, H⟩ := H
 replace H : (if t320 = true then ((slices_Contains_string_string.f k l0_0 a1_0).bind fun t321 => (if t321 = true then (if a1_2 ≥ (-1000000) then (some (decide (a1_2 ≤ 1000000))) else (some false)) else (some false))) else (some false)) = some r := H
 have A3 := Aside0.mk A30
 clear A30
 by_cases c4 : t320 = true
 ·subst c4
  have H1 : ((slices_Contains_string_string.f k l0_0 a1_0).bind fun t321 => (if t321 = true then (if a1_2 ≥ (-1000000) then (some (decide (a1_2 ≤ 1000000))) else (some false)) else (some false))) = some r := by rw [if_pos rfl] at H; exact H
  clear H
  have H := H1
  clear H1
  replace H := Option.bind_eq_some_iff.mp H
  obtain ⟨t321, A50, H⟩ := H
  replace H : (if t321 = true then (if a1_2 ≥ (-1000000) then (some (decide (a1_2 ≤ 1000000))) else (some false)) else (some false)) = some r := H
  have A5 := Aside0.mk A50
  clear A50
  by_cases c6 : t321 = true
  ·subst c6
   have H1 : (if a1_2 ≥ (-1000000) then (some (decide (a1_2 ≤ 1000000))) else (some false)) = some r := by rw [if_pos rfl] at H; exact H
   clear H
   have H := H1
   clear H1
   by_cases c7 : a1_2 ≥ (-1000000)
   ·rw [if_pos c7] at H
    have c7b0 : decide ((-1000000) ≤ a1_2) = true := decide_eq_true c7
    clear c7
    obtain rfl := Option.some.inj H
    go_enter Try.func92, Try.ntmps92
    go_wp2_with (first | ((with_reducible refine gate_dst (N := 2) rfl ?_); refine box_event ?hg (N := 2) ?hd (cs := #[.slice A0_0 l0_0.length c0_0, .slice A0_1 l0_1.length c0_1]) (t := 25) ?hr ?_; (case hd => rfl); (case hg => rfl); (case hr => first | (go_simp; done) | (go_simp; rfl)); intro gb315 hg w8 hbox hb; have n0_ := hb_ HB hb; have n1_ := Aside0.mk (hbox); have n2_ := Aside0.mk ((by rw [hg]; exact (below_size (by repeat (first | (with_reducible first | exact HB.out | apply below_alloc | apply pw_below_drewN | apply below_drew1) | exact HB.out))) : w.heap.size ≤ gb315)); have n3_ := Aside0.mk ((by rw [hg]; exact (below_size (by repeat (first | (with_reducible first | exact HB.out | apply below_alloc | apply pw_below_drewN | apply below_drew1) | exact HB.out))) : w.heap.size ≤ gb315)); clear HB; have HB := n0_; have BK315 := n1_; have GW315 := n2_; have GE315 := n3_; clear n0_ n1_ n2_ n3_; clear hb hbox hg) | ((with_reducible refine gate_dst (N := 3) rfl ?_); refine box_event ?hg (N := 3) ?hd (cs := #[.string a1_0, .string a1_1, .int .i64 a1_2]) (t := 50) ?hr ?_; (case hd => rfl); (case hg => rfl); (case hr => first | (go_simp; done) | (go_simp; rfl)); intro gb316 hg w9 hbox hb; have n0_ := bb_ BK315 hb; have n1_ := hb_ HB hb; have n2_ := Aside0.mk (hbox); have n3_ := Aside0.mk ((by rw [hg]; exact (below_size (by repeat (first | (with_reducible first | exact HB.out | apply below_alloc | apply pw_below_drewN | apply below_drew1 | refine below_set ?_ GE315.out) | exact HB.out))) : w.heap.size ≤ gb316)); have n4_ := Aside0.mk ((by rw [hg]; exact (below_size (by repeat (first | (with_reducible first | exact HB.out | apply below_alloc | apply pw_below_drewN | apply below_drew1 | refine below_set ?_ GE315.out) | exact HB.out))) : w.heap.size ≤ gb316)); have n5_ := Aside0.mk ((by rw [hg]; exact Nat.ne_of_lt (blk_lt (g := gb315) (o := .cells #[.slice A0_0 l0_0.length c0_0, .slice A0_1 l0_1.length c0_1] 25 (0, 0)) (by (with_reducible repeat (first | refine blk_drewN ?_ _ | refine blk_drew ?_ | refine blk_alloc ?_ _)); exact BK315.out)) : gb315 ≠ gb316)); have n6_ := Aside0.mk ((by rw [hg]; exact Nat.ne_of_gt (blk_lt (g := gb315) (o := .cells #[.slice A0_0 l0_0.length c0_0, .slice A0_1 l0_1.length c0_1] 25 (0, 0)) (by (with_reducible repeat (first | refine blk_drewN ?_ _ | refine blk_drew ?_ | refine blk_alloc ?_ _)); exact BK315.out)) : gb316 ≠ gb315)); clear BK315; clear HB; have BK315 := n0_; have HB := n1_; have BK316 := n2_; have GW316 := n3_; have GE316 := n4_; have NB315_316 := n5_; have NB316_315 := n6_; clear n0_ n1_ n2_ n3_ n4_ n5_ n6_; clear hb hbox hg) | ((with_reducible refine gate_dst (N := 6) rfl ?_); refine Kd.R_lit Kd.string _ 9 ?hg (N := 6) ?hd (xs := ([(⟨#[60]⟩ : ByteArray), (⟨#[60, 61]⟩ : ByteArray), (⟨#[61]⟩ : ByteArray), (⟨#[33, 61]⟩ : ByteArray), (⟨#[62, 61]⟩ : ByteArray), (⟨#[62]⟩ : ByteArray)] : List ByteArray)) (inner := [.string (⟨#[60]⟩ : ByteArray), .string (⟨#[60, 61]⟩ : ByteArray), .string (⟨#[61]⟩ : ByteArray), .string (⟨#[33, 61]⟩ : ByteArray), .string (⟨#[62, 61]⟩ : ByteArray), .string (⟨#[62]⟩ : ByteArray)]) (ok := fun _ => True) (okp := fun _ => True) ?hr ?hp (fun _ hk => hk) trivial (Below.refl _ _) (Nat.le_refl _) (by simp) ?_; (case hd => rfl); (case hg => rfl); (case hr => first | (go_simp; done) | (go_simp; rfl)); (case hp => exact (Reps.one (show Kd.M Kd.string _ _ _ (⟨#[60]⟩ : ByteArray) [.string (⟨#[60]⟩ : ByteArray)] from rfl) (Reps.one (show Kd.M Kd.string _ _ _ (⟨#[60, 61]⟩ : ByteArray) [.string (⟨#[60, 61]⟩ : ByteArray)] from rfl) (Reps.one (show Kd.M Kd.string _ _ _ (⟨#[61]⟩ : ByteArray) [.string (⟨#[61]⟩ : ByteArray)] from rfl) (Reps.one (show Kd.M Kd.string _ _ _ (⟨#[33, 61]⟩ : ByteArray) [.string (⟨#[33, 61]⟩ : ByteArray)] from rfl) (Reps.one (show Kd.M Kd.string _ _ _ (⟨#[62, 61]⟩ : ByteArray) [.string (⟨#[62, 61]⟩ : ByteArray)] from rfl) (Reps.one (show Kd.M Kd.string _ _ _ (⟨#[62]⟩ : ByteArray) [.string (⟨#[62]⟩ : ByteArray)] from rfl) (Reps.none _ _)))))))); intro v318 w10 ho11 hb hg_ hnew_; clear hg_ hnew_; (first | rw [← Ny317.out] at ho11 | (simp only [Int.reduceToNat] at ho11; rw [← Ny317.out] at ho11)); have n0_ := Aside0.mk (Kd.R_lower ho11 (below_size (by repeat (first | (with_reducible first | exact HB.out | apply below_alloc | apply pw_below_drewN | apply below_drew1 | refine below_set ?_ GE315.out | refine below_set ?_ GE316.out) | exact HB.out)))); have n1_ := bb_ BK315 hb; have n2_ := bb_ BK316 hb; have n3_ := hb_ HB hb; clear BK315; clear BK316; clear HB; have HO319 := n0_; have BK315 := n1_; have BK316 := n2_; have HB := n3_; clear n0_ n1_ n2_ n3_; clear hb ho11; have hnb12 := NB316_315.out; have hnc12 := NB315_316.out; obtain ⟨hcz13_0, hcz13_1, hcz13_2, hfz13_0, hfz13_1, hfz13_2⟩ := bs3_ BK316; obtain ⟨Ao14, co14, eo14⟩ := Kd.R_slice HO319.out; subst eo14) | ((with_reducible refine gate_callee (f := 68) rfl ?_); refine gl_ (some 9) Try.func68 #[.slice Ao14 y317.length co14, .string a1_1] ?_; (with_reducible refine (slices_Contains_string_string.calls k _ _ y317 a1_1 true _ ?side1 ?side2 A3.out).mono ?_); (case side1 => repeat (first | exact (Kd.R_reads' HO319.out).2.2 | (with_reducible refine Kd.C_alloc ?_ _) | (with_reducible refine Kd.C_drewN ?_ _) | (with_reducible refine Kd.C_drew ?_))); (case side2 => exact (Kd.R_reads' HO319.out).2.1); rintro e w' ⟨rfl, ⟨nd, rfl⟩⟩; refine ⟨_, rfl, ?_⟩; obtain ⟨hcz15_0, hcz15_1, hfz15_0, hfz15_1⟩ := bs2_ BK315) | (go_at_call 68; (with_reducible refine (slices_Contains_string_string.calls k _ _ l0_0 a1_0 true _ ?side1 ?side2 A5.out).mono ?_); (case side1 => repeat (first | exact (Kd.C_below HR0_0.out (by repeat (first | (with_reducible first | exact HB.out | apply below_alloc | apply pw_below_drewN | apply below_drew1 | refine below_set ?_ GE315.out | refine below_set ?_ GE316.out) | exact HB.out))) | (with_reducible refine Kd.C_alloc ?_ _) | (with_reducible refine Kd.C_drewN ?_ _) | (with_reducible refine Kd.C_drew ?_))); (case side2 => exact HC0_0.out); rintro e w' ⟨rfl, ⟨nd, rfl⟩⟩))
    go_ret
    exact ⟨er_, hf_⟩
   ·rw [if_neg c7] at H
    have c7b0 : decide ((-1000000) ≤ a1_2) = false := decide_eq_false c7
    clear c7
    obtain rfl := Option.some.inj H
    go_enter Try.func92, Try.ntmps92
    go_wp2_with (first | ((with_reducible refine gate_dst (N := 2) rfl ?_); refine box_event ?hg (N := 2) ?hd (cs := #[.slice A0_0 l0_0.length c0_0, .slice A0_1 l0_1.length c0_1]) (t := 25) ?hr ?_; (case hd => rfl); (case hg => rfl); (case hr => first | (go_simp; done) | (go_simp; rfl)); intro gb315 hg w16 hbox hb; have n0_ := hb_ HB hb; have n1_ := Aside0.mk (hbox); have n2_ := Aside0.mk ((by rw [hg]; exact (below_size (by repeat (first | (with_reducible first | exact HB.out | apply below_alloc | apply pw_below_drewN | apply below_drew1) | exact HB.out))) : w.heap.size ≤ gb315)); have n3_ := Aside0.mk ((by rw [hg]; exact (below_size (by repeat (first | (with_reducible first | exact HB.out | apply below_alloc | apply pw_below_drewN | apply below_drew1) | exact HB.out))) : w.heap.size ≤ gb315)); clear HB; have HB := n0_; have BK315 := n1_; have GW315 := n2_; have GE315 := n3_; clear n0_ n1_ n2_ n3_; clear hb hbox hg) | ((with_reducible refine gate_dst (N := 3) rfl ?_); refine box_event ?hg (N := 3) ?hd (cs := #[.string a1_0, .string a1_1, .int .i64 a1_2]) (t := 50) ?hr ?_; (case hd => rfl); (case hg => rfl); (case hr => first | (go_simp; done) | (go_simp; rfl)); intro gb316 hg w17 hbox hb; have n0_ := bb_ BK315 hb; have n1_ := hb_ HB hb; have n2_ := Aside0.mk (hbox); have n3_ := Aside0.mk ((by rw [hg]; exact (below_size (by repeat (first | (with_reducible first | exact HB.out | apply below_alloc | apply pw_below_drewN | apply below_drew1 | refine below_set ?_ GE315.out) | exact HB.out))) : w.heap.size ≤ gb316)); have n4_ := Aside0.mk ((by rw [hg]; exact (below_size (by repeat (first | (with_reducible first | exact HB.out | apply below_alloc | apply pw_below_drewN | apply below_drew1 | refine below_set ?_ GE315.out) | exact HB.out))) : w.heap.size ≤ gb316)); have n5_ := Aside0.mk ((by rw [hg]; exact Nat.ne_of_lt (blk_lt (g := gb315) (o := .cells #[.slice A0_0 l0_0.length c0_0, .slice A0_1 l0_1.length c0_1] 25 (0, 0)) (by (with_reducible repeat (first | refine blk_drewN ?_ _ | refine blk_drew ?_ | refine blk_alloc ?_ _)); exact BK315.out)) : gb315 ≠ gb316)); have n6_ := Aside0.mk ((by rw [hg]; exact Nat.ne_of_gt (blk_lt (g := gb315) (o := .cells #[.slice A0_0 l0_0.length c0_0, .slice A0_1 l0_1.length c0_1] 25 (0, 0)) (by (with_reducible repeat (first | refine blk_drewN ?_ _ | refine blk_drew ?_ | refine blk_alloc ?_ _)); exact BK315.out)) : gb316 ≠ gb315)); clear BK315; clear HB; have BK315 := n0_; have HB := n1_; have BK316 := n2_; have GW316 := n3_; have GE316 := n4_; have NB315_316 := n5_; have NB316_315 := n6_; clear n0_ n1_ n2_ n3_ n4_ n5_ n6_; clear hb hbox hg) | ((with_reducible refine gate_dst (N := 6) rfl ?_); refine Kd.R_lit Kd.string _ 9 ?hg (N := 6) ?hd (xs := ([(⟨#[60]⟩ : ByteArray), (⟨#[60, 61]⟩ : ByteArray), (⟨#[61]⟩ : ByteArray), (⟨#[33, 61]⟩ : ByteArray), (⟨#[62, 61]⟩ : ByteArray), (⟨#[62]⟩ : ByteArray)] : List ByteArray)) (inner := [.string (⟨#[60]⟩ : ByteArray), .string (⟨#[60, 61]⟩ : ByteArray), .string (⟨#[61]⟩ : ByteArray), .string (⟨#[33, 61]⟩ : ByteArray), .string (⟨#[62, 61]⟩ : ByteArray), .string (⟨#[62]⟩ : ByteArray)]) (ok := fun _ => True) (okp := fun _ => True) ?hr ?hp (fun _ hk => hk) trivial (Below.refl _ _) (Nat.le_refl _) (by simp) ?_; (case hd => rfl); (case hg => rfl); (case hr => first | (go_simp; done) | (go_simp; rfl)); (case hp => exact (Reps.one (show Kd.M Kd.string _ _ _ (⟨#[60]⟩ : ByteArray) [.string (⟨#[60]⟩ : ByteArray)] from rfl) (Reps.one (show Kd.M Kd.string _ _ _ (⟨#[60, 61]⟩ : ByteArray) [.string (⟨#[60, 61]⟩ : ByteArray)] from rfl) (Reps.one (show Kd.M Kd.string _ _ _ (⟨#[61]⟩ : ByteArray) [.string (⟨#[61]⟩ : ByteArray)] from rfl) (Reps.one (show Kd.M Kd.string _ _ _ (⟨#[33, 61]⟩ : ByteArray) [.string (⟨#[33, 61]⟩ : ByteArray)] from rfl) (Reps.one (show Kd.M Kd.string _ _ _ (⟨#[62, 61]⟩ : ByteArray) [.string (⟨#[62, 61]⟩ : ByteArray)] from rfl) (Reps.one (show Kd.M Kd.string _ _ _ (⟨#[62]⟩ : ByteArray) [.string (⟨#[62]⟩ : ByteArray)] from rfl) (Reps.none _ _)))))))); intro v318 w18 ho19 hb hg_ hnew_; clear hg_ hnew_; (first | rw [← Ny317.out] at ho19 | (simp only [Int.reduceToNat] at ho19; rw [← Ny317.out] at ho19)); have n0_ := Aside0.mk (Kd.R_lower ho19 (below_size (by repeat (first | (with_reducible first | exact HB.out | apply below_alloc | apply pw_below_drewN | apply below_drew1 | refine below_set ?_ GE315.out | refine below_set ?_ GE316.out) | exact HB.out)))); have n1_ := bb_ BK315 hb; have n2_ := bb_ BK316 hb; have n3_ := hb_ HB hb; clear BK315; clear BK316; clear HB; have HO319 := n0_; have BK315 := n1_; have BK316 := n2_; have HB := n3_; clear n0_ n1_ n2_ n3_; clear hb ho19; have hnb20 := NB316_315.out; have hnc20 := NB315_316.out; obtain ⟨hcz21_0, hcz21_1, hcz21_2, hfz21_0, hfz21_1, hfz21_2⟩ := bs3_ BK316; obtain ⟨Ao22, co22, eo22⟩ := Kd.R_slice HO319.out; subst eo22) | ((with_reducible refine gate_callee (f := 68) rfl ?_); refine gl_ (some 9) Try.func68 #[.slice Ao22 y317.length co22, .string a1_1] ?_; (with_reducible refine (slices_Contains_string_string.calls k _ _ y317 a1_1 true _ ?side1 ?side2 A3.out).mono ?_); (case side1 => repeat (first | exact (Kd.R_reads' HO319.out).2.2 | (with_reducible refine Kd.C_alloc ?_ _) | (with_reducible refine Kd.C_drewN ?_ _) | (with_reducible refine Kd.C_drew ?_))); (case side2 => exact (Kd.R_reads' HO319.out).2.1); rintro e w' ⟨rfl, ⟨nd, rfl⟩⟩; refine ⟨_, rfl, ?_⟩; obtain ⟨hcz23_0, hcz23_1, hfz23_0, hfz23_1⟩ := bs2_ BK315) | (go_at_call 68; (with_reducible refine (slices_Contains_string_string.calls k _ _ l0_0 a1_0 true _ ?side1 ?side2 A5.out).mono ?_); (case side1 => repeat (first | exact (Kd.C_below HR0_0.out (by repeat (first | (with_reducible first | exact HB.out | apply below_alloc | apply pw_below_drewN | apply below_drew1 | refine below_set ?_ GE315.out | refine below_set ?_ GE316.out) | exact HB.out))) | (with_reducible refine Kd.C_alloc ?_ _) | (with_reducible refine Kd.C_drewN ?_ _) | (with_reducible refine Kd.C_drew ?_))); (case side2 => exact HC0_0.out); rintro e w' ⟨rfl, ⟨nd, rfl⟩⟩))
    go_ret
    exact ⟨er_, hf_⟩
  ·replace c6 := Bool.eq_false_iff.mpr c6
   subst c6
   have H1 : (some false) = some r := by rw [if_neg (show ¬ (false = true) by decide)] at H; exact H
   clear H
   have H := H1
   clear H1
   obtain rfl := Option.some.inj H
   go_enter Try.func92, Try.ntmps92
   go_wp2_with (first | ((with_reducible refine gate_dst (N := 2) rfl ?_); refine box_event ?hg (N := 2) ?hd (cs := #[.slice A0_0 l0_0.length c0_0, .slice A0_1 l0_1.length c0_1]) (t := 25) ?hr ?_; (case hd => rfl); (case hg => rfl); (case hr => first | (go_simp; done) | (go_simp; rfl)); intro gb315 hg w24 hbox hb; have n0_ := hb_ HB hb; have n1_ := Aside0.mk (hbox); have n2_ := Aside0.mk ((by rw [hg]; exact (below_size (by repeat (first | (with_reducible first | exact HB.out | apply below_alloc | apply pw_below_drewN | apply below_drew1) | exact HB.out))) : w.heap.size ≤ gb315)); have n3_ := Aside0.mk ((by rw [hg]; exact (below_size (by repeat (first | (with_reducible first | exact HB.out | apply below_alloc | apply pw_below_drewN | apply below_drew1) | exact HB.out))) : w.heap.size ≤ gb315)); clear HB; have HB := n0_; have BK315 := n1_; have GW315 := n2_; have GE315 := n3_; clear n0_ n1_ n2_ n3_; clear hb hbox hg) | ((with_reducible refine gate_dst (N := 3) rfl ?_); refine box_event ?hg (N := 3) ?hd (cs := #[.string a1_0, .string a1_1, .int .i64 a1_2]) (t := 50) ?hr ?_; (case hd => rfl); (case hg => rfl); (case hr => first | (go_simp; done) | (go_simp; rfl)); intro gb316 hg w25 hbox hb; have n0_ := bb_ BK315 hb; have n1_ := hb_ HB hb; have n2_ := Aside0.mk (hbox); have n3_ := Aside0.mk ((by rw [hg]; exact (below_size (by repeat (first | (with_reducible first | exact HB.out | apply below_alloc | apply pw_below_drewN | apply below_drew1 | refine below_set ?_ GE315.out) | exact HB.out))) : w.heap.size ≤ gb316)); have n4_ := Aside0.mk ((by rw [hg]; exact (below_size (by repeat (first | (with_reducible first | exact HB.out | apply below_alloc | apply pw_below_drewN | apply below_drew1 | refine below_set ?_ GE315.out) | exact HB.out))) : w.heap.size ≤ gb316)); have n5_ := Aside0.mk ((by rw [hg]; exact Nat.ne_of_lt (blk_lt (g := gb315) (o := .cells #[.slice A0_0 l0_0.length c0_0, .slice A0_1 l0_1.length c0_1] 25 (0, 0)) (by (with_reducible repeat (first | refine blk_drewN ?_ _ | refine blk_drew ?_ | refine blk_alloc ?_ _)); exact BK315.out)) : gb315 ≠ gb316)); have n6_ := Aside0.mk ((by rw [hg]; exact Nat.ne_of_gt (blk_lt (g := gb315) (o := .cells #[.slice A0_0 l0_0.length c0_0, .slice A0_1 l0_1.length c0_1] 25 (0, 0)) (by (with_reducible repeat (first | refine blk_drewN ?_ _ | refine blk_drew ?_ | refine blk_alloc ?_ _)); exact BK315.out)) : gb316 ≠ gb315)); clear BK315; clear HB; have BK315 := n0_; have HB := n1_; have BK316 := n2_; have GW316 := n3_; have GE316 := n4_; have NB315_316 := n5_; have NB316_315 := n6_; clear n0_ n1_ n2_ n3_ n4_ n5_ n6_; clear hb hbox hg) | ((with_reducible refine gate_dst (N := 6) rfl ?_); refine Kd.R_lit Kd.string _ 9 ?hg (N := 6) ?hd (xs := ([(⟨#[60]⟩ : ByteArray), (⟨#[60, 61]⟩ : ByteArray), (⟨#[61]⟩ : ByteArray), (⟨#[33, 61]⟩ : ByteArray), (⟨#[62, 61]⟩ : ByteArray), (⟨#[62]⟩ : ByteArray)] : List ByteArray)) (inner := [.string (⟨#[60]⟩ : ByteArray), .string (⟨#[60, 61]⟩ : ByteArray), .string (⟨#[61]⟩ : ByteArray), .string (⟨#[33, 61]⟩ : ByteArray), .string (⟨#[62, 61]⟩ : ByteArray), .string (⟨#[62]⟩ : ByteArray)]) (ok := fun _ => True) (okp := fun _ => True) ?hr ?hp (fun _ hk => hk) trivial (Below.refl _ _) (Nat.le_refl _) (by simp) ?_; (case hd => rfl); (case hg => rfl); (case hr => first | (go_simp; done) | (go_simp; rfl)); (case hp => exact (Reps.one (show Kd.M Kd.string _ _ _ (⟨#[60]⟩ : ByteArray) [.string (⟨#[60]⟩ : ByteArray)] from rfl) (Reps.one (show Kd.M Kd.string _ _ _ (⟨#[60, 61]⟩ : ByteArray) [.string (⟨#[60, 61]⟩ : ByteArray)] from rfl) (Reps.one (show Kd.M Kd.string _ _ _ (⟨#[61]⟩ : ByteArray) [.string (⟨#[61]⟩ : ByteArray)] from rfl) (Reps.one (show Kd.M Kd.string _ _ _ (⟨#[33, 61]⟩ : ByteArray) [.string (⟨#[33, 61]⟩ : ByteArray)] from rfl) (Reps.one (show Kd.M Kd.string _ _ _ (⟨#[62, 61]⟩ : ByteArray) [.string (⟨#[62, 61]⟩ : ByteArray)] from rfl) (Reps.one (show Kd.M Kd.string _ _ _ (⟨#[62]⟩ : ByteArray) [.string (⟨#[62]⟩ : ByteArray)] from rfl) (Reps.none _ _)))))))); intro v318 w26 ho27 hb hg_ hnew_; clear hg_ hnew_; (first | rw [← Ny317.out] at ho27 | (simp only [Int.reduceToNat] at ho27; rw [← Ny317.out] at ho27)); have n0_ := Aside0.mk (Kd.R_lower ho27 (below_size (by repeat (first | (with_reducible first | exact HB.out | apply below_alloc | apply pw_below_drewN | apply below_drew1 | refine below_set ?_ GE315.out | refine below_set ?_ GE316.out) | exact HB.out)))); have n1_ := bb_ BK315 hb; have n2_ := bb_ BK316 hb; have n3_ := hb_ HB hb; clear BK315; clear BK316; clear HB; have HO319 := n0_; have BK315 := n1_; have BK316 := n2_; have HB := n3_; clear n0_ n1_ n2_ n3_; clear hb ho27; have hnb28 := NB316_315.out; have hnc28 := NB315_316.out; obtain ⟨hcz29_0, hcz29_1, hcz29_2, hfz29_0, hfz29_1, hfz29_2⟩ := bs3_ BK316; obtain ⟨Ao30, co30, eo30⟩ := Kd.R_slice HO319.out; subst eo30) | ((with_reducible refine gate_callee (f := 68) rfl ?_); refine gl_ (some 9) Try.func68 #[.slice Ao30 y317.length co30, .string a1_1] ?_; (with_reducible refine (slices_Contains_string_string.calls k _ _ y317 a1_1 true _ ?side1 ?side2 A3.out).mono ?_); (case side1 => repeat (first | exact (Kd.R_reads' HO319.out).2.2 | (with_reducible refine Kd.C_alloc ?_ _) | (with_reducible refine Kd.C_drewN ?_ _) | (with_reducible refine Kd.C_drew ?_))); (case side2 => exact (Kd.R_reads' HO319.out).2.1); rintro e w' ⟨rfl, ⟨nd, rfl⟩⟩; refine ⟨_, rfl, ?_⟩; obtain ⟨hcz31_0, hcz31_1, hfz31_0, hfz31_1⟩ := bs2_ BK315) | (go_at_call 68; (with_reducible refine (slices_Contains_string_string.calls k _ _ l0_0 a1_0 false _ ?side1 ?side2 A5.out).mono ?_); (case side1 => repeat (first | exact (Kd.C_below HR0_0.out (by repeat (first | (with_reducible first | exact HB.out | apply below_alloc | apply pw_below_drewN | apply below_drew1 | refine below_set ?_ GE315.out | refine below_set ?_ GE316.out) | exact HB.out))) | (with_reducible refine Kd.C_alloc ?_ _) | (with_reducible refine Kd.C_drewN ?_ _) | (with_reducible refine Kd.C_drew ?_))); (case side2 => exact HC0_0.out); rintro e w' ⟨rfl, ⟨nd, rfl⟩⟩))
   go_ret
   exact ⟨er_, hf_⟩
 ·replace c4 := Bool.eq_false_iff.mpr c4
  subst c4
  have H1 : (some false) = some r := by rw [if_neg (show ¬ (false = true) by decide)] at H; exact H
  clear H
  have H := H1
  clear H1
  obtain rfl := Option.some.inj H
  go_enter Try.func92, Try.ntmps92
  go_wp2_with (first | ((with_reducible refine gate_dst (N := 2) rfl ?_); refine box_event ?hg (N := 2) ?hd (cs := #[.slice A0_0 l0_0.length c0_0, .slice A0_1 l0_1.length c0_1]) (t := 25) ?hr ?_; (case hd => rfl); (case hg => rfl); (case hr => first | (go_simp; done) | (go_simp; rfl)); intro gb315 hg w32 hbox hb; have n0_ := hb_ HB hb; have n1_ := Aside0.mk (hbox); have n2_ := Aside0.mk ((by rw [hg]; exact (below_size (by repeat (first | (with_reducible first | exact HB.out | apply below_alloc | apply pw_below_drewN | apply below_drew1) | exact HB.out))) : w.heap.size ≤ gb315)); have n3_ := Aside0.mk ((by rw [hg]; exact (below_size (by repeat (first | (with_reducible first | exact HB.out | apply below_alloc | apply pw_below_drewN | apply below_drew1) | exact HB.out))) : w.heap.size ≤ gb315)); clear HB; have HB := n0_; have BK315 := n1_; have GW315 := n2_; have GE315 := n3_; clear n0_ n1_ n2_ n3_; clear hb hbox hg) | ((with_reducible refine gate_dst (N := 3) rfl ?_); refine box_event ?hg (N := 3) ?hd (cs := #[.string a1_0, .string a1_1, .int .i64 a1_2]) (t := 50) ?hr ?_; (case hd => rfl); (case hg => rfl); (case hr => first | (go_simp; done) | (go_simp; rfl)); intro gb316 hg w33 hbox hb; have n0_ := bb_ BK315 hb; have n1_ := hb_ HB hb; have n2_ := Aside0.mk (hbox); have n3_ := Aside0.mk ((by rw [hg]; exact (below_size (by repeat (first | (with_reducible first | exact HB.out | apply below_alloc | apply pw_below_drewN | apply below_drew1 | refine below_set ?_ GE315.out) | exact HB.out))) : w.heap.size ≤ gb316)); have n4_ := Aside0.mk ((by rw [hg]; exact (below_size (by repeat (first | (with_reducible first | exact HB.out | apply below_alloc | apply pw_below_drewN | apply below_drew1 | refine below_set ?_ GE315.out) | exact HB.out))) : w.heap.size ≤ gb316)); have n5_ := Aside0.mk ((by rw [hg]; exact Nat.ne_of_lt (blk_lt (g := gb315) (o := .cells #[.slice A0_0 l0_0.length c0_0, .slice A0_1 l0_1.length c0_1] 25 (0, 0)) (by (with_reducible repeat (first | refine blk_drewN ?_ _ | refine blk_drew ?_ | refine blk_alloc ?_ _)); exact BK315.out)) : gb315 ≠ gb316)); have n6_ := Aside0.mk ((by rw [hg]; exact Nat.ne_of_gt (blk_lt (g := gb315) (o := .cells #[.slice A0_0 l0_0.length c0_0, .slice A0_1 l0_1.length c0_1] 25 (0, 0)) (by (with_reducible repeat (first | refine blk_drewN ?_ _ | refine blk_drew ?_ | refine blk_alloc ?_ _)); exact BK315.out)) : gb316 ≠ gb315)); clear BK315; clear HB; have BK315 := n0_; have HB := n1_; have BK316 := n2_; have GW316 := n3_; have GE316 := n4_; have NB315_316 := n5_; have NB316_315 := n6_; clear n0_ n1_ n2_ n3_ n4_ n5_ n6_; clear hb hbox hg) | ((with_reducible refine gate_dst (N := 6) rfl ?_); refine Kd.R_lit Kd.string _ 9 ?hg (N := 6) ?hd (xs := ([(⟨#[60]⟩ : ByteArray), (⟨#[60, 61]⟩ : ByteArray), (⟨#[61]⟩ : ByteArray), (⟨#[33, 61]⟩ : ByteArray), (⟨#[62, 61]⟩ : ByteArray), (⟨#[62]⟩ : ByteArray)] : List ByteArray)) (inner := [.string (⟨#[60]⟩ : ByteArray), .string (⟨#[60, 61]⟩ : ByteArray), .string (⟨#[61]⟩ : ByteArray), .string (⟨#[33, 61]⟩ : ByteArray), .string (⟨#[62, 61]⟩ : ByteArray), .string (⟨#[62]⟩ : ByteArray)]) (ok := fun _ => True) (okp := fun _ => True) ?hr ?hp (fun _ hk => hk) trivial (Below.refl _ _) (Nat.le_refl _) (by simp) ?_; (case hd => rfl); (case hg => rfl); (case hr => first | (go_simp; done) | (go_simp; rfl)); (case hp => exact (Reps.one (show Kd.M Kd.string _ _ _ (⟨#[60]⟩ : ByteArray) [.string (⟨#[60]⟩ : ByteArray)] from rfl) (Reps.one (show Kd.M Kd.string _ _ _ (⟨#[60, 61]⟩ : ByteArray) [.string (⟨#[60, 61]⟩ : ByteArray)] from rfl) (Reps.one (show Kd.M Kd.string _ _ _ (⟨#[61]⟩ : ByteArray) [.string (⟨#[61]⟩ : ByteArray)] from rfl) (Reps.one (show Kd.M Kd.string _ _ _ (⟨#[33, 61]⟩ : ByteArray) [.string (⟨#[33, 61]⟩ : ByteArray)] from rfl) (Reps.one (show Kd.M Kd.string _ _ _ (⟨#[62, 61]⟩ : ByteArray) [.string (⟨#[62, 61]⟩ : ByteArray)] from rfl) (Reps.one (show Kd.M Kd.string _ _ _ (⟨#[62]⟩ : ByteArray) [.string (⟨#[62]⟩ : ByteArray)] from rfl) (Reps.none _ _)))))))); intro v318 w34 ho35 hb hg_ hnew_; clear hg_ hnew_; (first | rw [← Ny317.out] at ho35 | (simp only [Int.reduceToNat] at ho35; rw [← Ny317.out] at ho35)); have n0_ := Aside0.mk (Kd.R_lower ho35 (below_size (by repeat (first | (with_reducible first | exact HB.out | apply below_alloc | apply pw_below_drewN | apply below_drew1 | refine below_set ?_ GE315.out | refine below_set ?_ GE316.out) | exact HB.out)))); have n1_ := bb_ BK315 hb; have n2_ := bb_ BK316 hb; have n3_ := hb_ HB hb; clear BK315; clear BK316; clear HB; have HO319 := n0_; have BK315 := n1_; have BK316 := n2_; have HB := n3_; clear n0_ n1_ n2_ n3_; clear hb ho35; have hnb36 := NB316_315.out; have hnc36 := NB315_316.out; obtain ⟨hcz37_0, hcz37_1, hcz37_2, hfz37_0, hfz37_1, hfz37_2⟩ := bs3_ BK316; obtain ⟨Ao38, co38, eo38⟩ := Kd.R_slice HO319.out; subst eo38) | ((with_reducible refine gate_callee (f := 68) rfl ?_); refine gl_ (some 9) Try.func68 #[.slice Ao38 y317.length co38, .string a1_1] ?_; (with_reducible refine (slices_Contains_string_string.calls k _ _ y317 a1_1 false _ ?side1 ?side2 A3.out).mono ?_); (case side1 => repeat (first | exact (Kd.R_reads' HO319.out).2.2 | (with_reducible refine Kd.C_alloc ?_ _) | (with_reducible refine Kd.C_drewN ?_ _) | (with_reducible refine Kd.C_drew ?_))); (case side2 => exact (Kd.R_reads' HO319.out).2.1); rintro e w' ⟨rfl, ⟨nd, rfl⟩⟩; refine ⟨_, rfl, ?_⟩))
  go_ret
  exact ⟨er_, hf_⟩
end Go.Proofs.Ytaiglhfmmdajdaa.Pm
end
section
namespace Go.Proofs.Ytaiglhfmmdajdaa.Pm
open Go.RowKit Go.Proofs.YtaiglhfmmdajdaaW.PrintWords Go.Proofs.YtaiglhfmmdajdaaW.PrintLast Go.Proofs.YtaiglhfmmdajdaaW.PrintMore
attribute [local go_sem] max2_int min2_int max_two min_two max_three min_three max_four min_four   -- for this text's walks alone
set_option linter.unusedVariables false
set_option linter.unusedSimpArgs false
mutual
def model_Legal.j0 : Nat → Int → Int → Bool → Option (Bool)
 | 0, _, _, _ => none
 | k + 1, x0, x5, x6 => if x6 = true then (if x0 ≥ 1 then (some (decide (x0 ≤ 5))) else (some false)) else (if x5 = 2 then (model_Legal.j1 k x0 x5 (x5 == 2)) else (model_Legal.j1 k x0 x5 (x5 == 3)))
def model_Legal.j1 : Nat → Int → Int → Bool → Option (Bool)
 | 0, _, _, _ => none
 | k + 1, x0, x5, x15 => if x15 = true then (if x0 = 1 then (some true) else (some (x0 == 2))) else (if x5 = 4 then (if x0 ≥ 3 then (some (decide (x0 ≤ 5))) else (some false)) else (some false))
end
def model_Legal.f (k : Nat) (a0 : Int) (a1 : Int) : Option (Bool) := if a1 = 1 then (model_Legal.j0 k a0 a1 (a1 == 1)) else (model_Legal.j0 k a0 a1 (a1 == 5))
theorem model_Legal.mono_l : ∀ k, (∀ y0 y1 y2, LeO (model_Legal.j0 k y0 y1 y2) (model_Legal.j0 (k + 1) y0 y1 y2)) ∧ (∀ y0 y1 y2, LeO (model_Legal.j1 k y0 y1 y2) (model_Legal.j1 (k + 1) y0 y1 y2))
 | 0 => ⟨fun _ _ _ r h => by simp [model_Legal.j0] at h, fun _ _ _ r h => by simp [model_Legal.j1] at h⟩
 | k + 1 => by
  obtain ⟨ih0, ih1⟩ := model_Legal.mono_l k
  refine ⟨?_, ?_⟩
  intro y0 y1 y2
  unfold model_Legal.j0
  rotate_left
  intro y0 y1 y2
  unfold model_Legal.j1
  rotate_left
  all_goals repeat' first
   | (with_reducible exact ih0 _ _ _)
   | (with_reducible exact ih1 _ _ _)
   | (with_reducible exact LeO.refl _)
   | (with_reducible exact LeO.none _)
   | (with_reducible refine LeO.ite ?_ ?_)
   | (with_reducible refine LeO.bind ?_ (fun _ => ?_))
   | exact ih0 _ _ _
   | exact ih1 _ _ _
   | exact LeO.none _
   | refine LeO.ite ?_ ?_
   | refine LeO.bind ?_ (fun _ => ?_)
theorem model_Legal.mono : ∀ a0 a1 k, LeO (model_Legal.f k a0 a1) (model_Legal.f (k + 1) a0 a1) := by
 intro a0 a1 k
 obtain ⟨ih0, ih1⟩ := model_Legal.mono_l k
 unfold model_Legal.f
 repeat' first
   | (with_reducible exact ih0 _ _ _)
   | (with_reducible exact ih1 _ _ _)
   | (with_reducible exact LeO.refl _)
   | (with_reducible exact LeO.none _)
   | (with_reducible refine LeO.ite ?_ ?_)
   | (with_reducible refine LeO.bind ?_ (fun _ => ?_))
   | exact ih0 _ _ _
   | exact ih1 _ _ _
   | exact LeO.none _
   | refine LeO.ite ?_ ?_
   | refine LeO.bind ?_ (fun _ => ?_)
set_option maxHeartbeats 8000000 in
set_option maxRecDepth 100000 in
theorem model_Legal.calls (k : Nat) (a0 : Int) (a1 : Int) (r : Bool) (w : World) (h : model_Legal.f k a0 a1 = some r) :
  Calls Try.prog 93 #[.int .i64 a0, .int .i64 a1] w fun e w' => e = .returned (.bool r) ∧ Drawn0 w w' := by
 have H : (if a1 = 1 then (model_Legal.j0 k a0 a1 (a1 == 1)) else (model_Legal.j0 k a0 a1 (a1 == 5))) = some r := h
 clear h
 have HC3 := Aside0.mk H
 clear H
 go_enter Try.func93, Try.ntmps93
 go_upto_if 6 with (fail)
 go_cut [6] (fun v6 wc => ∃ (kq : Nat) (x6_2 : Bool), v6 = .bool x6_2 ∧ Aside0 (model_Legal.j0 kq a0 a1 x6_2 = some r) ∧ Aside0 (kq ≤ k) ∧ Drawn0 w wc)
 case first =>
  have H := HC3.out
  clear HC3
  by_cases c4 : a1 = 1
  ·rw [if_pos c4] at H
   have c4b0 : (a1 == 1) = true := beq_iff_eq.mpr c4
   have c4b1 : (a1 != 1) = false := bne_eq_false_iff_eq.mpr c4
   clear c4
   (first | rw [c4b0] | (simp only [i64_w, i32_w]; rw [c4b0]) | skip)
   have H' := Aside0.mk H
   clear H
   go_wp2
   go_meet
   case rel => exact ⟨_, ((a1 == 1)), (by first | rfl | (simp; done) | (simp [*]; done)), H', ⟨by first | omega | exact Nat.le_refl _⟩, by repeat (first | exact Drawn0.refl _ | apply Drawn0.step)⟩
  ·rw [if_neg c4] at H
   have c4b0 : (a1 == 1) = false := beq_eq_false_iff_ne.mpr c4
   have c4b1 : (a1 != 1) = true := bne_iff_ne.mpr c4
   (first | rw [c4b0] | (simp only [i64_w, i32_w]; rw [c4b0]) | skip)
   have H' := Aside0.mk H
   clear H
   go_wp2
   go_meet
   case rel => exact ⟨_, ((a1 == 5)), (by first | rfl | (simp; done) | (simp [*]; done)), H', ⟨by first | omega | exact Nat.le_refl _⟩, by repeat (first | exact Drawn0.refl _ | apply Drawn0.step)⟩
 case rest =>
  clear HC3
  (try clear p2); (try clear c4); (try clear c4b0); (try clear c4b1)
  obtain ⟨kq, x6_2, rfl, HA, HJ2, ⟨mc2, rfl⟩⟩ := hcut
  cases kq with
  | zero => exact absurd HA.out (by simp [model_Legal.j0])
  | succ kj2 =>
   have H := HA.out
   clear HA
   simp only [model_Legal.j0] at H
   by_cases c5 : x6_2 = true
   ·subst c5
    have H1 : (if a0 ≥ 1 then (some (decide (a0 ≤ 5))) else (some false)) = some r := by rw [if_pos rfl] at H; exact H
    clear H
    have H := H1
    clear H1
    by_cases c6 : a0 ≥ 1
    ·rw [if_pos c6] at H
     have c6b0 : decide (1 ≤ a0) = true := decide_eq_true c6
     clear c6
     obtain rfl := Option.some.inj H
     go_wp2
     go_ret
     exact ⟨by first | rfl | (simp; done) | (simp [*]; done), by repeat (first | exact Drawn0.refl _ | apply Drawn0.step)⟩
    ·rw [if_neg c6] at H
     have c6b0 : decide (1 ≤ a0) = false := decide_eq_false c6
     clear c6
     obtain rfl := Option.some.inj H
     go_wp2
     go_ret
     exact ⟨by first | rfl | (simp; done) | (simp [*]; done), by repeat (first | exact Drawn0.refl _ | apply Drawn0.step)⟩
   ·replace c5 := Bool.eq_false_iff.mpr c5
    subst c5
    have H1 : (if a1 = 2 then (model_Legal.j1 kj2 a0 a1 (a1 == 2)) else (model_Legal.j1 kj2 a0 a1 (a1 == 3))) = some r := by rw [if_neg (show ¬ (false = true) by decide)] at H; exact H
    clear H
    have H := H1
    clear H1
    have HC7 := Aside0.mk H
    clear H
    go_upto_if 15 with (fail)
    go_cut [15] (fun v15 wc => ∃ (kq : Nat) (x15_6 : Bool), v15 = .bool x15_6 ∧ Aside0 (model_Legal.j1 kq a0 a1 x15_6 = some r) ∧ Aside0 (kq ≤ kj2) ∧ Drawn0 w wc)
    case first =>
     have H := HC7.out
     clear HC7
     by_cases c8 : a1 = 2
     ·rw [if_pos c8] at H
      have c8b0 : (a1 == 2) = true := beq_iff_eq.mpr c8
      have c8b1 : (a1 != 2) = false := bne_eq_false_iff_eq.mpr c8
      clear c8
      (first | rw [c8b0] | (simp only [i64_w, i32_w]; rw [c8b0]) | skip)
      have H' := Aside0.mk H
      clear H
      go_wp2
      go_meet
      case rel => exact ⟨_, ((a1 == 2)), (by first | rfl | (simp; done) | (simp [*]; done)), H', ⟨by have := HJ2.out; first | omega | exact Nat.le_refl _⟩, by repeat (first | exact Drawn0.refl _ | apply Drawn0.step)⟩
     ·rw [if_neg c8] at H
      have c8b0 : (a1 == 2) = false := beq_eq_false_iff_ne.mpr c8
      have c8b1 : (a1 != 2) = true := bne_iff_ne.mpr c8
      (first | rw [c8b0] | (simp only [i64_w, i32_w]; rw [c8b0]) | skip)
      have H' := Aside0.mk H
      clear H
      go_wp2
      go_meet
      case rel => exact ⟨_, ((a1 == 3)), (by first | rfl | (simp; done) | (simp [*]; done)), H', ⟨by have := HJ2.out; first | omega | exact Nat.le_refl _⟩, by repeat (first | exact Drawn0.refl _ | apply Drawn0.step)⟩
    case rest =>
     clear HC7
     (try clear c2); (try clear p2); (try clear c4); (try clear c4b0); (try clear c4b1); (try clear c5); (try clear c6); (try clear c6b0); (try clear c8); (try clear c8b0); (try clear c8b1); (try clear p2)
     obtain ⟨kq, x15_6, rfl, HA, HJ6, ⟨mc6, rfl⟩⟩ := hcut
     cases kq with
     | zero => exact absurd HA.out (by simp [model_Legal.j1])
     | succ kj6 =>
      have H := HA.out
      clear HA
      simp only [model_Legal.j1] at H
      by_cases c9 : x15_6 = true
      ·subst c9
       have H1 : (if a0 = 1 then (some true) else (some (a0 == 2))) = some r := by rw [if_pos rfl] at H; exact H
       clear H
       have H := H1
       clear H1
       by_cases c10 : a0 = 1
       ·rw [if_pos c10] at H
        have c10b0 : (a0 == 1) = true := beq_iff_eq.mpr c10
        have c10b1 : (a0 != 1) = false := bne_eq_false_iff_eq.mpr c10
        clear c10
        obtain rfl := Option.some.inj H
        go_wp2
        go_ret
        exact ⟨by first | rfl | (simp; done) | (simp [*]; done), by repeat (first | exact Drawn0.refl _ | apply Drawn0.step)⟩
       ·rw [if_neg c10] at H
        have c10b0 : (a0 == 1) = false := beq_eq_false_iff_ne.mpr c10
        have c10b1 : (a0 != 1) = true := bne_iff_ne.mpr c10
        obtain rfl := Option.some.inj H
        go_wp2
        go_ret
        exact ⟨by first | rfl | (simp; done) | (simp [*]; done), by repeat (first | exact Drawn0.refl _ | apply Drawn0.step)⟩
      ·replace c9 := Bool.eq_false_iff.mpr c9
       subst c9
       have H1 : (if a1 = 4 then (if a0 ≥ 3 then (some (decide (a0 ≤ 5))) else (some false)) else (some false)) = some r := by rw [if_neg (show ¬ (false = true) by decide)] at H; exact H
       clear H
       have H := H1
       clear H1
       by_cases c11 : a1 = 4
       ·rw [if_pos c11] at H
        have c11b0 : (a1 == 4) = true := beq_iff_eq.mpr c11
        have c11b1 : (a1 != 4) = false := bne_eq_false_iff_eq.mpr c11
        clear c11
        by_cases c12 : a0 ≥ 3
        ·rw [if_pos c12] at H
         have c12b0 : decide (3 ≤ a0) = true := decide_eq_true c12
         clear c12
         obtain rfl := Option.some.inj H
         go_wp2
         go_ret
         exact ⟨by first | rfl | (simp; done) | (simp [*]; done), by repeat (first | exact Drawn0.refl _ | apply Drawn0.step)⟩
        ·rw [if_neg c12] at H
         have c12b0 : decide (3 ≤ a0) = false := decide_eq_false c12
         clear c12
         obtain rfl := Option.some.inj H
         go_wp2
         go_ret
         exact ⟨by first | rfl | (simp; done) | (simp [*]; done), by repeat (first | exact Drawn0.refl _ | apply Drawn0.step)⟩
       ·rw [if_neg c11] at H
        have c11b0 : (a1 == 4) = false := beq_eq_false_iff_ne.mpr c11
        have c11b1 : (a1 != 4) = true := bne_iff_ne.mpr c11
        obtain rfl := Option.some.inj H
        go_wp2
        go_ret
        exact ⟨by first | rfl | (simp; done) | (simp [*]; done), by repeat (first | exact Drawn0.refl _ | apply Drawn0.step)⟩
end Go.Proofs.Ytaiglhfmmdajdaa.Pm
end
section
namespace Go.Proofs.Ytaiglhfmmdajdaa.Pm
open Go.RowKit Go.Proofs.YtaiglhfmmdajdaaW.PrintWords Go.Proofs.YtaiglhfmmdajdaaW.PrintLast Go.Proofs.YtaiglhfmmdajdaaW.PrintMore
attribute [local go_sem] max2_int min2_int max_two min_two max_three min_three max_four min_four   -- for this text's walks alone
set_option linter.unusedVariables false
set_option linter.unusedSimpArgs false
def fidx {α : Type} (p : α → Bool) (l : List α) : Int := match l.findIdx? p with | some i => (i : Int) | none => -1
theorem fidx_hit {α : Type} (p : α → Bool) (l : List α) (k : Nat) (z : α) (hk : k < l.length) (h : p (l.getD k z) = true) (hn : ∀ j, j < k → p (l.getD j z) = false) : fidx p l = k := by
  have e : l.findIdx? p = some k := by
    rw [List.findIdx?_eq_some_iff_getElem]
    refine ⟨hk, ?_, fun j hj => ?_⟩
    · rw [List.getD_eq_getElem?_getD, List.getElem?_eq_getElem hk] at h; exact h
    · have := hn j hj
      rw [List.getD_eq_getElem?_getD, List.getElem?_eq_getElem (by omega)] at this
      simpa using this
  unfold fidx
  rw [e]
theorem fidx_miss {α : Type} (p : α → Bool) (l : List α) (z : α) (hn : ∀ j, j < l.length → p (l.getD j z) = false) : fidx p l = -1 := by
  have e : l.findIdx? p = none := by
    rw [List.findIdx?_eq_none_iff]
    intro x hx
    obtain ⟨j, hj, rfl⟩ := List.getElem_of_mem hx
    have := hn j hj
    rw [List.getD_eq_getElem?_getD, List.getElem?_eq_getElem hj] at this
    simpa using this
  unfold fidx
  rw [e]
theorem fidx_any {α : Type} (p : α → Bool) (l : List α) : decide (fidx p l ≥ 0) = l.any p := by
  unfold fidx
  cases h : l.findIdx? p with
  | none =>
    have := List.findIdx?_eq_none_iff.1 h
    have e : l.any p = false := by rw [List.any_eq_false]; intro x hx; simp [this x hx]
    rw [e]; rfl
  | some i =>
    obtain ⟨hi, hp, _⟩ := List.findIdx?_eq_some_iff_getElem.1 h
    have e : l.any p = true := List.any_eq_true.2 ⟨_, List.getElem_mem hi, hp⟩
    rw [e]; exact decide_eq_true (show (i : Int) ≥ 0 by omega)
/-- What is asked of a predicate on what stands in l. -/
def PaysItem (g : Nat) (lb : Array Value) (p : S48 → Bool) (l : List S48) (w : World) : Prop :=
  ∀ (W : World) (x : S48) (cs : List Value), x ∈ l → Below w.heap.size w W → Kd.K k48 W x cs → Calls Try.prog g (#[.agg cs.toArray] ++ lb) W fun e w' => e = .returned (.bool (p x)) ∧ Below W.heap.size W w'
set_option maxHeartbeats 4000000 in
set_option maxRecDepth 100000 in
theorem idxItem (A : Option Addr) (c : Nat) (l : List S48) (w : World) (hr : Kd.C k48 w A l.length l) (hc : l.length ≤ c) (g : Nat) (lb : Array Value) (eg : ∀ args w, (callFunc g args).run Try.prog w = .ok (.enter g args) w) (p : S48 → Bool) (hp : PaysItem g lb p l w) :
    Calls Try.prog 70 #[.slice A l.length c, .func (.func g) #[] lb] w fun e w' => e = .returned (.int .i64 (fidx p l)) ∧ Below w.heap.size w w' := by
  have HR := Lib.hid hr
  have HP := Lib.hid hp
  clear hr hp
  obtain ⟨n, hn⟩ : ∃ n, n = l.length := ⟨_, rfl⟩
  have HN := Lib.hid hn
  rw [← hn] at hc ⊢
  clear hn
  have hbig : n ≤ 9223372036854775807 := by have := HR.out.2.1; have := HN.out; omega
  go_enter Try.func70, Try.ntmps70
  go_wp2
  go_loopg [5, 8] n (fun gg _ s8 wr => ∃ kk : Nat, kk ≤ n ∧ n - kk ≤ gg ∧ s8 = .int .i64 kk ∧ Aside (Below w.heap.size w wr) ∧ Aside (∀ j, j < kk → p (l.getD j z48) = false))
  case atStart => exact ⟨0, Nat.zero_le _, by omega, rfl, Below.refl _ w, fun j hj => absurd hj (Nat.not_lt_zero _)⟩
  case round =>
    obtain ⟨kk, hkk, hg, rfl, BW, A⟩ := hrel
    by_cases hlt : kk < n
    · have hltz : (kk : Int) < (n : Int) := by omega
      obtain ⟨ad, A5, c5, A6, c6, e, hx0, hx1, hx2, hx3, hx4, hx5, hx6, l5, g5, l6, g6⟩ := at_T48 HR.out (kk : Int) (by omega) (by have := HN.out; omega)
      cases e
      have hcall := HP.out wr (l.getD kk z48) [.string (rd_T48 l kk).f0, .int .i64 (rd_T48 l kk).f1, .string (rd_T48 l kk).f2, .bool (rd_T48 l kk).f3, .int .i64 (rd_T48 l kk).f4, .slice A5 (rd_T48 l kk).f5.length c5, .slice A6 (rd_T48 l kk).f6.length c6] (by rw [List.getD_eq_getElem?_getD, List.getElem?_eq_getElem (show kk < l.length by have := HN.out; omega)]; exact List.getElem_mem _) BW.out (k48_mk _ _ l5 (Kd.C_below g5 BW.out) l6 (Kd.C_below g6 BW.out))
      simp only [Int.toNat_natCast] at hx0 hx1 hx2 hx3 hx4 hx5 hx6
      replace hx0 := (BW.out.cell (World.block_lt_of_cell? w _ hx0)).trans hx0
      replace hx1 := (BW.out.cell (World.block_lt_of_cell? w _ hx1)).trans hx1
      replace hx2 := (BW.out.cell (World.block_lt_of_cell? w _ hx2)).trans hx2
      replace hx3 := (BW.out.cell (World.block_lt_of_cell? w _ hx3)).trans hx3
      replace hx4 := (BW.out.cell (World.block_lt_of_cell? w _ hx4)).trans hx4
      replace hx5 := (BW.out.cell (World.block_lt_of_cell? w _ hx5)).trans hx5
      replace hx6 := (BW.out.cell (World.block_lt_of_cell? w _ hx6)).trans hx6
      have B := Lib.hid (show p (l.getD kk z48) = p (l.getD kk z48) from rfl)
      cases hq : p (l.getD kk z48) with
      | true =>
        rw [hq] at hcall
        have HQ := Lib.hid hq
        clear hq
        go_wp2_with (go_at_fn g; refine hcall.mono ?_; rintro e w' ⟨rfl, hb'⟩)
        go_ret
        refine ⟨?_, below_then BW.out BW.out.size hb'⟩
        rw [fidx_hit p l kk z48 (by have := HN.out; omega) HQ.out A.out]
        rfl
      | false =>
        rw [hq] at hcall
        have HQ := Lib.hid hq
        clear hq
        go_wp2_with (go_at_fn g; refine hcall.mono ?_; rintro e w' ⟨rfl, hb'⟩)
        go_roundg (n - (kk + 1))
        case measure => omega
        case rel =>
          refine ⟨kk + 1, by omega, by omega, by go_num, below_then BW.out BW.out.size hb', (show Aside _ from fun j hj => ?_)⟩
          by_cases e : j = kk
          · subst e
            exact HQ.out
          · exact A.out j (by omega)
    · have hltz : ¬ (kk : Int) < (n : Int) := by omega
      obtain rfl : kk = n := by omega
      go_wp2
      go_ret
      refine ⟨?_, BW.out⟩
      rw [fidx_miss p l z48 (by rw [← HN.out]; exact A.out)]
      rfl
set_option maxHeartbeats 4000000 in
theorem anyItem (A : Option Addr) (c : Nat) (l : List S48) (w : World) (hr : Kd.C k48 w A l.length l) (hc : l.length ≤ c) (g : Nat) (lb : Array Value) (eg : ∀ args w, (callFunc g args).run Try.prog w = .ok (.enter g args) w) (p : S48 → Bool) (hp : PaysItem g lb p l w) :
    Calls Try.prog 43 #[.slice A l.length c, .func (.func g) #[] lb] w fun e w' => e = .returned (.bool (l.any p)) ∧ Below w.heap.size w w' := by
  have h := idxItem A c l w hr hc g lb eg p hp
  rw [← fidx_any]
  clear hr hp eg
  obtain ⟨n, hn⟩ : ∃ n : Int, n = fidx p l := ⟨_, rfl⟩
  rw [← hn] at h ⊢
  clear hn
  go_enter Try.func43, Try.ntmps43
  go_wp2_with (go_at_call 70; refine h.mono ?_; rintro e w' ⟨rfl, hb⟩)
  go_ret
  exact ⟨rfl, hb⟩
/-- What is asked of a predicate on what stands in l. -/
def PaysSentry (g : Nat) (lb : Array Value) (p : S54 → Bool) (l : List S54) (w : World) : Prop :=
  ∀ (W : World) (x : S54) (cs : List Value), x ∈ l → Below w.heap.size w W → Kd.K k54 W x cs → Calls Try.prog g (#[.agg cs.toArray] ++ lb) W fun e w' => e = .returned (.bool (p x)) ∧ Below W.heap.size W w'
set_option maxHeartbeats 4000000 in
set_option maxRecDepth 100000 in
theorem idxSentry (A : Option Addr) (c : Nat) (l : List S54) (w : World) (hr : Kd.C k54 w A l.length l) (hc : l.length ≤ c) (g : Nat) (lb : Array Value) (eg : ∀ args w, (callFunc g args).run Try.prog w = .ok (.enter g args) w) (p : S54 → Bool) (hp : PaysSentry g lb p l w) :
    Calls Try.prog 87 #[.slice A l.length c, .func (.func g) #[] lb] w fun e w' => e = .returned (.int .i64 (fidx p l)) ∧ Below w.heap.size w w' := by
  have HR := Lib.hid hr
  have HP := Lib.hid hp
  clear hr hp
  obtain ⟨n, hn⟩ : ∃ n, n = l.length := ⟨_, rfl⟩
  have HN := Lib.hid hn
  rw [← hn] at hc ⊢
  clear hn
  have hbig : n ≤ 9223372036854775807 := by have := HR.out.2.1; have := HN.out; omega
  go_enter Try.func87, Try.ntmps87
  go_wp2
  go_loopg [5, 8] n (fun gg _ s8 wr => ∃ kk : Nat, kk ≤ n ∧ n - kk ≤ gg ∧ s8 = .int .i64 kk ∧ Aside (Below w.heap.size w wr) ∧ Aside (∀ j, j < kk → p (l.getD j z54) = false))
  case atStart => exact ⟨0, Nat.zero_le _, by omega, rfl, Below.refl _ w, fun j hj => absurd hj (Nat.not_lt_zero _)⟩
  case round =>
    obtain ⟨kk, hkk, hg, rfl, BW, A⟩ := hrel
    by_cases hlt : kk < n
    · have hltz : (kk : Int) < (n : Int) := by omega
      obtain ⟨ad, A0, c0, A1, c1, e, hx0, hx1, l0, g0, l1, g1⟩ := at_T54 HR.out (kk : Int) (by omega) (by have := HN.out; omega)
      cases e
      have hcall := HP.out wr (l.getD kk z54) [.slice A0 (rd_T54 l kk).f0.length c0, .slice A1 (rd_T54 l kk).f1.length c1] (by rw [List.getD_eq_getElem?_getD, List.getElem?_eq_getElem (show kk < l.length by have := HN.out; omega)]; exact List.getElem_mem _) BW.out (k54_mk _ _ l0 (Kd.C_below g0 BW.out) l1 (Kd.C_below g1 BW.out))
      simp only [Int.toNat_natCast] at hx0 hx1
      replace hx0 := (BW.out.cell (World.block_lt_of_cell? w _ hx0)).trans hx0
      replace hx1 := (BW.out.cell (World.block_lt_of_cell? w _ hx1)).trans hx1
      have B := Lib.hid (show p (l.getD kk z54) = p (l.getD kk z54) from rfl)
      cases hq : p (l.getD kk z54) with
      | true =>
        rw [hq] at hcall
        have HQ := Lib.hid hq
        clear hq
        go_wp2_with (go_at_fn g; refine hcall.mono ?_; rintro e w' ⟨rfl, hb'⟩)
        go_ret
        refine ⟨?_, below_then BW.out BW.out.size hb'⟩
        rw [fidx_hit p l kk z54 (by have := HN.out; omega) HQ.out A.out]
        rfl
      | false =>
        rw [hq] at hcall
        have HQ := Lib.hid hq
        clear hq
        go_wp2_with (go_at_fn g; refine hcall.mono ?_; rintro e w' ⟨rfl, hb'⟩)
        go_roundg (n - (kk + 1))
        case measure => omega
        case rel =>
          refine ⟨kk + 1, by omega, by omega, by go_num, below_then BW.out BW.out.size hb', (show Aside _ from fun j hj => ?_)⟩
          by_cases e : j = kk
          · subst e
            exact HQ.out
          · exact A.out j (by omega)
    · have hltz : ¬ (kk : Int) < (n : Int) := by omega
      obtain rfl : kk = n := by omega
      go_wp2
      go_ret
      refine ⟨?_, BW.out⟩
      rw [fidx_miss p l z54 (by rw [← HN.out]; exact A.out)]
      rfl
set_option maxHeartbeats 4000000 in
theorem anySentry (A : Option Addr) (c : Nat) (l : List S54) (w : World) (hr : Kd.C k54 w A l.length l) (hc : l.length ≤ c) (g : Nat) (lb : Array Value) (eg : ∀ args w, (callFunc g args).run Try.prog w = .ok (.enter g args) w) (p : S54 → Bool) (hp : PaysSentry g lb p l w) :
    Calls Try.prog 83 #[.slice A l.length c, .func (.func g) #[] lb] w fun e w' => e = .returned (.bool (l.any p)) ∧ Below w.heap.size w w' := by
  have h := idxSentry A c l w hr hc g lb eg p hp
  rw [← fidx_any]
  clear hr hp eg
  obtain ⟨n, hn⟩ : ∃ n : Int, n = fidx p l := ⟨_, rfl⟩
  rw [← hn] at h ⊢
  clear hn
  go_enter Try.func83, Try.ntmps83
  go_wp2_with (go_at_call 87; refine h.mono ?_; rintro e w' ⟨rfl, hb⟩)
  go_ret
  exact ⟨rfl, hb⟩
/-- What is asked of a predicate on what stands in l. -/
def PaysCond (g : Nat) (lb : Array Value) (p : S50 → Bool) (l : List S50) (w : World) : Prop :=
  ∀ (W : World) (x : S50) (cs : List Value), x ∈ l → Below w.heap.size w W → Kd.K k50 W x cs → Calls Try.prog g (#[.agg cs.toArray] ++ lb) W fun e w' => e = .returned (.bool (p x)) ∧ Below W.heap.size W w'
set_option maxHeartbeats 4000000 in
set_option maxRecDepth 100000 in
theorem idxCond (A : Option Addr) (c : Nat) (l : List S50) (w : World) (hr : Kd.C k50 w A l.length l) (hc : l.length ≤ c) (g : Nat) (lb : Array Value) (eg : ∀ args w, (callFunc g args).run Try.prog w = .ok (.enter g args) w) (p : S50 → Bool) (hp : PaysCond g lb p l w) :
    Calls Try.prog 95 #[.slice A l.length c, .func (.func g) #[] lb] w fun e w' => e = .returned (.int .i64 (fidx p l)) ∧ Below w.heap.size w w' := by
  have HR := Lib.hid hr
  have HP := Lib.hid hp
  clear hr hp
  obtain ⟨n, hn⟩ : ∃ n, n = l.length := ⟨_, rfl⟩
  have HN := Lib.hid hn
  rw [← hn] at hc ⊢
  clear hn
  have hbig : n ≤ 9223372036854775807 := by have := HR.out.2.1; have := HN.out; omega
  go_enter Try.func95, Try.ntmps95
  go_wp2
  go_loopg [5, 8] n (fun gg _ s8 wr => ∃ kk : Nat, kk ≤ n ∧ n - kk ≤ gg ∧ s8 = .int .i64 kk ∧ Aside (Below w.heap.size w wr) ∧ Aside (∀ j, j < kk → p (l.getD j z50) = false))
  case atStart => exact ⟨0, Nat.zero_le _, by omega, rfl, Below.refl _ w, fun j hj => absurd hj (Nat.not_lt_zero _)⟩
  case round =>
    obtain ⟨kk, hkk, hg, rfl, BW, A⟩ := hrel
    by_cases hlt : kk < n
    · have hltz : (kk : Int) < (n : Int) := by omega
      obtain ⟨ad, e, hx0, hx1, hx2⟩ := at_T50 HR.out (kk : Int) (by omega) (by have := HN.out; omega)
      cases e
      have hcall := HP.out wr (l.getD kk z50) [.string (rd_T50 l kk).f0, .string (rd_T50 l kk).f1, .int .i64 (rd_T50 l kk).f2] (by rw [List.getD_eq_getElem?_getD, List.getElem?_eq_getElem (show kk < l.length by have := HN.out; omega)]; exact List.getElem_mem _) BW.out (k50_mk _ _)
      simp only [Int.toNat_natCast] at hx0 hx1 hx2
      replace hx0 := (BW.out.cell (World.block_lt_of_cell? w _ hx0)).trans hx0
      replace hx1 := (BW.out.cell (World.block_lt_of_cell? w _ hx1)).trans hx1
      replace hx2 := (BW.out.cell (World.block_lt_of_cell? w _ hx2)).trans hx2
      have B := Lib.hid (show p (l.getD kk z50) = p (l.getD kk z50) from rfl)
      cases hq : p (l.getD kk z50) with
      | true =>
        rw [hq] at hcall
        have HQ := Lib.hid hq
        clear hq
        go_wp2_with (go_at_fn g; refine hcall.mono ?_; rintro e w' ⟨rfl, hb'⟩)
        go_ret
        refine ⟨?_, below_then BW.out BW.out.size hb'⟩
        rw [fidx_hit p l kk z50 (by have := HN.out; omega) HQ.out A.out]
        rfl
      | false =>
        rw [hq] at hcall
        have HQ := Lib.hid hq
        clear hq
        go_wp2_with (go_at_fn g; refine hcall.mono ?_; rintro e w' ⟨rfl, hb'⟩)
        go_roundg (n - (kk + 1))
        case measure => omega
        case rel =>
          refine ⟨kk + 1, by omega, by omega, by go_num, below_then BW.out BW.out.size hb', (show Aside _ from fun j hj => ?_)⟩
          by_cases e : j = kk
          · subst e
            exact HQ.out
          · exact A.out j (by omega)
    · have hltz : ¬ (kk : Int) < (n : Int) := by omega
      obtain rfl : kk = n := by omega
      go_wp2
      go_ret
      refine ⟨?_, BW.out⟩
      rw [fidx_miss p l z50 (by rw [← HN.out]; exact A.out)]
      rfl
set_option maxHeartbeats 4000000 in
theorem anyCond (A : Option Addr) (c : Nat) (l : List S50) (w : World) (hr : Kd.C k50 w A l.length l) (hc : l.length ≤ c) (g : Nat) (lb : Array Value) (eg : ∀ args w, (callFunc g args).run Try.prog w = .ok (.enter g args) w) (p : S50 → Bool) (hp : PaysCond g lb p l w) :
    Calls Try.prog 90 #[.slice A l.length c, .func (.func g) #[] lb] w fun e w' => e = .returned (.bool (l.any p)) ∧ Below w.heap.size w w' := by
  have h := idxCond A c l w hr hc g lb eg p hp
  rw [← fidx_any]
  clear hr hp eg
  obtain ⟨n, hn⟩ : ∃ n : Int, n = fidx p l := ⟨_, rfl⟩
  rw [← hn] at h ⊢
  clear hn
  go_enter Try.func90, Try.ntmps90
  go_wp2_with (go_at_call 95; refine h.mono ?_; rintro e w' ⟨rfl, hb⟩)
  go_ret
  exact ⟨rfl, hb⟩
end Go.Proofs.Ytaiglhfmmdajdaa.Pm
end
section
namespace Go.Proofs.Ytaiglhfmmdajdaa.Pm
open Go.RowKit Go.Proofs.YtaiglhfmmdajdaaW.PrintWords Go.Proofs.YtaiglhfmmdajdaaW.PrintLast Go.Proofs.YtaiglhfmmdajdaaW.PrintMore
attribute [local go_sem] max2_int min2_int max_two min_two max_three min_three max_four min_four   -- for this text's walks alone
set_option linter.unusedVariables false
set_option linter.unusedSimpArgs false
def model_Place.p (a1 : ByteArray) (x : S48) : Bool := x.f0.toList == a1.toList
def model_Place.f (l0_0 : List ByteArray) (l0_1 : List (S48)) (a1 : ByteArray) : Option Int := some (fidx (model_Place.p a1) l0_1)
set_option maxHeartbeats 2000000 in
theorem model_Place.closure (b : Nat) (id : ByteArray) (W : World) (hc : W.cell? ⟨b, 0, none⟩ = some (.string id)) (x : S48) (cs : List Value) (hK : Kd.K k48 W x cs) :
    Calls Try.prog 72 (#[.agg cs.toArray] ++ #[.pointer (some ⟨b, 0, none⟩)]) W fun e w' => e = .returned (.bool (model_Place.p id x)) ∧ Below W.heap.size W w' := by
  obtain ⟨A5, c5, A6, c6, rfl, _⟩ := k48_open hK
  unfold model_Place.p
  have hb := World.block_lt_of_cell? W _ hc
  simp only at hb
  have hu := Try.underlying48
  go_enter Try.func72, Try.ntmps72
  go_wp2
  go_ret
  exact ⟨rfl, below_alloc (Below.refl _ _) _⟩
theorem model_Place.eg : ∀ args w, (callFunc 72 args).run Try.prog w = .ok (.enter 72 args) w := enters_of Try.func72 (by kernel_rfl) rfl
set_option maxHeartbeats 2000000 in
theorem model_Place.calls (A0_0 : Option Addr) (c0_0 : Nat) (l0_0 : List ByteArray) (A0_1 : Option Addr) (c0_1 : Nat) (l0_1 : List (S48)) (a1 : ByteArray) (r : Int) (w : World) (hr0_0 : Kd.C Kd.string w A0_0 l0_0.length l0_0) (hc0_0 : l0_0.length ≤ c0_0) (hr0_1 : Kd.C k48 w A0_1 l0_1.length l0_1) (hc0_1 : l0_1.length ≤ c0_1) (h : model_Place.f l0_0 l0_1 a1 = some r) :
    Calls Try.prog 48 #[.agg #[.slice A0_0 l0_0.length c0_0, .slice A0_1 l0_1.length c0_1], .string a1] w fun e w' => e = .returned (.int .i64 r) ∧ Below w.heap.size w w' := by
  obtain rfl := Option.some.inj h
  have W1 := below_alloc (below_alloc (Below.refl w.heap.size w) (.cells #[.slice A0_0 l0_0.length c0_0, .slice A0_1 l0_1.length c0_1] 25)) (.cells #[.string a1] 9)
  have hcell : ((w.alloc (.cells #[.slice A0_0 l0_0.length c0_0, .slice A0_1 l0_1.length c0_1] 25)).alloc (.cells #[.string a1] 9)).cell? ⟨w.heap.size + 1, 0, none⟩ = some (.string a1) := by simp
  have hsz : ((w.alloc (.cells #[.slice A0_0 l0_0.length c0_0, .slice A0_1 l0_1.length c0_1] 25)).alloc (.cells #[.string a1] 9)).heap.size = w.heap.size + 2 := by simp
  have hi := idxItem A0_1 c0_1 l0_1 _ (Kd.C_below hr0_1 W1) hc0_1 72 #[.pointer (some ⟨w.heap.size + 1, 0, none⟩)] model_Place.eg (model_Place.p a1) (fun W x cs hx hb hK => model_Place.closure _ a1 W ((hb.cell (by rw [hsz]; simp)).trans hcell) x cs hK)
  have H := Lib.hid W1
  clear hr0_0 hr0_1 W1 hcell h hsz
  obtain ⟨n, hn⟩ : ∃ n : Int, n = fidx (model_Place.p a1) l0_1 := ⟨_, rfl⟩
  rw [← hn] at hi ⊢
  clear hn
  have hu := Try.underlying25
  go_enter Try.func48, Try.ntmps48
  go_wp2_with (go_at_call 70; refine hi.mono ?_; rintro e w' ⟨rfl, hb⟩)
  go_ret
  exact ⟨rfl, below_then H.out H.out.size hb⟩
end Go.Proofs.Ytaiglhfmmdajdaa.Pm
end
section
namespace Go.Proofs.Ytaiglhfmmdajdaa.Pm
open Go.RowKit Go.Proofs.YtaiglhfmmdajdaaW.PrintWords Go.Proofs.YtaiglhfmmdajdaaW.PrintLast Go.Proofs.YtaiglhfmmdajdaaW.PrintMore
attribute [local go_sem] max2_int min2_int max_two min_two max_three min_three max_four min_four   -- for this text's walks alone
set_option linter.unusedVariables false
set_option linter.unusedSimpArgs false
def model_isOn.f (k : Nat) (l0_0 : List ByteArray) (l0_1 : List (S48)) (a1_0 : ByteArray) (a1_1 : Int) : Option (Bool) := (model_Place.f l0_0 l0_1 a1_0).bind fun t324 => (if t324 ≥ 0 then (if 0 ≤ t324 then (if t324 < (l0_1.length : Int) then ((model_Legal.f k ((rd_T48 l0_1 t324).f1) a1_1).bind fun t326 => (some t326)) else (none)) else (none)) else (some false))
theorem model_isOn.mono : ∀ a0 a1 a2 a3 k, LeO (model_isOn.f k a0 a1 a2 a3) (model_isOn.f (k + 1) a0 a1 a2 a3) := by
 intro a0 a1 a2 a3 k
 unfold model_isOn.f
 repeat' first
   | (with_reducible exact model_Legal.mono _ _ _)
   | (with_reducible exact LeO.refl _)
   | (with_reducible exact LeO.none _)
   | (with_reducible refine LeO.ite ?_ ?_)
   | (with_reducible refine LeO.bind ?_ (fun _ => ?_))
   | exact model_Legal.mono _ _ _
   | exact LeO.none _
   | refine LeO.ite ?_ ?_
   | refine LeO.bind ?_ (fun _ => ?_)
set_option maxHeartbeats 8000000 in
set_option maxRecDepth 100000 in
theorem model_isOn.calls (k : Nat) (A0_0 : Option Addr) (c0_0 : Nat) (l0_0 : List ByteArray) (A0_1 : Option Addr) (c0_1 : Nat) (l0_1 : List (S48)) (a1_0 : ByteArray) (a1_1 : Int) (r : Bool) (w : World) (hr0_0 : Kd.C Kd.string w A0_0 l0_0.length l0_0) (hc0_0 : l0_0.length ≤ c0_0) (hr0_1 : Kd.C k48 w A0_1 l0_1.length l0_1) (hc0_1 : l0_1.length ≤ c0_1) (h : model_isOn.f k l0_0 l0_1 a1_0 a1_1 = some r) :
  Calls Try.prog 88 #[.agg #[.slice A0_0 l0_0.length c0_0, .slice A0_1 l0_1.length c0_1], .agg #[.string a1_0, .int .i64 a1_1]] w fun e w' => e = .returned (.bool r) ∧ Below w.heap.size w w' := by
 have hu25 := Try.underlying25
 have hu103 := Try.underlying103
 have HR0_0 := Aside0.mk hr0_0
 have HC0_0 := Aside0.mk hc0_0
 clear hr0_0 hc0_0
 have HR0_1 := Aside0.mk hr0_1
 have HC0_1 := Aside0.mk hc0_1
 clear hr0_1 hc0_1
 have HB := Aside0.mk (Below.refl w.heap.size w)
 have H : ((model_Place.f l0_0 l0_1 a1_0).bind fun t324 => (if t324 ≥ 0 then (if 0 ≤ t324 then (if t324 < (l0_1.length : Int) then ((model_Legal.f k ((rd_T48 l0_1 t324).f1) a1_1).bind fun t326 => (some t326)) else (none)) else (none)) else (some false))) = some r := h
 clear h
 replace H := Option.bind_eq_some_iff.mp H
 obtain ⟨t324, A30, H⟩ := H
 replace H : (if t324 ≥ 0 then (if 0 ≤ t324 then (if t324 < (l0_1.length : Int) then ((model_Legal.f k ((rd_T48 l0_1 t324).f1) a1_1).bind fun t326 => (some t326)) else (none)) else (none)) else (some false)) = some r := H
 have A3 := Aside0.mk A30
 clear A30
 by_cases c4 : t324 ≥ 0
 ·rw [if_pos c4] at H
  have c4b0 : decide (0 ≤ t324) = true := decide_eq_true c4
  clear c4
  by_cases c5 : 0 ≤ t324
  ·rw [if_pos c5] at H
   have c5b0 : decide (0 ≤ t324) = true := decide_eq_true c5
   clear c5
   by_cases c6 : t324 < (l0_1.length : Int)
   ·rw [if_pos c6] at H
    have c6b0 : decide (t324 < (l0_1.length : Int)) = true := decide_eq_true c6
    clear c6
    replace H := Option.bind_eq_some_iff.mp H
    obtain ⟨t326, A70, H⟩ := H
    replace H : (some t326) = some r := H
    have A7 := Aside0.mk A70
    clear A70
    obtain rfl := Option.some.inj H
    go_enter Try.func88, Try.ntmps88
    go_wp2_with (first | ((with_reducible refine gate_dst (N := 2) rfl ?_); refine box_event ?hg (N := 2) ?hd (cs := #[.slice A0_0 l0_0.length c0_0, .slice A0_1 l0_1.length c0_1]) (t := 25) ?hr ?_; (case hd => rfl); (case hg => rfl); (case hr => first | (go_simp; done) | (go_simp; rfl)); intro gb322 hg w8 hbox hb; have n0_ := hb_ HB hb; have n1_ := Aside0.mk (hbox); have n2_ := Aside0.mk ((by rw [hg]; exact (below_size (by repeat (first | (with_reducible first | exact HB.out | apply below_alloc | apply pw_below_drewN | apply below_drew1) | exact HB.out))) : w.heap.size ≤ gb322)); have n3_ := Aside0.mk ((by rw [hg]; exact (below_size (by repeat (first | (with_reducible first | exact HB.out | apply below_alloc | apply pw_below_drewN | apply below_drew1) | exact HB.out))) : w.heap.size ≤ gb322)); clear HB; have HB := n0_; have BK322 := n1_; have GW322 := n2_; have GE322 := n3_; clear n0_ n1_ n2_ n3_; clear hb hbox hg) | ((with_reducible refine gate_dst (N := 3) rfl ?_); refine box_event ?hg (N := 3) ?hd (cs := #[.string a1_0, .int .i64 a1_1]) (t := 103) ?hr ?_; (case hd => rfl); (case hg => rfl); (case hr => first | (go_simp; done) | (go_simp; rfl)); intro gb323 hg w9 hbox hb; have n0_ := bb_ BK322 hb; have n1_ := hb_ HB hb; have n2_ := Aside0.mk (hbox); have n3_ := Aside0.mk ((by rw [hg]; exact (below_size (by repeat (first | (with_reducible first | exact HB.out | apply below_alloc | apply pw_below_drewN | apply below_drew1 | refine below_set ?_ GE322.out) | exact HB.out))) : w.heap.size ≤ gb323)); have n4_ := Aside0.mk ((by rw [hg]; exact (below_size (by repeat (first | (with_reducible first | exact HB.out | apply below_alloc | apply pw_below_drewN | apply below_drew1 | refine below_set ?_ GE322.out) | exact HB.out))) : w.heap.size ≤ gb323)); have n5_ := Aside0.mk ((by rw [hg]; exact Nat.ne_of_lt (blk_lt (g := gb322) (o := .cells #[.slice A0_0 l0_0.length c0_0, .slice A0_1 l0_1.length c0_1] 25 (0, 0)) (by (with_reducible repeat (first | refine blk_drewN ?_ _ | refine blk_drew ?_ | refine blk_alloc ?_ _)); exact BK322.out)) : gb322 ≠ gb323)); have n6_ := Aside0.mk ((by rw [hg]; exact Nat.ne_of_gt (blk_lt (g := gb322) (o := .cells #[.slice A0_0 l0_0.length c0_0, .slice A0_1 l0_1.length c0_1] 25 (0, 0)) (by (with_reducible repeat (first | refine blk_drewN ?_ _ | refine blk_drew ?_ | refine blk_alloc ?_ _)); exact BK322.out)) : gb323 ≠ gb322)); clear BK322; clear HB; have BK322 := n0_; have HB := n1_; have BK323 := n2_; have GW323 := n3_; have GE323 := n4_; have NB322_323 := n5_; have NB323_322 := n6_; clear n0_ n1_ n2_ n3_ n4_ n5_ n6_; clear hb hbox hg; have hnb10 := NB322_323.out; have hnc10 := NB323_322.out; obtain ⟨hcz11_0, hcz11_1, hfz11_0, hfz11_1⟩ := bs2_ BK322; obtain ⟨hcz12_0, hcz12_1, hfz12_0, hfz12_1⟩ := bs2_ BK323) | (go_at_call 48; (with_reducible refine (model_Place.calls _ _ l0_0 _ _ l0_1 a1_0 t324 _ ?side1 ?side2 ?side3 ?side4 A3.out).mono ?_); (case side1 => exact kc_ HR0_0 HB); (case side2 => exact HC0_0.out); (case side3 => exact kc_ HR0_1 HB); (case side4 => exact HC0_1.out); rintro e w13 ⟨rfl, hb⟩; have n0_ := bb_ BK322 hb; have n1_ := bb_ BK323 hb; have n2_ := hb_ HB hb; clear BK322; clear BK323; clear HB; have BK322 := n0_; have BK323 := n1_; have HB := n2_; clear n0_ n1_ n2_; (try clear hb); (try clear hb2); (try clear hk); (try clear hi); obtain ⟨hcz14_0, hcz14_1, hfz14_0, hfz14_1⟩ := bs2_ BK322; have p325 : 0 ≤ (t324 : Int) := od_; have q325 : t324 < (l0_1.length : Int) := od_; obtain ⟨ad325, A325_5, c325_5, A325_6, c325_6, e325, hx325_0, hx325_1, hx325_2, hx325_3, hx325_4, hx325_5, hx325_6, hl325_5, hi325_5, hl325_6, hi325_6⟩ := at_T48 HR0_1.out t324 p325 q325; cases e325; replace hx325_0 := rr_ HB hx325_0; replace hx325_1 := rr_ HB hx325_1; replace hx325_2 := rr_ HB hx325_2; replace hx325_3 := rr_ HB hx325_3; replace hx325_4 := rr_ HB hx325_4; replace hx325_5 := rr_ HB hx325_5; replace hx325_6 := rr_ HB hx325_6; have HR325_5 := Aside0.mk hi325_5; have HC325_5 := Aside0.mk hl325_5; clear hi325_5 hl325_5; have HR325_6 := Aside0.mk hi325_6; have HC325_6 := Aside0.mk hl325_6; clear hi325_6 hl325_6; replace p325 := eq_true p325; replace q325 := eq_true q325; obtain ⟨hcz15_0, hcz15_1, hfz15_0, hfz15_1⟩ := bs2_ BK323) | (go_at_call 93; (with_reducible refine (model_Legal.calls k ((rd_T48 l0_1 t324).f1) a1_1 t326 _ A7.out).mono ?_); rintro e w' ⟨rfl, ⟨nd, rfl⟩⟩; (try first | exact ⟨rfl, _, World.drewN_drewN _ _ _⟩ | exact ⟨rfl, _, Eq.trans (World.drewN_drewN _ _ _) (congrArg (World.drewN _) (Nat.add_assoc _ _ _))⟩)))
    repeat (go_quiet (first | ((with_reducible refine gate_dst (N := 2) rfl ?_); refine box_event ?hg (N := 2) ?hd (cs := #[.slice A0_0 l0_0.length c0_0, .slice A0_1 l0_1.length c0_1]) (t := 25) ?hr ?_; (case hd => rfl); (case hg => rfl); (case hr => first | (go_simp; done) | (go_simp; rfl)); intro gb322 hg w8 hbox hb; have n0_ := hb_ HB hb; have n1_ := Aside0.mk (hbox); have n2_ := Aside0.mk ((by rw [hg]; exact (below_size (by repeat (first | (with_reducible first | exact HB.out | apply below_alloc | apply pw_below_drewN | apply below_drew1) | exact HB.out))) : w.heap.size ≤ gb322)); have n3_ := Aside0.mk ((by rw [hg]; exact (below_size (by repeat (first | (with_reducible first | exact HB.out | apply below_alloc | apply pw_below_drewN | apply below_drew1) | exact HB.out))) : w.heap.size ≤ gb322)); clear HB; have HB := n0_; have BK322 := n1_; have GW322 := n2_; have GE322 := n3_; clear n0_ n1_ n2_ n3_; clear hb hbox hg) | ((with_reducible refine gate_dst (N := 3) rfl ?_); refine box_event ?hg (N := 3) ?hd (cs := #[.string a1_0, .int .i64 a1_1]) (t := 103) ?hr ?_; (case hd => rfl); (case hg => rfl); (case hr => first | (go_simp; done) | (go_simp; rfl)); intro gb323 hg w9 hbox hb; have n0_ := bb_ BK322 hb; have n1_ := hb_ HB hb; have n2_ := Aside0.mk (hbox); have n3_ := Aside0.mk ((by rw [hg]; exact (below_size (by repeat (first | (with_reducible first | exact HB.out | apply below_alloc | apply pw_below_drewN | apply below_drew1 | refine below_set ?_ GE322.out) | exact HB.out))) : w.heap.size ≤ gb323)); have n4_ := Aside0.mk ((by rw [hg]; exact (below_size (by repeat (first | (with_reducible first | exact HB.out | apply below_alloc | apply pw_below_drewN | apply below_drew1 | refine below_set ?_ GE322.out) | exact HB.out))) : w.heap.size ≤ gb323)); have n5_ := Aside0.mk ((by rw [hg]; exact Nat.ne_of_lt (blk_lt (g := gb322) (o := .cells #[.slice A0_0 l0_0.length c0_0, .slice A0_1 l0_1.length c0_1] 25 (0, 0)) (by (with_reducible repeat (first | refine blk_drewN ?_ _ | refine blk_drew ?_ | refine blk_alloc ?_ _)); exact BK322.out)) : gb322 ≠ gb323)); have n6_ := Aside0.mk ((by rw [hg]; exact Nat.ne_of_gt (blk_lt (g := gb322) (o := .cells #[.slice A0_0 l0_0.length c0_0, .slice A0_1 l0_1.length c0_1] 25 (0, 0)) (by (with_reducible repeat (first | refine blk_drewN ?_ _ | refine blk_drew ?_ | refine blk_alloc ?_ _)); exact BK322.out)) : gb323 ≠ gb322)); clear BK322; clear HB; have BK322 := n0_; have HB := n1_; have BK323 := n2_; have GW323 := n3_; have GE323 := n4_; have NB322_323 := n5_; have NB323_322 := n6_; clear n0_ n1_ n2_ n3_ n4_ n5_ n6_; clear hb hbox hg; have hnb10 := NB322_323.out; have hnc10 := NB323_322.out; obtain ⟨hcz11_0, hcz11_1, hfz11_0, hfz11_1⟩ := bs2_ BK322; obtain ⟨hcz12_0, hcz12_1, hfz12_0, hfz12_1⟩ := bs2_ BK323) | (go_at_call 48; (with_reducible refine (model_Place.calls _ _ l0_0 _ _ l0_1 a1_0 t324 _ ?side1 ?side2 ?side3 ?side4 A3.out).mono ?_); (case side1 => exact kc_ HR0_0 HB); (case side2 => exact HC0_0.out); (case side3 => exact kc_ HR0_1 HB); (case side4 => exact HC0_1.out); rintro e w13 ⟨rfl, hb⟩; have n0_ := bb_ BK322 hb; have n1_ := bb_ BK323 hb; have n2_ := hb_ HB hb; clear BK322; clear BK323; clear HB; have BK322 := n0_; have BK323 := n1_; have HB := n2_; clear n0_ n1_ n2_; (try clear hb); (try clear hb2); (try clear hk); (try clear hi); obtain ⟨hcz14_0, hcz14_1, hfz14_0, hfz14_1⟩ := bs2_ BK322; have p325 : 0 ≤ (t324 : Int) := od_; have q325 : t324 < (l0_1.length : Int) := od_; obtain ⟨ad325, A325_5, c325_5, A325_6, c325_6, e325, hx325_0, hx325_1, hx325_2, hx325_3, hx325_4, hx325_5, hx325_6, hl325_5, hi325_5, hl325_6, hi325_6⟩ := at_T48 HR0_1.out t324 p325 q325; cases e325; replace hx325_0 := rr_ HB hx325_0; replace hx325_1 := rr_ HB hx325_1; replace hx325_2 := rr_ HB hx325_2; replace hx325_3 := rr_ HB hx325_3; replace hx325_4 := rr_ HB hx325_4; replace hx325_5 := rr_ HB hx325_5; replace hx325_6 := rr_ HB hx325_6; have HR325_5 := Aside0.mk hi325_5; have HC325_5 := Aside0.mk hl325_5; clear hi325_5 hl325_5; have HR325_6 := Aside0.mk hi325_6; have HC325_6 := Aside0.mk hl325_6; clear hi325_6 hl325_6; replace p325 := eq_true p325; replace q325 := eq_true q325; obtain ⟨hcz15_0, hcz15_1, hfz15_0, hfz15_1⟩ := bs2_ BK323) | (go_at_call 93; (with_reducible refine (model_Legal.calls k ((rd_T48 l0_1 t324).f1) a1_1 t326 _ A7.out).mono ?_); rintro e w' ⟨rfl, ⟨nd, rfl⟩⟩; (try first | exact ⟨rfl, _, World.drewN_drewN _ _ _⟩ | exact ⟨rfl, _, Eq.trans (World.drewN_drewN _ _ _) (congrArg (World.drewN _) (Nat.add_assoc _ _ _))⟩))); try go_wp2_with (first | ((with_reducible refine gate_dst (N := 2) rfl ?_); refine box_event ?hg (N := 2) ?hd (cs := #[.slice A0_0 l0_0.length c0_0, .slice A0_1 l0_1.length c0_1]) (t := 25) ?hr ?_; (case hd => rfl); (case hg => rfl); (case hr => first | (go_simp; done) | (go_simp; rfl)); intro gb322 hg w8 hbox hb; have n0_ := hb_ HB hb; have n1_ := Aside0.mk (hbox); have n2_ := Aside0.mk ((by rw [hg]; exact (below_size (by repeat (first | (with_reducible first | exact HB.out | apply below_alloc | apply pw_below_drewN | apply below_drew1) | exact HB.out))) : w.heap.size ≤ gb322)); have n3_ := Aside0.mk ((by rw [hg]; exact (below_size (by repeat (first | (with_reducible first | exact HB.out | apply below_alloc | apply pw_below_drewN | apply below_drew1) | exact HB.out))) : w.heap.size ≤ gb322)); clear HB; have HB := n0_; have BK322 := n1_; have GW322 := n2_; have GE322 := n3_; clear n0_ n1_ n2_ n3_; clear hb hbox hg) | ((with_reducible refine gate_dst (N := 3) rfl ?_); refine box_event ?hg (N := 3) ?hd (cs := #[.string a1_0, .int .i64 a1_1]) (t := 103) ?hr ?_; (case hd => rfl); (case hg => rfl); (case hr => first | (go_simp; done) | (go_simp; rfl)); intro gb323 hg w9 hbox hb; have n0_ := bb_ BK322 hb; have n1_ := hb_ HB hb; have n2_ := Aside0.mk (hbox); have n3_ := Aside0.mk ((by rw [hg]; exact (below_size (by repeat (first | (with_reducible first | exact HB.out | apply below_alloc | apply pw_below_drewN | apply below_drew1 | refine below_set ?_ GE322.out) | exact HB.out))) : w.heap.size ≤ gb323)); have n4_ := Aside0.mk ((by rw [hg]; exact (below_size (by repeat (first | (with_reducible first | exact HB.out | apply below_alloc | apply pw_below_drewN | apply below_drew1 | refine below_set ?_ GE322.out) | exact HB.out))) : w.heap.size ≤ gb323)); have n5_ := Aside0.mk ((by rw [hg]; exact Nat.ne_of_lt (blk_lt (g := gb322) (o := .cells #[.slice A0_0 l0_0.length c0_0, .slice A0_1 l0_1.length c0_1] 25 (0, 0)) (by (with_reducible repeat (first | refine blk_drewN ?_ _ | refine blk_drew ?_ | refine blk_alloc ?_ _)); exact BK322.out)) : gb322 ≠ gb323)); have n6_ := Aside0.mk ((by rw [hg]; exact Nat.ne_of_gt (blk_lt (g := gb322) (o := .cells #[.slice A0_0 l0_0.length c0_0, .slice A0_1 l0_1.length c0_1] 25 (0, 0)) (by (with_reducible repeat (first | refine blk_drewN ?_ _ | refine blk_drew ?_ | refine blk_alloc ?_ _)); exact BK322.out)) : gb323 ≠ gb322)); clear BK322; clear HB; have BK322 := n0_; have HB := n1_; have BK323 := n2_; have GW323 := n3_; have GE323 := n4_; have NB322_323 := n5_; have NB323_322 := n6_; clear n0_ n1_ n2_ n3_ n4_ n5_ n6_; clear hb hbox hg; have hnb10 := NB322_323.out; have hnc10 := NB323_322.out; obtain ⟨hcz11_0, hcz11_1, hfz11_0, hfz11_1⟩ := bs2_ BK322; obtain ⟨hcz12_0, hcz12_1, hfz12_0, hfz12_1⟩ := bs2_ BK323) | (go_at_call 48; (with_reducible refine (model_Place.calls _ _ l0_0 _ _ l0_1 a1_0 t324 _ ?side1 ?side2 ?side3 ?side4 A3.out).mono ?_); (case side1 => exact kc_ HR0_0 HB); (case side2 => exact HC0_0.out); (case side3 => exact kc_ HR0_1 HB); (case side4 => exact HC0_1.out); rintro e w13 ⟨rfl, hb⟩; have n0_ := bb_ BK322 hb; have n1_ := bb_ BK323 hb; have n2_ := hb_ HB hb; clear BK322; clear BK323; clear HB; have BK322 := n0_; have BK323 := n1_; have HB := n2_; clear n0_ n1_ n2_; (try clear hb); (try clear hb2); (try clear hk); (try clear hi); obtain ⟨hcz14_0, hcz14_1, hfz14_0, hfz14_1⟩ := bs2_ BK322; have p325 : 0 ≤ (t324 : Int) := od_; have q325 : t324 < (l0_1.length : Int) := od_; obtain ⟨ad325, A325_5, c325_5, A325_6, c325_6, e325, hx325_0, hx325_1, hx325_2, hx325_3, hx325_4, hx325_5, hx325_6, hl325_5, hi325_5, hl325_6, hi325_6⟩ := at_T48 HR0_1.out t324 p325 q325; cases e325; replace hx325_0 := rr_ HB hx325_0; replace hx325_1 := rr_ HB hx325_1; replace hx325_2 := rr_ HB hx325_2; replace hx325_3 := rr_ HB hx325_3; replace hx325_4 := rr_ HB hx325_4; replace hx325_5 := rr_ HB hx325_5; replace hx325_6 := rr_ HB hx325_6; have HR325_5 := Aside0.mk hi325_5; have HC325_5 := Aside0.mk hl325_5; clear hi325_5 hl325_5; have HR325_6 := Aside0.mk hi325_6; have HC325_6 := Aside0.mk hl325_6; clear hi325_6 hl325_6; replace p325 := eq_true p325; replace q325 := eq_true q325; obtain ⟨hcz15_0, hcz15_1, hfz15_0, hfz15_1⟩ := bs2_ BK323) | (go_at_call 93; (with_reducible refine (model_Legal.calls k ((rd_T48 l0_1 t324).f1) a1_1 t326 _ A7.out).mono ?_); rintro e w' ⟨rfl, ⟨nd, rfl⟩⟩; (try first | exact ⟨rfl, _, World.drewN_drewN _ _ _⟩ | exact ⟨rfl, _, Eq.trans (World.drewN_drewN _ _ _) (congrArg (World.drewN _) (Nat.add_assoc _ _ _))⟩))))
    go_ret
    exact ⟨er_, hf_⟩
   ·rw [if_neg c6] at H
    exact absurd H (by simp)
  ·rw [if_neg c5] at H
   exact absurd H (by simp)
 ·rw [if_neg c4] at H
  have c4b0 : decide (0 ≤ t324) = false := decide_eq_false c4
  clear c4
  obtain rfl := Option.some.inj H
  go_enter Try.func88, Try.ntmps88
  go_wp2_with (first | ((with_reducible refine gate_dst (N := 2) rfl ?_); refine box_event ?hg (N := 2) ?hd (cs := #[.slice A0_0 l0_0.length c0_0, .slice A0_1 l0_1.length c0_1]) (t := 25) ?hr ?_; (case hd => rfl); (case hg => rfl); (case hr => first | (go_simp; done) | (go_simp; rfl)); intro gb322 hg w16 hbox hb; have n0_ := hb_ HB hb; have n1_ := Aside0.mk (hbox); have n2_ := Aside0.mk ((by rw [hg]; exact (below_size (by repeat (first | (with_reducible first | exact HB.out | apply below_alloc | apply pw_below_drewN | apply below_drew1) | exact HB.out))) : w.heap.size ≤ gb322)); have n3_ := Aside0.mk ((by rw [hg]; exact (below_size (by repeat (first | (with_reducible first | exact HB.out | apply below_alloc | apply pw_below_drewN | apply below_drew1) | exact HB.out))) : w.heap.size ≤ gb322)); clear HB; have HB := n0_; have BK322 := n1_; have GW322 := n2_; have GE322 := n3_; clear n0_ n1_ n2_ n3_; clear hb hbox hg) | ((with_reducible refine gate_dst (N := 3) rfl ?_); refine box_event ?hg (N := 3) ?hd (cs := #[.string a1_0, .int .i64 a1_1]) (t := 103) ?hr ?_; (case hd => rfl); (case hg => rfl); (case hr => first | (go_simp; done) | (go_simp; rfl)); intro gb323 hg w17 hbox hb; have n0_ := bb_ BK322 hb; have n1_ := hb_ HB hb; have n2_ := Aside0.mk (hbox); have n3_ := Aside0.mk ((by rw [hg]; exact (below_size (by repeat (first | (with_reducible first | exact HB.out | apply below_alloc | apply pw_below_drewN | apply below_drew1 | refine below_set ?_ GE322.out) | exact HB.out))) : w.heap.size ≤ gb323)); have n4_ := Aside0.mk ((by rw [hg]; exact (below_size (by repeat (first | (with_reducible first | exact HB.out | apply below_alloc | apply pw_below_drewN | apply below_drew1 | refine below_set ?_ GE322.out) | exact HB.out))) : w.heap.size ≤ gb323)); have n5_ := Aside0.mk ((by rw [hg]; exact Nat.ne_of_lt (blk_lt (g := gb322) (o := .cells #[.slice A0_0 l0_0.length c0_0, .slice A0_1 l0_1.length c0_1] 25 (0, 0)) (by (with_reducible repeat (first | refine blk_drewN ?_ _ | refine blk_drew ?_ | refine blk_alloc ?_ _)); exact BK322.out)) : gb322 ≠ gb323)); have n6_ := Aside0.mk ((by rw [hg]; exact Nat.ne_of_gt (blk_lt (g := gb322) (o := .cells #[.slice A0_0 l0_0.length c0_0, .slice A0_1 l0_1.length c0_1] 25 (0, 0)) (by (with_reducible repeat (first | refine blk_drewN ?_ _ | refine blk_drew ?_ | refine blk_alloc ?_ _)); exact BK322.out)) : gb323 ≠ gb322)); clear BK322; clear HB; have BK322 := n0_; have HB := n1_; have BK323 := n2_; have GW323 := n3_; have GE323 := n4_; have NB322_323 := n5_; have NB323_322 := n6_; clear n0_ n1_ n2_ n3_ n4_ n5_ n6_; clear hb hbox hg; have hnb18 := NB322_323.out; have hnc18 := NB323_322.out; obtain ⟨hcz19_0, hcz19_1, hfz19_0, hfz19_1⟩ := bs2_ BK322; obtain ⟨hcz20_0, hcz20_1, hfz20_0, hfz20_1⟩ := bs2_ BK323) | (go_at_call 48; (with_reducible refine (model_Place.calls _ _ l0_0 _ _ l0_1 a1_0 t324 _ ?side1 ?side2 ?side3 ?side4 A3.out).mono ?_); (case side1 => exact kc_ HR0_0 HB); (case side2 => exact HC0_0.out); (case side3 => exact kc_ HR0_1 HB); (case side4 => exact HC0_1.out); rintro e w21 ⟨rfl, hb⟩; have n0_ := bb_ BK322 hb; have n1_ := bb_ BK323 hb; have n2_ := hb_ HB hb; clear BK322; clear BK323; clear HB; have BK322 := n0_; have BK323 := n1_; have HB := n2_; clear n0_ n1_ n2_; (try clear hb); (try clear hb2); (try clear hk); (try clear hi)))
  repeat (go_quiet (first | ((with_reducible refine gate_dst (N := 2) rfl ?_); refine box_event ?hg (N := 2) ?hd (cs := #[.slice A0_0 l0_0.length c0_0, .slice A0_1 l0_1.length c0_1]) (t := 25) ?hr ?_; (case hd => rfl); (case hg => rfl); (case hr => first | (go_simp; done) | (go_simp; rfl)); intro gb322 hg w16 hbox hb; have n0_ := hb_ HB hb; have n1_ := Aside0.mk (hbox); have n2_ := Aside0.mk ((by rw [hg]; exact (below_size (by repeat (first | (with_reducible first | exact HB.out | apply below_alloc | apply pw_below_drewN | apply below_drew1) | exact HB.out))) : w.heap.size ≤ gb322)); have n3_ := Aside0.mk ((by rw [hg]; exact (below_size (by repeat (first | (with_reducible first | exact HB.out | apply below_alloc | apply pw_below_drewN | apply below_drew1) | exact HB.out))) : w.heap.size ≤ gb322)); clear HB; have HB := n0_; have BK322 := n1_; have GW322 := n2_; have GE322 := n3_; clear n0_ n1_ n2_ n3_; clear hb hbox hg) | ((with_reducible refine gate_dst (N := 3) rfl ?_); refine box_event ?hg (N := 3) ?hd (cs := #[.string a1_0, .int .i64 a1_1]) (t := 103) ?hr ?_; (case hd => rfl); (case hg => rfl); (case hr => first | (go_simp; done) | (go_simp; rfl)); intro gb323 hg w17 hbox hb; have n0_ := bb_ BK322 hb; have n1_ := hb_ HB hb; have n2_ := Aside0.mk (hbox); have n3_ := Aside0.mk ((by rw [hg]; exact (below_size (by repeat (first | (with_reducible first | exact HB.out | apply below_alloc | apply pw_below_drewN | apply below_drew1 | refine below_set ?_ GE322.out) | exact HB.out))) : w.heap.size ≤ gb323)); have n4_ := Aside0.mk ((by rw [hg]; exact (below_size (by repeat (first | (with_reducible first | exact HB.out | apply below_alloc | apply pw_below_drewN | apply below_drew1 | refine below_set ?_ GE322.out) | exact HB.out))) : w.heap.size ≤ gb323)); have n5_ := Aside0.mk ((by rw [hg]; exact Nat.ne_of_lt (blk_lt (g := gb322) (o := .cells #[.slice A0_0 l0_0.length c0_0, .slice A0_1 l0_1.length c0_1] 25 (0, 0)) (by (with_reducible repeat (first | refine blk_drewN ?_ _ | refine blk_drew ?_ | refine blk_alloc ?_ _)); exact BK322.out)) : gb322 ≠ gb323)); have n6_ := Aside0.mk ((by rw [hg]; exact Nat.ne_of_gt (blk_lt (g := gb322) (o := .cells #[.slice A0_0 l0_0.length c0_0, .slice A0_1 l0_1.length c0_1] 25 (0, 0)) (by (with_reducible repeat (first | refine blk_drewN ?_ _ | refine blk_drew ?_ | refine blk_alloc ?_ _)); exact BK322.out)) : gb323 ≠ gb322)); clear BK322; clear HB; have BK322 := n0_; have HB := n1_; have BK323 := n2_; have GW323 := n3_; have GE323 := n4_; have NB322_323 := n5_; have NB323_322 := n6_; clear n0_ n1_ n2_ n3_ n4_ n5_ n6_; clear hb hbox hg; have hnb18 := NB322_323.out; have hnc18 := NB323_322.out; obtain ⟨hcz19_0, hcz19_1, hfz19_0, hfz19_1⟩ := bs2_ BK322; obtain ⟨hcz20_0, hcz20_1, hfz20_0, hfz20_1⟩ := bs2_ BK323) | (go_at_call 48; (with_reducible refine (model_Place.calls _ _ l0_0 _ _ l0_1 a1_0 t324 _ ?side1 ?side2 ?side3 ?side4 A3.out).mono ?_); (case side1 => exact kc_ HR0_0 HB); (case side2 => exact HC0_0.out); (case side3 => exact kc_ HR0_1 HB); (case side4 => exact HC0_1.out); rintro e w21 ⟨rfl, hb⟩; have n0_ := bb_ BK322 hb; have n1_ := bb_ BK323 hb; have n2_ := hb_ HB hb; clear BK322; clear BK323; clear HB; have BK322 := n0_; have BK323 := n1_; have HB := n2_; clear n0_ n1_ n2_; (try clear hb); (try clear hb2); (try clear hk); (try clear hi))); try go_wp2_with (first | ((with_reducible refine gate_dst (N := 2) rfl ?_); refine box_event ?hg (N := 2) ?hd (cs := #[.slice A0_0 l0_0.length c0_0, .slice A0_1 l0_1.length c0_1]) (t := 25) ?hr ?_; (case hd => rfl); (case hg => rfl); (case hr => first | (go_simp; done) | (go_simp; rfl)); intro gb322 hg w16 hbox hb; have n0_ := hb_ HB hb; have n1_ := Aside0.mk (hbox); have n2_ := Aside0.mk ((by rw [hg]; exact (below_size (by repeat (first | (with_reducible first | exact HB.out | apply below_alloc | apply pw_below_drewN | apply below_drew1) | exact HB.out))) : w.heap.size ≤ gb322)); have n3_ := Aside0.mk ((by rw [hg]; exact (below_size (by repeat (first | (with_reducible first | exact HB.out | apply below_alloc | apply pw_below_drewN | apply below_drew1) | exact HB.out))) : w.heap.size ≤ gb322)); clear HB; have HB := n0_; have BK322 := n1_; have GW322 := n2_; have GE322 := n3_; clear n0_ n1_ n2_ n3_; clear hb hbox hg) | ((with_reducible refine gate_dst (N := 3) rfl ?_); refine box_event ?hg (N := 3) ?hd (cs := #[.string a1_0, .int .i64 a1_1]) (t := 103) ?hr ?_; (case hd => rfl); (case hg => rfl); (case hr => first | (go_simp; done) | (go_simp; rfl)); intro gb323 hg w17 hbox hb; have n0_ := bb_ BK322 hb; have n1_ := hb_ HB hb; have n2_ := Aside0.mk (hbox); have n3_ := Aside0.mk ((by rw [hg]; exact (below_size (by repeat (first | (with_reducible first | exact HB.out | apply below_alloc | apply pw_below_drewN | apply below_drew1 | refine below_set ?_ GE322.out) | exact HB.out))) : w.heap.size ≤ gb323)); have n4_ := Aside0.mk ((by rw [hg]; exact (below_size (by repeat (first | (with_reducible first | exact HB.out | apply below_alloc | apply pw_below_drewN | apply below_drew1 | refine below_set ?_ GE322.out) | exact HB.out))) : w.heap.size ≤ gb323)); have n5_ := Aside0.mk ((by rw [hg]; exact Nat.ne_of_lt (blk_lt (g := gb322) (o := .cells #[.slice A0_0 l0_0.length c0_0, .slice A0_1 l0_1.length c0_1] 25 (0, 0)) (by (with_reducible repeat (first | refine blk_drewN ?_ _ | refine blk_drew ?_ | refine blk_alloc ?_ _)); exact BK322.out)) : gb322 ≠ gb323)); have n6_ := Aside0.mk ((by rw [hg]; exact Nat.ne_of_gt (blk_lt (g := gb322) (o := .cells #[.slice A0_0 l0_0.length c0_0, .slice A0_1 l0_1.length c0_1] 25 (0, 0)) (by (with_reducible repeat (first | refine blk_drewN ?_ _ | refine blk_drew ?_ | refine blk_alloc ?_ _)); exact BK322.out)) : gb323 ≠ gb322)); clear BK322; clear HB; have BK322 := n0_; have HB := n1_; have BK323 := n2_; have GW323 := n3_; have GE323 := n4_; have NB322_323 := n5_; have NB323_322 := n6_; clear n0_ n1_ n2_ n3_ n4_ n5_ n6_; clear hb hbox hg; have hnb18 := NB322_323.out; have hnc18 := NB323_322.out; obtain ⟨hcz19_0, hcz19_1, hfz19_0, hfz19_1⟩ := bs2_ BK322; obtain ⟨hcz20_0, hcz20_1, hfz20_0, hfz20_1⟩ := bs2_ BK323) | (go_at_call 48; (with_reducible refine (model_Place.calls _ _ l0_0 _ _ l0_1 a1_0 t324 _ ?side1 ?side2 ?side3 ?side4 A3.out).mono ?_); (case side1 => exact kc_ HR0_0 HB); (case side2 => exact HC0_0.out); (case side3 => exact kc_ HR0_1 HB); (case side4 => exact HC0_1.out); rintro e w21 ⟨rfl, hb⟩; have n0_ := bb_ BK322 hb; have n1_ := bb_ BK323 hb; have n2_ := hb_ HB hb; clear BK322; clear BK323; clear HB; have BK322 := n0_; have BK323 := n1_; have HB := n2_; clear n0_ n1_ n2_; (try clear hb); (try clear hb2); (try clear hk); (try clear hi))))
  go_ret
  exact ⟨er_, hf_⟩
end Go.Proofs.Ytaiglhfmmdajdaa.Pm
end
section
namespace Go.Proofs.Ytaiglhfmmdajdaa.Pm
open Go.RowKit Go.Proofs.YtaiglhfmmdajdaaW.PrintWords Go.Proofs.YtaiglhfmmdajdaaW.PrintLast Go.Proofs.YtaiglhfmmdajdaaW.PrintMore
attribute [local go_sem] max2_int min2_int max_two min_two max_three min_three max_four min_four   -- for this text's walks alone
set_option linter.unusedVariables false
set_option linter.unusedSimpArgs false
def legalB (kind event : Int) : Bool :=
  if event = 1 ∨ event = 5 then decide (1 ≤ kind ∧ kind ≤ 5) else if event = 2 ∨ event = 3 then decide (kind = 1 ∨ kind = 2) else if event = 4 then decide (3 ≤ kind ∧ kind ≤ 5) else false
theorem legal_eq (a b : Int) : model_Legal.f 2 a b = some (legalB a b) := by
  unfold model_Legal.f legalB
  by_cases h1 : b = 1
  · subst h1; simp only [model_Legal.j0]; by_cases h2 : a ≥ 1 <;> by_cases h3 : a ≤ 5 <;> simp [h2, h3]
  by_cases h5 : b = 5
  · subst h5; simp only [model_Legal.j0]; by_cases h2 : a ≥ 1 <;> by_cases h3 : a ≤ 5 <;> simp [h2, h3]
  rw [if_neg h1, show (b == 5) = false by simpa using h5]
  simp only [model_Legal.j0, Bool.false_eq_true, if_false]
  have h15 : ¬ (b = 1 ∨ b = 5) := by omega
  rw [if_neg h15]
  by_cases h2 : b = 2
  · subst h2; simp only [model_Legal.j1]; by_cases h3 : a = 1 <;> by_cases h4 : a = 2 <;> simp [h3, h4]
  by_cases h3 : b = 3
  · subst h3; simp only [model_Legal.j1]; by_cases h3 : a = 1 <;> by_cases h4 : a = 2 <;> simp [h3, h4]
  rw [if_neg h2, show (b == 3) = false by simpa using h3]
  simp only [model_Legal.j1, Bool.false_eq_true, if_false]
  have h23 : ¬ (b = 2 ∨ b = 3) := by omega
  rw [if_neg h23]
  by_cases h4 : b = 4
  · subst h4; by_cases h2 : a ≥ 3 <;> by_cases h3 : a ≤ 5 <;> simp [h2, h3]
  · simp [h4]
theorem wrap_lt {i n : Int} (h0 : 0 ≤ i) (h : i < n) (hn : n ≤ 9223372036854775807) : wrap64 (i + 1) = i + 1 := by
  unfold wrap64
  omega
def memB (l : List ByteArray) (s : ByteArray) : Bool := l.any (fun x => s.toList == x.toList)
theorem rdOf_get {α : Type} (z : α) (l : List α) (i : Nat) (h : i < l.length) : rdOf z l (i : Int) = l[i] := by
  simp [rdOf, List.getD_eq_getElem?_getD, List.getElem?_eq_getElem h]
theorem index_any (l : List ByteArray) (s : ByteArray) (hn : l.length ≤ 9223372036854775807) (d : Nat) : ∀ (i k : Nat), i + d = l.length → d < k → ∃ r, slices_Index_string_string.l0 k l s l.length i = some r ∧ decide (r ≥ 0) = (l.drop i).any (fun x => s.toList == x.toList) := by
  induction d with
  | zero =>
    intro i k hi hk
    obtain ⟨k, rfl⟩ : ∃ m, k = m + 1 := ⟨k - 1, by omega⟩
    refine ⟨-1, ?_, ?_⟩
    · simp only [slices_Index_string_string.l0]
      rw [if_neg (by omega)]
    · rw [List.drop_of_length_le (by omega)]
      rfl
  | succ d ih =>
    intro i k hi hk
    obtain ⟨k, rfl⟩ : ∃ m, k = m + 1 := ⟨k - 1, by omega⟩
    have hlt : i < l.length := by omega
    simp only [slices_Index_string_string.l0]
    rw [if_pos (by omega), if_pos (by omega), if_pos (by omega), rdOf_get _ _ _ hlt, List.drop_eq_getElem_cons hlt, List.any_cons]
    by_cases he : s.toList = l[i].toList
    · rw [if_pos he]
      refine ⟨i, rfl, ?_⟩
      rw [show (s.toList == l[i].toList) = true by simpa using he]
      simp
    · rw [if_neg he, show (s.toList == l[i].toList) = false by simpa using he, Bool.false_or, wrap_lt (n := (l.length : Int)) (by omega) (by omega) (by omega)]
      exact ih (i + 1) k (by omega) (by omega)
theorem contains_eq (l : List ByteArray) (s : ByteArray) (hn : l.length ≤ 9223372036854775807) (k : Nat) (hk : l.length < k) : slices_Contains_string_string.f k l s = some (memB l s) := by
  obtain ⟨r, hr, hd⟩ := index_any l s hn l.length 0 k (by omega) hk
  unfold slices_Contains_string_string.f slices_Index_string_string.f
  have hr' : _ = some r := hr
  simp only [Int.natCast_zero, Int.ofNat_eq_natCast, Int.cast_ofNat_Int] at hr'
  rw [hr', Option.bind_some, hd]
  rfl
abbrev hasOn_p (a : ByteArray) (b : Int) (x : S103) : Bool := a.toList == x.f0.toList && (b == x.f1)
def hasOn (l : List (S103)) (a : ByteArray) (b : Int) : Bool := l.any (hasOn_p a b)
theorem hasOn_any (l : List (S103)) (a : ByteArray) (b : Int) (hn : l.length ≤ 9223372036854775807) (d : Nat) : ∀ (i k : Nat), i + d = l.length → d < k → ∃ r, api_On_94.l0 k l l.length i a b = some r ∧ decide (r ≥ 0) = (l.drop i).any (hasOn_p a b) := by
  induction d with
  | zero =>
    intro i k hi hk
    obtain ⟨k, rfl⟩ : ∃ m, k = m + 1 := ⟨k - 1, by omega⟩
    refine ⟨-1, ?_, ?_⟩
    · simp only [api_On_94.l0]
      rw [if_neg (by omega)]
    · rw [List.drop_of_length_le (by omega)]
      rfl
  | succ d ih =>
    intro i k hi hk
    obtain ⟨k, rfl⟩ : ∃ m, k = m + 1 := ⟨k - 1, by omega⟩
    have hlt : i < l.length := by omega
    have hrd : rd_T103 l (i : Int) = l[i] := by simp [rd_T103, List.getD_eq_getElem?_getD, List.getElem?_eq_getElem hlt]
    simp only [api_On_94.l0]
    rw [if_pos (by omega), if_pos (by omega), if_pos (by omega), hrd, List.drop_eq_getElem_cons hlt, List.any_cons]
    cases he : hasOn_p a b l[i] with
    | true =>
      rw [if_pos he]
      exact ⟨i, rfl, by simp⟩
    | false =>
      rw [if_neg (show ¬ (hasOn_p a b l[i]) = true by rw [he]; simp), Bool.false_or, wrap_lt (n := (l.length : Int)) (by omega) (by omega) (by omega)]
      exact ih (i + 1) k (by omega) (by omega)
theorem hasOn_eq (l : List (S103)) (a : ByteArray) (b : Int) (hn : l.length ≤ 9223372036854775807) (k : Nat) (hk : l.length < k) : api_On_89.f k l a b = some (hasOn l a b) := by
  obtain ⟨r, hr, hd⟩ := hasOn_any l a b hn l.length 0 k (by omega) hk
  unfold api_On_89.f api_On_94.f
  have hr' : _ = some r := hr
  simp only [Int.natCast_zero, Int.ofNat_eq_natCast, Int.cast_ofNat_Int] at hr'
  rw [hr', Option.bind_some, hd]
  rfl
def placeI (l : List (S48)) (id : ByteArray) : Int := fidx (model_Place.p id) l
theorem fidx_lt {α : Type} (p : α → Bool) (l : List α) : fidx p l < l.length := by
  unfold fidx
  cases h : l.findIdx? p with
  | none => show (-1 : Int) < _; omega
  | some i =>
    obtain ⟨hi, _⟩ := List.findIdx?_eq_some_iff_getElem.1 h
    show (i : Int) < _
    omega
theorem placeI_lt (l : List (S48)) (id : ByteArray) : placeI l id < l.length := fidx_lt _ _
def onB (l : List (S48)) (a : ByteArray) (b : Int) : Bool := if 0 ≤ placeI l a then legalB (rd_T48 l (placeI l a)).f1 b else false
theorem isOn_eq (fs : List ByteArray) (l : List (S48)) (a : ByteArray) (b : Int) : model_isOn.f 2 fs l a b = some (onB l a b) := by
  unfold model_isOn.f onB model_Place.f
  rw [show fidx (model_Place.p a) l = placeI l a from rfl, Option.bind_some]
  by_cases h : 0 ≤ placeI l a
  · rw [if_pos h, if_pos h, if_pos (placeI_lt l a), legal_eq, if_pos h]
    rfl
  · rw [if_neg h, if_neg h]
def opsL : List ByteArray := [(⟨#[60]⟩ : ByteArray), (⟨#[60, 61]⟩ : ByteArray), (⟨#[61]⟩ : ByteArray), (⟨#[33, 61]⟩ : ByteArray), (⟨#[62, 61]⟩ : ByteArray), (⟨#[62]⟩ : ByteArray)]
def ifB (fs : List ByteArray) (file op : ByteArray) (n : Int) : Bool := memB opsL op && (memB fs file && decide (-1000000 ≤ n ∧ n ≤ 1000000))
theorem isIf_eq (fs : List ByteArray) (l : List (S48)) (a b : ByteArray) (c : Int) (hn : fs.length ≤ 9223372036854775807) (k : Nat) (hk : fs.length < k) (hk6 : 6 < k) : model_isIf.f k fs l a b c = some (ifB fs a b c) := by
  unfold model_isIf.f ifB
  rw [show ([(⟨#[60]⟩ : ByteArray), (⟨#[60, 61]⟩ : ByteArray), (⟨#[61]⟩ : ByteArray), (⟨#[33, 61]⟩ : ByteArray), (⟨#[62, 61]⟩ : ByteArray), (⟨#[62]⟩ : ByteArray)] : List ByteArray) = opsL by rfl, contains_eq opsL b (by decide) k hk6, contains_eq fs a hn k hk, Option.bind_some, Option.bind_some]
  cases memB opsL b <;> cases memB fs a <;> simp
  by_cases h : c ≥ -1000000 <;> by_cases h2 : c ≤ 1000000 <;> simp [h, h2] <;> omega
end Go.Proofs.Ytaiglhfmmdajdaa.Pm
end
section
namespace Go.Proofs.Ytaiglhfmmdajdaa.Pm
open Go.RowKit Go.Proofs.YtaiglhfmmdajdaaW.PrintWords Go.Proofs.YtaiglhfmmdajdaaW.PrintLast Go.Proofs.YtaiglhfmmdajdaaW.PrintMore
attribute [local go_sem] max2_int min2_int max_two min_two max_three min_three max_four min_four   -- for this text's walks alone
set_option linter.unusedVariables false
set_option linter.unusedSimpArgs false
def onOk (l : List (S48)) (on : List (S103)) (i : Nat) : Bool := onB l (rd_T103 on i).f0 (rd_T103 on i).f1 && !hasOn (on.take i) (rd_T103 on i).f0 (rd_T103 on i).f1
def ifsOk (fs : List ByteArray) (l : List (S50)) : Bool := !l.any (fun c => !ifB fs c.f0 c.f1 c.f2)
def sentryB (fs : List ByteArray) (l : List (S48)) (on : List (S103)) (ifs : List (S50)) : Bool :=
  decide (on.length ≤ 3 ∧ ifs.length ≤ 2 ∧ on.length + ifs.length ≠ 0) && ((List.range on.length).all (onOk l on) && ifsOk fs ifs)
def model_isSentry.f (l0_0 : List ByteArray) (l0_1 : List (S48)) (l1_0 : List (S103)) (l1_1 : List (S50)) : Option Bool := some (sentryB l0_0 l0_1 l1_0 l1_1)
theorem keepc {w1 w' : World} {a : Addr} {v : Value} (hb : Below w1.heap.size w1 w') (hc : w1.cell? a = some v) : w'.cell? a = some v := (hb.cell (World.block_lt_of_cell? _ _ hc)).trans hc
theorem keepb {w w1 w' : World} (hb : Below w1.heap.size w1 w') (hB : Below w.heap.size w w1) : Below w.heap.size w w' := below_then hB hB.size hb
theorem model_isSentry.eg : ∀ args w, (callFunc 91 args).run Try.prog w = .ok (.enter 91 args) w := enters_of Try.func91 (by kernel_rfl) rfl
set_option maxHeartbeats 4000000 in
theorem model_isSentry.closure (b : Nat) (A0_0 : Option Addr) (c0_0 : Nat) (l0_0 : List ByteArray) (A0_1 : Option Addr) (c0_1 : Nat) (l0_1 : List (S48)) (W : World) (hm0 : W.cell? ⟨b, 0, none⟩ = some (.slice A0_0 l0_0.length c0_0)) (hm1 : W.cell? ⟨b, 1, none⟩ = some (.slice A0_1 l0_1.length c0_1))
    (hr0_0 : Kd.C Kd.string W A0_0 l0_0.length l0_0) (hc0_0 : l0_0.length ≤ c0_0) (hr0_1 : Kd.C k48 W A0_1 l0_1.length l0_1) (hc0_1 : l0_1.length ≤ c0_1) (x : S50) (cs : List Value) (hK : Kd.K k50 W x cs) :
    Calls Try.prog 91 (#[.agg cs.toArray] ++ #[.pointer (some ⟨b, 0, none⟩)]) W fun e w' => e = .returned (.bool (!ifB l0_0 x.f0 x.f1 x.f2)) ∧ Below W.heap.size W w' := by
  obtain rfl := k50_open hK
  have hb := World.block_lt_of_cell? W _ hm0
  simp only at hb
  have hW1 := below_alloc (Below.refl W.heap.size W) (.cells #[.string x.f0, .string x.f1, .int .i64 x.f2] 50)
  have hif := model_isIf.calls (l0_0.length + 7) A0_0 c0_0 l0_0 A0_1 c0_1 l0_1 x.f0 x.f1 x.f2 _ _ (Kd.C_below hr0_0 hW1) hc0_0 (Kd.C_below hr0_1 hW1) hc0_1 (isIf_eq l0_0 l0_1 x.f0 x.f1 x.f2 hr0_0.2.1 (l0_0.length + 7) (by omega) (by omega))
  have HW := Lib.hid hW1
  clear hr0_0 hr0_1 hW1 hK
  obtain ⟨T, hT⟩ : ∃ T, T = ifB l0_0 x.f0 x.f1 x.f2 := ⟨_, rfl⟩
  rw [← hT] at hif ⊢
  clear hT
  have hu36 := Try.underlying25
  have hu25 := Try.underlying50
  go_enter Try.func91, Try.ntmps91
  go_wp2_with (go_at_call 92; refine hif.mono ?_; rintro e w' ⟨rfl, hb'⟩)
  go_ret
  exact ⟨rfl, keepb hb' HW.out⟩
set_option maxHeartbeats 8000000 in
set_option maxRecDepth 100000 in
theorem model_isSentry.calls (A0_0 : Option Addr) (c0_0 : Nat) (l0_0 : List ByteArray) (A0_1 : Option Addr) (c0_1 : Nat) (l0_1 : List (S48)) (A1_0 : Option Addr) (c1_0 : Nat) (l1_0 : List (S103)) (A1_1 : Option Addr) (c1_1 : Nat) (l1_1 : List (S50)) (r : Bool) (w : World) (hr0_0 : Kd.C Kd.string w A0_0 l0_0.length l0_0) (hc0_0 : l0_0.length ≤ c0_0) (hr0_1 : Kd.C k48 w A0_1 l0_1.length l0_1) (hc0_1 : l0_1.length ≤ c0_1) (hr1_0 : Kd.C k103 w A1_0 l1_0.length l1_0) (hc1_0 : l1_0.length ≤ c1_0) (hr1_1 : Kd.C k50 w A1_1 l1_1.length l1_1) (hc1_1 : l1_1.length ≤ c1_1) (h : model_isSentry.f l0_0 l0_1 l1_0 l1_1 = some r) :
    Calls Try.prog 85 #[.agg #[.slice A0_0 l0_0.length c0_0, .slice A0_1 l0_1.length c0_1], .agg #[.slice A1_0 l1_0.length c1_0, .slice A1_1 l1_1.length c1_1]] w fun e w' => e = .returned (.bool r) ∧ Below w.heap.size w w' := by
  obtain rfl := Option.some.inj h
  clear h
  have hu36 := Try.underlying25
  have hu29 := Try.underlying54
  have hu39 := Try.underlying103
  have hbound : l1_0.length ≤ 9223372036854775807 ∧ l1_1.length ≤ 9223372036854775807 := ⟨hr1_0.2.1, hr1_1.2.1⟩
  by_cases hA : 3 < l1_0.length
  · have e : sentryB l0_0 l0_1 l1_0 l1_1 = false := by simp [sentryB]; omega
    rw [e]
    have hA' : (3 : Int) < l1_0.length := by omega
    clear hr0_0 hr0_1 hr1_0 hr1_1 e hbound
    go_enter Try.func85, Try.ntmps85
    go_wp2
    go_ret
    exact ⟨rfl, below_alloc (below_alloc (Below.refl _ _) _) _⟩
  have hA' : ¬ (3 : Int) < l1_0.length := by omega
  by_cases hB : 2 < l1_1.length
  · have e : sentryB l0_0 l0_1 l1_0 l1_1 = false := by simp [sentryB]; omega
    rw [e]
    have hB' : (2 : Int) < l1_1.length := by omega
    clear hr0_0 hr0_1 hr1_0 hr1_1 e hbound
    go_enter Try.func85, Try.ntmps85
    go_wp2
    go_ret
    exact ⟨rfl, below_alloc (below_alloc (Below.refl _ _) _) _⟩
  have hB' : ¬ (2 : Int) < l1_1.length := by omega
  by_cases hC : l1_0.length + l1_1.length = 0
  · have h1 : l1_0 = [] := List.eq_nil_of_length_eq_zero (by omega)
    have h2 : l1_1 = [] := List.eq_nil_of_length_eq_zero (by omega)
    subst h1 h2
    have e : sentryB l0_0 l0_1 [] [] = false := by simp [sentryB]
    rw [e]
    clear hr0_0 hr0_1 hr1_0 hr1_1 e hbound hA hA' hB hB' hC
    go_enter Try.func85, Try.ntmps85
    go_wp2
    go_ret
    exact ⟨rfl, below_alloc (below_alloc (Below.refl _ _) _) _⟩
  have hC' : (((l1_0.length : Int) + (l1_1.length : Int)) == 0) = false := by
    have : ((l1_0.length : Int) + (l1_1.length : Int)) ≠ 0 := by omega
    simpa using this
  have HR := Lib.hid (And.intro hr0_0 (And.intro hr0_1 (And.intro hr1_0 hr1_1)))
  clear hr0_0 hr0_1 hr1_0 hr1_1
  obtain ⟨n, hn⟩ : ∃ n, n = l1_0.length := ⟨_, rfl⟩
  obtain ⟨m, hm⟩ : ∃ m, m = l1_1.length := ⟨_, rfl⟩
  have HN := Lib.hid (And.intro hn hm)
  rw [← hn] at hbound hA hA' hC hC' hc1_0 ⊢
  rw [← hm] at hbound hB hB' hC hC' hc1_1 ⊢
  clear hn hm
  have hn3 : (n : Int) ≤ 3 := by omega
  have hm2 : (m : Int) ≤ 2 := by omega
  go_enter Try.func85, Try.ntmps85
  go_wp2
  obtain ⟨W1, hW1⟩ : ∃ W1, W1 = (w.alloc (.cells #[.slice A0_0 l0_0.length c0_0, .slice A0_1 l0_1.length c0_1] 25)).alloc (.cells #[.slice A1_0 n c1_0, .slice A1_1 m c1_1] 54) := ⟨_, rfl⟩
  have hb1 : Below w.heap.size w W1 := by rw [hW1]; exact below_alloc (below_alloc (Below.refl _ _) _) _
  have hm0 : W1.cell? ⟨w.heap.size, 0, none⟩ = some (.slice A0_0 l0_0.length c0_0) := by rw [hW1]; simp
  have hm1 : W1.cell? ⟨w.heap.size, 1, none⟩ = some (.slice A0_1 l0_1.length c0_1) := by rw [hW1]; simp
  have hs0 : W1.cell? ⟨w.heap.size + 1, 0, none⟩ = some (.slice A1_0 n c1_0) := by rw [hW1]; simp
  have hs1 : W1.cell? ⟨w.heap.size + 1, 1, none⟩ = some (.slice A1_1 m c1_1) := by rw [hW1]; simp
  have hsz : W1.heap.size = w.heap.size + 2 := by rw [hW1]; simp
  rw [← hW1]
  have H1 := Lib.hid (And.intro hb1 (And.intro hm0 (And.intro hm1 (And.intro hs0 (And.intro hs1 hsz)))))
  clear hW1 hb1 hm0 hm1 hs0 hs1 hsz
  go_loopg [30] n (fun gg s30 wr => ∃ i : Nat, i ≤ n ∧ n - i ≤ gg ∧ s30 = .int .i64 i ∧ Hid (Below W1.heap.size W1 wr ∧ ∀ j, j < i → onOk l0_1 l1_0 j = true))
  case atStart => exact ⟨0, Nat.zero_le _, by omega, rfl, Lib.hid ⟨Below.refl _ _, fun j hj => absurd hj (Nat.not_lt_zero _)⟩⟩
  case round =>
    obtain ⟨i, hin, hig, rfl, X⟩ := hrel
    have hbw : Below w.heap.size w wr := below_then H1.out.1 H1.out.1.size X.out.1
    have HBW := Lib.hid hbw
    clear hbw
    by_cases hlt : i < n
    · have hltz : (i : Int) < (n : Int) := by omega
      obtain ⟨ad, e, hx0, hx1⟩ := at_T103 HR.out.2.2.1 (i : Int) (by omega) (by have := HN.out; omega)
      cases e
      simp only [Int.toNat_natCast] at hx0 hx1
      obtain ⟨x, hx⟩ : ∃ x, x = rd_T103 l1_0 (i : Int) := ⟨_, rfl⟩
      rw [← hx] at hx0 hx1
      have HX := Lib.hid hx
      clear hx
      replace hx0 := (HBW.out.cell (World.block_lt_of_cell? w _ hx0)).trans hx0
      replace hx1 := (HBW.out.cell (World.block_lt_of_cell? w _ hx1)).trans hx1
      go_wp2
      clear hx0 hx1
      obtain ⟨W2, hW2⟩ : ∃ W2, W2 = wr.alloc (.cells #[.string x.f0, .int .i64 x.f1] 103) := ⟨_, rfl⟩
      have hb2 : Below wr.heap.size wr W2 := by rw [hW2]; exact below_alloc (Below.refl _ _) _
      have hx0 : W2.cell? ⟨wr.heap.size, 0, none⟩ = some (.string x.f0) := by rw [hW2]; simp
      have hx1 : W2.cell? ⟨wr.heap.size, 1, none⟩ = some (.int .i64 x.f1) := by rw [hW2]; simp
      rw [← hW2]
      clear hW2
      have hlo : w.heap.size + 2 ≤ wr.heap.size := by have := X.out.1.size; have := H1.out.2.2.2.2.2; omega
      have hm0 : W2.cell? ⟨w.heap.size, 0, none⟩ = some (.slice A0_0 l0_0.length c0_0) := (hb2.cell (p := ⟨_, _, none⟩) (by simp only; omega)).trans ((X.out.1.cell (p := ⟨_, _, none⟩) (by simp only; have := H1.out.2.2.2.2.2; omega)).trans H1.out.2.1)
      have hm1 : W2.cell? ⟨w.heap.size, 1, none⟩ = some (.slice A0_1 l0_1.length c0_1) := (hb2.cell (p := ⟨_, _, none⟩) (by simp only; omega)).trans ((X.out.1.cell (p := ⟨_, _, none⟩) (by simp only; have := H1.out.2.2.2.2.2; omega)).trans H1.out.2.2.1)
      have hs0 : W2.cell? ⟨w.heap.size + 1, 0, none⟩ = some (.slice (some ad) n c1_0) := (hb2.cell (p := ⟨_, _, none⟩) (by simp only; omega)).trans ((X.out.1.cell (p := ⟨_, _, none⟩) (by simp only; have := H1.out.2.2.2.2.2; omega)).trans H1.out.2.2.2.1)
      have hbw2 : Below w.heap.size w W2 := below_then HBW.out HBW.out.size hb2
      have hon := fun (W : World) (hb : Below w.heap.size w W) => model_isOn.calls 2 _ c0_0 l0_0 _ c0_1 l0_1 x.f0 x.f1 _ W (Kd.C_below HR.out.1 hb) hc0_0 (Kd.C_below HR.out.2.1 hb) hc0_1 (isOn_eq l0_0 l0_1 x.f0 x.f1)
      have hin2 : i ≤ c1_0 := by omega
      have el : (l1_0.take i).length = i := by rw [List.length_take]; have := HN.out; omega
      have hhas : ∀ (W : World), Below w.heap.size w W → Calls Try.prog 89 #[.slice (some ad) i c1_0, .agg #[.string x.f0, .int .i64 x.f1]] W fun e w' => e = .returned (.bool (hasOn (l1_0.take i) x.f0 x.f1)) ∧ Below W.heap.size W w' := fun W hb => by
        have := api_On_89.calls (n + 1) (some ad) c1_0 (l1_0.take i) x.f0 x.f1 _ W (Kd.C_below (Kd.C_take HR.out.2.2.1 (show i ≤ l1_0.length by have := HN.out; omega)) hb) (by rw [el]; omega) (hasOn_eq (l1_0.take i) x.f0 x.f1 (by rw [el]; omega) (n + 1) (by rw [el]; omega))
        rw [el] at this
        exact this
      have hxo : onOk l0_1 l1_0 i = (onB l0_1 x.f0 x.f1 && !hasOn (l1_0.take i) x.f0 x.f1) := by rw [HX.out]; rfl
      have HXO := Lib.hid hxo
      have HON := Lib.hid hon
      have HHAS := Lib.hid hhas
      clear hxo hon hhas el
      cases hq : onB l0_1 x.f0 x.f1 with
      | false =>
        have hon := HON.out
        rw [hq] at hon HXO
        clear hq HON HHAS
        refine start_ (n := 12) (S := fun w' => (w'.cell? ⟨w.heap.size, 0, none⟩ = some (.slice A0_0 l0_0.length c0_0) ∧ w'.cell? ⟨w.heap.size, 1, none⟩ = some (.slice A0_1 l0_1.length c0_1) ∧ w'.cell? ⟨w.heap.size + 1, 0, none⟩ = some (.slice (some ad) n c1_0) ∧ w'.cell? ⟨wr.heap.size, 0, none⟩ = some (.string x.f0) ∧ w'.cell? ⟨wr.heap.size, 1, none⟩ = some (.int .i64 x.f1)) ∧ Below W2.heap.size W2 w') (ds := []) #[false, false, false, false, false, false, false, false, false, false, false, false] (by kernel_rfl) rfl rfl ⟨⟨hm0, hm1, hs0, hx0, hx1⟩, below_drew1 (Below.refl _ _)⟩ (fun hHeld => ?_)
        generalize W2.drew = W3 at hHeld ⊢
        refine take_ (i := 0) (N := (some 35)) (v := ?_) (a' := ?_) #[true, false, false, false, false, false, false, false, false, false, false, false] rfl rfl (by kernel_rfl) (fun _ _ _ h => h) (Or.inl ⟨by rfl, ?_⟩) hHeld ?_ ?_
        rotate_left
        · rintro w' ⟨⟨s0, s1, s2, s3, s4⟩, _⟩
          go_simp
          with_reducible rfl
        rotate_left
        · simp only [Act.put, List.setIfInBounds_toArray, List.set_cons_zero, List.set_cons_succ, i64_w, i32_w]
          rfl
        refine take_ (i := 1) (N := (some 36)) (v := ?_) (a' := ?_) #[true, true, false, false, false, false, false, false, false, false, false, false] rfl rfl (by kernel_rfl) (fun _ _ _ h => h) (Or.inl ⟨by rfl, ?_⟩) hHeld ?_ ?_
        rotate_left
        · rintro w' ⟨⟨s0, s1, s2, s3, s4⟩, _⟩
          go_simp
          with_reducible rfl
        rotate_left
        · simp only [Act.put, List.setIfInBounds_toArray, List.set_cons_zero, List.set_cons_succ, i64_w, i32_w]
          rfl
        refine one_ (i := 2) (N := (some 37)) #[true, true, true, false, false, false, false, false, false, false, false, false] rfl rfl (by kernel_rfl) (by decide) (fun K hK => ?_)
        refine goes_ Try.func88 (by kernel_rfl) rfl #[.agg #[.slice A0_0 l0_0.length c0_0, .slice A0_1 l0_1.length c0_1], .agg #[.string x.f0, .int .i64 x.f1]] (by rfl) rfl rfl (by (try simp only [List.map_toArray, List.map_cons, List.map_nil]); first | done | rfl) ?_
        with_reducible refine (hon _ (keepb hHeld.2 hbw2)).mono ?_
        rintro e w' ⟨rfl, hb'⟩
        refine ⟨_, rfl, ?_⟩
        refine hK.out _ _ ⟨⟨keepc hb' hHeld.1.1, keepc hb' hHeld.1.2.1, keepc hb' hHeld.1.2.2.1, keepc hb' hHeld.1.2.2.2.1, keepc hb' hHeld.1.2.2.2.2⟩, keepb hb' hHeld.2⟩ (fun hHeld => ?_)
        clear hK K
        refine norm_ (a' := ?_) ?_ ?_
        rotate_left
        · show Act.put _ (some 37) _ = _
          simp only [Act.put, List.setIfInBounds_toArray, List.set_cons_zero, List.set_cons_succ, i64_w, i32_w]
          rfl
        refine pure_ (i := 3) (N := (some 38)) (v := ?_) (a' := ?_) #[true, true, true, true, false, false, false, false, false, false, false, false] rfl rfl (by kernel_rfl) (fun _ _ _ h => h) (Or.inl ⟨by rfl, ?_⟩) ?_ ?_
        rotate_left
        · intro w'
          go_simp
          with_reducible rfl
        rotate_left
        · simp only [Act.put, List.setIfInBounds_toArray, List.set_cons_zero, List.set_cons_succ, i64_w, i32_w]
          rfl
        refine pure_ (i := 4) (N := (some 39)) (v := ?_) (a' := ?_) #[true, true, true, true, true, false, false, false, false, false, false, false] rfl rfl (by kernel_rfl) (fun _ _ _ h => h) (Or.inl ⟨by rfl, ?_⟩) ?_ ?_
        rotate_left
        · intro w'
          go_simp
          with_reducible rfl
        rotate_left
        · simp only [Act.put, List.setIfInBounds_toArray, List.set_cons_zero, List.set_cons_succ, i64_w, i32_w]
          rfl
        refine pure_ (i := 5) (N := (some 40)) (v := undef) (a' := ?_) #[true, true, true, true, true, true, false, false, false, false, false, false] rfl rfl (by kernel_rfl) (fun _ _ _ h => h) (Or.inr ⟨by rfl, rfl⟩) ?_ ?_
        rotate_left
        · simp only [Act.put, List.setIfInBounds_toArray, List.set_cons_zero, List.set_cons_succ, i64_w, i32_w]
          rfl
        refine pure_ (i := 6) (N := (some 41)) (v := undef) (a' := ?_) #[true, true, true, true, true, true, true, false, false, false, false, false] rfl rfl (by kernel_rfl) (fun _ _ _ h => h) (Or.inr ⟨by rfl, rfl⟩) ?_ ?_
        rotate_left
        · simp only [Act.put, List.setIfInBounds_toArray, List.set_cons_zero, List.set_cons_succ, i64_w, i32_w]
          rfl
        refine pure_ (i := 7) (N := (some 42)) (v := undef) (a' := ?_) #[true, true, true, true, true, true, true, true, false, false, false, false] rfl rfl (by kernel_rfl) (fun _ _ _ h => h) (Or.inr ⟨by rfl, rfl⟩) ?_ ?_
        rotate_left
        · simp only [Act.put, List.setIfInBounds_toArray, List.set_cons_zero, List.set_cons_succ, i64_w, i32_w]
          rfl
        refine pure_ (i := 8) (N := (some 43)) (v := undef) (a' := ?_) #[true, true, true, true, true, true, true, true, true, false, false, false] rfl rfl (by kernel_rfl) (fun _ _ _ h => h) (Or.inr ⟨by rfl, rfl⟩) ?_ ?_
        rotate_left
        · simp only [Act.put, List.setIfInBounds_toArray, List.set_cons_zero, List.set_cons_succ, i64_w, i32_w]
          rfl
        refine pure_ (i := 9) (N := (some 44)) (v := undef) (a' := ?_) #[true, true, true, true, true, true, true, true, true, true, false, false] rfl rfl (by kernel_rfl) (fun _ _ _ h => h) (Or.inr ⟨by rfl, rfl⟩) ?_ ?_
        rotate_left
        · simp only [Act.put, List.setIfInBounds_toArray, List.set_cons_zero, List.set_cons_succ, i64_w, i32_w]
          rfl
        refine pure_ (i := 10) (N := (some 45)) (v := undef) (a' := ?_) #[true, true, true, true, true, true, true, true, true, true, true, false] rfl rfl (by kernel_rfl) (fun _ _ _ h => h) (Or.inr ⟨by rfl, rfl⟩) ?_ ?_
        rotate_left
        · simp only [Act.put, List.setIfInBounds_toArray, List.set_cons_zero, List.set_cons_succ, i64_w, i32_w]
          rfl
        refine pure_ (i := 11) (N := (some 46)) (v := ?_) (a' := ?_) #[true, true, true, true, true, true, true, true, true, true, true, true] rfl rfl (by kernel_rfl) (fun _ _ _ h => h) (Or.inl ⟨by rfl, ?_⟩) ?_ ?_
        rotate_left
        · intro w'
          go_simp
          with_reducible rfl
        rotate_left
        · simp only [Act.put, List.setIfInBounds_toArray, List.set_cons_zero, List.set_cons_succ, i64_w, i32_w]
          rfl
        refine done_ (by kernel_rfl) ?_
        have hbx := keepb hHeld.2 hbw2
        have he : sentryB l0_0 l0_1 l1_0 l1_1 = false := by
          have h1 : (List.range l1_0.length).all (onOk l0_1 l1_0) = false := List.all_eq_false.2 ⟨i, List.mem_range.2 (by have := HN.out; omega), by rw [HXO.out]; simp⟩
          simp [sentryB, h1]
        have HE := Lib.hid he
        clear hHeld he
        go_wp2
        go_ret
        exact ⟨by rw [HE.out]; rfl, hbx⟩
      | true =>
        have hon := HON.out
        have hhas := HHAS.out
        rw [hq] at hon HXO
        clear hq HON HHAS
        have p0 : (0 : Int) ≤ i := by omega
        have p1 : (i : Int) ≤ n := by omega
        have p2 : (i : Int) ≤ c1_0 := by omega
        refine start_ (n := 12) (S := fun w' => (w'.cell? ⟨w.heap.size, 0, none⟩ = some (.slice A0_0 l0_0.length c0_0) ∧ w'.cell? ⟨w.heap.size, 1, none⟩ = some (.slice A0_1 l0_1.length c0_1) ∧ w'.cell? ⟨w.heap.size + 1, 0, none⟩ = some (.slice (some ad) n c1_0) ∧ w'.cell? ⟨wr.heap.size, 0, none⟩ = some (.string x.f0) ∧ w'.cell? ⟨wr.heap.size, 1, none⟩ = some (.int .i64 x.f1)) ∧ Below W2.heap.size W2 w') (ds := []) #[false, false, false, false, false, false, false, false, false, false, false, false] (by kernel_rfl) rfl rfl ⟨⟨hm0, hm1, hs0, hx0, hx1⟩, below_drew1 (Below.refl _ _)⟩ (fun hHeld => ?_)
        generalize W2.drew = W3 at hHeld ⊢
        refine take_ (i := 0) (N := (some 35)) (v := ?_) (a' := ?_) #[true, false, false, false, false, false, false, false, false, false, false, false] rfl rfl (by kernel_rfl) (fun _ _ _ h => h) (Or.inl ⟨by rfl, ?_⟩) hHeld ?_ ?_
        rotate_left
        · rintro w' ⟨⟨s0, s1, s2, s3, s4⟩, _⟩
          go_simp
          with_reducible rfl
        rotate_left
        · simp only [Act.put, List.setIfInBounds_toArray, List.set_cons_zero, List.set_cons_succ, i64_w, i32_w]
          rfl
        refine take_ (i := 1) (N := (some 36)) (v := ?_) (a' := ?_) #[true, true, false, false, false, false, false, false, false, false, false, false] rfl rfl (by kernel_rfl) (fun _ _ _ h => h) (Or.inl ⟨by rfl, ?_⟩) hHeld ?_ ?_
        rotate_left
        · rintro w' ⟨⟨s0, s1, s2, s3, s4⟩, _⟩
          go_simp
          with_reducible rfl
        rotate_left
        · simp only [Act.put, List.setIfInBounds_toArray, List.set_cons_zero, List.set_cons_succ, i64_w, i32_w]
          rfl
        refine one_ (i := 2) (N := (some 37)) #[true, true, true, false, false, false, false, false, false, false, false, false] rfl rfl (by kernel_rfl) (by decide) (fun K hK => ?_)
        refine goes_ Try.func88 (by kernel_rfl) rfl #[.agg #[.slice A0_0 l0_0.length c0_0, .slice A0_1 l0_1.length c0_1], .agg #[.string x.f0, .int .i64 x.f1]] (by rfl) rfl rfl (by (try simp only [List.map_toArray, List.map_cons, List.map_nil]); first | done | rfl) ?_
        with_reducible refine (hon _ (keepb hHeld.2 hbw2)).mono ?_
        rintro e w' ⟨rfl, hb'⟩
        refine ⟨_, rfl, ?_⟩
        refine hK.out _ _ ⟨⟨keepc hb' hHeld.1.1, keepc hb' hHeld.1.2.1, keepc hb' hHeld.1.2.2.1, keepc hb' hHeld.1.2.2.2.1, keepc hb' hHeld.1.2.2.2.2⟩, keepb hb' hHeld.2⟩ (fun hHeld => ?_)
        clear hK K
        refine norm_ (a' := ?_) ?_ ?_
        rotate_left
        · show Act.put _ (some 37) _ = _
          simp only [Act.put, List.setIfInBounds_toArray, List.set_cons_zero, List.set_cons_succ, i64_w, i32_w]
          rfl
        refine pure_ (i := 3) (N := (some 38)) (v := ?_) (a' := ?_) #[true, true, true, true, false, false, false, false, false, false, false, false] rfl rfl (by kernel_rfl) (fun _ _ _ h => h) (Or.inl ⟨by rfl, ?_⟩) ?_ ?_
        rotate_left
        · intro w'
          go_simp
          with_reducible rfl
        rotate_left
        · simp only [Act.put, List.setIfInBounds_toArray, List.set_cons_zero, List.set_cons_succ, i64_w, i32_w]
          rfl
        refine pure_ (i := 4) (N := (some 39)) (v := ?_) (a' := ?_) #[true, true, true, true, true, false, false, false, false, false, false, false] rfl rfl (by kernel_rfl) (fun _ _ _ h => h) (Or.inl ⟨by rfl, ?_⟩) ?_ ?_
        rotate_left
        · intro w'
          go_simp
          with_reducible rfl
        rotate_left
        · simp only [Act.put, List.setIfInBounds_toArray, List.set_cons_zero, List.set_cons_succ, i64_w, i32_w]
          rfl
        refine pure_ (i := 5) (N := (some 40)) (v := ?_) (a' := ?_) #[true, true, true, true, true, true, false, false, false, false, false, false] rfl rfl (by kernel_rfl) (fun _ _ _ h => h) (Or.inl ⟨by rfl, ?_⟩) ?_ ?_
        rotate_left
        · intro w'
          go_simp
          with_reducible rfl
        rotate_left
        · simp only [Act.put, List.setIfInBounds_toArray, List.set_cons_zero, List.set_cons_succ, i64_w, i32_w]
          rfl
        refine take_ (i := 6) (N := (some 41)) (v := ?_) (a' := ?_) #[true, true, true, true, true, true, true, false, false, false, false, false] rfl rfl (by kernel_rfl) (fun _ _ _ h => h) (Or.inl ⟨by rfl, ?_⟩) hHeld ?_ ?_
        rotate_left
        · rintro w' ⟨⟨s0, s1, s2, s3, s4⟩, _⟩
          go_simp
          with_reducible rfl
        rotate_left
        · simp only [Act.put, List.setIfInBounds_toArray, List.set_cons_zero, List.set_cons_succ, i64_w, i32_w]
          rfl
        refine pure_ (i := 7) (N := (some 42)) (v := ?_) (a' := ?_) #[true, true, true, true, true, true, true, true, false, false, false, false] rfl rfl (by kernel_rfl) (fun _ _ _ h => h) (Or.inl ⟨by rfl, ?_⟩) ?_ ?_
        rotate_left
        · intro w'
          go_simp
          with_reducible rfl
        rotate_left
        · simp only [Act.put, List.setIfInBounds_toArray, List.set_cons_zero, List.set_cons_succ, i64_w, i32_w]
          rfl
        refine pure_ (i := 8) (N := (some 43)) (v := ?_) (a' := ?_) #[true, true, true, true, true, true, true, true, true, false, false, false] rfl rfl (by kernel_rfl) (fun _ _ _ h => h) (Or.inl ⟨by rfl, ?_⟩) ?_ ?_
        rotate_left
        · intro w'
          go_simp
          with_reducible rfl
        rotate_left
        · simp only [Act.put, List.setIfInBounds_toArray, List.set_cons_zero, List.set_cons_succ, i64_w, i32_w]
          rfl
        refine take_ (i := 9) (N := (some 44)) (v := ?_) (a' := ?_) #[true, true, true, true, true, true, true, true, true, true, false, false] rfl rfl (by kernel_rfl) (fun _ _ _ h => h) (Or.inl ⟨by rfl, ?_⟩) hHeld ?_ ?_
        rotate_left
        · rintro w' ⟨⟨s0, s1, s2, s3, s4⟩, _⟩
          go_simp
          with_reducible rfl
        rotate_left
        · simp only [Act.put, List.setIfInBounds_toArray, List.set_cons_zero, List.set_cons_succ, i64_w, i32_w]
          rfl
        refine one_ (i := 10) (N := (some 45)) #[true, true, true, true, true, true, true, true, true, true, true, false] rfl rfl (by kernel_rfl) (by decide) (fun K hK => ?_)
        refine goes_ Try.func89 (by kernel_rfl) rfl #[.slice (some ad) i c1_0, .agg #[.string x.f0, .int .i64 x.f1]] (by rfl) rfl rfl (by (try simp only [List.map_toArray, List.map_cons, List.map_nil]); first | done | rfl) ?_
        with_reducible refine (hhas _ (keepb hHeld.2 hbw2)).mono ?_
        rintro e w' ⟨rfl, hb'⟩
        refine ⟨_, rfl, ?_⟩
        refine hK.out _ _ ⟨⟨keepc hb' hHeld.1.1, keepc hb' hHeld.1.2.1, keepc hb' hHeld.1.2.2.1, keepc hb' hHeld.1.2.2.2.1, keepc hb' hHeld.1.2.2.2.2⟩, keepb hb' hHeld.2⟩ (fun hHeld => ?_)
        clear hK K
        refine norm_ (a' := ?_) ?_ ?_
        rotate_left
        · show Act.put _ (some 45) _ = _
          simp only [Act.put, List.setIfInBounds_toArray, List.set_cons_zero, List.set_cons_succ, i64_w, i32_w]
          rfl
        refine pure_ (i := 11) (N := (some 46)) (v := ?_) (a' := ?_) #[true, true, true, true, true, true, true, true, true, true, true, true] rfl rfl (by kernel_rfl) (fun _ _ _ h => h) (Or.inl ⟨by rfl, ?_⟩) ?_ ?_
        rotate_left
        · intro w'
          go_simp
          with_reducible rfl
        rotate_left
        · simp only [Act.put, List.setIfInBounds_toArray, List.set_cons_zero, List.set_cons_succ, i64_w, i32_w]
          rfl
        refine done_ (by kernel_rfl) ?_
        have hbx := keepb hHeld.2 hbw2
        have HS := Lib.hid hHeld
        have HSB := Lib.hid hbx
        clear hHeld hbx p0 p1 p2 hhas hon
        cases hq2 : hasOn (l1_0.take i) x.f0 x.f1 with
        | true =>
          rw [hq2] at HXO
          have he : sentryB l0_0 l0_1 l1_0 l1_1 = false := by
            have h1 : (List.range l1_0.length).all (onOk l0_1 l1_0) = false := List.all_eq_false.2 ⟨i, List.mem_range.2 (by have := HN.out; omega), by rw [HXO.out]; simp⟩
            simp [sentryB, h1]
          have HE := Lib.hid he
          clear he hq2
          go_wp2
          go_ret
          exact ⟨by rw [HE.out]; rfl, HSB.out⟩
        | false =>
          rw [hq2] at HXO
          clear hq2
          go_wp2
          go_roundg (n - (i + 1))
          case measure => omega
          case rel =>
            refine ⟨i + 1, by omega, by omega, by go_num, Lib.hid ⟨?_, fun j hj => ?_⟩⟩
            · have hb3 := below_then X.out.1 X.out.1.size hb2
              exact below_then hb3 hb3.size HS.out.2
            · by_cases e : j = i
              · subst e; rw [HXO.out]; rfl
              · exact X.out.2 j (by omega)
    · have hltz : ¬ (i : Int) < (n : Int) := by omega
      obtain rfl : i = n := by omega
      have hsz := H1.out.2.2.2.2.2
      have hm0 : wr.cell? ⟨w.heap.size, 0, none⟩ = some (.slice A0_0 l0_0.length c0_0) := (X.out.1.cell (p := ⟨_, _, none⟩) (by simp only; omega)).trans H1.out.2.1
      have hm1 : wr.cell? ⟨w.heap.size, 1, none⟩ = some (.slice A0_1 l0_1.length c0_1) := (X.out.1.cell (p := ⟨_, _, none⟩) (by simp only; omega)).trans H1.out.2.2.1
      have hs1 : wr.cell? ⟨w.heap.size + 1, 1, none⟩ = some (.slice A1_1 m c1_1) := (X.out.1.cell (p := ⟨_, _, none⟩) (by simp only; omega)).trans H1.out.2.2.2.2.1
      clear hsz
      have hany := anyCond A1_1 c1_1 l1_1 wr (Kd.C_below HR.out.2.2.2 HBW.out) (by have := HN.out; omega) 91 #[.pointer (some ⟨w.heap.size, 0, none⟩)] model_isSentry.eg (fun c => !ifB l0_0 c.f0 c.f1 c.f2) (fun W x cs hx hb hK => model_isSentry.closure w.heap.size A0_0 c0_0 l0_0 A0_1 c0_1 l0_1 W (keepc hb hm0) (keepc hb hm1) (Kd.C_below (Kd.C_below HR.out.1 HBW.out) hb) hc0_0 (Kd.C_below (Kd.C_below HR.out.2.1 HBW.out) hb) hc0_1 x cs hK)
      rw [← HN.out.2] at hany
      have he : sentryB l0_0 l0_1 l1_0 l1_1 = !(l1_1.any (fun c => !ifB l0_0 c.f0 c.f1 c.f2)) := by
        have h1 : (List.range l1_0.length).all (onOk l0_1 l1_0) = true := List.all_eq_true.2 fun j hj => X.out.2 j (by have := List.mem_range.1 hj; have := HN.out; omega)
        have h2 : decide (l1_0.length ≤ 3 ∧ l1_1.length ≤ 2 ∧ l1_0.length + l1_1.length ≠ 0) = true := decide_eq_true (by have := HN.out; omega)
        unfold sentryB
        rw [h1, h2]
        rfl
      have HE := Lib.hid he
      clear he hm0 hm1
      obtain ⟨T, hT⟩ : ∃ T, T = l1_1.any (fun c => !ifB l0_0 c.f0 c.f1 c.f2) := ⟨_, rfl⟩
      rw [← hT] at hany HE
      clear hT
      go_wp2_with (go_at_call 90; refine hany.mono ?_; rintro e w' ⟨rfl, hb'⟩)
      go_ret
      exact ⟨by rw [HE.out]; rfl, keepb hb' HBW.out⟩
def sentsB (fs : List ByteArray) (l : List (S48)) (ss : List (S54)) : Bool := decide (ss.length ≤ 3) && !ss.any (fun s => !sentryB fs l s.f0 s.f1)
def model_areSentries.f (l0_0 : List ByteArray) (l0_1 : List (S48)) (l1 : List (S54)) : Option Bool := some (sentsB l0_0 l0_1 l1)
theorem model_areSentries.eg : ∀ args w, (callFunc 84 args).run Try.prog w = .ok (.enter 84 args) w := enters_of Try.func84 (by kernel_rfl) rfl
set_option maxHeartbeats 4000000 in
theorem model_areSentries.closure (b : Nat) (A0_0 : Option Addr) (c0_0 : Nat) (l0_0 : List ByteArray) (A0_1 : Option Addr) (c0_1 : Nat) (l0_1 : List (S48)) (W : World) (hm0 : W.cell? ⟨b, 0, none⟩ = some (.slice A0_0 l0_0.length c0_0)) (hm1 : W.cell? ⟨b, 1, none⟩ = some (.slice A0_1 l0_1.length c0_1))
    (hr0_0 : Kd.C Kd.string W A0_0 l0_0.length l0_0) (hc0_0 : l0_0.length ≤ c0_0) (hr0_1 : Kd.C k48 W A0_1 l0_1.length l0_1) (hc0_1 : l0_1.length ≤ c0_1) (x : S54) (cs : List Value) (hK : Kd.K k54 W x cs) :
    Calls Try.prog 84 (#[.agg cs.toArray] ++ #[.pointer (some ⟨b, 0, none⟩)]) W fun e w' => e = .returned (.bool (!sentryB l0_0 l0_1 x.f0 x.f1)) ∧ Below W.heap.size W w' := by
  obtain ⟨A0, c0, A1, c1, rfl, g0, h0, g1, h1⟩ := k54_open hK
  have hb := World.block_lt_of_cell? W _ hm0
  simp only at hb
  have hW1 := below_alloc (Below.refl W.heap.size W) (.cells #[.slice A0 x.f0.length c0, .slice A1 x.f1.length c1] 54)
  have hif := model_isSentry.calls A0_0 c0_0 l0_0 A0_1 c0_1 l0_1 A0 c0 x.f0 A1 c1 x.f1 _ _ (Kd.C_below hr0_0 hW1) hc0_0 (Kd.C_below hr0_1 hW1) hc0_1 (Kd.C_below h0 hW1) g0 (Kd.C_below h1 hW1) g1 rfl
  have HW := Lib.hid hW1
  clear hr0_0 hr0_1 hW1 hK h0 h1
  obtain ⟨T, hT⟩ : ∃ T, T = sentryB l0_0 l0_1 x.f0 x.f1 := ⟨_, rfl⟩
  rw [← hT] at hif ⊢
  clear hT
  have hu36 := Try.underlying25
  have hu29 := Try.underlying54
  go_enter Try.func84, Try.ntmps84
  go_wp2_with (go_at_call 85; refine hif.mono ?_; rintro e w' ⟨rfl, hb'⟩)
  go_ret
  exact ⟨rfl, keepb hb' HW.out⟩
set_option maxHeartbeats 8000000 in
set_option maxRecDepth 100000 in
theorem model_areSentries.calls (A0_0 : Option Addr) (c0_0 : Nat) (l0_0 : List ByteArray) (A0_1 : Option Addr) (c0_1 : Nat) (l0_1 : List (S48)) (A1 : Option Addr) (c1 : Nat) (l1 : List (S54)) (r : Bool) (w : World) (hr0_0 : Kd.C Kd.string w A0_0 l0_0.length l0_0) (hc0_0 : l0_0.length ≤ c0_0) (hr0_1 : Kd.C k48 w A0_1 l0_1.length l0_1) (hc0_1 : l0_1.length ≤ c0_1) (hr1 : Kd.C k54 w A1 l1.length l1) (hc1 : l1.length ≤ c1) (h : model_areSentries.f l0_0 l0_1 l1 = some r) :
    Calls Try.prog 71 #[.agg #[.slice A0_0 l0_0.length c0_0, .slice A0_1 l0_1.length c0_1], .slice A1 l1.length c1] w fun e w' => e = .returned (.bool r) ∧ Below w.heap.size w w' := by
  obtain rfl := Option.some.inj h
  clear h
  have hu36 := Try.underlying25
  have W1 := below_alloc (Below.refl w.heap.size w) (.cells #[.slice A0_0 l0_0.length c0_0, .slice A0_1 l0_1.length c0_1] 25)
  by_cases hA : 3 < l1.length
  · have e : sentsB l0_0 l0_1 l1 = false := by simp [sentsB]; omega
    rw [e]
    have hA' : (3 : Int) < l1.length := by omega
    have H := Lib.hid W1
    clear hr0_0 hr0_1 hr1 e W1
    go_enter Try.func71, Try.ntmps71
    go_wp2
    go_ret
    exact ⟨rfl, H.out⟩
  have hA' : ¬ (3 : Int) < l1.length := by omega
  have hm0 : (w.alloc (.cells #[.slice A0_0 l0_0.length c0_0, .slice A0_1 l0_1.length c0_1] 25)).cell? ⟨w.heap.size, 0, none⟩ = some (.slice A0_0 l0_0.length c0_0) := by simp
  have hm1 : (w.alloc (.cells #[.slice A0_0 l0_0.length c0_0, .slice A0_1 l0_1.length c0_1] 25)).cell? ⟨w.heap.size, 1, none⟩ = some (.slice A0_1 l0_1.length c0_1) := by simp
  have hany := anySentry A1 c1 l1 _ (Kd.C_below hr1 W1) hc1 84 #[.pointer (some ⟨w.heap.size, 0, none⟩)] model_areSentries.eg (fun s => !sentryB l0_0 l0_1 s.f0 s.f1) (fun W x cs hx hb hK => model_areSentries.closure w.heap.size A0_0 c0_0 l0_0 A0_1 c0_1 l0_1 W (keepc hb hm0) (keepc hb hm1) (Kd.C_below (Kd.C_below hr0_0 W1) hb) hc0_0 (Kd.C_below (Kd.C_below hr0_1 W1) hb) hc0_1 x cs hK)
  have he : sentsB l0_0 l0_1 l1 = !(l1.any (fun s => !sentryB l0_0 l0_1 s.f0 s.f1)) := by
    unfold sentsB
    rw [decide_eq_true (by omega), Bool.true_and]
  rw [he]
  have H := Lib.hid W1
  clear hr0_0 hr0_1 hr1 he W1 hm0 hm1
  obtain ⟨T, hT⟩ : ∃ T, T = l1.any (fun s => !sentryB l0_0 l0_1 s.f0 s.f1) := ⟨_, rfl⟩
  rw [← hT] at hany ⊢
  clear hT
  go_enter Try.func71, Try.ntmps71
  go_wp2_with (go_at_call 83; refine hany.mono ?_; rintro e w' ⟨rfl, hb'⟩)
  go_ret
  exact ⟨rfl, keepb hb' H.out⟩
end Go.Proofs.Ytaiglhfmmdajdaa.Pm
end
section
namespace Go.Proofs.Ytaiglhfmmdajdaa.Pm
open Go.RowKit Go.Proofs.YtaiglhfmmdajdaaW.PrintWords Go.Proofs.YtaiglhfmmdajdaaW.PrintLast Go.Proofs.YtaiglhfmmdajdaaW.PrintMore
attribute [local go_sem] max2_int min2_int max_two min_two max_three min_three max_four min_four   -- for this text's walks alone
set_option linter.unusedVariables false
set_option linter.unusedSimpArgs false
def model_isItem.j0 : Nat → Bool → ByteArray → Int → ByteArray → Bool → Int → List (S54) → List (S54) → Option (Bool)
 | 0, _, _, _, _, _, _, _, _ => none
 | k + 1, x29, x329000, x329001, x329002, x329003, x329004, x329005, x329006 => if x29 = true then (some false) else (if x329001 = 5 then (if x329001 = 4 then (if x329004 ≥ 1 then (if x329004 ≤ 100 then (if x329003 = true then (some (!true)) else (some (!(decide ((x329005.length : Int) > 0))))) else (some false)) else (some false)) else (if x329004 ≥ 1 then (if x329004 ≤ 100 then (if x329003 = true then (some (!true)) else (some (!(decide ((x329005.length : Int) > 0))))) else (some false)) else (some false))) else (if x329001 = 4 then (if x329004 ≥ 0 then (if x329004 ≤ 0 then (if x329003 = true then (some (!true)) else (some (!(decide ((x329005.length : Int) > 0))))) else (some false)) else (some false)) else (if x329004 ≥ 0 then (if x329004 ≤ 0 then (some (!false)) else (some false)) else (some false))))
def model_isItem.f (k : Nat) (l0_0 : List ByteArray) (l0_1 : List (S48)) (a1_0 : ByteArray) (a1_1 : Int) (a1_2 : ByteArray) (a1_3 : Bool) (a1_4 : Int) (l1_5 : List (S54)) (l1_6 : List (S54)) : Option (Bool) := if a1_1 < 1 then (model_isItem.j0 k true a1_0 a1_1 a1_2 a1_3 a1_4 l1_5 l1_6) else (if a1_1 > 5 then (model_isItem.j0 k true a1_0 a1_1 a1_2 a1_3 a1_4 l1_5 l1_6) else ((model_areSentries.f l0_0 l0_1 l1_5).bind fun t329 => (if t329 = true then ((model_areSentries.f l0_0 l0_1 l1_6).bind fun t330 => (model_isItem.j0 k (!t330) a1_0 a1_1 a1_2 a1_3 a1_4 l1_5 l1_6)) else (model_isItem.j0 k true a1_0 a1_1 a1_2 a1_3 a1_4 l1_5 l1_6))))
theorem model_isItem.mono_l : ∀ k, (∀ y0 y1 y2 y3 y4 y5 y6 y7, LeO (model_isItem.j0 k y0 y1 y2 y3 y4 y5 y6 y7) (model_isItem.j0 (k + 1) y0 y1 y2 y3 y4 y5 y6 y7))
 | 0 => fun _ _ _ _ _ _ _ _ r h => by simp [model_isItem.j0] at h
 | k + 1 => by
  have ih0 := model_isItem.mono_l k
  ·intro y0 y1 y2 y3 y4 y5 y6 y7
   unfold model_isItem.j0
   repeat' first
   | (with_reducible exact ih0 _ _ _ _ _ _ _ _)
   | (with_reducible exact LeO.refl _)
   | (with_reducible exact LeO.none _)
   | (with_reducible refine LeO.ite ?_ ?_)
   | (with_reducible refine LeO.bind ?_ (fun _ => ?_))
   | exact ih0 _ _ _ _ _ _ _ _
   | exact LeO.none _
   | refine LeO.ite ?_ ?_
   | refine LeO.bind ?_ (fun _ => ?_)
theorem model_isItem.mono : ∀ a0 a1 a2 a3 a4 a5 a6 a7 a8 k, LeO (model_isItem.f k a0 a1 a2 a3 a4 a5 a6 a7 a8) (model_isItem.f (k + 1) a0 a1 a2 a3 a4 a5 a6 a7 a8) := by
 intro a0 a1 a2 a3 a4 a5 a6 a7 a8 k
 have ih0 := model_isItem.mono_l k
 unfold model_isItem.f
 repeat' first
   | (with_reducible exact ih0 _ _ _ _ _ _ _ _)
   | (with_reducible exact LeO.refl _)
   | (with_reducible exact LeO.none _)
   | (with_reducible refine LeO.ite ?_ ?_)
   | (with_reducible refine LeO.bind ?_ (fun _ => ?_))
   | exact ih0 _ _ _ _ _ _ _ _
   | exact LeO.none _
   | refine LeO.ite ?_ ?_
   | refine LeO.bind ?_ (fun _ => ?_)
set_option maxHeartbeats 8000000 in
set_option maxRecDepth 100000 in
theorem model_isItem.calls (k : Nat) (A0_0 : Option Addr) (c0_0 : Nat) (l0_0 : List ByteArray) (A0_1 : Option Addr) (c0_1 : Nat) (l0_1 : List (S48)) (a1_0 : ByteArray) (a1_1 : Int) (a1_2 : ByteArray) (a1_3 : Bool) (a1_4 : Int) (A1_5 : Option Addr) (c1_5 : Nat) (l1_5 : List (S54)) (A1_6 : Option Addr) (c1_6 : Nat) (l1_6 : List (S54)) (r : Bool) (w : World) (hr0_0 : Kd.C Kd.string w A0_0 l0_0.length l0_0) (hc0_0 : l0_0.length ≤ c0_0) (hr0_1 : Kd.C k48 w A0_1 l0_1.length l0_1) (hc0_1 : l0_1.length ≤ c0_1) (hr1_5 : Kd.C k54 w A1_5 l1_5.length l1_5) (hc1_5 : l1_5.length ≤ c1_5) (hr1_6 : Kd.C k54 w A1_6 l1_6.length l1_6) (hc1_6 : l1_6.length ≤ c1_6) (h : model_isItem.f k l0_0 l0_1 a1_0 a1_1 a1_2 a1_3 a1_4 l1_5 l1_6 = some r) :
  Calls Try.prog 45 #[.agg #[.slice A0_0 l0_0.length c0_0, .slice A0_1 l0_1.length c0_1], .agg #[.string a1_0, .int .i64 a1_1, .string a1_2, .bool a1_3, .int .i64 a1_4, .slice A1_5 l1_5.length c1_5, .slice A1_6 l1_6.length c1_6]] w fun e w' => e = .returned (.bool r) ∧ Below w.heap.size w w' := by
 have hu25 := Try.underlying25
 have hu48 := Try.underlying48
 have HR0_0 := Aside0.mk hr0_0
 have HC0_0 := Aside0.mk hc0_0
 clear hr0_0 hc0_0
 have HR0_1 := Aside0.mk hr0_1
 have HC0_1 := Aside0.mk hc0_1
 clear hr0_1 hc0_1
 have HR1_5 := Aside0.mk hr1_5
 have HC1_5 := Aside0.mk hc1_5
 clear hr1_5 hc1_5
 have HR1_6 := Aside0.mk hr1_6
 have HC1_6 := Aside0.mk hc1_6
 clear hr1_6 hc1_6
 have HB := Aside0.mk (Below.refl w.heap.size w)
 have H : (if a1_1 < 1 then (model_isItem.j0 k true a1_0 a1_1 a1_2 a1_3 a1_4 l1_5 l1_6) else (if a1_1 > 5 then (model_isItem.j0 k true a1_0 a1_1 a1_2 a1_3 a1_4 l1_5 l1_6) else ((model_areSentries.f l0_0 l0_1 l1_5).bind fun t329 => (if t329 = true then ((model_areSentries.f l0_0 l0_1 l1_6).bind fun t330 => (model_isItem.j0 k (!t330) a1_0 a1_1 a1_2 a1_3 a1_4 l1_5 l1_6)) else (model_isItem.j0 k true a1_0 a1_1 a1_2 a1_3 a1_4 l1_5 l1_6))))) = some r := h
 clear h
 have HC3 := Aside0.mk H
 clear H
 go_enter Try.func45, Try.ntmps45
 go_upto_region 1 with (first | ((with_reducible refine gate_dst (N := 2) rfl ?_); (try (refine gate_guard (by rfl) ?_; dsimp only)); refine box_event ?hg (N := 2) ?hd (cs := #[.slice A0_0 l0_0.length c0_0, .slice A0_1 l0_1.length c0_1]) (t := 25) ?hr ?_; (case hd => rfl); (case hg => rfl); (case hr => first | (go_simp; done) | (go_simp; rfl)); intro gb327 hg w4 hbox hb; have n0_ := hb_ HB hb; have n1_ := Aside0.mk (hbox); have n2_ := Aside0.mk ((by rw [hg]; exact (below_size (by repeat (first | (with_reducible first | exact HB.out | apply below_alloc | apply pw_below_drewN | apply below_drew1) | exact HB.out))) : w.heap.size ≤ gb327)); have n3_ := Aside0.mk ((by rw [hg]; exact (below_size (by repeat (first | (with_reducible first | exact HB.out | apply below_alloc | apply pw_below_drewN | apply below_drew1) | exact HB.out))) : w.heap.size ≤ gb327)); clear HB; have HB := n0_; have BK327 := n1_; have GW327 := n2_; have GE327 := n3_; clear n0_ n1_ n2_ n3_; clear hb hbox hg) | ((with_reducible refine gate_dst (N := 3) rfl ?_); (try (refine gate_guard (by rfl) ?_; dsimp only)); refine box_event ?hg (N := 3) ?hd (cs := #[.string a1_0, .int .i64 a1_1, .string a1_2, .bool a1_3, .int .i64 a1_4, .slice A1_5 l1_5.length c1_5, .slice A1_6 l1_6.length c1_6]) (t := 48) ?hr ?_; (case hd => rfl); (case hg => rfl); (case hr => first | (go_simp; done) | (go_simp; rfl)); intro gb328 hg w5 hbox hb; have n0_ := bb_ BK327 hb; have n1_ := hb_ HB hb; have n2_ := Aside0.mk (hbox); have n3_ := Aside0.mk ((by rw [hg]; exact (below_size (by repeat (first | (with_reducible first | exact HB.out | apply below_alloc | apply pw_below_drewN | apply below_drew1 | refine below_set ?_ GE327.out) | exact HB.out))) : w.heap.size ≤ gb328)); have n4_ := Aside0.mk ((by rw [hg]; exact (below_size (by repeat (first | (with_reducible first | exact HB.out | apply below_alloc | apply pw_below_drewN | apply below_drew1 | refine below_set ?_ GE327.out) | exact HB.out))) : w.heap.size ≤ gb328)); have n5_ := Aside0.mk ((by rw [hg]; exact Nat.ne_of_lt (blk_lt (g := gb327) (o := .cells #[.slice A0_0 l0_0.length c0_0, .slice A0_1 l0_1.length c0_1] 25 (0, 0)) (by (with_reducible repeat (first | refine blk_drewN ?_ _ | refine blk_drew ?_ | refine blk_alloc ?_ _)); exact BK327.out)) : gb327 ≠ gb328)); have n6_ := Aside0.mk ((by rw [hg]; exact Nat.ne_of_gt (blk_lt (g := gb327) (o := .cells #[.slice A0_0 l0_0.length c0_0, .slice A0_1 l0_1.length c0_1] 25 (0, 0)) (by (with_reducible repeat (first | refine blk_drewN ?_ _ | refine blk_drew ?_ | refine blk_alloc ?_ _)); exact BK327.out)) : gb328 ≠ gb327)); clear BK327; clear HB; have BK327 := n0_; have HB := n1_; have BK328 := n2_; have GW328 := n3_; have GE328 := n4_; have NB327_328 := n5_; have NB328_327 := n6_; clear n0_ n1_ n2_ n3_ n4_ n5_ n6_; clear hb hbox hg))
 (try simp only [Act.put, List.setIfInBounds_toArray, List.set_cons_zero, List.set_cons_succ])
 go_cut [29] (fun v29 wc => ∃ (kq : Nat) (x29_2 : Bool), v29 = .bool x29_2 ∧ Aside0 (model_isItem.j0 kq x29_2 a1_0 a1_1 a1_2 a1_3 a1_4 l1_5 l1_6 = some r) ∧ Aside0 (kq ≤ k) ∧ Aside0 (wc.heap[gb327]? = some (.cells #[(.slice A0_0 l0_0.length c0_0), (.slice A0_1 l0_1.length c0_1)] 25 (0, 0))) ∧ Aside0 (wc.heap[gb328]? = some (.cells #[.string a1_0, .int .i64 a1_1, .string a1_2, .bool a1_3, .int .i64 a1_4, (.slice A1_5 l1_5.length c1_5), (.slice A1_6 l1_6.length c1_6)] 48 (0, 0))) ∧ Aside0 (Below w.heap.size w wc))
 case first =>
  have H := HC3.out
  clear HC3
  by_cases c6 : a1_1 < 1
  ·rw [if_pos c6] at H
   have c6b0 : decide (a1_1 < 1) = true := decide_eq_true c6
   clear c6
   (first | rw [c6b0] | (simp only [i64_w, i32_w]; rw [c6b0]) | skip)
   have H' := Aside0.mk H
   clear H
   have hnb7 := NB328_327.out
   have hnc7 := NB327_328.out
   obtain ⟨hcz8_0, hcz8_1, hcz8_2, hcz8_3, hcz8_4, hcz8_5, hcz8_6, hfz8_0, hfz8_1, hfz8_2, hfz8_3, hfz8_4, hfz8_5, hfz8_6⟩ := bs7_ BK328
   go_wp2
   go_meet
   case rel => exact ⟨_, (true), (by first | rfl | (simp; done) | (simp [*]; done)), H', ⟨by first | omega | exact Nat.le_refl _⟩, ⟨gx_ BK327⟩, ⟨gx_ BK328⟩, ⟨hf_⟩⟩
  ·rw [if_neg c6] at H
   have c6b0 : decide (a1_1 < 1) = false := decide_eq_false c6
   clear c6
   (first | rw [c6b0] | (simp only [i64_w, i32_w]; rw [c6b0]) | skip)
   by_cases c9 : a1_1 > 5
   ·rw [if_pos c9] at H
    have c9b0 : decide (5 < a1_1) = true := decide_eq_true c9
    clear c9
    have H' := Aside0.mk H
    clear H
    have hnb10 := NB328_327.out
    have hnc10 := NB327_328.out
    obtain ⟨hcz11_0, hcz11_1, hcz11_2, hcz11_3, hcz11_4, hcz11_5, hcz11_6, hfz11_0, hfz11_1, hfz11_2, hfz11_3, hfz11_4, hfz11_5, hfz11_6⟩ := bs7_ BK328
    go_wp2
    go_meet
    case rel => exact ⟨_, (true), (by first | rfl | (simp; done) | (simp [*]; done)), H', ⟨by first | omega | exact Nat.le_refl _⟩, ⟨gx_ BK327⟩, ⟨gx_ BK328⟩, ⟨hf_⟩⟩
   ·rw [if_neg c9] at H
    have c9b0 : decide (5 < a1_1) = false := decide_eq_false c9
    clear c9
    replace H := Option.bind_eq_some_iff.mp H
    obtain ⟨t329, A120, H⟩ := H
    replace H : (if t329 = true then ((model_areSentries.f l0_0 l0_1 l1_6).bind fun t330 => (model_isItem.j0 k (!t330) a1_0 a1_1 a1_2 a1_3 a1_4 l1_5 l1_6)) else (model_isItem.j0 k true a1_0 a1_1 a1_2 a1_3 a1_4 l1_5 l1_6)) = some r := H
    have A12 := Aside0.mk A120
    clear A120
    by_cases c13 : t329 = true
    ·subst c13
     have H1 : ((model_areSentries.f l0_0 l0_1 l1_6).bind fun t330 => (model_isItem.j0 k (!t330) a1_0 a1_1 a1_2 a1_3 a1_4 l1_5 l1_6)) = some r := by rw [if_pos rfl] at H; exact H
     clear H
     have H := H1
     clear H1
     replace H := Option.bind_eq_some_iff.mp H
     obtain ⟨t330, A140, H⟩ := H
     replace H : (model_isItem.j0 k (!t330) a1_0 a1_1 a1_2 a1_3 a1_4 l1_5 l1_6) = some r := H
     have A14 := Aside0.mk A140
     clear A140
     have H' := Aside0.mk H
     clear H
     have hnb15 := NB328_327.out
     have hnc15 := NB327_328.out
     obtain ⟨hcz16_0, hcz16_1, hcz16_2, hcz16_3, hcz16_4, hcz16_5, hcz16_6, hfz16_0, hfz16_1, hfz16_2, hfz16_3, hfz16_4, hfz16_5, hfz16_6⟩ := bs7_ BK328
     obtain ⟨hcz17_0, hcz17_1, hfz17_0, hfz17_1⟩ := bs2_ BK327
     go_wp2_with (first | (go_at_call 71; (with_reducible refine (model_areSentries.calls _ _ l0_0 _ _ l0_1 _ _ l1_5 true _ ?side1 ?side2 ?side3 ?side4 ?side5 ?side6 A12.out).mono ?_); (case side1 => exact kc_ HR0_0 HB); (case side2 => exact HC0_0.out); (case side3 => exact kc_ HR0_1 HB); (case side4 => exact HC0_1.out); (case side5 => exact kc_ HR1_5 HB); (case side6 => exact HC1_5.out); rintro e w18 ⟨rfl, hb⟩; have n0_ := bb_ BK327 hb; have n1_ := bb_ BK328 hb; have n2_ := hb_ HB hb; clear BK327; clear BK328; clear HB; have BK327 := n0_; have BK328 := n1_; have HB := n2_; clear n0_ n1_ n2_; (try clear hb); (try clear hb2); (try clear hk); (try clear hi); obtain ⟨hcz19_0, hcz19_1, hfz19_0, hfz19_1⟩ := bs2_ BK327; obtain ⟨hcz20_0, hcz20_1, hcz20_2, hcz20_3, hcz20_4, hcz20_5, hcz20_6, hfz20_0, hfz20_1, hfz20_2, hfz20_3, hfz20_4, hfz20_5, hfz20_6⟩ := bs7_ BK328) | (go_at_call 71; (with_reducible refine (model_areSentries.calls _ _ l0_0 _ _ l0_1 _ _ l1_6 t330 _ ?side1 ?side2 ?side3 ?side4 ?side5 ?side6 A14.out).mono ?_); (case side1 => exact kc_ HR0_0 HB); (case side2 => exact HC0_0.out); (case side3 => exact kc_ HR0_1 HB); (case side4 => exact HC0_1.out); (case side5 => exact kc_ HR1_6 HB); (case side6 => exact HC1_6.out); rintro e w21 ⟨rfl, hb⟩; have n0_ := bb_ BK327 hb; have n1_ := bb_ BK328 hb; have n2_ := hb_ HB hb; clear BK327; clear BK328; clear HB; have BK327 := n0_; have BK328 := n1_; have HB := n2_; clear n0_ n1_ n2_; (try clear hb); (try clear hb2); (try clear hk); (try clear hi)))
     go_meet
     case rel => exact ⟨_, (!t330), (by first | rfl | (simp; done) | (simp [*]; done)), H', ⟨by first | omega | exact Nat.le_refl _⟩, ⟨gx_ BK327⟩, ⟨gx_ BK328⟩, ⟨hf_⟩⟩
    ·replace c13 := Bool.eq_false_iff.mpr c13
     subst c13
     have H1 : (model_isItem.j0 k true a1_0 a1_1 a1_2 a1_3 a1_4 l1_5 l1_6) = some r := by rw [if_neg (show ¬ (false = true) by decide)] at H; exact H
     clear H
     have H := H1
     clear H1
     have H' := Aside0.mk H
     clear H
     have hnb22 := NB328_327.out
     have hnc22 := NB327_328.out
     obtain ⟨hcz23_0, hcz23_1, hcz23_2, hcz23_3, hcz23_4, hcz23_5, hcz23_6, hfz23_0, hfz23_1, hfz23_2, hfz23_3, hfz23_4, hfz23_5, hfz23_6⟩ := bs7_ BK328
     obtain ⟨hcz24_0, hcz24_1, hfz24_0, hfz24_1⟩ := bs2_ BK327
     go_wp2_with (first | (go_at_call 71; (with_reducible refine (model_areSentries.calls _ _ l0_0 _ _ l0_1 _ _ l1_5 false _ ?side1 ?side2 ?side3 ?side4 ?side5 ?side6 A12.out).mono ?_); (case side1 => exact kc_ HR0_0 HB); (case side2 => exact HC0_0.out); (case side3 => exact kc_ HR0_1 HB); (case side4 => exact HC0_1.out); (case side5 => exact kc_ HR1_5 HB); (case side6 => exact HC1_5.out); rintro e w25 ⟨rfl, hb⟩; have n0_ := bb_ BK327 hb; have n1_ := bb_ BK328 hb; have n2_ := hb_ HB hb; clear BK327; clear BK328; clear HB; have BK327 := n0_; have BK328 := n1_; have HB := n2_; clear n0_ n1_ n2_; (try clear hb); (try clear hb2); (try clear hk); (try clear hi)))
     go_meet
     case rel => exact ⟨_, (true), (by first | rfl | (simp; done) | (simp [*]; done)), H', ⟨by first | omega | exact Nat.le_refl _⟩, ⟨gx_ BK327⟩, ⟨gx_ BK328⟩, ⟨hf_⟩⟩
 case rest =>
  clear HC3
  (try clear c1); (try clear c2); (try clear p2); (try clear c4); (try clear c6); (try clear c6b0); (try clear c7); (try clear c9); (try clear c9b0); (try clear c10); (try clear c13); (try clear c15); (try clear c22); (try clear hcz11_0); (try clear hcz11_1); (try clear hcz11_2); (try clear hcz11_3); (try clear hcz11_4); (try clear hcz11_5); (try clear hcz11_6); (try clear hcz16_0); (try clear hcz16_1); (try clear hcz16_2); (try clear hcz16_3); (try clear hcz16_4); (try clear hcz16_5); (try clear hcz16_6); (try clear hcz17_0); (try clear hcz17_1); (try clear hcz19_0); (try clear hcz19_1); (try clear hcz20_0); (try clear hcz20_1); (try clear hcz20_2); (try clear hcz20_3); (try clear hcz20_4); (try clear hcz20_5); (try clear hcz20_6); (try clear hcz23_0); (try clear hcz23_1); (try clear hcz23_2); (try clear hcz23_3); (try clear hcz23_4); (try clear hcz23_5); (try clear hcz23_6); (try clear hcz24_0); (try clear hcz24_1); (try clear hcz8_0); (try clear hcz8_1); (try clear hcz8_2); (try clear hcz8_3); (try clear hcz8_4); (try clear hcz8_5); (try clear hcz8_6); (try clear hfz11_0); (try clear hfz11_1); (try clear hfz11_2); (try clear hfz11_3); (try clear hfz11_4); (try clear hfz11_5); (try clear hfz11_6); (try clear hfz16_0); (try clear hfz16_1); (try clear hfz16_2); (try clear hfz16_3); (try clear hfz16_4); (try clear hfz16_5); (try clear hfz16_6); (try clear hfz17_0); (try clear hfz17_1); (try clear hfz19_0); (try clear hfz19_1); (try clear hfz20_0); (try clear hfz20_1); (try clear hfz20_2); (try clear hfz20_3); (try clear hfz20_4); (try clear hfz20_5); (try clear hfz20_6); (try clear hfz23_0); (try clear hfz23_1); (try clear hfz23_2); (try clear hfz23_3); (try clear hfz23_4); (try clear hfz23_5); (try clear hfz23_6); (try clear hfz24_0); (try clear hfz24_1); (try clear hfz8_0); (try clear hfz8_1); (try clear hfz8_2); (try clear hfz8_3); (try clear hfz8_4); (try clear hfz8_5); (try clear hfz8_6)
  obtain ⟨kq, x29_2, rfl, HA, HJ2, BK327, BK328, HB⟩ := hcut
  cases kq with
  | zero => exact absurd HA.out (by simp [model_isItem.j0])
  | succ kj2 =>
   have H := HA.out
   clear HA
   simp only [model_isItem.j0] at H
   by_cases c26 : x29_2 = true
   ·subst c26
    have H1 : (some false) = some r := by rw [if_pos rfl] at H; exact H
    clear H
    have H := H1
    clear H1
    obtain rfl := Option.some.inj H
    go_wp2
    go_ret
    exact ⟨er_, hf_⟩
   ·replace c26 := Bool.eq_false_iff.mpr c26
    subst c26
    have H1 : (if a1_1 = 5 then (if a1_1 = 4 then (if a1_4 ≥ 1 then (if a1_4 ≤ 100 then (if a1_3 = true then (some (!true)) else (some (!(decide ((l1_5.length : Int) > 0))))) else (some false)) else (some false)) else (if a1_4 ≥ 1 then (if a1_4 ≤ 100 then (if a1_3 = true then (some (!true)) else (some (!(decide ((l1_5.length : Int) > 0))))) else (some false)) else (some false))) else (if a1_1 = 4 then (if a1_4 ≥ 0 then (if a1_4 ≤ 0 then (if a1_3 = true then (some (!true)) else (some (!(decide ((l1_5.length : Int) > 0))))) else (some false)) else (some false)) else (if a1_4 ≥ 0 then (if a1_4 ≤ 0 then (some (!false)) else (some false)) else (some false)))) = some r := by rw [if_neg (show ¬ (false = true) by decide)] at H; exact H
    clear H
    have H := H1
    clear H1
    by_cases c27 : a1_1 = 5
    ·rw [if_pos c27] at H
     have c27b0 : (a1_1 == 5) = true := beq_iff_eq.mpr c27
     have c27b1 : (a1_1 != 5) = false := bne_eq_false_iff_eq.mpr c27
     clear c27
     by_cases c28 : a1_1 = 4
     ·rw [if_pos c28] at H
      have c28b0 : (a1_1 == 4) = true := beq_iff_eq.mpr c28
      have c28b1 : (a1_1 != 4) = false := bne_eq_false_iff_eq.mpr c28
      clear c28
      by_cases c29 : a1_4 ≥ 1
      ·rw [if_pos c29] at H
       have c29b0 : decide (1 ≤ a1_4) = true := decide_eq_true c29
       clear c29
       by_cases c30 : a1_4 ≤ 100
       ·rw [if_pos c30] at H
        have c30b0 : decide (a1_4 ≤ 100) = true := decide_eq_true c30
        clear c30
        by_cases c31 : a1_3 = true
        ·subst c31
         have H1 : (some (!true)) = some r := by rw [if_pos rfl] at H; exact H
         clear H
         have H := H1
         clear H1
         obtain rfl := Option.some.inj H
         have hnb32 := NB328_327.out
         have hnc32 := NB327_328.out
         obtain ⟨hcz33_0, hcz33_1, hcz33_2, hcz33_3, hcz33_4, hcz33_5, hcz33_6, hfz33_0, hfz33_1, hfz33_2, hfz33_3, hfz33_4, hfz33_5, hfz33_6⟩ := bs7_ BK328
         go_wp2
         go_ret
         exact ⟨er_, hf_⟩
        ·replace c31 := Bool.eq_false_iff.mpr c31
         subst c31
         have H1 : (some (!(decide ((l1_5.length : Int) > 0)))) = some r := by rw [if_neg (show ¬ (false = true) by decide)] at H; exact H
         clear H
         have H := H1
         clear H1
         obtain rfl := Option.some.inj H
         have hnb34 := NB328_327.out
         have hnc34 := NB327_328.out
         obtain ⟨hcz35_0, hcz35_1, hcz35_2, hcz35_3, hcz35_4, hcz35_5, hcz35_6, hfz35_0, hfz35_1, hfz35_2, hfz35_3, hfz35_4, hfz35_5, hfz35_6⟩ := bs7_ BK328
         go_wp2
         go_ret
         exact ⟨er_, hf_⟩
       ·rw [if_neg c30] at H
        have c30b0 : decide (a1_4 ≤ 100) = false := decide_eq_false c30
        clear c30
        obtain rfl := Option.some.inj H
        have hnb36 := NB328_327.out
        have hnc36 := NB327_328.out
        obtain ⟨hcz37_0, hcz37_1, hcz37_2, hcz37_3, hcz37_4, hcz37_5, hcz37_6, hfz37_0, hfz37_1, hfz37_2, hfz37_3, hfz37_4, hfz37_5, hfz37_6⟩ := bs7_ BK328
        go_wp2
        go_ret
        exact ⟨er_, hf_⟩
      ·rw [if_neg c29] at H
       have c29b0 : decide (1 ≤ a1_4) = false := decide_eq_false c29
       clear c29
       obtain rfl := Option.some.inj H
       have hnb38 := NB328_327.out
       have hnc38 := NB327_328.out
       obtain ⟨hcz39_0, hcz39_1, hcz39_2, hcz39_3, hcz39_4, hcz39_5, hcz39_6, hfz39_0, hfz39_1, hfz39_2, hfz39_3, hfz39_4, hfz39_5, hfz39_6⟩ := bs7_ BK328
       go_wp2
       go_ret
       exact ⟨er_, hf_⟩
     ·rw [if_neg c28] at H
      have c28b0 : (a1_1 == 4) = false := beq_eq_false_iff_ne.mpr c28
      have c28b1 : (a1_1 != 4) = true := bne_iff_ne.mpr c28
      by_cases c40 : a1_4 ≥ 1
      ·rw [if_pos c40] at H
       have c40b0 : decide (1 ≤ a1_4) = true := decide_eq_true c40
       clear c40
       by_cases c41 : a1_4 ≤ 100
       ·rw [if_pos c41] at H
        have c41b0 : decide (a1_4 ≤ 100) = true := decide_eq_true c41
        clear c41
        by_cases c42 : a1_3 = true
        ·subst c42
         have H1 : (some (!true)) = some r := by rw [if_pos rfl] at H; exact H
         clear H
         have H := H1
         clear H1
         obtain rfl := Option.some.inj H
         have hnb43 := NB328_327.out
         have hnc43 := NB327_328.out
         obtain ⟨hcz44_0, hcz44_1, hcz44_2, hcz44_3, hcz44_4, hcz44_5, hcz44_6, hfz44_0, hfz44_1, hfz44_2, hfz44_3, hfz44_4, hfz44_5, hfz44_6⟩ := bs7_ BK328
         go_wp2
         go_ret
         exact ⟨er_, hf_⟩
        ·replace c42 := Bool.eq_false_iff.mpr c42
         subst c42
         have H1 : (some (!(decide ((l1_5.length : Int) > 0)))) = some r := by rw [if_neg (show ¬ (false = true) by decide)] at H; exact H
         clear H
         have H := H1
         clear H1
         obtain rfl := Option.some.inj H
         have hnb45 := NB328_327.out
         have hnc45 := NB327_328.out
         obtain ⟨hcz46_0, hcz46_1, hcz46_2, hcz46_3, hcz46_4, hcz46_5, hcz46_6, hfz46_0, hfz46_1, hfz46_2, hfz46_3, hfz46_4, hfz46_5, hfz46_6⟩ := bs7_ BK328
         go_wp2
         go_ret
         exact ⟨er_, hf_⟩
       ·rw [if_neg c41] at H
        have c41b0 : decide (a1_4 ≤ 100) = false := decide_eq_false c41
        clear c41
        obtain rfl := Option.some.inj H
        have hnb47 := NB328_327.out
        have hnc47 := NB327_328.out
        obtain ⟨hcz48_0, hcz48_1, hcz48_2, hcz48_3, hcz48_4, hcz48_5, hcz48_6, hfz48_0, hfz48_1, hfz48_2, hfz48_3, hfz48_4, hfz48_5, hfz48_6⟩ := bs7_ BK328
        go_wp2
        go_ret
        exact ⟨er_, hf_⟩
      ·rw [if_neg c40] at H
       have c40b0 : decide (1 ≤ a1_4) = false := decide_eq_false c40
       clear c40
       obtain rfl := Option.some.inj H
       have hnb49 := NB328_327.out
       have hnc49 := NB327_328.out
       obtain ⟨hcz50_0, hcz50_1, hcz50_2, hcz50_3, hcz50_4, hcz50_5, hcz50_6, hfz50_0, hfz50_1, hfz50_2, hfz50_3, hfz50_4, hfz50_5, hfz50_6⟩ := bs7_ BK328
       go_wp2
       go_ret
       exact ⟨er_, hf_⟩
    ·rw [if_neg c27] at H
     have c27b0 : (a1_1 == 5) = false := beq_eq_false_iff_ne.mpr c27
     have c27b1 : (a1_1 != 5) = true := bne_iff_ne.mpr c27
     by_cases c51 : a1_1 = 4
     ·rw [if_pos c51] at H
      have c51b0 : (a1_1 == 4) = true := beq_iff_eq.mpr c51
      have c51b1 : (a1_1 != 4) = false := bne_eq_false_iff_eq.mpr c51
      clear c51
      by_cases c52 : a1_4 ≥ 0
      ·rw [if_pos c52] at H
       have c52b0 : decide (0 ≤ a1_4) = true := decide_eq_true c52
       clear c52
       by_cases c53 : a1_4 ≤ 0
       ·rw [if_pos c53] at H
        have c53b0 : decide (a1_4 ≤ 0) = true := decide_eq_true c53
        clear c53
        by_cases c54 : a1_3 = true
        ·subst c54
         have H1 : (some (!true)) = some r := by rw [if_pos rfl] at H; exact H
         clear H
         have H := H1
         clear H1
         obtain rfl := Option.some.inj H
         have hnb55 := NB328_327.out
         have hnc55 := NB327_328.out
         obtain ⟨hcz56_0, hcz56_1, hcz56_2, hcz56_3, hcz56_4, hcz56_5, hcz56_6, hfz56_0, hfz56_1, hfz56_2, hfz56_3, hfz56_4, hfz56_5, hfz56_6⟩ := bs7_ BK328
         go_wp2
         go_ret
         exact ⟨er_, hf_⟩
        ·replace c54 := Bool.eq_false_iff.mpr c54
         subst c54
         have H1 : (some (!(decide ((l1_5.length : Int) > 0)))) = some r := by rw [if_neg (show ¬ (false = true) by decide)] at H; exact H
         clear H
         have H := H1
         clear H1
         obtain rfl := Option.some.inj H
         have hnb57 := NB328_327.out
         have hnc57 := NB327_328.out
         obtain ⟨hcz58_0, hcz58_1, hcz58_2, hcz58_3, hcz58_4, hcz58_5, hcz58_6, hfz58_0, hfz58_1, hfz58_2, hfz58_3, hfz58_4, hfz58_5, hfz58_6⟩ := bs7_ BK328
         go_wp2
         go_ret
         exact ⟨er_, hf_⟩
       ·rw [if_neg c53] at H
        have c53b0 : decide (a1_4 ≤ 0) = false := decide_eq_false c53
        clear c53
        obtain rfl := Option.some.inj H
        have hnb59 := NB328_327.out
        have hnc59 := NB327_328.out
        obtain ⟨hcz60_0, hcz60_1, hcz60_2, hcz60_3, hcz60_4, hcz60_5, hcz60_6, hfz60_0, hfz60_1, hfz60_2, hfz60_3, hfz60_4, hfz60_5, hfz60_6⟩ := bs7_ BK328
        go_wp2
        go_ret
        exact ⟨er_, hf_⟩
      ·rw [if_neg c52] at H
       have c52b0 : decide (0 ≤ a1_4) = false := decide_eq_false c52
       clear c52
       obtain rfl := Option.some.inj H
       have hnb61 := NB328_327.out
       have hnc61 := NB327_328.out
       obtain ⟨hcz62_0, hcz62_1, hcz62_2, hcz62_3, hcz62_4, hcz62_5, hcz62_6, hfz62_0, hfz62_1, hfz62_2, hfz62_3, hfz62_4, hfz62_5, hfz62_6⟩ := bs7_ BK328
       go_wp2
       go_ret
       exact ⟨er_, hf_⟩
     ·rw [if_neg c51] at H
      have c51b0 : (a1_1 == 4) = false := beq_eq_false_iff_ne.mpr c51
      have c51b1 : (a1_1 != 4) = true := bne_iff_ne.mpr c51
      by_cases c63 : a1_4 ≥ 0
      ·rw [if_pos c63] at H
       have c63b0 : decide (0 ≤ a1_4) = true := decide_eq_true c63
       clear c63
       by_cases c64 : a1_4 ≤ 0
       ·rw [if_pos c64] at H
        have c64b0 : decide (a1_4 ≤ 0) = true := decide_eq_true c64
        clear c64
        obtain rfl := Option.some.inj H
        have hnb65 := NB328_327.out
        have hnc65 := NB327_328.out
        obtain ⟨hcz66_0, hcz66_1, hcz66_2, hcz66_3, hcz66_4, hcz66_5, hcz66_6, hfz66_0, hfz66_1, hfz66_2, hfz66_3, hfz66_4, hfz66_5, hfz66_6⟩ := bs7_ BK328
        go_wp2
        go_ret
        exact ⟨er_, hf_⟩
       ·rw [if_neg c64] at H
        have c64b0 : decide (a1_4 ≤ 0) = false := decide_eq_false c64
        clear c64
        obtain rfl := Option.some.inj H
        have hnb67 := NB328_327.out
        have hnc67 := NB327_328.out
        obtain ⟨hcz68_0, hcz68_1, hcz68_2, hcz68_3, hcz68_4, hcz68_5, hcz68_6, hfz68_0, hfz68_1, hfz68_2, hfz68_3, hfz68_4, hfz68_5, hfz68_6⟩ := bs7_ BK328
        go_wp2
        go_ret
        exact ⟨er_, hf_⟩
      ·rw [if_neg c63] at H
       have c63b0 : decide (0 ≤ a1_4) = false := decide_eq_false c63
       clear c63
       obtain rfl := Option.some.inj H
       have hnb69 := NB328_327.out
       have hnc69 := NB327_328.out
       obtain ⟨hcz70_0, hcz70_1, hcz70_2, hcz70_3, hcz70_4, hcz70_5, hcz70_6, hfz70_0, hfz70_1, hfz70_2, hfz70_3, hfz70_4, hfz70_5, hfz70_6⟩ := bs7_ BK328
       go_wp2
       go_ret
       exact ⟨er_, hf_⟩
end Go.Proofs.Ytaiglhfmmdajdaa.Pm
end
section
namespace Go.Proofs.Ytaiglhfmmdajdaa.Pm
open Go.RowKit Go.Proofs.YtaiglhfmmdajdaaW.PrintWords Go.Proofs.YtaiglhfmmdajdaaW.PrintLast Go.Proofs.YtaiglhfmmdajdaaW.PrintMore
attribute [local go_sem] max2_int min2_int max_two min_two max_three min_three max_four min_four   -- for this text's walks alone
set_option linter.unusedVariables false
set_option linter.unusedSimpArgs false
def model_isPlan.f (a0_0 : ByteArray) (a0_1 : Int) (a0_2 : ByteArray) (a0_3 : Bool) (a0_4 : Int) (l0_5 : List (S54)) (l0_6 : List (S54)) : Option (Bool) := if a0_1 = 1 then (if a0_2.toList = ([] : List UInt8) then (if a0_3 = true then (some false) else (some ((wrap64 ((l0_5.length : Int) + (l0_6.length : Int))) == 0))) else (some false)) else (some false)
set_option maxHeartbeats 8000000 in
set_option maxRecDepth 100000 in
theorem model_isPlan.calls (a0_0 : ByteArray) (a0_1 : Int) (a0_2 : ByteArray) (a0_3 : Bool) (a0_4 : Int) (A0_5 : Option Addr) (c0_5 : Nat) (l0_5 : List (S54)) (A0_6 : Option Addr) (c0_6 : Nat) (l0_6 : List (S54)) (r : Bool) (w : World) (hr0_5 : Kd.C k54 w A0_5 l0_5.length l0_5) (hc0_5 : l0_5.length ≤ c0_5) (hr0_6 : Kd.C k54 w A0_6 l0_6.length l0_6) (hc0_6 : l0_6.length ≤ c0_6) (h : model_isPlan.f a0_0 a0_1 a0_2 a0_3 a0_4 l0_5 l0_6 = some r) :
  Calls Try.prog 41 #[.agg #[.string a0_0, .int .i64 a0_1, .string a0_2, .bool a0_3, .int .i64 a0_4, .slice A0_5 l0_5.length c0_5, .slice A0_6 l0_6.length c0_6]] w fun e w' => e = .returned (.bool r) ∧ Below w.heap.size w w' := by
 have hu48 := Try.underlying48
 have HR0_5 := Aside0.mk hr0_5
 have HC0_5 := Aside0.mk hc0_5
 clear hr0_5 hc0_5
 have HR0_6 := Aside0.mk hr0_6
 have HC0_6 := Aside0.mk hc0_6
 clear hr0_6 hc0_6
 have HB := Aside0.mk (Below.refl w.heap.size w)
 have H : (if a0_1 = 1 then (if a0_2.toList = ([] : List UInt8) then (if a0_3 = true then (some false) else (some ((wrap64 ((l0_5.length : Int) + (l0_6.length : Int))) == 0))) else (some false)) else (some false)) = some r := h
 clear h
 by_cases c2 : a0_1 = 1
 ·rw [if_pos c2] at H
  have c2b0 : (a0_1 == 1) = true := beq_iff_eq.mpr c2
  have c2b1 : (a0_1 != 1) = false := bne_eq_false_iff_eq.mpr c2
  clear c2
  by_cases c3 : a0_2.toList = ([] : List UInt8)
  ·rw [if_pos c3] at H
   have c3b0 : (a0_2.toList == ([] : List UInt8)) = true := beq_iff_eq.mpr c3
   have c3b1 : (a0_2.toList != ([] : List UInt8)) = false := bne_eq_false_iff_eq.mpr c3
   clear c3
   by_cases c4 : a0_3 = true
   ·subst c4
    have H1 : (some false) = some r := by rw [if_pos rfl] at H; exact H
    clear H
    have H := H1
    clear H1
    obtain rfl := Option.some.inj H
    go_enter Try.func41, Try.ntmps41
    go_wp2_with (first | ((with_reducible refine gate_dst (N := 1) rfl ?_); (try (refine gate_guard (by rfl) ?_; dsimp only)); refine box_event ?hg (N := 1) ?hd (cs := #[.string a0_0, .int .i64 a0_1, .string a0_2, .bool true, .int .i64 a0_4, .slice A0_5 l0_5.length c0_5, .slice A0_6 l0_6.length c0_6]) (t := 48) ?hr ?_; (case hd => rfl); (case hg => rfl); (case hr => first | (go_simp; done) | (go_simp; rfl)); intro gb371 hg w5 hbox hb; have n0_ := hb_ HB hb; have n1_ := Aside0.mk (hbox); have n2_ := Aside0.mk ((by rw [hg]; exact (below_size (by repeat (first | (with_reducible first | exact HB.out | apply below_alloc | apply pw_below_drewN | apply below_drew1) | exact HB.out))) : w.heap.size ≤ gb371)); have n3_ := Aside0.mk ((by rw [hg]; exact (below_size (by repeat (first | (with_reducible first | exact HB.out | apply below_alloc | apply pw_below_drewN | apply below_drew1) | exact HB.out))) : w.heap.size ≤ gb371)); clear HB; have HB := n0_; have BK371 := n1_; have GW371 := n2_; have GE371 := n3_; clear n0_ n1_ n2_ n3_; clear hb hbox hg; obtain ⟨hcz6_0, hcz6_1, hcz6_2, hcz6_3, hcz6_4, hcz6_5, hcz6_6, hfz6_0, hfz6_1, hfz6_2, hfz6_3, hfz6_4, hfz6_5, hfz6_6⟩ := bs7_ BK371))
    go_ret
    exact ⟨er_, hf_⟩
   ·replace c4 := Bool.eq_false_iff.mpr c4
    subst c4
    have H1 : (some ((wrap64 ((l0_5.length : Int) + (l0_6.length : Int))) == 0)) = some r := by rw [if_neg (show ¬ (false = true) by decide)] at H; exact H
    clear H
    have H := H1
    clear H1
    obtain rfl := Option.some.inj H
    go_enter Try.func41, Try.ntmps41
    go_wp2_with (first | ((with_reducible refine gate_dst (N := 1) rfl ?_); (try (refine gate_guard (by rfl) ?_; dsimp only)); refine box_event ?hg (N := 1) ?hd (cs := #[.string a0_0, .int .i64 a0_1, .string a0_2, .bool false, .int .i64 a0_4, .slice A0_5 l0_5.length c0_5, .slice A0_6 l0_6.length c0_6]) (t := 48) ?hr ?_; (case hd => rfl); (case hg => rfl); (case hr => first | (go_simp; done) | (go_simp; rfl)); intro gb371 hg w7 hbox hb; have n0_ := hb_ HB hb; have n1_ := Aside0.mk (hbox); have n2_ := Aside0.mk ((by rw [hg]; exact (below_size (by repeat (first | (with_reducible first | exact HB.out | apply below_alloc | apply pw_below_drewN | apply below_drew1) | exact HB.out))) : w.heap.size ≤ gb371)); have n3_ := Aside0.mk ((by rw [hg]; exact (below_size (by repeat (first | (with_reducible first | exact HB.out | apply below_alloc | apply pw_below_drewN | apply below_drew1) | exact HB.out))) : w.heap.size ≤ gb371)); clear HB; have HB := n0_; have BK371 := n1_; have GW371 := n2_; have GE371 := n3_; clear n0_ n1_ n2_ n3_; clear hb hbox hg; obtain ⟨hcz8_0, hcz8_1, hcz8_2, hcz8_3, hcz8_4, hcz8_5, hcz8_6, hfz8_0, hfz8_1, hfz8_2, hfz8_3, hfz8_4, hfz8_5, hfz8_6⟩ := bs7_ BK371))
    go_ret
    exact ⟨er_, hf_⟩
  ·rw [if_neg c3] at H
   have c3b0 : (a0_2.toList == ([] : List UInt8)) = false := beq_eq_false_iff_ne.mpr c3
   have c3b1 : (a0_2.toList != ([] : List UInt8)) = true := bne_iff_ne.mpr c3
   obtain rfl := Option.some.inj H
   go_enter Try.func41, Try.ntmps41
   go_wp2_with (first | ((with_reducible refine gate_dst (N := 1) rfl ?_); (try (refine gate_guard (by rfl) ?_; dsimp only)); refine box_event ?hg (N := 1) ?hd (cs := #[.string a0_0, .int .i64 a0_1, .string a0_2, .bool a0_3, .int .i64 a0_4, .slice A0_5 l0_5.length c0_5, .slice A0_6 l0_6.length c0_6]) (t := 48) ?hr ?_; (case hd => rfl); (case hg => rfl); (case hr => first | (go_simp; done) | (go_simp; rfl)); intro gb371 hg w9 hbox hb; have n0_ := hb_ HB hb; have n1_ := Aside0.mk (hbox); have n2_ := Aside0.mk ((by rw [hg]; exact (below_size (by repeat (first | (with_reducible first | exact HB.out | apply below_alloc | apply pw_below_drewN | apply below_drew1) | exact HB.out))) : w.heap.size ≤ gb371)); have n3_ := Aside0.mk ((by rw [hg]; exact (below_size (by repeat (first | (with_reducible first | exact HB.out | apply below_alloc | apply pw_below_drewN | apply below_drew1) | exact HB.out))) : w.heap.size ≤ gb371)); clear HB; have HB := n0_; have BK371 := n1_; have GW371 := n2_; have GE371 := n3_; clear n0_ n1_ n2_ n3_; clear hb hbox hg; obtain ⟨hcz10_0, hcz10_1, hcz10_2, hcz10_3, hcz10_4, hcz10_5, hcz10_6, hfz10_0, hfz10_1, hfz10_2, hfz10_3, hfz10_4, hfz10_5, hfz10_6⟩ := bs7_ BK371))
   go_ret
   exact ⟨er_, hf_⟩
 ·rw [if_neg c2] at H
  have c2b0 : (a0_1 == 1) = false := beq_eq_false_iff_ne.mpr c2
  have c2b1 : (a0_1 != 1) = true := bne_iff_ne.mpr c2
  obtain rfl := Option.some.inj H
  go_enter Try.func41, Try.ntmps41
  go_wp2_with (first | ((with_reducible refine gate_dst (N := 1) rfl ?_); (try (refine gate_guard (by rfl) ?_; dsimp only)); refine box_event ?hg (N := 1) ?hd (cs := #[.string a0_0, .int .i64 a0_1, .string a0_2, .bool a0_3, .int .i64 a0_4, .slice A0_5 l0_5.length c0_5, .slice A0_6 l0_6.length c0_6]) (t := 48) ?hr ?_; (case hd => rfl); (case hg => rfl); (case hr => first | (go_simp; done) | (go_simp; rfl)); intro gb371 hg w11 hbox hb; have n0_ := hb_ HB hb; have n1_ := Aside0.mk (hbox); have n2_ := Aside0.mk ((by rw [hg]; exact (below_size (by repeat (first | (with_reducible first | exact HB.out | apply below_alloc | apply pw_below_drewN | apply below_drew1) | exact HB.out))) : w.heap.size ≤ gb371)); have n3_ := Aside0.mk ((by rw [hg]; exact (below_size (by repeat (first | (with_reducible first | exact HB.out | apply below_alloc | apply pw_below_drewN | apply below_drew1) | exact HB.out))) : w.heap.size ≤ gb371)); clear HB; have HB := n0_; have BK371 := n1_; have GW371 := n2_; have GE371 := n3_; clear n0_ n1_ n2_ n3_; clear hb hbox hg; obtain ⟨hcz12_0, hcz12_1, hcz12_2, hcz12_3, hcz12_4, hcz12_5, hcz12_6, hfz12_0, hfz12_1, hfz12_2, hfz12_3, hfz12_4, hfz12_5, hfz12_6⟩ := bs7_ BK371))
  go_ret
  exact ⟨er_, hf_⟩
end Go.Proofs.Ytaiglhfmmdajdaa.Pm
end
section
namespace Go.Proofs.Ytaiglhfmmdajdaa.Pm
open Go.RowKit Go.Proofs.YtaiglhfmmdajdaaW.PrintWords Go.Proofs.YtaiglhfmmdajdaaW.PrintLast Go.Proofs.YtaiglhfmmdajdaaW.PrintMore
attribute [local go_sem] max2_int min2_int max_two min_two max_three min_three max_four min_four   -- for this text's walks alone
set_option linter.unusedVariables false
set_option linter.unusedSimpArgs false
def name_isLetter.f (a0 : Int) : Option (Bool) := if a0 ≥ 97 then (if a0 ≤ 122 then (some true) else (if a0 ≥ 65 then (if a0 ≤ 90 then (some true) else (some (a0 == 95))) else (some (a0 == 95)))) else (if a0 ≥ 65 then (if a0 ≤ 90 then (some true) else (some (a0 == 95))) else (some (a0 == 95)))
set_option maxHeartbeats 8000000 in
set_option maxRecDepth 100000 in
theorem name_isLetter.calls (a0 : Int) (r : Bool) (w : World) (h : name_isLetter.f a0 = some r) :
  Calls Try.prog 81 #[.int .u8 a0] w fun e w' => e = .returned (.bool r) ∧ Drawn0 w w' := by
 have H : (if a0 ≥ 97 then (if a0 ≤ 122 then (some true) else (if a0 ≥ 65 then (if a0 ≤ 90 then (some true) else (some (a0 == 95))) else (some (a0 == 95)))) else (if a0 ≥ 65 then (if a0 ≤ 90 then (some true) else (some (a0 == 95))) else (some (a0 == 95)))) = some r := h
 clear h
 by_cases c2 : a0 ≥ 97
 ·rw [if_pos c2] at H
  have c2b0 : decide (97 ≤ a0) = true := decide_eq_true c2
  clear c2
  by_cases c3 : a0 ≤ 122
  ·rw [if_pos c3] at H
   have c3b0 : decide (a0 ≤ 122) = true := decide_eq_true c3
   clear c3
   obtain rfl := Option.some.inj H
   go_enter Try.func81, Try.ntmps81
   go_wp2
   go_ret
   exact ⟨by first | rfl | (simp; done) | (simp [*]; done), by repeat (first | exact Drawn0.refl _ | apply Drawn0.step)⟩
  ·rw [if_neg c3] at H
   have c3b0 : decide (a0 ≤ 122) = false := decide_eq_false c3
   clear c3
   by_cases c4 : a0 ≥ 65
   ·rw [if_pos c4] at H
    have c4b0 : decide (65 ≤ a0) = true := decide_eq_true c4
    clear c4
    by_cases c5 : a0 ≤ 90
    ·rw [if_pos c5] at H
     have c5b0 : decide (a0 ≤ 90) = true := decide_eq_true c5
     clear c5
     obtain rfl := Option.some.inj H
     go_enter Try.func81, Try.ntmps81
     go_wp2
     go_ret
     exact ⟨by first | rfl | (simp; done) | (simp [*]; done), by repeat (first | exact Drawn0.refl _ | apply Drawn0.step)⟩
    ·rw [if_neg c5] at H
     have c5b0 : decide (a0 ≤ 90) = false := decide_eq_false c5
     clear c5
     obtain rfl := Option.some.inj H
     go_enter Try.func81, Try.ntmps81
     go_wp2
     go_ret
     exact ⟨by first | rfl | (simp; done) | (simp [*]; done), by repeat (first | exact Drawn0.refl _ | apply Drawn0.step)⟩
   ·rw [if_neg c4] at H
    have c4b0 : decide (65 ≤ a0) = false := decide_eq_false c4
    clear c4
    obtain rfl := Option.some.inj H
    go_enter Try.func81, Try.ntmps81
    go_wp2
    go_ret
    exact ⟨by first | rfl | (simp; done) | (simp [*]; done), by repeat (first | exact Drawn0.refl _ | apply Drawn0.step)⟩
 ·rw [if_neg c2] at H
  have c2b0 : decide (97 ≤ a0) = false := decide_eq_false c2
  clear c2
  by_cases c6 : a0 ≥ 65
  ·rw [if_pos c6] at H
   have c6b0 : decide (65 ≤ a0) = true := decide_eq_true c6
   clear c6
   by_cases c7 : a0 ≤ 90
   ·rw [if_pos c7] at H
    have c7b0 : decide (a0 ≤ 90) = true := decide_eq_true c7
    clear c7
    obtain rfl := Option.some.inj H
    go_enter Try.func81, Try.ntmps81
    go_wp2
    go_ret
    exact ⟨by first | rfl | (simp; done) | (simp [*]; done), by repeat (first | exact Drawn0.refl _ | apply Drawn0.step)⟩
   ·rw [if_neg c7] at H
    have c7b0 : decide (a0 ≤ 90) = false := decide_eq_false c7
    clear c7
    obtain rfl := Option.some.inj H
    go_enter Try.func81, Try.ntmps81
    go_wp2
    go_ret
    exact ⟨by first | rfl | (simp; done) | (simp [*]; done), by repeat (first | exact Drawn0.refl _ | apply Drawn0.step)⟩
  ·rw [if_neg c6] at H
   have c6b0 : decide (65 ≤ a0) = false := decide_eq_false c6
   clear c6
   obtain rfl := Option.some.inj H
   go_enter Try.func81, Try.ntmps81
   go_wp2
   go_ret
   exact ⟨by first | rfl | (simp; done) | (simp [*]; done), by repeat (first | exact Drawn0.refl _ | apply Drawn0.step)⟩
end Go.Proofs.Ytaiglhfmmdajdaa.Pm
end
section
namespace Go.Proofs.Ytaiglhfmmdajdaa.Pm
open Go.RowKit Go.Proofs.YtaiglhfmmdajdaaW.PrintWords Go.Proofs.YtaiglhfmmdajdaaW.PrintLast Go.Proofs.YtaiglhfmmdajdaaW.PrintMore
attribute [local go_sem] max2_int min2_int max_two min_two max_three min_three max_four min_four   -- for this text's walks alone
set_option linter.unusedVariables false
set_option linter.unusedSimpArgs false
def name_isMore.f (a0 : Int) : Option (Bool) := (name_isLetter.f a0).bind fun t370 => (if t370 = true then (some true) else (if a0 ≥ 48 then (if a0 ≤ 57 then (some true) else (if a0 = 45 then (some true) else (some (a0 == 46)))) else (if a0 = 45 then (some true) else (some (a0 == 46)))))
set_option maxHeartbeats 8000000 in
set_option maxRecDepth 100000 in
theorem name_isMore.calls (a0 : Int) (r : Bool) (w : World) (h : name_isMore.f a0 = some r) :
  Calls Try.prog 82 #[.int .u8 a0] w fun e w' => e = .returned (.bool r) ∧ Drawn0 w w' := by
 have H : ((name_isLetter.f a0).bind fun t370 => (if t370 = true then (some true) else (if a0 ≥ 48 then (if a0 ≤ 57 then (some true) else (if a0 = 45 then (some true) else (some (a0 == 46)))) else (if a0 = 45 then (some true) else (some (a0 == 46)))))) = some r := h
 clear h
 replace H := Option.bind_eq_some_iff.mp H
 obtain ⟨t370, A20, H⟩ := H
 replace H : (if t370 = true then (some true) else (if a0 ≥ 48 then (if a0 ≤ 57 then (some true) else (if a0 = 45 then (some true) else (some (a0 == 46)))) else (if a0 = 45 then (some true) else (some (a0 == 46))))) = some r := H
 have A2 := Aside0.mk A20
 clear A20
 by_cases c3 : t370 = true
 ·subst c3
  have H1 : (some true) = some r := by rw [if_pos rfl] at H; exact H
  clear H
  have H := H1
  clear H1
  obtain rfl := Option.some.inj H
  go_enter Try.func82, Try.ntmps82
  go_wp2_with (first | ((with_reducible refine gate_callee (f := 81) rfl ?_); refine gl_ (some 4) Try.func81 #[.int .u8 a0] ?_; (with_reducible refine (name_isLetter.calls a0 true _ A2.out).mono ?_); rintro e w' ⟨rfl, ⟨nd, rfl⟩⟩; refine ⟨_, rfl, ?_⟩))
  go_ret
  exact ⟨by first | rfl | (simp; done) | (simp [*]; done), by repeat (first | exact Drawn0.refl _ | apply Drawn0.step)⟩
 ·replace c3 := Bool.eq_false_iff.mpr c3
  subst c3
  have H1 : (if a0 ≥ 48 then (if a0 ≤ 57 then (some true) else (if a0 = 45 then (some true) else (some (a0 == 46)))) else (if a0 = 45 then (some true) else (some (a0 == 46)))) = some r := by rw [if_neg (show ¬ (false = true) by decide)] at H; exact H
  clear H
  have H := H1
  clear H1
  by_cases c4 : a0 ≥ 48
  ·rw [if_pos c4] at H
   have c4b0 : decide (48 ≤ a0) = true := decide_eq_true c4
   clear c4
   by_cases c5 : a0 ≤ 57
   ·rw [if_pos c5] at H
    have c5b0 : decide (a0 ≤ 57) = true := decide_eq_true c5
    clear c5
    obtain rfl := Option.some.inj H
    go_enter Try.func82, Try.ntmps82
    go_wp2_with (first | ((with_reducible refine gate_callee (f := 81) rfl ?_); refine gl_ (some 4) Try.func81 #[.int .u8 a0] ?_; (with_reducible refine (name_isLetter.calls a0 false _ A2.out).mono ?_); rintro e w' ⟨rfl, ⟨nd, rfl⟩⟩; refine ⟨_, rfl, ?_⟩))
    go_ret
    exact ⟨by first | rfl | (simp; done) | (simp [*]; done), by repeat (first | exact Drawn0.refl _ | apply Drawn0.step)⟩
   ·rw [if_neg c5] at H
    have c5b0 : decide (a0 ≤ 57) = false := decide_eq_false c5
    clear c5
    by_cases c6 : a0 = 45
    ·rw [if_pos c6] at H
     have c6b0 : (a0 == 45) = true := beq_iff_eq.mpr c6
     have c6b1 : (a0 != 45) = false := bne_eq_false_iff_eq.mpr c6
     clear c6
     obtain rfl := Option.some.inj H
     go_enter Try.func82, Try.ntmps82
     go_wp2_with (first | ((with_reducible refine gate_callee (f := 81) rfl ?_); refine gl_ (some 4) Try.func81 #[.int .u8 a0] ?_; (with_reducible refine (name_isLetter.calls a0 false _ A2.out).mono ?_); rintro e w' ⟨rfl, ⟨nd, rfl⟩⟩; refine ⟨_, rfl, ?_⟩))
     go_ret
     exact ⟨by first | rfl | (simp; done) | (simp [*]; done), by repeat (first | exact Drawn0.refl _ | apply Drawn0.step)⟩
    ·rw [if_neg c6] at H
     have c6b0 : (a0 == 45) = false := beq_eq_false_iff_ne.mpr c6
     have c6b1 : (a0 != 45) = true := bne_iff_ne.mpr c6
     obtain rfl := Option.some.inj H
     go_enter Try.func82, Try.ntmps82
     go_wp2_with (first | ((with_reducible refine gate_callee (f := 81) rfl ?_); refine gl_ (some 4) Try.func81 #[.int .u8 a0] ?_; (with_reducible refine (name_isLetter.calls a0 false _ A2.out).mono ?_); rintro e w' ⟨rfl, ⟨nd, rfl⟩⟩; refine ⟨_, rfl, ?_⟩))
     go_ret
     exact ⟨by first | rfl | (simp; done) | (simp [*]; done), by repeat (first | exact Drawn0.refl _ | apply Drawn0.step)⟩
  ·rw [if_neg c4] at H
   have c4b0 : decide (48 ≤ a0) = false := decide_eq_false c4
   clear c4
   by_cases c7 : a0 = 45
   ·rw [if_pos c7] at H
    have c7b0 : (a0 == 45) = true := beq_iff_eq.mpr c7
    have c7b1 : (a0 != 45) = false := bne_eq_false_iff_eq.mpr c7
    clear c7
    obtain rfl := Option.some.inj H
    go_enter Try.func82, Try.ntmps82
    go_wp2_with (first | ((with_reducible refine gate_callee (f := 81) rfl ?_); refine gl_ (some 4) Try.func81 #[.int .u8 a0] ?_; (with_reducible refine (name_isLetter.calls a0 false _ A2.out).mono ?_); rintro e w' ⟨rfl, ⟨nd, rfl⟩⟩; refine ⟨_, rfl, ?_⟩))
    go_ret
    exact ⟨by first | rfl | (simp; done) | (simp [*]; done), by repeat (first | exact Drawn0.refl _ | apply Drawn0.step)⟩
   ·rw [if_neg c7] at H
    have c7b0 : (a0 == 45) = false := beq_eq_false_iff_ne.mpr c7
    have c7b1 : (a0 != 45) = true := bne_iff_ne.mpr c7
    obtain rfl := Option.some.inj H
    go_enter Try.func82, Try.ntmps82
    go_wp2_with (first | ((with_reducible refine gate_callee (f := 81) rfl ?_); refine gl_ (some 4) Try.func81 #[.int .u8 a0] ?_; (with_reducible refine (name_isLetter.calls a0 false _ A2.out).mono ?_); rintro e w' ⟨rfl, ⟨nd, rfl⟩⟩; refine ⟨_, rfl, ?_⟩))
    go_ret
    exact ⟨by first | rfl | (simp; done) | (simp [*]; done), by repeat (first | exact Drawn0.refl _ | apply Drawn0.step)⟩
end Go.Proofs.Ytaiglhfmmdajdaa.Pm
end
section
namespace Go.Proofs.Ytaiglhfmmdajdaa.Pm
open Go.RowKit Go.Proofs.YtaiglhfmmdajdaaW.PrintWords Go.Proofs.YtaiglhfmmdajdaaW.PrintLast Go.Proofs.YtaiglhfmmdajdaaW.PrintMore
attribute [local go_sem] max2_int min2_int max_two min_two max_three min_three max_four min_four   -- for this text's walks alone
set_option linter.unusedVariables false
set_option linter.unusedSimpArgs false
def letterB (a : Int) : Bool := decide ((97 ≤ a ∧ a ≤ 122) ∨ (65 ≤ a ∧ a ≤ 90) ∨ a = 95)
def moreB (a : Int) : Bool := letterB a || decide ((48 ≤ a ∧ a ≤ 57) ∨ a = 45 ∨ a = 46)
theorem letter_eq (a : Int) : name_isLetter.f a = some (letterB a) := by
  unfold name_isLetter.f letterB
  by_cases h1 : a ≥ 97 <;> by_cases h2 : a ≤ 122 <;> by_cases h3 : a ≥ 65 <;> by_cases h4 : a ≤ 90 <;> simp [h1, h2, h3, h4] <;> first | omega | (by_cases h5 : a = 95 <;> simp [h5] <;> omega)
theorem more_eq (a : Int) : name_isMore.f a = some (moreB a) := by
  unfold name_isMore.f moreB
  rw [letter_eq, Option.bind_some]
  cases letterB a with
  | true => simp
  | false =>
    by_cases h1 : a ≥ 48 <;> by_cases h2 : a ≤ 57 <;> by_cases h3 : a = 45 <;> simp [h1, h2, h3] <;> first | omega | (by_cases h5 : a = 46 <;> simp [h5] <;> omega)
def byteAt (s : ByteArray) (i : Nat) : Int := ((s.data.toList.getD i 0).toNat : Int)
def nameB (s : ByteArray) : Bool := decide (1 ≤ s.size ∧ s.size ≤ 12) && letterB (byteAt s 0) && (List.range s.size).all (fun i => moreB (byteAt s i))
def name_Is.f (a0 : ByteArray) : Option Bool := some (nameB a0)
theorem empty_size (s : ByteArray) : s.toList.isEmpty = decide (s.size = 0) := by
  rw [ByteArray.toList_eq, ← data_length]
  cases s.data.toList with
  | nil => rfl
  | cons x l => simp
theorem byteAt_get (s : ByteArray) (h : 0 < s.size) : ((s[0]'h).toNat : Int) = byteAt s 0 := by
  simp only [byteAt, List.getD_eq_getElem?_getD]
  rw [List.getElem?_eq_getElem (by simpa using h)]
  rfl
set_option maxHeartbeats 4000000 in
set_option maxRecDepth 100000 in
theorem name_Is.calls (a0 : ByteArray) (r : Bool) (w : World) (h : name_Is.f a0 = some r) :
    Calls Try.prog 67 #[.string a0] w fun e w' => e = .returned (.bool r) ∧ Below w.heap.size w w' := by
  obtain rfl := Option.some.inj h
  clear h
  by_cases h0 : a0.size = 0
  · have e1 : a0.toList.isEmpty = true := by rw [empty_size]; exact decide_eq_true h0
    have e2 : nameB a0 = false := by simp [nameB, h0]
    rw [e2]
    clear e2 h0
    go_enter Try.func67, Try.ntmps67
    go_wp2
    go_ret
    exact ⟨rfl, Below.refl _ _⟩
  have e1 : a0.toList.isEmpty = false := by rw [empty_size]; exact decide_eq_false h0
  by_cases h12 : 12 < a0.size
  · have e2 : nameB a0 = false := by simp [nameB]; omega
    rw [e2]
    clear e2 h0
    have h12' : (12 : Int) < a0.size := by omega
    go_enter Try.func67, Try.ntmps67
    go_wp2
    go_ret
    exact ⟨rfl, Below.refl _ _⟩
  have h12' : ¬ (12 : Int) < a0.size := by omega
  have hp : 0 < a0.size := by omega
  have hp' : (0 : Int) < a0.size := by omega
  have hl := fun (W : World) => name_isLetter.calls (byteAt a0 0) _ W (letter_eq _)
  have HL := Lib.hid hl
  clear hl
  have hb0 := byteAt_get a0 hp
  cases hq : letterB (byteAt a0 0) with
  | false =>
    have e2 : nameB a0 = false := by simp [nameB, hq]
    have hl := HL.out w
    rw [hq] at hl
    rw [e2]
    clear e2 hq h0 HL
    go_enter Try.func67, Try.ntmps67
    go_wp2_with (go_at_call 81; refine hl.mono ?_; rintro e w' ⟨rfl, ⟨nd, rfl⟩⟩)
    go_ret
    exact ⟨rfl, pw_below_drewN (Below.refl _ _) _⟩
  | true =>
    have hl := HL.out w
    rw [hq] at hl
    have hconv := fun (W : World) => Lib.run_convert_string_bytes (P := Try.prog) W 9 26 5 a0 Try.underlying9 Try.underlying26 Try.underlying5
    obtain ⟨n, hn⟩ : ∃ n, n = a0.size := ⟨_, rfl⟩
    obtain ⟨T, hT⟩ : ∃ T, T = nameB a0 := ⟨_, rfl⟩
    have HT : Hid (T = (List.range n).all (fun i => moreB (byteAt a0 i))) := Lib.hid (by rw [hT, hn]; simp [nameB, hq]; omega)
    rw [← hT]
    clear hT hq
    have HN := Lib.hid hn
    clear hn
    go_enter Try.func67, Try.ntmps67
    go_wp2_with (go_at_call 81; refine hl.mono ?_; rintro e w' ⟨rfl, ⟨nd, rfl⟩⟩)
    have hs := Lib.bytesWorld_size (w.drewN nd) 5 a0
    obtain ⟨W1, hW1⟩ : ∃ W1, W1 = Lib.bytesWorld (w.drewN nd) 5 a0 := ⟨_, rfl⟩
    have B1 : Below w.heap.size w W1 := by
      rw [hW1]
      refine ⟨rfl, rfl, rfl, ?_, fun i hi => ?_⟩
      · rw [hs]; simp
      · exact Lib.bytesWorld_at_old (w.drewN nd) _ a0 i hi
    have C1 : ∀ j, j < n → W1.cell? ⟨w.heap.size, j, none⟩ = some (.int .u8 (byteAt a0 j)) := by
      intro j hj
      rw [hW1]
      exact Lib.bytesWorld_cell (w.drewN nd) 5 a0 j (by rw [← HN.out]; exact hj)
    have hlt1 : w.heap.size < W1.heap.size := by rw [hW1, hs]; simp
    rw [← hW1]
    rw [← HN.out] at h12' ⊢
    have hn12 : n ≤ 12 := by omega
    have BB := Lib.hid (And.intro B1 C1)
    clear hs hW1 B1 C1 hl hconv HL hb0 h12 hp hp' h0
    generalize grownCap (w.drewN nd) n 0 5 = cap
    go_loopg [21] n (fun gg s21 wr => ∃ kk : Nat, kk ≤ n ∧ n - kk ≤ gg ∧ s21 = .int .i64 kk ∧ Aside (Below W1.heap.size W1 wr) ∧ Aside (∀ j, j < kk → moreB (byteAt a0 j) = true))
    case atStart => exact ⟨0, Nat.zero_le _, by omega, rfl, Below.refl _ _, fun j hj => absurd hj (Nat.not_lt_zero _)⟩
    case round =>
      obtain ⟨kk, hkk, hg, rfl, BW, A⟩ := hrel
      have BE : Below w.heap.size w wr := below_then BB.out.1 BB.out.1.size BW.out
      have BEH := Lib.hid BE
      clear BE
      by_cases hlt : kk < n
      · have hltz : (kk : Int) < (n : Int) := by omega
        have hk12 : (kk : Int) ≤ 12 := by omega
        have hx : wr.cell? ⟨w.heap.size, kk, none⟩ = some (.int .u8 (byteAt a0 kk)) := (BW.out.cell hlt1).trans (BB.out.2 kk hlt)
        have hm := name_isMore.calls (byteAt a0 kk) _ wr (more_eq _)
        cases hq : moreB (byteAt a0 kk) with
        | false =>
          rw [hq] at hm
          have e2 : T = false := by
            rw [HT.out, List.all_eq_false]
            exact ⟨kk, List.mem_range.2 hlt, by rw [hq]; simp⟩
          have HE := Lib.hid e2
          clear e2 hq
          go_wp2_with (go_at_call 82; refine hm.mono ?_; rintro e w' ⟨rfl, ⟨nd2, rfl⟩⟩)
          go_ret
          exact ⟨by rw [HE.out]; rfl, pw_below_drewN BEH.out _⟩
        | true =>
          rw [hq] at hm
          have HQ := Lib.hid hq
          clear hq
          go_wp2_with (go_at_call 82; refine hm.mono ?_; rintro e w' ⟨rfl, ⟨nd2, rfl⟩⟩)
          go_roundg (n - (kk + 1))
          case measure => omega
          case rel =>
            refine ⟨kk + 1, by omega, by omega, by go_num, (show Aside _ from pw_below_drewN BW.out _), (show Aside _ from fun j hj => ?_)⟩
            by_cases e : j = kk
            · subst e; exact HQ.out
            · exact A.out j (by omega)
      · have hltz : ¬ (kk : Int) < (n : Int) := by omega
        obtain rfl : kk = n := by omega
        have e2 : T = true := by
          rw [HT.out, List.all_eq_true]
          intro j hj
          exact A.out j (List.mem_range.1 hj)
        have HE := Lib.hid e2
        clear e2
        go_wp2
        go_ret
        exact ⟨by rw [HE.out]; rfl, BEH.out⟩
end Go.Proofs.Ytaiglhfmmdajdaa.Pm
end
section
namespace Go.Proofs.Ytaiglhfmmdajdaa.Pm
open Go.RowKit Go.Proofs.YtaiglhfmmdajdaaW.PrintWords Go.Proofs.YtaiglhfmmdajdaaW.PrintLast Go.Proofs.YtaiglhfmmdajdaaW.PrintMore
attribute [local go_sem] max2_int min2_int max_two min_two max_three min_three max_four min_four   -- for this text's walks alone
set_option linter.unusedVariables false
set_option linter.unusedSimpArgs false
def nameOk (l : List ByteArray) (i : Nat) : Bool := nameB (rdOf ByteArray.empty l (i : Int)) && !memB (l.take i) (rdOf ByteArray.empty l (i : Int))
def namesB (l : List ByteArray) : Bool := (List.range l.length).all (nameOk l)
def model_areNames.f (l0 : List ByteArray) : Option Bool := some (namesB l0)
set_option maxHeartbeats 8000000 in
set_option maxRecDepth 100000 in
theorem model_areNames.calls (A0 : Option Addr) (c0 : Nat) (l0 : List ByteArray) (r : Bool) (w : World) (hr0 : Kd.C Kd.string w A0 l0.length l0) (hc0 : l0.length ≤ c0) (h : model_areNames.f l0 = some r) :
    Calls Try.prog 39 #[.slice A0 l0.length c0] w fun e w' => e = .returned (.bool r) ∧ Below w.heap.size w w' := by
  obtain rfl := Option.some.inj h
  clear h
  have HR := Lib.hid hr0
  have hbig : l0.length ≤ 9223372036854775807 := hr0.2.1
  clear hr0
  obtain ⟨n, hn⟩ : ∃ n, n = l0.length := ⟨_, rfl⟩
  have HN := Lib.hid hn
  rw [← hn] at hc0 hbig ⊢
  clear hn
  go_enter Try.func39, Try.ntmps39
  go_wp2
  go_loopg [7] n (fun gg s7 wr => ∃ i : Nat, s7 = .int .i64 i ∧ i ≤ n ∧ n - i ≤ gg ∧ Hid (Below w.heap.size w wr ∧ ∀ j, j < i → nameOk l0 j = true))
  case atStart => exact ⟨0, rfl, Nat.zero_le _, by omega, Lib.hid ⟨Below.refl _ _, fun j hj => by omega⟩⟩
  case round =>
    obtain ⟨i, rfl, hin, hig, X⟩ := hrel
    by_cases hlt : i < n
    case neg =>
      have hltz : ¬ (i : Int) < (n : Int) := by omega
      obtain rfl : i = n := by omega
      have he : namesB l0 = true := by unfold namesB; rw [List.all_eq_true, ← HN.out]; intro j hj; exact X.out.2 j (List.mem_range.1 hj)
      have HE := Lib.hid he
      clear he
      go_wp2
      go_ret
      exact ⟨by rw [HE.out]; rfl, X.out.1⟩
    have hltz : (i : Int) < (n : Int) := by omega
    obtain ⟨ad, e, hx⟩ := Kd.at_string HR.out (i : Int) (by omega) (by have := HN.out; omega)
    cases e
    simp only [Int.toNat_natCast] at hx
    replace hx := keepc X.out.1 hx
    obtain ⟨x, hxx⟩ : ∃ x, x = rdOf ByteArray.empty l0 (i : Int) := ⟨_, rfl⟩
    rw [← hxx] at hx
    have hok : nameOk l0 i = (nameB x && !memB (l0.take i) x) := by rw [hxx]; rfl
    have HOK := Lib.hid hok
    clear hxx hok
    have hnm := name_Is.calls x _ wr rfl
    have hic : i ≤ c0 := by omega
    have hic2 : (i : Int) ≤ (c0 : Int) := by omega
    have hi0 : (0 : Int) ≤ (i : Int) := by omega
    cases hq : nameB x with
    | false =>
      have he : namesB l0 = false := by unfold namesB; exact List.all_eq_false.2 ⟨i, List.mem_range.2 (by have := HN.out; omega), by rw [HOK.out, hq]; simp⟩
      have HE := Lib.hid he
      rw [hq] at hnm
      clear he hq
      go_wp2_with (go_at_call 67; refine hnm.mono ?_; rintro e w' ⟨rfl, hb'⟩)
      go_ret
      exact ⟨by rw [HE.out]; rfl, keepb hb' X.out.1⟩
    | true =>
      rw [hq] at hnm HOK
      clear hq
      go_wp2_with fail
      go_at_call 67
      refine hnm.mono ?_
      rintro e w' ⟨rfl, hb'⟩
      have el : (l0.take i).length = i := by rw [List.length_take]; have := HN.out; omega
      have hct := slices_Contains_string_string.calls (n + 1) (some ad) c0 (l0.take i) x _ w' (Kd.C_below (Kd.C_below (Kd.C_take HR.out (show i ≤ l0.length by have := HN.out; omega)) X.out.1) hb') (by rw [el]; omega) (contains_eq (l0.take i) x (by rw [el]; omega) (n + 1) (by rw [el]; omega))
      rw [el] at hct
      have HB := Lib.hid (keepb hb' X.out.1)
      clear hb' el hnm
      cases hq2 : memB (l0.take i) x with
      | true =>
        have he : namesB l0 = false := by unfold namesB; exact List.all_eq_false.2 ⟨i, List.mem_range.2 (by have := HN.out; omega), by rw [HOK.out, hq2]; simp⟩
        have HE := Lib.hid he
        rw [hq2] at hct
        clear he hq2
        go_wp2_with (go_at_call 68; refine hct.mono ?_; rintro e w2 ⟨rfl, ⟨nd, rfl⟩⟩)
        go_ret
        exact ⟨by rw [HE.out]; rfl, pw_below_drewN HB.out _⟩
      | false =>
        rw [hq2] at hct HOK
        clear hq2
        go_wp2_with (go_at_call 68; refine hct.mono ?_; rintro e w2 ⟨rfl, ⟨nd, rfl⟩⟩)
        go_roundg (n - (i + 1))
        case measure => omega
        case rel =>
          refine ⟨i + 1, by go_num, by omega, by omega, Lib.hid ⟨pw_below_drewN HB.out _, fun j hj => ?_⟩⟩
          by_cases e : j = i
          · subst e; rw [HOK.out]; rfl
          · exact X.out.2 j (by omega)
end Go.Proofs.Ytaiglhfmmdajdaa.Pm
end
