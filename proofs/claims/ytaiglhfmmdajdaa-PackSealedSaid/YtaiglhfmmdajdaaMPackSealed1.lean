/- Walks and plain laws on the way to the law PackSealed: several texts of this workplace and of the kit's printer, merged; what is not used is struck, by a program. No condition. -/
import Derived.Test.YtaiglhfmmdajdaaMPackSealed0
import Derived.Lib.Hide
import Derived.Shelf.Abstract
section
namespace Go.Proofs.Ytaiglhfmmdajdaa.Pm
open Go.RowKit Go.Proofs.YtaiglhfmmdajdaaW.PrintWords Go.Proofs.YtaiglhfmmdajdaaW.PrintLast Go.Proofs.YtaiglhfmmdajdaaW.PrintMore
attribute [local go_sem] max2_int min2_int max_two min_two max_three min_three max_four min_four   -- for this text's walks alone
set_option linter.unusedVariables false
set_option linter.unusedSimpArgs false
attribute [local go_sem high] eqA103
def api_On_94.l0 : Nat → List (S103) → Int → Int → ByteArray → Int → Option (Int)
 | 0, _, _, _, _, _ => none
 | k + 1, x0, x7, x8, x332000, x332001 => if x8 < x7 then (if 0 ≤ x8 then (if x8 < (x0.length : Int) then (if (x332000.toList == (((rd_T103 x0 x8).f0).toList) && (x332001 == ((rd_T103 x0 x8).f1))) = true then (some x8) else (api_On_94.l0 k x0 x7 (wrap64 (x8 + 1)) x332000 x332001)) else (none)) else (none)) else (some (-1))
def api_On_94.f (k : Nat) (l0 : List (S103)) (a1_0 : ByteArray) (a1_1 : Int) : Option (Int) := api_On_94.l0 k l0 (l0.length : Int) 0 a1_0 a1_1
theorem api_On_94.mono_l : ∀ k, (∀ y0 y1 y2 y3 y4, LeO (api_On_94.l0 k y0 y1 y2 y3 y4) (api_On_94.l0 (k + 1) y0 y1 y2 y3 y4))
 | 0 => fun _ _ _ _ _ r h => by simp [api_On_94.l0] at h
 | k + 1 => by
  have ih0 := api_On_94.mono_l k
  ·intro y0 y1 y2 y3 y4
   unfold api_On_94.l0
   repeat' first
   | (with_reducible exact ih0 _ _ _ _ _)
   | (with_reducible exact LeO.refl _)
   | (with_reducible exact LeO.none _)
   | (with_reducible refine LeO.ite ?_ ?_)
   | (with_reducible refine LeO.bind ?_ (fun _ => ?_))
   | exact ih0 _ _ _ _ _
   | exact LeO.none _
   | refine LeO.ite ?_ ?_
   | refine LeO.bind ?_ (fun _ => ?_)
theorem api_On_94.mono : ∀ a0 a1 a2 k, LeO (api_On_94.f k a0 a1 a2) (api_On_94.f (k + 1) a0 a1 a2) := by
 intro a0 a1 a2 k
 have ih0 := api_On_94.mono_l k
 unfold api_On_94.f
 repeat' first
  | (with_reducible exact ih0 _ _ _ _ _)
  | (with_reducible exact LeO.refl _)
  | (with_reducible exact LeO.none _)
  | (with_reducible refine LeO.ite ?_ ?_)
  | (with_reducible refine LeO.bind ?_ (fun _ => ?_))
  | exact ih0 _ _ _ _ _
  | exact LeO.none _
  | refine LeO.ite ?_ ?_
  | refine LeO.bind ?_ (fun _ => ?_)
set_option maxHeartbeats 8000000 in
set_option maxRecDepth 100000 in
theorem api_On_94.calls (k : Nat) (A0 : Option Addr) (c0 : Nat) (l0 : List (S103)) (a1_0 : ByteArray) (a1_1 : Int) (r : Int) (w : World) (hr0 : Kd.C k103 w A0 l0.length l0) (hc0 : l0.length ≤ c0) (h : api_On_94.f k l0 a1_0 a1_1 = some r) :
 Calls Try.prog 94 #[.slice A0 l0.length c0, .agg #[.string a1_0, .int .i64 a1_1]] w fun e w' => e = .returned (.int .i64 r) ∧ Below w.heap.size w w' := by
 have hu103 := Try.underlying103
 have HR0 := Aside0.mk hr0
 have HC0 := Aside0.mk hc0
 clear hr0 hc0
 have HB := Aside0.mk (Below.refl w.heap.size w)
 have H : (api_On_94.l0 k l0 (l0.length : Int) 0 a1_0 a1_1) = some r := h
 clear h
 have H' := Aside0.mk H
 clear H
 go_enter Try.func94, Try.ntmps94
 go_wp2_with (first | ((with_reducible refine gate_dst (N := 3) rfl ?_); refine bx_ 3 #[.string a1_0, .int .i64 a1_1] 103 ?_; intro gb331 hg w3 hbox hb; have BK331 := Aside0.mk (hbox); have GW331 := zz_ (w := w) hg; have GE331 := zz_ (w := w) hg; replace HB := hb_ HB hb;  clear hb hbox hg))
 repeat (go_quiet (first | ((with_reducible refine gate_dst (N := 3) rfl ?_); refine bx_ 3 #[.string a1_0, .int .i64 a1_1] 103 ?_; intro gb331 hg w3 hbox hb; have BK331 := Aside0.mk (hbox); have GW331 := zz_ (w := w) hg; have GE331 := zz_ (w := w) hg; replace HB := hb_ HB hb;  clear hb hbox hg)); try go_wp2_with (first | ((with_reducible refine gate_dst (N := 3) rfl ?_); refine bx_ 3 #[.string a1_0, .int .i64 a1_1] 103 ?_; intro gb331 hg w3 hbox hb; have BK331 := Aside0.mk (hbox); have GW331 := zz_ (w := w) hg; have GE331 := zz_ (w := w) hg; replace HB := hb_ HB hb;  clear hb hbox hg)))
 go_loopg [8] k (fun kq v8 w' => ∃ (x8_1 : Int), v8 = .int .i64 x8_1 ∧ Aside0 (api_On_94.l0 kq l0 (l0.length : Int) x8_1 a1_0 a1_1 = some r) ∧ Aside0 (kq ≤ k) ∧ Aside0 (w'.heap[gb331]? = some (.cells #[.string a1_0, .int .i64 a1_1] 103 (0, 0))) ∧ Aside0 (Below w.heap.size w w'))
 case atStart => exact ⟨(0), rf_, H', ⟨Nat.le_refl _⟩, ⟨gx_ BK331⟩, ⟨hf_⟩⟩
 case round =>
  clear H'
  try clear p2
  obtain ⟨x8_1, rfl, HA, HK1, BK331, HB⟩ := hrel
  cases gk with
  | zero => exact absurd HA.out (by simp [api_On_94.l0])
  | succ k1 =>
   have H := HA.out
   clear HA
   simp only [api_On_94.l0] at H
   by_cases c4 : x8_1 < (l0.length : Int)
   ·rw [if_pos c4] at H
    have c4b0 := decide_eq_true c4
    clear c4
    by_cases c5 : 0 ≤ x8_1
    ·rw [if_pos c5] at H
     have c5b0 := decide_eq_true c5
     clear c5
     by_cases c6 : x8_1 < (l0.length : Int)
     ·rw [if_pos c6] at H
      have c6b0 := decide_eq_true c6
      clear c6
      by_cases c7 : (a1_0.toList == (((rd_T103 l0 x8_1).f0).toList) && (a1_1 == ((rd_T103 l0 x8_1).f1))) = true
      ·rw [if_pos c7] at H
       have c7b0 : (a1_0.toList == (((rd_T103 l0 x8_1).f0).toList) && (a1_1 == ((rd_T103 l0 x8_1).f1))) = true := c7
       (try (have c7b1 : decide (a1_0.toList = (((rd_T103 l0 x8_1).f0).toList) && (a1_1 == ((rd_T103 l0 x8_1).f1))) = true := by simpa using c7))
       (try (have c7b2 : (a1_0.toList == (((rd_T103 l0 x8_1).f0).toList) && (a1_1 == ((rd_T103 l0 x8_1).f1))) = true := by simpa using c7))
       clear c7
       obtain rfl := Option.some.inj H
       obtain ⟨hcz8_0, hcz8_1, hfz8_0, hfz8_1⟩ := bs2_ BK331
       obtain ⟨ad332, e332, hx332_0, hx332_1, p332, q332⟩ := au_T103 HR0 HB (x8_1)
       cases e332
       go_wp2
       repeat (go_quiet (fail); try go_wp2)
       go_ret
       exact ⟨er_, hf_⟩
      ·rw [if_neg c7] at H
       have c7b0 : (a1_0.toList == (((rd_T103 l0 x8_1).f0).toList) && (a1_1 == ((rd_T103 l0 x8_1).f1))) = false := by simpa using c7
       (try (have c7b1 : decide (a1_0.toList = (((rd_T103 l0 x8_1).f0).toList) && (a1_1 == ((rd_T103 l0 x8_1).f1))) = false := by simpa using c7))
       (try (have c7b2 : (a1_0.toList == (((rd_T103 l0 x8_1).f0).toList) && (a1_1 == ((rd_T103 l0 x8_1).f1))) = false := by simpa using c7))
       (try (have c7b3 : ¬ (a1_0.toList = (((rd_T103 l0 x8_1).f0).toList) && (a1_1 == ((rd_T103 l0 x8_1).f1))) := by simpa using c7))
       clear c7
       have H' := Aside0.mk H
       clear H
       obtain ⟨hcz9_0, hcz9_1, hfz9_0, hfz9_1⟩ := bs2_ BK331
       obtain ⟨ad332, e332, hx332_0, hx332_1, p332, q332⟩ := au_T103 HR0 HB (x8_1)
       cases e332
       go_wp2
       repeat (go_quiet (fail); try go_wp2)
       go_roundg k1
       case measure => have := HK1.out; omega
       case rel => exact ⟨(wrap64 (x8_1 + 1)), rf_, H', ⟨by have := HK1.out; omega⟩, ⟨gx_ BK331⟩, ⟨hf_⟩⟩
     ·rw [if_neg c6] at H
      exact absurd H (by simp)
    ·rw [if_neg c5] at H
     exact absurd H (by simp)
   ·rw [if_neg c4] at H
    have c4b0 := decide_eq_false c4
    clear c4
    obtain rfl := Option.some.inj H
    go_wp2
    repeat (go_quiet (fail); try go_wp2)
    go_ret
    exact ⟨er_, hf_⟩
end Go.Proofs.Ytaiglhfmmdajdaa.Pm
end
section
namespace Go.Proofs.Ytaiglhfmmdajdaa.Pm
open Go.RowKit Go.Proofs.YtaiglhfmmdajdaaW.PrintWords Go.Proofs.YtaiglhfmmdajdaaW.PrintLast Go.Proofs.YtaiglhfmmdajdaaW.PrintMore
attribute [local go_sem] max2_int min2_int max_two min_two max_three min_three max_four min_four   -- for this text's walks alone
set_option linter.unusedVariables false
set_option linter.unusedSimpArgs false
def api_On_89.f (k : Nat) (l0 : List (S103)) (a1_0 : ByteArray) (a1_1 : Int) : Option (Bool) := (api_On_94.f k l0 a1_0 a1_1).bind fun t334 => (some (decide (t334 ≥ 0)))
theorem api_On_89.mono : ∀ a0 a1 a2 k, LeO (api_On_89.f k a0 a1 a2) (api_On_89.f (k + 1) a0 a1 a2) := by
 intro a0 a1 a2 k
 unfold api_On_89.f
 repeat' first
  | (with_reducible exact api_On_94.mono _ _ _ _)
  | (with_reducible exact LeO.refl _)
  | (with_reducible exact LeO.none _)
  | (with_reducible refine LeO.ite ?_ ?_)
  | (with_reducible refine LeO.bind ?_ (fun _ => ?_))
  | exact api_On_94.mono _ _ _ _
  | exact LeO.none _
  | refine LeO.ite ?_ ?_
  | refine LeO.bind ?_ (fun _ => ?_)
set_option maxHeartbeats 8000000 in
set_option maxRecDepth 100000 in
theorem api_On_89.calls (k : Nat) (A0 : Option Addr) (c0 : Nat) (l0 : List (S103)) (a1_0 : ByteArray) (a1_1 : Int) (r : Bool) (w : World) (hr0 : Kd.C k103 w A0 l0.length l0) (hc0 : l0.length ≤ c0) (h : api_On_89.f k l0 a1_0 a1_1 = some r) :
 Calls Try.prog 89 #[.slice A0 l0.length c0, .agg #[.string a1_0, .int .i64 a1_1]] w fun e w' => e = .returned (.bool r) ∧ Below w.heap.size w w' := by
 have hu103 := Try.underlying103
 have HR0 := Aside0.mk hr0
 have HC0 := Aside0.mk hc0
 clear hr0 hc0
 have HB := Aside0.mk (Below.refl w.heap.size w)
 have H : ((api_On_94.f k l0 a1_0 a1_1).bind fun t334 => (some (decide (t334 ≥ 0)))) = some r := h
 clear h
 replace H := Option.bind_eq_some_iff.mp H
 obtain ⟨t334, A30, H⟩ := H
 have A3 := Aside0.mk A30
 clear A30
 obtain rfl := Option.some.inj H
 go_enter Try.func89, Try.ntmps89
 go_wp2_with (first | ((with_reducible refine gate_dst (N := 3) rfl ?_); refine bx_ 3 #[.string a1_0, .int .i64 a1_1] 103 ?_; intro gb333 hg w4 hbox hb; have BK333 := Aside0.mk (hbox); have GW333 := zz_ (w := w) hg; have GE333 := zz_ (w := w) hg; replace HB := hb_ HB hb;  clear hb hbox hg; obtain ⟨hcz5_0, hcz5_1, hfz5_0, hfz5_1⟩ := bs2_ BK333) | ((with_reducible refine gate_callee (f := 94) rfl ?_); refine gl_ (some 7) Try.func94 #[.slice A0 l0.length c0, .agg #[.string a1_0, .int .i64 a1_1]] ?_; (with_reducible refine (api_On_94.calls k _ _ l0 a1_0 a1_1 t334 _ ?side1 ?side2 A3.out).mono ?_); (case side1 => exact kc_ HR0 HB); (case side2 => exact HC0.out); rintro e w6 ⟨rfl, hb⟩; refine ⟨_, rfl, ?_⟩; replace BK333 := bb_ BK333 hb; replace HB := hb_ HB hb;  (try clear hb)))
 go_ret
 exact ⟨er_, hf_⟩
mutual
def model_Legal.j0 : Nat → Int → Int → Bool → Option (Bool)
 | 0, _, _, _ => none
 | k + 1, x0, x5, x6 => if x6 = true then (if x0 ≥ 1 then (some (decide (x0 ≤ 5))) else (some false)) else (if x5 = 2 then (model_Legal.j1 k x0 x5 (x5 == 2)) else (model_Legal.j1 k x0 x5 (x5 == 3)))
def model_Legal.j1 : Nat → Int → Int → Bool → Option (Bool)
 | 0, _, _, _ => none
 | k + 1, x0, x5, x15 => if x15 = true then (if x0 = 1 then (some true) else (some (x0 == 2))) else (if x5 = 4 then (if x0 ≥ 3 then (some (decide (x0 ≤ 5))) else (some false)) else (some false))
end
def model_Legal.f (k : Nat) (a0 : Int) (a1 : Int) : Option (Bool) := if a1 = 1 then (model_Legal.j0 k a0 a1 (a1 == 1)) else (model_Legal.j0 k a0 a1 (a1 == 5))
theorem model_Legal.mono_l : ∀ k, (∀ y0 y1 y2, LeO (model_Legal.j0 k y0 y1 y2) (model_Legal.j0 (k + 1) y0 y1 y2)) ∧ (∀ y0 y1 y2, LeO (model_Legal.j1 k y0 y1 y2) (model_Legal.j1 (k + 1) y0 y1 y2))
 | 0 => ⟨fun _ _ _ r h => by simp [model_Legal.j0] at h, fun _ _ _ r h => by simp [model_Legal.j1] at h⟩
 | k + 1 => by
  obtain ⟨ih0, ih1⟩ := model_Legal.mono_l k
  refine ⟨?_, ?_⟩
  intro y0 y1 y2
  unfold model_Legal.j0
  rotate_left
  intro y0 y1 y2
  unfold model_Legal.j1
  rotate_left
  all_goals repeat' first
   | (with_reducible exact ih0 _ _ _)
   | (with_reducible exact ih1 _ _ _)
   | (with_reducible exact LeO.refl _)
   | (with_reducible exact LeO.none _)
   | (with_reducible refine LeO.ite ?_ ?_)
   | (with_reducible refine LeO.bind ?_ (fun _ => ?_))
   | exact ih0 _ _ _
   | exact ih1 _ _ _
   | exact LeO.none _
   | refine LeO.ite ?_ ?_
   | refine LeO.bind ?_ (fun _ => ?_)
theorem model_Legal.mono : ∀ a0 a1 k, LeO (model_Legal.f k a0 a1) (model_Legal.f (k + 1) a0 a1) := by
 intro a0 a1 k
 obtain ⟨ih0, ih1⟩ := model_Legal.mono_l k
 unfold model_Legal.f
 repeat' first
  | (with_reducible exact ih0 _ _ _)
  | (with_reducible exact ih1 _ _ _)
  | (with_reducible exact LeO.refl _)
  | (with_reducible exact LeO.none _)
  | (with_reducible refine LeO.ite ?_ ?_)
  | (with_reducible refine LeO.bind ?_ (fun _ => ?_))
  | exact ih0 _ _ _
  | exact ih1 _ _ _
  | exact LeO.none _
  | refine LeO.ite ?_ ?_
  | refine LeO.bind ?_ (fun _ => ?_)
set_option maxHeartbeats 8000000 in
set_option maxRecDepth 100000 in
theorem model_Legal.calls (k : Nat) (a0 : Int) (a1 : Int) (r : Bool) (w : World) (h : model_Legal.f k a0 a1 = some r) :
 Calls Try.prog 93 #[.int .i64 a0, .int .i64 a1] w fun e w' => e = .returned (.bool r) ∧ Drawn0 w w' := by
 have H : (if a1 = 1 then (model_Legal.j0 k a0 a1 (a1 == 1)) else (model_Legal.j0 k a0 a1 (a1 == 5))) = some r := h
 clear h
 have HC3 := Aside0.mk H
 clear H
 go_enter Try.func93, Try.ntmps93
 go_upto_if 6 with (fail)
 go_cut [6] (fun v6 wc => ∃ (kq : Nat) (x6_2 : Bool), v6 = .bool x6_2 ∧ Aside0 (model_Legal.j0 kq a0 a1 x6_2 = some r) ∧ Aside0 (kq ≤ k) ∧ Drawn0 w wc)
 case first =>
  have H := HC3.out
  clear HC3
  by_cases c4 : a1 = 1
  ·rw [if_pos c4] at H
   have c4b0 : (a1 == 1) = true := beq_iff_eq.mpr c4
   have c4b1 : (a1 != 1) = false := bne_eq_false_iff_eq.mpr c4
   clear c4
   (first | rw [c4b0] | (simp only [i64_w, i32_w]; rw [c4b0]) | skip)
   have H' := Aside0.mk H
   clear H
   go_wp2
   go_meet
   case rel => exact ⟨_, ((a1 == 1)), rf_, H', ⟨by first | omega | exact Nat.le_refl _⟩, by repeat (first | exact Drawn0.refl _ | apply Drawn0.step)⟩
  ·rw [if_neg c4] at H
   have c4b0 : (a1 == 1) = false := beq_eq_false_iff_ne.mpr c4
   have c4b1 : (a1 != 1) = true := bne_iff_ne.mpr c4
   (first | rw [c4b0] | (simp only [i64_w, i32_w]; rw [c4b0]) | skip)
   have H' := Aside0.mk H
   clear H
   go_wp2
   go_meet
   case rel => exact ⟨_, ((a1 == 5)), rf_, H', ⟨by first | omega | exact Nat.le_refl _⟩, by repeat (first | exact Drawn0.refl _ | apply Drawn0.step)⟩
 case rest =>
  clear HC3
  obtain ⟨kq, x6_2, rfl, HA, HJ2, ⟨mc2, rfl⟩⟩ := hcut
  cases kq with
  | zero => exact absurd HA.out (by simp [model_Legal.j0])
  | succ kj2 =>
   have H := HA.out
   clear HA
   simp only [model_Legal.j0] at H
   by_cases c5 : x6_2 = true
   ·subst c5
    have H1 : (if a0 ≥ 1 then (some (decide (a0 ≤ 5))) else (some false)) = some r := by rw [if_pos rfl] at H; exact H
    clear H
    have H := H1
    clear H1
    by_cases c6 : a0 ≥ 1
    ·rw [if_pos c6] at H
     have c6b0 := decide_eq_true c6
     clear c6
     obtain rfl := Option.some.inj H
     go_wp2
     go_ret
     exact ⟨by first | rfl | (simp; done) | (simp [*]; done), by repeat (first | exact Drawn0.refl _ | apply Drawn0.step)⟩
    ·rw [if_neg c6] at H
     have c6b0 := decide_eq_false c6
     clear c6
     obtain rfl := Option.some.inj H
     go_wp2
     go_ret
     exact ⟨by first | rfl | (simp; done) | (simp [*]; done), by repeat (first | exact Drawn0.refl _ | apply Drawn0.step)⟩
   ·replace c5 := Bool.eq_false_iff.mpr c5
    subst c5
    have H1 : (if a1 = 2 then (model_Legal.j1 kj2 a0 a1 (a1 == 2)) else (model_Legal.j1 kj2 a0 a1 (a1 == 3))) = some r := by rw [if_neg (show ¬ (false = true) by decide)] at H; exact H
    clear H
    have H := H1
    clear H1
    have HC7 := Aside0.mk H
    clear H
    go_upto_if 15 with (fail)
    go_cut [15] (fun v15 wc => ∃ (kq : Nat) (x15_6 : Bool), v15 = .bool x15_6 ∧ Aside0 (model_Legal.j1 kq a0 a1 x15_6 = some r) ∧ Aside0 (kq ≤ kj2) ∧ Drawn0 w wc)
    case first =>
     have H := HC7.out
     clear HC7
     by_cases c8 : a1 = 2
     ·rw [if_pos c8] at H
      have c8b0 : (a1 == 2) = true := beq_iff_eq.mpr c8
      have c8b1 : (a1 != 2) = false := bne_eq_false_iff_eq.mpr c8
      clear c8
      (first | rw [c8b0] | (simp only [i64_w, i32_w]; rw [c8b0]) | skip)
      have H' := Aside0.mk H
      clear H
      go_wp2
      go_meet
      case rel => exact ⟨_, ((a1 == 2)), rf_, H', ⟨by have := HJ2.out; first | omega | exact Nat.le_refl _⟩, by repeat (first | exact Drawn0.refl _ | apply Drawn0.step)⟩
     ·rw [if_neg c8] at H
      have c8b0 : (a1 == 2) = false := beq_eq_false_iff_ne.mpr c8
      have c8b1 : (a1 != 2) = true := bne_iff_ne.mpr c8
      (first | rw [c8b0] | (simp only [i64_w, i32_w]; rw [c8b0]) | skip)
      have H' := Aside0.mk H
      clear H
      go_wp2
      go_meet
      case rel => exact ⟨_, ((a1 == 3)), rf_, H', ⟨by have := HJ2.out; first | omega | exact Nat.le_refl _⟩, by repeat (first | exact Drawn0.refl _ | apply Drawn0.step)⟩
    case rest =>
     clear HC7
     obtain ⟨kq, x15_6, rfl, HA, HJ6, ⟨mc6, rfl⟩⟩ := hcut
     cases kq with
     | zero => exact absurd HA.out (by simp [model_Legal.j1])
     | succ kj6 =>
      have H := HA.out
      clear HA
      simp only [model_Legal.j1] at H
      by_cases c9 : x15_6 = true
      ·subst c9
       have H1 : (if a0 = 1 then (some true) else (some (a0 == 2))) = some r := by rw [if_pos rfl] at H; exact H
       clear H
       have H := H1
       clear H1
       by_cases c10 : a0 = 1
       ·rw [if_pos c10] at H
        have c10b0 : (a0 == 1) = true := beq_iff_eq.mpr c10
        have c10b1 : (a0 != 1) = false := bne_eq_false_iff_eq.mpr c10
        clear c10
        obtain rfl := Option.some.inj H
        go_wp2
        go_ret
        exact ⟨by first | rfl | (simp; done) | (simp [*]; done), by repeat (first | exact Drawn0.refl _ | apply Drawn0.step)⟩
       ·rw [if_neg c10] at H
        have c10b0 : (a0 == 1) = false := beq_eq_false_iff_ne.mpr c10
        have c10b1 : (a0 != 1) = true := bne_iff_ne.mpr c10
        obtain rfl := Option.some.inj H
        go_wp2
        go_ret
        exact ⟨by first | rfl | (simp; done) | (simp [*]; done), by repeat (first | exact Drawn0.refl _ | apply Drawn0.step)⟩
      ·replace c9 := Bool.eq_false_iff.mpr c9
       subst c9
       have H1 : (if a1 = 4 then (if a0 ≥ 3 then (some (decide (a0 ≤ 5))) else (some false)) else (some false)) = some r := by rw [if_neg (show ¬ (false = true) by decide)] at H; exact H
       clear H
       have H := H1
       clear H1
       by_cases c11 : a1 = 4
       ·rw [if_pos c11] at H
        have c11b0 : (a1 == 4) = true := beq_iff_eq.mpr c11
        have c11b1 : (a1 != 4) = false := bne_eq_false_iff_eq.mpr c11
        clear c11
        by_cases c12 : a0 ≥ 3
        ·rw [if_pos c12] at H
         have c12b0 := decide_eq_true c12
         clear c12
         obtain rfl := Option.some.inj H
         go_wp2
         go_ret
         exact ⟨by first | rfl | (simp; done) | (simp [*]; done), by repeat (first | exact Drawn0.refl _ | apply Drawn0.step)⟩
        ·rw [if_neg c12] at H
         have c12b0 := decide_eq_false c12
         clear c12
         obtain rfl := Option.some.inj H
         go_wp2
         go_ret
         exact ⟨by first | rfl | (simp; done) | (simp [*]; done), by repeat (first | exact Drawn0.refl _ | apply Drawn0.step)⟩
       ·rw [if_neg c11] at H
        have c11b0 : (a1 == 4) = false := beq_eq_false_iff_ne.mpr c11
        have c11b1 : (a1 != 4) = true := bne_iff_ne.mpr c11
        obtain rfl := Option.some.inj H
        go_wp2
        go_ret
        exact ⟨by first | rfl | (simp; done) | (simp [*]; done), by repeat (first | exact Drawn0.refl _ | apply Drawn0.step)⟩
def slices_Index_string_string.l0 : Nat → List ByteArray → ByteArray → Int → Int → Option (Int)
 | 0, _, _, _, _ => none
 | k + 1, x0, x1, x7, x8 => if x8 < x7 then (if 0 ≤ x8 then (if x8 < (x0.length : Int) then (if x1.toList = (rdOf ByteArray.empty x0 x8).toList then (some x8) else (slices_Index_string_string.l0 k x0 x1 x7 (wrap64 (x8 + 1)))) else (none)) else (none)) else (some (-1))
def slices_Index_string_string.f (k : Nat) (l0 : List ByteArray) (a1 : ByteArray) : Option (Int) := slices_Index_string_string.l0 k l0 a1 (l0.length : Int) 0
theorem slices_Index_string_string.mono_l : ∀ k, (∀ y0 y1 y2 y3, LeO (slices_Index_string_string.l0 k y0 y1 y2 y3) (slices_Index_string_string.l0 (k + 1) y0 y1 y2 y3))
 | 0 => fun _ _ _ _ r h => by simp [slices_Index_string_string.l0] at h
 | k + 1 => by
  have ih0 := slices_Index_string_string.mono_l k
  ·intro y0 y1 y2 y3
   unfold slices_Index_string_string.l0
   repeat' first
   | (with_reducible exact ih0 _ _ _ _)
   | (with_reducible exact LeO.refl _)
   | (with_reducible exact LeO.none _)
   | (with_reducible refine LeO.ite ?_ ?_)
   | (with_reducible refine LeO.bind ?_ (fun _ => ?_))
   | exact ih0 _ _ _ _
   | exact LeO.none _
   | refine LeO.ite ?_ ?_
   | refine LeO.bind ?_ (fun _ => ?_)
theorem slices_Index_string_string.mono : ∀ a0 a1 k, LeO (slices_Index_string_string.f k a0 a1) (slices_Index_string_string.f (k + 1) a0 a1) := by
 intro a0 a1 k
 have ih0 := slices_Index_string_string.mono_l k
 unfold slices_Index_string_string.f
 repeat' first
  | (with_reducible exact ih0 _ _ _ _)
  | (with_reducible exact LeO.refl _)
  | (with_reducible exact LeO.none _)
  | (with_reducible refine LeO.ite ?_ ?_)
  | (with_reducible refine LeO.bind ?_ (fun _ => ?_))
  | exact ih0 _ _ _ _
  | exact LeO.none _
  | refine LeO.ite ?_ ?_
  | refine LeO.bind ?_ (fun _ => ?_)
set_option maxHeartbeats 8000000 in
set_option maxRecDepth 100000 in
theorem slices_Index_string_string.calls (k : Nat) (A0 : Option Addr) (c0 : Nat) (l0 : List ByteArray) (a1 : ByteArray) (r : Int) (w : World) (hr0 : Kd.C Kd.string w A0 l0.length l0) (hc0 : l0.length ≤ c0) (h : slices_Index_string_string.f k l0 a1 = some r) :
 Calls Try.prog 69 #[.slice A0 l0.length c0, .string a1] w fun e w' => e = .returned (.int .i64 r) ∧ Drawn0 w w' := by
 have HR0 := Aside0.mk hr0
 have HC0 := Aside0.mk hc0
 clear hr0 hc0
 have H : (slices_Index_string_string.l0 k l0 a1 (l0.length : Int) 0) = some r := h
 clear h
 have H' := Aside0.mk H
 clear H
 go_enter Try.func69, Try.ntmps69
 go_wp2
 go_loopg [8] k (fun kq v8 w' => ∃ (x8_1 : Int), v8 = .int .i64 x8_1 ∧ Aside0 (slices_Index_string_string.l0 kq l0 a1 (l0.length : Int) x8_1 = some r) ∧ Aside0 (kq ≤ k) ∧ Drawn0 w w')
 case atStart => exact ⟨(0), rf_, H', ⟨Nat.le_refl _⟩, by repeat (first | exact Drawn0.refl _ | apply Drawn0.step)⟩
 case round =>
  clear H'
  try clear p2
  obtain ⟨x8_1, rfl, HA, HK1, ⟨m1, rfl⟩⟩ := hrel
  cases gk with
  | zero => exact absurd HA.out (by simp [slices_Index_string_string.l0])
  | succ k1 =>
   have H := HA.out
   clear HA
   simp only [slices_Index_string_string.l0] at H
   by_cases c3 : x8_1 < (l0.length : Int)
   ·rw [if_pos c3] at H
    have c3b0 := decide_eq_true c3
    clear c3
    by_cases c4 : 0 ≤ x8_1
    ·rw [if_pos c4] at H
     have c4b0 := decide_eq_true c4
     clear c4
     by_cases c5 : x8_1 < (l0.length : Int)
     ·rw [if_pos c5] at H
      have c5b0 := decide_eq_true c5
      clear c5
      by_cases c6 : a1.toList = (rdOf ByteArray.empty l0 x8_1).toList
      ·rw [if_pos c6] at H
       have c6b0 : (a1.toList == (rdOf ByteArray.empty l0 x8_1).toList) = true := beq_iff_eq.mpr c6
       have c6b1 : (a1.toList != (rdOf ByteArray.empty l0 x8_1).toList) = false := bne_eq_false_iff_eq.mpr c6
       clear c6
       obtain rfl := Option.some.inj H
       obtain ⟨ad313, e313, hx313_0, p313, q313⟩ := au_string HR0 ⟨Below.refl _ _⟩ (x8_1)
       cases e313
       go_wp2
       go_ret
       exact ⟨by first | rfl | (simp; done) | (simp [*]; done), by repeat (first | exact Drawn0.refl _ | apply Drawn0.step)⟩
      ·rw [if_neg c6] at H
       have c6b0 : (a1.toList == (rdOf ByteArray.empty l0 x8_1).toList) = false := beq_eq_false_iff_ne.mpr c6
       have c6b1 : (a1.toList != (rdOf ByteArray.empty l0 x8_1).toList) = true := bne_iff_ne.mpr c6
       have H' := Aside0.mk H
       clear H
       obtain ⟨ad313, e313, hx313_0, p313, q313⟩ := au_string HR0 ⟨Below.refl _ _⟩ (x8_1)
       cases e313
       go_wp2
       go_roundg k1
       case measure => have := HK1.out; omega
       case rel => exact ⟨(wrap64 (x8_1 + 1)), rf_, H', ⟨by have := HK1.out; omega⟩, by repeat (first | exact Drawn0.refl _ | apply Drawn0.step)⟩
     ·rw [if_neg c5] at H
      exact absurd H (by simp)
    ·rw [if_neg c4] at H
     exact absurd H (by simp)
   ·rw [if_neg c3] at H
    have c3b0 := decide_eq_false c3
    clear c3
    obtain rfl := Option.some.inj H
    go_wp2
    go_ret
    exact ⟨by first | rfl | (simp; done) | (simp [*]; done), by repeat (first | exact Drawn0.refl _ | apply Drawn0.step)⟩
def slices_Contains_string_string.f (k : Nat) (l0 : List ByteArray) (a1 : ByteArray) : Option (Bool) := (slices_Index_string_string.f k l0 a1).bind fun t314 => (some (decide (t314 ≥ 0)))
theorem slices_Contains_string_string.mono : ∀ a0 a1 k, LeO (slices_Contains_string_string.f k a0 a1) (slices_Contains_string_string.f (k + 1) a0 a1) := by
 intro a0 a1 k
 unfold slices_Contains_string_string.f
 repeat' first
  | (with_reducible exact slices_Index_string_string.mono _ _ _)
  | (with_reducible exact LeO.refl _)
  | (with_reducible exact LeO.none _)
  | (with_reducible refine LeO.ite ?_ ?_)
  | (with_reducible refine LeO.bind ?_ (fun _ => ?_))
  | exact slices_Index_string_string.mono _ _ _
  | exact LeO.none _
  | refine LeO.ite ?_ ?_
  | refine LeO.bind ?_ (fun _ => ?_)
set_option maxHeartbeats 8000000 in
set_option maxRecDepth 100000 in
theorem slices_Contains_string_string.calls (k : Nat) (A0 : Option Addr) (c0 : Nat) (l0 : List ByteArray) (a1 : ByteArray) (r : Bool) (w : World) (hr0 : Kd.C Kd.string w A0 l0.length l0) (hc0 : l0.length ≤ c0) (h : slices_Contains_string_string.f k l0 a1 = some r) :
 Calls Try.prog 68 #[.slice A0 l0.length c0, .string a1] w fun e w' => e = .returned (.bool r) ∧ Drawn0 w w' := by
 have HR0 := Aside0.mk hr0
 have HC0 := Aside0.mk hc0
 clear hr0 hc0
 have H : ((slices_Index_string_string.f k l0 a1).bind fun t314 => (some (decide (t314 ≥ 0)))) = some r := h
 clear h
 replace H := Option.bind_eq_some_iff.mp H
 obtain ⟨t314, A30, H⟩ := H
 have A3 := Aside0.mk A30
 clear A30
 obtain rfl := Option.some.inj H
 go_enter Try.func68, Try.ntmps68
 go_wp2_with (first | ((with_reducible refine gate_callee (f := 69) rfl ?_); refine gl_ (some 7) Try.func69 #[.slice A0 l0.length c0, .string a1] ?_; (with_reducible refine (slices_Index_string_string.calls k _ _ l0 a1 t314 _ ?side1 ?side2 A3.out).mono ?_); (case side1 => repeat (first | exact HR0.out | (with_reducible refine Kd.C_alloc ?_ _) | (with_reducible refine Kd.C_drewN ?_ _) | (with_reducible refine Kd.C_drew ?_))); (case side2 => exact HC0.out); rintro e w' ⟨rfl, ⟨nd, rfl⟩⟩; refine ⟨_, rfl, ?_⟩))
 go_ret
 exact ⟨by first | rfl | (simp; done) | (simp [*]; done), by repeat (first | exact Drawn0.refl _ | apply Drawn0.step)⟩
def model_isIf.f (k : Nat) (l0_0 : List ByteArray) (l0_1 : List (S48)) (a1_0 : ByteArray) (a1_1 : ByteArray) (a1_2 : Int) : Option (Bool) := (slices_Contains_string_string.f k (([(⟨#[60]⟩ : ByteArray), (⟨#[60, 61]⟩ : ByteArray), (⟨#[61]⟩ : ByteArray), (⟨#[33, 61]⟩ : ByteArray), (⟨#[62, 61]⟩ : ByteArray), (⟨#[62]⟩ : ByteArray)] : List ByteArray)) a1_1).bind fun t320 => (if t320 = true then ((slices_Contains_string_string.f k l0_0 a1_0).bind fun t321 => (if t321 = true then (if a1_2 ≥ (-1000000) then (some (decide (a1_2 ≤ 1000000))) else (some false)) else (some false))) else (some false))
theorem model_isIf.mono : ∀ a0 a1 a2 a3 a4 k, LeO (model_isIf.f k a0 a1 a2 a3 a4) (model_isIf.f (k + 1) a0 a1 a2 a3 a4) := by
 intro a0 a1 a2 a3 a4 k
 unfold model_isIf.f
 repeat' first
  | (with_reducible exact slices_Contains_string_string.mono _ _ _)
  | (with_reducible exact LeO.refl _)
  | (with_reducible exact LeO.none _)
  | (with_reducible refine LeO.ite ?_ ?_)
  | (with_reducible refine LeO.bind ?_ (fun _ => ?_))
  | exact slices_Contains_string_string.mono _ _ _
  | exact LeO.none _
  | refine LeO.ite ?_ ?_
  | refine LeO.bind ?_ (fun _ => ?_)
set_option maxHeartbeats 8000000 in
set_option maxRecDepth 100000 in
theorem model_isIf.calls (k : Nat) (A0_0 : Option Addr) (c0_0 : Nat) (l0_0 : List ByteArray) (A0_1 : Option Addr) (c0_1 : Nat) (l0_1 : List (S48)) (a1_0 : ByteArray) (a1_1 : ByteArray) (a1_2 : Int) (r : Bool) (w : World) (hr0_0 : Kd.C Kd.string w A0_0 l0_0.length l0_0) (hc0_0 : l0_0.length ≤ c0_0) (hr0_1 : Kd.C k48 w A0_1 l0_1.length l0_1) (hc0_1 : l0_1.length ≤ c0_1) (h : model_isIf.f k l0_0 l0_1 a1_0 a1_1 a1_2 = some r) :
 Calls Try.prog 92 #[.agg #[.slice A0_0 l0_0.length c0_0, .slice A0_1 l0_1.length c0_1], .agg #[.string a1_0, .string a1_1, .int .i64 a1_2]] w fun e w' => e = .returned (.bool r) ∧ Below w.heap.size w w' := by
 have hu25 := Try.underlying25
 have hu50 := Try.underlying50
 have HR0_0 := Aside0.mk hr0_0
 have HC0_0 := Aside0.mk hc0_0
 clear hr0_0 hc0_0
 have HR0_1 := Aside0.mk hr0_1
 have HC0_1 := Aside0.mk hc0_1
 clear hr0_1 hc0_1
 have HB := Aside0.mk (Below.refl w.heap.size w)
 unfold model_isIf.f at h
 have H := h
 clear h
 obtain ⟨y317, hy317⟩ : ∃ y_ : List ByteArray, y_ = (([(⟨#[60]⟩ : ByteArray), (⟨#[60, 61]⟩ : ByteArray), (⟨#[61]⟩ : ByteArray), (⟨#[33, 61]⟩ : ByteArray), (⟨#[62, 61]⟩ : ByteArray), (⟨#[62]⟩ : ByteArray)] : List ByteArray)) := ⟨_, rfl⟩
 rw [← hy317] at H
 have Ny317 := Aside0.mk hy317
 clear hy317
 replace H := Option.bind_eq_some_iff.mp H
 obtain ⟨t320, A30, H⟩ := H
 have A3 := Aside0.mk A30
 clear A30
 by_cases c4 : t320 = true
 ·subst c4
  have H1 : ((slices_Contains_string_string.f k l0_0 a1_0).bind fun t321 => (if t321 = true then (if a1_2 ≥ (-1000000) then (some (decide (a1_2 ≤ 1000000))) else (some false)) else (some false))) = some r := by rw [if_pos rfl] at H; exact H
  clear H
  have H := H1
  clear H1
  replace H := Option.bind_eq_some_iff.mp H
  obtain ⟨t321, A50, H⟩ := H
  have A5 := Aside0.mk A50
  clear A50
  by_cases c6 : t321 = true
  ·subst c6
   have H1 : (if a1_2 ≥ (-1000000) then (some (decide (a1_2 ≤ 1000000))) else (some false)) = some r := by rw [if_pos rfl] at H; exact H
   clear H
   have H := H1
   clear H1
   by_cases c7 : a1_2 ≥ (-1000000)
   ·rw [if_pos c7] at H
    have c7b0 := decide_eq_true c7
    clear c7
    obtain rfl := Option.some.inj H
    go_enter Try.func92, Try.ntmps92
    go_wp2_with (first | ((with_reducible refine gate_dst (N := 2) rfl ?_); refine bx_ 2 #[.slice A0_0 l0_0.length c0_0, .slice A0_1 l0_1.length c0_1] 25 ?_; intro gb315 hg w8 hbox hb; have BK315 := Aside0.mk (hbox); have GW315 := zz_ (w := w) hg; have GE315 := zz_ (w := w) hg; replace HB := hb_ HB hb;  clear hb hbox hg) | ((with_reducible refine gate_dst (N := 3) rfl ?_); refine bx_ 3 #[.string a1_0, .string a1_1, .int .i64 a1_2] 50 ?_; intro gb316 hg w9 hbox hb; have BK316 := Aside0.mk (hbox); have GW316 := zz_ (w := w) hg; have GE316 := zz_ (w := w) hg; replace HB := hb_ HB hb; have NB315_316 := ne1_ hg BK315; have NB316_315 := ne2_ hg BK315; replace BK315 := bb_ BK315 hb;  clear hb hbox hg) | ((with_reducible refine gate_dst (N := 6) rfl ?_); refine Kd.R_lit Kd.string _ 9 ?hg (N := 6) ?hd (xs := ([(⟨#[60]⟩ : ByteArray), (⟨#[60, 61]⟩ : ByteArray), (⟨#[61]⟩ : ByteArray), (⟨#[33, 61]⟩ : ByteArray), (⟨#[62, 61]⟩ : ByteArray), (⟨#[62]⟩ : ByteArray)] : List ByteArray)) (inner := [.string (⟨#[60]⟩ : ByteArray), .string (⟨#[60, 61]⟩ : ByteArray), .string (⟨#[61]⟩ : ByteArray), .string (⟨#[33, 61]⟩ : ByteArray), .string (⟨#[62, 61]⟩ : ByteArray), .string (⟨#[62]⟩ : ByteArray)]) (ok := fun _ => True) (okp := fun _ => True) ?hr ?hp (fun _ hk => hk) trivial (Below.refl _ _) (Nat.le_refl _) (by simp) ?_; (case hd => rfl); (case hg => rfl); (case hr => first | (go_simp; done) | (go_simp; rfl)); (case hp => exact (Reps.one (show Kd.M Kd.string _ _ _ (⟨#[60]⟩ : ByteArray) [.string (⟨#[60]⟩ : ByteArray)] from rfl) (Reps.one (show Kd.M Kd.string _ _ _ (⟨#[60, 61]⟩ : ByteArray) [.string (⟨#[60, 61]⟩ : ByteArray)] from rfl) (Reps.one (show Kd.M Kd.string _ _ _ (⟨#[61]⟩ : ByteArray) [.string (⟨#[61]⟩ : ByteArray)] from rfl) (Reps.one (show Kd.M Kd.string _ _ _ (⟨#[33, 61]⟩ : ByteArray) [.string (⟨#[33, 61]⟩ : ByteArray)] from rfl) (Reps.one (show Kd.M Kd.string _ _ _ (⟨#[62, 61]⟩ : ByteArray) [.string (⟨#[62, 61]⟩ : ByteArray)] from rfl) (Reps.one (show Kd.M Kd.string _ _ _ (⟨#[62]⟩ : ByteArray) [.string (⟨#[62]⟩ : ByteArray)] from rfl) (Reps.none _ _)))))))); intro v318 w10 ho11 hb hg_ hnew_; clear hg_ hnew_; (first | rw [← Ny317.out] at ho11 | (simp only [Int.reduceToNat] at ho11; rw [← Ny317.out] at ho11)); have HO319 := Aside0.mk (Kd.R_lower ho11 (below_size hf_)); replace BK315 := bb_ BK315 hb; replace BK316 := bb_ BK316 hb; replace HB := hb_ HB hb;  clear hb ho11; have hnb12 := NB316_315.out; have hnc12 := NB315_316.out; obtain ⟨hcz13_0, hcz13_1, hcz13_2, hfz13_0, hfz13_1, hfz13_2⟩ := bs3_ BK316; obtain ⟨Ao14, co14, eo14⟩ := Kd.R_slice HO319.out; subst eo14) | ((with_reducible refine gate_callee (f := 68) rfl ?_); refine gl_ (some 9) Try.func68 #[.slice Ao14 y317.length co14, .string a1_1] ?_; (with_reducible refine (slices_Contains_string_string.calls k _ _ y317 a1_1 true _ ?side1 ?side2 A3.out).mono ?_); (case side1 => repeat (first | exact (Kd.R_reads' HO319.out).2.2 | (with_reducible refine Kd.C_alloc ?_ _) | (with_reducible refine Kd.C_drewN ?_ _) | (with_reducible refine Kd.C_drew ?_))); (case side2 => exact (Kd.R_reads' HO319.out).2.1); rintro e w' ⟨rfl, ⟨nd, rfl⟩⟩; refine ⟨_, rfl, ?_⟩; obtain ⟨hcz15_0, hcz15_1, hfz15_0, hfz15_1⟩ := bs2_ BK315) | (go_at_call 68; (with_reducible refine (slices_Contains_string_string.calls k _ _ l0_0 a1_0 true _ ?side1 ?side2 A5.out).mono ?_); (case side1 => repeat (first | exact (Kd.C_below HR0_0.out hf_) | (with_reducible refine Kd.C_alloc ?_ _) | (with_reducible refine Kd.C_drewN ?_ _) | (with_reducible refine Kd.C_drew ?_))); (case side2 => exact HC0_0.out); rintro e w' ⟨rfl, ⟨nd, rfl⟩⟩))
    go_ret
    exact ⟨er_, hf_⟩
   ·rw [if_neg c7] at H
    have c7b0 := decide_eq_false c7
    clear c7
    obtain rfl := Option.some.inj H
    go_enter Try.func92, Try.ntmps92
    go_wp2_with (first | ((with_reducible refine gate_dst (N := 2) rfl ?_); refine bx_ 2 #[.slice A0_0 l0_0.length c0_0, .slice A0_1 l0_1.length c0_1] 25 ?_; intro gb315 hg w16 hbox hb; have BK315 := Aside0.mk (hbox); have GW315 := zz_ (w := w) hg; have GE315 := zz_ (w := w) hg; replace HB := hb_ HB hb;  clear hb hbox hg) | ((with_reducible refine gate_dst (N := 3) rfl ?_); refine bx_ 3 #[.string a1_0, .string a1_1, .int .i64 a1_2] 50 ?_; intro gb316 hg w17 hbox hb; have BK316 := Aside0.mk (hbox); have GW316 := zz_ (w := w) hg; have GE316 := zz_ (w := w) hg; replace HB := hb_ HB hb; have NB315_316 := ne1_ hg BK315; have NB316_315 := ne2_ hg BK315; replace BK315 := bb_ BK315 hb;  clear hb hbox hg) | ((with_reducible refine gate_dst (N := 6) rfl ?_); refine Kd.R_lit Kd.string _ 9 ?hg (N := 6) ?hd (xs := ([(⟨#[60]⟩ : ByteArray), (⟨#[60, 61]⟩ : ByteArray), (⟨#[61]⟩ : ByteArray), (⟨#[33, 61]⟩ : ByteArray), (⟨#[62, 61]⟩ : ByteArray), (⟨#[62]⟩ : ByteArray)] : List ByteArray)) (inner := [.string (⟨#[60]⟩ : ByteArray), .string (⟨#[60, 61]⟩ : ByteArray), .string (⟨#[61]⟩ : ByteArray), .string (⟨#[33, 61]⟩ : ByteArray), .string (⟨#[62, 61]⟩ : ByteArray), .string (⟨#[62]⟩ : ByteArray)]) (ok := fun _ => True) (okp := fun _ => True) ?hr ?hp (fun _ hk => hk) trivial (Below.refl _ _) (Nat.le_refl _) (by simp) ?_; (case hd => rfl); (case hg => rfl); (case hr => first | (go_simp; done) | (go_simp; rfl)); (case hp => exact (Reps.one (show Kd.M Kd.string _ _ _ (⟨#[60]⟩ : ByteArray) [.string (⟨#[60]⟩ : ByteArray)] from rfl) (Reps.one (show Kd.M Kd.string _ _ _ (⟨#[60, 61]⟩ : ByteArray) [.string (⟨#[60, 61]⟩ : ByteArray)] from rfl) (Reps.one (show Kd.M Kd.string _ _ _ (⟨#[61]⟩ : ByteArray) [.string (⟨#[61]⟩ : ByteArray)] from rfl) (Reps.one (show Kd.M Kd.string _ _ _ (⟨#[33, 61]⟩ : ByteArray) [.string (⟨#[33, 61]⟩ : ByteArray)] from rfl) (Reps.one (show Kd.M Kd.string _ _ _ (⟨#[62, 61]⟩ : ByteArray) [.string (⟨#[62, 61]⟩ : ByteArray)] from rfl) (Reps.one (show Kd.M Kd.string _ _ _ (⟨#[62]⟩ : ByteArray) [.string (⟨#[62]⟩ : ByteArray)] from rfl) (Reps.none _ _)))))))); intro v318 w18 ho19 hb hg_ hnew_; clear hg_ hnew_; (first | rw [← Ny317.out] at ho19 | (simp only [Int.reduceToNat] at ho19; rw [← Ny317.out] at ho19)); have HO319 := Aside0.mk (Kd.R_lower ho19 (below_size hf_)); replace BK315 := bb_ BK315 hb; replace BK316 := bb_ BK316 hb; replace HB := hb_ HB hb;  clear hb ho19; have hnb20 := NB316_315.out; have hnc20 := NB315_316.out; obtain ⟨hcz21_0, hcz21_1, hcz21_2, hfz21_0, hfz21_1, hfz21_2⟩ := bs3_ BK316; obtain ⟨Ao22, co22, eo22⟩ := Kd.R_slice HO319.out; subst eo22) | ((with_reducible refine gate_callee (f := 68) rfl ?_); refine gl_ (some 9) Try.func68 #[.slice Ao22 y317.length co22, .string a1_1] ?_; (with_reducible refine (slices_Contains_string_string.calls k _ _ y317 a1_1 true _ ?side1 ?side2 A3.out).mono ?_); (case side1 => repeat (first | exact (Kd.R_reads' HO319.out).2.2 | (with_reducible refine Kd.C_alloc ?_ _) | (with_reducible refine Kd.C_drewN ?_ _) | (with_reducible refine Kd.C_drew ?_))); (case side2 => exact (Kd.R_reads' HO319.out).2.1); rintro e w' ⟨rfl, ⟨nd, rfl⟩⟩; refine ⟨_, rfl, ?_⟩; obtain ⟨hcz23_0, hcz23_1, hfz23_0, hfz23_1⟩ := bs2_ BK315) | (go_at_call 68; (with_reducible refine (slices_Contains_string_string.calls k _ _ l0_0 a1_0 true _ ?side1 ?side2 A5.out).mono ?_); (case side1 => repeat (first | exact (Kd.C_below HR0_0.out hf_) | (with_reducible refine Kd.C_alloc ?_ _) | (with_reducible refine Kd.C_drewN ?_ _) | (with_reducible refine Kd.C_drew ?_))); (case side2 => exact HC0_0.out); rintro e w' ⟨rfl, ⟨nd, rfl⟩⟩))
    go_ret
    exact ⟨er_, hf_⟩
  ·replace c6 := Bool.eq_false_iff.mpr c6
   subst c6
   have H1 : (some false) = some r := by rw [if_neg (show ¬ (false = true) by decide)] at H; exact H
   clear H
   have H := H1
   clear H1
   obtain rfl := Option.some.inj H
   go_enter Try.func92, Try.ntmps92
   go_wp2_with (first | ((with_reducible refine gate_dst (N := 2) rfl ?_); refine bx_ 2 #[.slice A0_0 l0_0.length c0_0, .slice A0_1 l0_1.length c0_1] 25 ?_; intro gb315 hg w24 hbox hb; have BK315 := Aside0.mk (hbox); have GW315 := zz_ (w := w) hg; have GE315 := zz_ (w := w) hg; replace HB := hb_ HB hb;  clear hb hbox hg) | ((with_reducible refine gate_dst (N := 3) rfl ?_); refine bx_ 3 #[.string a1_0, .string a1_1, .int .i64 a1_2] 50 ?_; intro gb316 hg w25 hbox hb; have BK316 := Aside0.mk (hbox); have GW316 := zz_ (w := w) hg; have GE316 := zz_ (w := w) hg; replace HB := hb_ HB hb; have NB315_316 := ne1_ hg BK315; have NB316_315 := ne2_ hg BK315; replace BK315 := bb_ BK315 hb;  clear hb hbox hg) | ((with_reducible refine gate_dst (N := 6) rfl ?_); refine Kd.R_lit Kd.string _ 9 ?hg (N := 6) ?hd (xs := ([(⟨#[60]⟩ : ByteArray), (⟨#[60, 61]⟩ : ByteArray), (⟨#[61]⟩ : ByteArray), (⟨#[33, 61]⟩ : ByteArray), (⟨#[62, 61]⟩ : ByteArray), (⟨#[62]⟩ : ByteArray)] : List ByteArray)) (inner := [.string (⟨#[60]⟩ : ByteArray), .string (⟨#[60, 61]⟩ : ByteArray), .string (⟨#[61]⟩ : ByteArray), .string (⟨#[33, 61]⟩ : ByteArray), .string (⟨#[62, 61]⟩ : ByteArray), .string (⟨#[62]⟩ : ByteArray)]) (ok := fun _ => True) (okp := fun _ => True) ?hr ?hp (fun _ hk => hk) trivial (Below.refl _ _) (Nat.le_refl _) (by simp) ?_; (case hd => rfl); (case hg => rfl); (case hr => first | (go_simp; done) | (go_simp; rfl)); (case hp => exact (Reps.one (show Kd.M Kd.string _ _ _ (⟨#[60]⟩ : ByteArray) [.string (⟨#[60]⟩ : ByteArray)] from rfl) (Reps.one (show Kd.M Kd.string _ _ _ (⟨#[60, 61]⟩ : ByteArray) [.string (⟨#[60, 61]⟩ : ByteArray)] from rfl) (Reps.one (show Kd.M Kd.string _ _ _ (⟨#[61]⟩ : ByteArray) [.string (⟨#[61]⟩ : ByteArray)] from rfl) (Reps.one (show Kd.M Kd.string _ _ _ (⟨#[33, 61]⟩ : ByteArray) [.string (⟨#[33, 61]⟩ : ByteArray)] from rfl) (Reps.one (show Kd.M Kd.string _ _ _ (⟨#[62, 61]⟩ : ByteArray) [.string (⟨#[62, 61]⟩ : ByteArray)] from rfl) (Reps.one (show Kd.M Kd.string _ _ _ (⟨#[62]⟩ : ByteArray) [.string (⟨#[62]⟩ : ByteArray)] from rfl) (Reps.none _ _)))))))); intro v318 w26 ho27 hb hg_ hnew_; clear hg_ hnew_; (first | rw [← Ny317.out] at ho27 | (simp only [Int.reduceToNat] at ho27; rw [← Ny317.out] at ho27)); have HO319 := Aside0.mk (Kd.R_lower ho27 (below_size hf_)); replace BK315 := bb_ BK315 hb; replace BK316 := bb_ BK316 hb; replace HB := hb_ HB hb;  clear hb ho27; have hnb28 := NB316_315.out; have hnc28 := NB315_316.out; obtain ⟨hcz29_0, hcz29_1, hcz29_2, hfz29_0, hfz29_1, hfz29_2⟩ := bs3_ BK316; obtain ⟨Ao30, co30, eo30⟩ := Kd.R_slice HO319.out; subst eo30) | ((with_reducible refine gate_callee (f := 68) rfl ?_); refine gl_ (some 9) Try.func68 #[.slice Ao30 y317.length co30, .string a1_1] ?_; (with_reducible refine (slices_Contains_string_string.calls k _ _ y317 a1_1 true _ ?side1 ?side2 A3.out).mono ?_); (case side1 => repeat (first | exact (Kd.R_reads' HO319.out).2.2 | (with_reducible refine Kd.C_alloc ?_ _) | (with_reducible refine Kd.C_drewN ?_ _) | (with_reducible refine Kd.C_drew ?_))); (case side2 => exact (Kd.R_reads' HO319.out).2.1); rintro e w' ⟨rfl, ⟨nd, rfl⟩⟩; refine ⟨_, rfl, ?_⟩; obtain ⟨hcz31_0, hcz31_1, hfz31_0, hfz31_1⟩ := bs2_ BK315) | (go_at_call 68; (with_reducible refine (slices_Contains_string_string.calls k _ _ l0_0 a1_0 false _ ?side1 ?side2 A5.out).mono ?_); (case side1 => repeat (first | exact (Kd.C_below HR0_0.out hf_) | (with_reducible refine Kd.C_alloc ?_ _) | (with_reducible refine Kd.C_drewN ?_ _) | (with_reducible refine Kd.C_drew ?_))); (case side2 => exact HC0_0.out); rintro e w' ⟨rfl, ⟨nd, rfl⟩⟩))
   go_ret
   exact ⟨er_, hf_⟩
 ·replace c4 := Bool.eq_false_iff.mpr c4
  subst c4
  have H1 : (some false) = some r := by rw [if_neg (show ¬ (false = true) by decide)] at H; exact H
  clear H
  have H := H1
  clear H1
  obtain rfl := Option.some.inj H
  go_enter Try.func92, Try.ntmps92
  go_wp2_with (first | ((with_reducible refine gate_dst (N := 2) rfl ?_); refine bx_ 2 #[.slice A0_0 l0_0.length c0_0, .slice A0_1 l0_1.length c0_1] 25 ?_; intro gb315 hg w32 hbox hb; have BK315 := Aside0.mk (hbox); have GW315 := zz_ (w := w) hg; have GE315 := zz_ (w := w) hg; replace HB := hb_ HB hb;  clear hb hbox hg) | ((with_reducible refine gate_dst (N := 3) rfl ?_); refine bx_ 3 #[.string a1_0, .string a1_1, .int .i64 a1_2] 50 ?_; intro gb316 hg w33 hbox hb; have BK316 := Aside0.mk (hbox); have GW316 := zz_ (w := w) hg; have GE316 := zz_ (w := w) hg; replace HB := hb_ HB hb; have NB315_316 := ne1_ hg BK315; have NB316_315 := ne2_ hg BK315; replace BK315 := bb_ BK315 hb;  clear hb hbox hg) | ((with_reducible refine gate_dst (N := 6) rfl ?_); refine Kd.R_lit Kd.string _ 9 ?hg (N := 6) ?hd (xs := ([(⟨#[60]⟩ : ByteArray), (⟨#[60, 61]⟩ : ByteArray), (⟨#[61]⟩ : ByteArray), (⟨#[33, 61]⟩ : ByteArray), (⟨#[62, 61]⟩ : ByteArray), (⟨#[62]⟩ : ByteArray)] : List ByteArray)) (inner := [.string (⟨#[60]⟩ : ByteArray), .string (⟨#[60, 61]⟩ : ByteArray), .string (⟨#[61]⟩ : ByteArray), .string (⟨#[33, 61]⟩ : ByteArray), .string (⟨#[62, 61]⟩ : ByteArray), .string (⟨#[62]⟩ : ByteArray)]) (ok := fun _ => True) (okp := fun _ => True) ?hr ?hp (fun _ hk => hk) trivial (Below.refl _ _) (Nat.le_refl _) (by simp) ?_; (case hd => rfl); (case hg => rfl); (case hr => first | (go_simp; done) | (go_simp; rfl)); (case hp => exact (Reps.one (show Kd.M Kd.string _ _ _ (⟨#[60]⟩ : ByteArray) [.string (⟨#[60]⟩ : ByteArray)] from rfl) (Reps.one (show Kd.M Kd.string _ _ _ (⟨#[60, 61]⟩ : ByteArray) [.string (⟨#[60, 61]⟩ : ByteArray)] from rfl) (Reps.one (show Kd.M Kd.string _ _ _ (⟨#[61]⟩ : ByteArray) [.string (⟨#[61]⟩ : ByteArray)] from rfl) (Reps.one (show Kd.M Kd.string _ _ _ (⟨#[33, 61]⟩ : ByteArray) [.string (⟨#[33, 61]⟩ : ByteArray)] from rfl) (Reps.one (show Kd.M Kd.string _ _ _ (⟨#[62, 61]⟩ : ByteArray) [.string (⟨#[62, 61]⟩ : ByteArray)] from rfl) (Reps.one (show Kd.M Kd.string _ _ _ (⟨#[62]⟩ : ByteArray) [.string (⟨#[62]⟩ : ByteArray)] from rfl) (Reps.none _ _)))))))); intro v318 w34 ho35 hb hg_ hnew_; clear hg_ hnew_; (first | rw [← Ny317.out] at ho35 | (simp only [Int.reduceToNat] at ho35; rw [← Ny317.out] at ho35)); have HO319 := Aside0.mk (Kd.R_lower ho35 (below_size hf_)); replace BK315 := bb_ BK315 hb; replace BK316 := bb_ BK316 hb; replace HB := hb_ HB hb;  clear hb ho35; have hnb36 := NB316_315.out; have hnc36 := NB315_316.out; obtain ⟨hcz37_0, hcz37_1, hcz37_2, hfz37_0, hfz37_1, hfz37_2⟩ := bs3_ BK316; obtain ⟨Ao38, co38, eo38⟩ := Kd.R_slice HO319.out; subst eo38) | ((with_reducible refine gate_callee (f := 68) rfl ?_); refine gl_ (some 9) Try.func68 #[.slice Ao38 y317.length co38, .string a1_1] ?_; (with_reducible refine (slices_Contains_string_string.calls k _ _ y317 a1_1 false _ ?side1 ?side2 A3.out).mono ?_); (case side1 => repeat (first | exact (Kd.R_reads' HO319.out).2.2 | (with_reducible refine Kd.C_alloc ?_ _) | (with_reducible refine Kd.C_drewN ?_ _) | (with_reducible refine Kd.C_drew ?_))); (case side2 => exact (Kd.R_reads' HO319.out).2.1); rintro e w' ⟨rfl, ⟨nd, rfl⟩⟩; refine ⟨_, rfl, ?_⟩))
  go_ret
  exact ⟨er_, hf_⟩
def fidx {α : Type} (p : α → Bool) (l : List α) : Int := match l.findIdx? p with | some i => (i : Int) | none => -1
theorem fidx_hit {α : Type} (p : α → Bool) (l : List α) (k : Nat) (z : α) (hk : k < l.length) (h : p (l.getD k z) = true) (hn : ∀ j, j < k → p (l.getD j z) = false) : fidx p l = k := by
 have e : l.findIdx? p = some k := by
  rw [List.findIdx?_eq_some_iff_getElem]
  refine ⟨hk, ?_, fun j hj => ?_⟩
  ·rw [List.getD_eq_getElem?_getD, List.getElem?_eq_getElem hk] at h; exact h
  ·have := hn j hj
   rw [List.getD_eq_getElem?_getD, List.getElem?_eq_getElem (by omega)] at this
   simpa using this
 unfold fidx
 rw [e]
theorem fidx_miss {α : Type} (p : α → Bool) (l : List α) (z : α) (hn : ∀ j, j < l.length → p (l.getD j z) = false) : fidx p l = -1 := by
 have e : l.findIdx? p = none := by
  rw [List.findIdx?_eq_none_iff]
  intro x hx
  obtain ⟨j, hj, rfl⟩ := List.getElem_of_mem hx
  have := hn j hj
  rw [List.getD_eq_getElem?_getD, List.getElem?_eq_getElem hj] at this
  simpa using this
 unfold fidx
 rw [e]
theorem fidx_any {α : Type} (p : α → Bool) (l : List α) : decide (fidx p l ≥ 0) = l.any p := by
  unfold fidx
  cases h : l.findIdx? p with
  | none =>
    have := List.findIdx?_eq_none_iff.1 h
    have e : l.any p = false := by rw [List.any_eq_false]; intro x hx; simp [this x hx]
    rw [e]; rfl
  | some i =>
    obtain ⟨hi, hp, _⟩ := List.findIdx?_eq_some_iff_getElem.1 h
    have e : l.any p = true := List.any_eq_true.2 ⟨_, List.getElem_mem hi, hp⟩
    rw [e]; exact decide_eq_true (show (i : Int) ≥ 0 by omega)
def PaysItem (g : Nat) (lb : Array Value) (p : S48 → Bool) (l : List S48) (w : World) : Prop :=
 ∀ (W : World) (x : S48) (cs : List Value), x ∈ l → Below w.heap.size w W → Kd.K k48 W x cs → Calls Try.prog g (#[.agg cs.toArray] ++ lb) W fun e w' => e = .returned (.bool (p x)) ∧ Below W.heap.size W w'
set_option maxHeartbeats 4000000 in
set_option maxRecDepth 100000 in
theorem idxItem (A : Option Addr) (c : Nat) (l : List S48) (w : World) (hr : Kd.C k48 w A l.length l) (hc : l.length ≤ c) (g : Nat) (lb : Array Value) (eg : ∀ args w, (callFunc g args).run Try.prog w = .ok (.enter g args) w) (p : S48 → Bool) (hp : PaysItem g lb p l w) :
    Calls Try.prog 70 #[.slice A l.length c, .func (.func g) #[] lb] w fun e w' => e = .returned (.int .i64 (fidx p l)) ∧ Below w.heap.size w w' := by
  have HR := Lib.hid hr
  have HP := Lib.hid hp
  clear hr hp
  obtain ⟨n, hn⟩ : ∃ n, n = l.length := ⟨_, rfl⟩
  have HN := Lib.hid hn
  rw [← hn] at hc ⊢
  clear hn
  have hbig : n ≤ 9223372036854775807 := by have := HR.out.2.1; have := HN.out; omega
  go_enter Try.func70, Try.ntmps70
  go_wp2
  go_loopg [5, 8] n (fun gg _ s8 wr => ∃ kk : Nat, kk ≤ n ∧ n - kk ≤ gg ∧ s8 = .int .i64 kk ∧ Aside (Below w.heap.size w wr) ∧ Aside (∀ j, j < kk → p (l.getD j z48) = false))
  case atStart => exact ⟨0, Nat.zero_le _, by omega, rfl, Below.refl _ w, fun j hj => absurd hj (Nat.not_lt_zero _)⟩
  case round =>
    obtain ⟨kk, hkk, hg, rfl, BW, A⟩ := hrel
    by_cases hlt : kk < n
    · have hltz : (kk : Int) < (n : Int) := by omega
      obtain ⟨ad, A5, c5, A6, c6, e, hx0, hx1, hx2, hx3, hx4, hx5, hx6, l5, g5, l6, g6⟩ := at_T48 HR.out (kk : Int) (by omega) (by have := HN.out; omega)
      cases e
      have hcall := HP.out wr (l.getD kk z48) [.string (rd_T48 l kk).f0, .int .i64 (rd_T48 l kk).f1, .string (rd_T48 l kk).f2, .bool (rd_T48 l kk).f3, .int .i64 (rd_T48 l kk).f4, .slice A5 (rd_T48 l kk).f5.length c5, .slice A6 (rd_T48 l kk).f6.length c6] (by rw [List.getD_eq_getElem?_getD, List.getElem?_eq_getElem (show kk < l.length by have := HN.out; omega)]; exact List.getElem_mem _) BW.out (k48_mk _ _ l5 (Kd.C_below g5 BW.out) l6 (Kd.C_below g6 BW.out))
      simp only [Int.toNat_natCast] at hx0 hx1 hx2 hx3 hx4 hx5 hx6
      replace hx0 := (BW.out.cell (World.block_lt_of_cell? w _ hx0)).trans hx0
      replace hx1 := (BW.out.cell (World.block_lt_of_cell? w _ hx1)).trans hx1
      replace hx2 := (BW.out.cell (World.block_lt_of_cell? w _ hx2)).trans hx2
      replace hx3 := (BW.out.cell (World.block_lt_of_cell? w _ hx3)).trans hx3
      replace hx4 := (BW.out.cell (World.block_lt_of_cell? w _ hx4)).trans hx4
      replace hx5 := (BW.out.cell (World.block_lt_of_cell? w _ hx5)).trans hx5
      replace hx6 := (BW.out.cell (World.block_lt_of_cell? w _ hx6)).trans hx6
      have B := Lib.hid (show p (l.getD kk z48) = p (l.getD kk z48) from rfl)
      cases hq : p (l.getD kk z48) with
      | true =>
        rw [hq] at hcall
        have HQ := Lib.hid hq
        clear hq
        go_wp2_with (go_at_fn g; refine hcall.mono ?_; rintro e w' ⟨rfl, hb'⟩)
        go_ret
        refine ⟨?_, below_then BW.out BW.out.size hb'⟩
        rw [fidx_hit p l kk z48 (by have := HN.out; omega) HQ.out A.out]
        rfl
      | false =>
        rw [hq] at hcall
        have HQ := Lib.hid hq
        clear hq
        go_wp2_with (go_at_fn g; refine hcall.mono ?_; rintro e w' ⟨rfl, hb'⟩)
        go_roundg (n - (kk + 1))
        case measure => omega
        case rel =>
          refine ⟨kk + 1, by omega, by omega, by go_num, below_then BW.out BW.out.size hb', (show Aside _ from fun j hj => ?_)⟩
          by_cases e : j = kk
          · subst e
            exact HQ.out
          · exact A.out j (by omega)
    · have hltz : ¬ (kk : Int) < (n : Int) := by omega
      obtain rfl : kk = n := by omega
      go_wp2
      go_ret
      refine ⟨?_, BW.out⟩
      rw [fidx_miss p l z48 (by rw [← HN.out]; exact A.out)]
      rfl
set_option maxHeartbeats 4000000 in
theorem anyItem (A : Option Addr) (c : Nat) (l : List S48) (w : World) (hr : Kd.C k48 w A l.length l) (hc : l.length ≤ c) (g : Nat) (lb : Array Value) (eg : ∀ args w, (callFunc g args).run Try.prog w = .ok (.enter g args) w) (p : S48 → Bool) (hp : PaysItem g lb p l w) :
 Calls Try.prog 43 #[.slice A l.length c, .func (.func g) #[] lb] w fun e w' => e = .returned (.bool (l.any p)) ∧ Below w.heap.size w w' := by
 have h := idxItem A c l w hr hc g lb eg p hp
 rw [← fidx_any]
 clear hr hp eg
 obtain ⟨n, hn⟩ : ∃ n : Int, n = fidx p l := ⟨_, rfl⟩
 rw [← hn] at h ⊢
 clear hn
 go_enter Try.func43, Try.ntmps43
 go_wp2_with (go_at_call 70; refine h.mono ?_; rintro e w' ⟨rfl, hb⟩)
 go_ret
 exact ⟨rfl, hb⟩
def PaysSentry (g : Nat) (lb : Array Value) (p : S54 → Bool) (l : List S54) (w : World) : Prop :=
 ∀ (W : World) (x : S54) (cs : List Value), x ∈ l → Below w.heap.size w W → Kd.K k54 W x cs → Calls Try.prog g (#[.agg cs.toArray] ++ lb) W fun e w' => e = .returned (.bool (p x)) ∧ Below W.heap.size W w'
set_option maxHeartbeats 4000000 in
set_option maxRecDepth 100000 in
theorem idxSentry (A : Option Addr) (c : Nat) (l : List S54) (w : World) (hr : Kd.C k54 w A l.length l) (hc : l.length ≤ c) (g : Nat) (lb : Array Value) (eg : ∀ args w, (callFunc g args).run Try.prog w = .ok (.enter g args) w) (p : S54 → Bool) (hp : PaysSentry g lb p l w) :
    Calls Try.prog 87 #[.slice A l.length c, .func (.func g) #[] lb] w fun e w' => e = .returned (.int .i64 (fidx p l)) ∧ Below w.heap.size w w' := by
  have HR := Lib.hid hr
  have HP := Lib.hid hp
  clear hr hp
  obtain ⟨n, hn⟩ : ∃ n, n = l.length := ⟨_, rfl⟩
  have HN := Lib.hid hn
  rw [← hn] at hc ⊢
  clear hn
  have hbig : n ≤ 9223372036854775807 := by have := HR.out.2.1; have := HN.out; omega
  go_enter Try.func87, Try.ntmps87
  go_wp2
  go_loopg [5, 8] n (fun gg _ s8 wr => ∃ kk : Nat, kk ≤ n ∧ n - kk ≤ gg ∧ s8 = .int .i64 kk ∧ Aside (Below w.heap.size w wr) ∧ Aside (∀ j, j < kk → p (l.getD j z54) = false))
  case atStart => exact ⟨0, Nat.zero_le _, by omega, rfl, Below.refl _ w, fun j hj => absurd hj (Nat.not_lt_zero _)⟩
  case round =>
    obtain ⟨kk, hkk, hg, rfl, BW, A⟩ := hrel
    by_cases hlt : kk < n
    · have hltz : (kk : Int) < (n : Int) := by omega
      obtain ⟨ad, A0, c0, A1, c1, e, hx0, hx1, l0, g0, l1, g1⟩ := at_T54 HR.out (kk : Int) (by omega) (by have := HN.out; omega)
      cases e
      have hcall := HP.out wr (l.getD kk z54) [.slice A0 (rd_T54 l kk).f0.length c0, .slice A1 (rd_T54 l kk).f1.length c1] (by rw [List.getD_eq_getElem?_getD, List.getElem?_eq_getElem (show kk < l.length by have := HN.out; omega)]; exact List.getElem_mem _) BW.out (k54_mk _ _ l0 (Kd.C_below g0 BW.out) l1 (Kd.C_below g1 BW.out))
      simp only [Int.toNat_natCast] at hx0 hx1
      replace hx0 := (BW.out.cell (World.block_lt_of_cell? w _ hx0)).trans hx0
      replace hx1 := (BW.out.cell (World.block_lt_of_cell? w _ hx1)).trans hx1
      have B := Lib.hid (show p (l.getD kk z54) = p (l.getD kk z54) from rfl)
      cases hq : p (l.getD kk z54) with
      | true =>
        rw [hq] at hcall
        have HQ := Lib.hid hq
        clear hq
        go_wp2_with (go_at_fn g; refine hcall.mono ?_; rintro e w' ⟨rfl, hb'⟩)
        go_ret
        refine ⟨?_, below_then BW.out BW.out.size hb'⟩
        rw [fidx_hit p l kk z54 (by have := HN.out; omega) HQ.out A.out]
        rfl
      | false =>
        rw [hq] at hcall
        have HQ := Lib.hid hq
        clear hq
        go_wp2_with (go_at_fn g; refine hcall.mono ?_; rintro e w' ⟨rfl, hb'⟩)
        go_roundg (n - (kk + 1))
        case measure => omega
        case rel =>
          refine ⟨kk + 1, by omega, by omega, by go_num, below_then BW.out BW.out.size hb', (show Aside _ from fun j hj => ?_)⟩
          by_cases e : j = kk
          · subst e
            exact HQ.out
          · exact A.out j (by omega)
    · have hltz : ¬ (kk : Int) < (n : Int) := by omega
      obtain rfl : kk = n := by omega
      go_wp2
      go_ret
      refine ⟨?_, BW.out⟩
      rw [fidx_miss p l z54 (by rw [← HN.out]; exact A.out)]
      rfl
set_option maxHeartbeats 4000000 in
theorem anySentry (A : Option Addr) (c : Nat) (l : List S54) (w : World) (hr : Kd.C k54 w A l.length l) (hc : l.length ≤ c) (g : Nat) (lb : Array Value) (eg : ∀ args w, (callFunc g args).run Try.prog w = .ok (.enter g args) w) (p : S54 → Bool) (hp : PaysSentry g lb p l w) :
 Calls Try.prog 83 #[.slice A l.length c, .func (.func g) #[] lb] w fun e w' => e = .returned (.bool (l.any p)) ∧ Below w.heap.size w w' := by
 have h := idxSentry A c l w hr hc g lb eg p hp
 rw [← fidx_any]
 clear hr hp eg
 obtain ⟨n, hn⟩ : ∃ n : Int, n = fidx p l := ⟨_, rfl⟩
 rw [← hn] at h ⊢
 clear hn
 go_enter Try.func83, Try.ntmps83
 go_wp2_with (go_at_call 87; refine h.mono ?_; rintro e w' ⟨rfl, hb⟩)
 go_ret
 exact ⟨rfl, hb⟩
def PaysCond (g : Nat) (lb : Array Value) (p : S50 → Bool) (l : List S50) (w : World) : Prop :=
 ∀ (W : World) (x : S50) (cs : List Value), x ∈ l → Below w.heap.size w W → Kd.K k50 W x cs → Calls Try.prog g (#[.agg cs.toArray] ++ lb) W fun e w' => e = .returned (.bool (p x)) ∧ Below W.heap.size W w'
set_option maxHeartbeats 4000000 in
set_option maxRecDepth 100000 in
theorem idxCond (A : Option Addr) (c : Nat) (l : List S50) (w : World) (hr : Kd.C k50 w A l.length l) (hc : l.length ≤ c) (g : Nat) (lb : Array Value) (eg : ∀ args w, (callFunc g args).run Try.prog w = .ok (.enter g args) w) (p : S50 → Bool) (hp : PaysCond g lb p l w) :
    Calls Try.prog 95 #[.slice A l.length c, .func (.func g) #[] lb] w fun e w' => e = .returned (.int .i64 (fidx p l)) ∧ Below w.heap.size w w' := by
  have HR := Lib.hid hr
  have HP := Lib.hid hp
  clear hr hp
  obtain ⟨n, hn⟩ : ∃ n, n = l.length := ⟨_, rfl⟩
  have HN := Lib.hid hn
  rw [← hn] at hc ⊢
  clear hn
  have hbig : n ≤ 9223372036854775807 := by have := HR.out.2.1; have := HN.out; omega
  go_enter Try.func95, Try.ntmps95
  go_wp2
  go_loopg [5, 8] n (fun gg _ s8 wr => ∃ kk : Nat, kk ≤ n ∧ n - kk ≤ gg ∧ s8 = .int .i64 kk ∧ Aside (Below w.heap.size w wr) ∧ Aside (∀ j, j < kk → p (l.getD j z50) = false))
  case atStart => exact ⟨0, Nat.zero_le _, by omega, rfl, Below.refl _ w, fun j hj => absurd hj (Nat.not_lt_zero _)⟩
  case round =>
    obtain ⟨kk, hkk, hg, rfl, BW, A⟩ := hrel
    by_cases hlt : kk < n
    · have hltz : (kk : Int) < (n : Int) := by omega
      obtain ⟨ad, e, hx0, hx1, hx2⟩ := at_T50 HR.out (kk : Int) (by omega) (by have := HN.out; omega)
      cases e
      have hcall := HP.out wr (l.getD kk z50) [.string (rd_T50 l kk).f0, .string (rd_T50 l kk).f1, .int .i64 (rd_T50 l kk).f2] (by rw [List.getD_eq_getElem?_getD, List.getElem?_eq_getElem (show kk < l.length by have := HN.out; omega)]; exact List.getElem_mem _) BW.out (k50_mk _ _)
      simp only [Int.toNat_natCast] at hx0 hx1 hx2
      replace hx0 := (BW.out.cell (World.block_lt_of_cell? w _ hx0)).trans hx0
      replace hx1 := (BW.out.cell (World.block_lt_of_cell? w _ hx1)).trans hx1
      replace hx2 := (BW.out.cell (World.block_lt_of_cell? w _ hx2)).trans hx2
      have B := Lib.hid (show p (l.getD kk z50) = p (l.getD kk z50) from rfl)
      cases hq : p (l.getD kk z50) with
      | true =>
        rw [hq] at hcall
        have HQ := Lib.hid hq
        clear hq
        go_wp2_with (go_at_fn g; refine hcall.mono ?_; rintro e w' ⟨rfl, hb'⟩)
        go_ret
        refine ⟨?_, below_then BW.out BW.out.size hb'⟩
        rw [fidx_hit p l kk z50 (by have := HN.out; omega) HQ.out A.out]
        rfl
      | false =>
        rw [hq] at hcall
        have HQ := Lib.hid hq
        clear hq
        go_wp2_with (go_at_fn g; refine hcall.mono ?_; rintro e w' ⟨rfl, hb'⟩)
        go_roundg (n - (kk + 1))
        case measure => omega
        case rel =>
          refine ⟨kk + 1, by omega, by omega, by go_num, below_then BW.out BW.out.size hb', (show Aside _ from fun j hj => ?_)⟩
          by_cases e : j = kk
          · subst e
            exact HQ.out
          · exact A.out j (by omega)
    · have hltz : ¬ (kk : Int) < (n : Int) := by omega
      obtain rfl : kk = n := by omega
      go_wp2
      go_ret
      refine ⟨?_, BW.out⟩
      rw [fidx_miss p l z50 (by rw [← HN.out]; exact A.out)]
      rfl
set_option maxHeartbeats 4000000 in
theorem anyCond (A : Option Addr) (c : Nat) (l : List S50) (w : World) (hr : Kd.C k50 w A l.length l) (hc : l.length ≤ c) (g : Nat) (lb : Array Value) (eg : ∀ args w, (callFunc g args).run Try.prog w = .ok (.enter g args) w) (p : S50 → Bool) (hp : PaysCond g lb p l w) :
 Calls Try.prog 90 #[.slice A l.length c, .func (.func g) #[] lb] w fun e w' => e = .returned (.bool (l.any p)) ∧ Below w.heap.size w w' := by
 have h := idxCond A c l w hr hc g lb eg p hp
 rw [← fidx_any]
 clear hr hp eg
 obtain ⟨n, hn⟩ : ∃ n : Int, n = fidx p l := ⟨_, rfl⟩
 rw [← hn] at h ⊢
 clear hn
 go_enter Try.func90, Try.ntmps90
 go_wp2_with (go_at_call 95; refine h.mono ?_; rintro e w' ⟨rfl, hb⟩)
 go_ret
 exact ⟨rfl, hb⟩
def model_Place.p (a1 : ByteArray) (x : S48) : Bool := x.f0.toList == a1.toList
def model_Place.f (l0_0 : List ByteArray) (l0_1 : List (S48)) (a1 : ByteArray) : Option Int := some (fidx (model_Place.p a1) l0_1)
set_option maxHeartbeats 2000000 in
theorem model_Place.closure (b : Nat) (id : ByteArray) (W : World) (hc : W.cell? ⟨b, 0, none⟩ = some (.string id)) (x : S48) (cs : List Value) (hK : Kd.K k48 W x cs) :
 Calls Try.prog 72 (#[.agg cs.toArray] ++ #[.pointer (some ⟨b, 0, none⟩)]) W fun e w' => e = .returned (.bool (model_Place.p id x)) ∧ Below W.heap.size W w' := by
 obtain ⟨A5, c5, A6, c6, rfl, _⟩ := k48_open hK
 unfold model_Place.p
 have hb := World.block_lt_of_cell? W _ hc
 simp only at hb
 have hu := Try.underlying48
 go_enter Try.func72, Try.ntmps72
 go_wp2
 go_ret
 exact ⟨rfl, below_alloc (Below.refl _ _) _⟩
theorem model_Place.eg : ∀ args w, (callFunc 72 args).run Try.prog w = .ok (.enter 72 args) w := enters_of Try.func72 (by kernel_rfl) rfl
set_option maxHeartbeats 2000000 in
theorem model_Place.calls (A0_0 : Option Addr) (c0_0 : Nat) (l0_0 : List ByteArray) (A0_1 : Option Addr) (c0_1 : Nat) (l0_1 : List (S48)) (a1 : ByteArray) (r : Int) (w : World) (hr0_0 : Kd.C Kd.string w A0_0 l0_0.length l0_0) (hc0_0 : l0_0.length ≤ c0_0) (hr0_1 : Kd.C k48 w A0_1 l0_1.length l0_1) (hc0_1 : l0_1.length ≤ c0_1) (h : model_Place.f l0_0 l0_1 a1 = some r) :
 Calls Try.prog 48 #[.agg #[.slice A0_0 l0_0.length c0_0, .slice A0_1 l0_1.length c0_1], .string a1] w fun e w' => e = .returned (.int .i64 r) ∧ Below w.heap.size w w' := by
 obtain rfl := Option.some.inj h
 have W1 := below_alloc (below_alloc (Below.refl w.heap.size w) (.cells #[.slice A0_0 l0_0.length c0_0, .slice A0_1 l0_1.length c0_1] 25)) (.cells #[.string a1] 9)
 have hcell : ((w.alloc (.cells #[.slice A0_0 l0_0.length c0_0, .slice A0_1 l0_1.length c0_1] 25)).alloc (.cells #[.string a1] 9)).cell? ⟨w.heap.size + 1, 0, none⟩ = some (.string a1) := by simp
 have hsz : ((w.alloc (.cells #[.slice A0_0 l0_0.length c0_0, .slice A0_1 l0_1.length c0_1] 25)).alloc (.cells #[.string a1] 9)).heap.size = w.heap.size + 2 := by simp
 have hi := idxItem A0_1 c0_1 l0_1 _ (Kd.C_below hr0_1 W1) hc0_1 72 #[.pointer (some ⟨w.heap.size + 1, 0, none⟩)] model_Place.eg (model_Place.p a1) (fun W x cs hx hb hK => model_Place.closure _ a1 W ((hb.cell (by rw [hsz]; simp)).trans hcell) x cs hK)
 have H := Lib.hid W1
 clear hr0_0 hr0_1 W1 hcell h hsz
 obtain ⟨n, hn⟩ : ∃ n : Int, n = fidx (model_Place.p a1) l0_1 := ⟨_, rfl⟩
 rw [← hn] at hi ⊢
 clear hn
 have hu := Try.underlying25
 go_enter Try.func48, Try.ntmps48
 go_wp2_with (go_at_call 70; refine hi.mono ?_; rintro e w' ⟨rfl, hb⟩)
 go_ret
 exact ⟨rfl, below_then H.out H.out.size hb⟩
def model_isOn.f (k : Nat) (l0_0 : List ByteArray) (l0_1 : List (S48)) (a1_0 : ByteArray) (a1_1 : Int) : Option (Bool) := (model_Place.f l0_0 l0_1 a1_0).bind fun t324 => (if t324 ≥ 0 then (if 0 ≤ t324 then (if t324 < (l0_1.length : Int) then ((model_Legal.f k ((rd_T48 l0_1 t324).f1) a1_1).bind fun t326 => (some t326)) else (none)) else (none)) else (some false))
theorem model_isOn.mono : ∀ a0 a1 a2 a3 k, LeO (model_isOn.f k a0 a1 a2 a3) (model_isOn.f (k + 1) a0 a1 a2 a3) := by
 intro a0 a1 a2 a3 k
 unfold model_isOn.f
 repeat' first
  | (with_reducible exact model_Legal.mono _ _ _)
  | (with_reducible exact LeO.refl _)
  | (with_reducible exact LeO.none _)
  | (with_reducible refine LeO.ite ?_ ?_)
  | (with_reducible refine LeO.bind ?_ (fun _ => ?_))
  | exact model_Legal.mono _ _ _
  | exact LeO.none _
  | refine LeO.ite ?_ ?_
  | refine LeO.bind ?_ (fun _ => ?_)
set_option maxHeartbeats 8000000 in
set_option maxRecDepth 100000 in
theorem model_isOn.calls (k : Nat) (A0_0 : Option Addr) (c0_0 : Nat) (l0_0 : List ByteArray) (A0_1 : Option Addr) (c0_1 : Nat) (l0_1 : List (S48)) (a1_0 : ByteArray) (a1_1 : Int) (r : Bool) (w : World) (hr0_0 : Kd.C Kd.string w A0_0 l0_0.length l0_0) (hc0_0 : l0_0.length ≤ c0_0) (hr0_1 : Kd.C k48 w A0_1 l0_1.length l0_1) (hc0_1 : l0_1.length ≤ c0_1) (h : model_isOn.f k l0_0 l0_1 a1_0 a1_1 = some r) :
 Calls Try.prog 88 #[.agg #[.slice A0_0 l0_0.length c0_0, .slice A0_1 l0_1.length c0_1], .agg #[.string a1_0, .int .i64 a1_1]] w fun e w' => e = .returned (.bool r) ∧ Below w.heap.size w w' := by
 have hu25 := Try.underlying25
 have hu103 := Try.underlying103
 have HR0_0 := Aside0.mk hr0_0
 have HC0_0 := Aside0.mk hc0_0
 clear hr0_0 hc0_0
 have HR0_1 := Aside0.mk hr0_1
 have HC0_1 := Aside0.mk hc0_1
 clear hr0_1 hc0_1
 have HB := Aside0.mk (Below.refl w.heap.size w)
 unfold model_isOn.f at h
 have H := h
 clear h
 replace H := Option.bind_eq_some_iff.mp H
 obtain ⟨t324, A30, H⟩ := H
 have A3 := Aside0.mk A30
 clear A30
 by_cases c4 : t324 ≥ 0
 ·rw [if_pos c4] at H
  have c4b0 := decide_eq_true c4
  clear c4
  by_cases c5 : 0 ≤ t324
  ·rw [if_pos c5] at H
   have c5b0 := decide_eq_true c5
   clear c5
   by_cases c6 : t324 < (l0_1.length : Int)
   ·rw [if_pos c6] at H
    have c6b0 := decide_eq_true c6
    clear c6
    replace H := Option.bind_eq_some_iff.mp H
    obtain ⟨t326, A70, H⟩ := H
    have A7 := Aside0.mk A70
    clear A70
    obtain rfl := Option.some.inj H
    go_enter Try.func88, Try.ntmps88
    go_wp2_with (first | ((with_reducible refine gate_dst (N := 2) rfl ?_); refine bx_ 2 #[.slice A0_0 l0_0.length c0_0, .slice A0_1 l0_1.length c0_1] 25 ?_; intro gb322 hg w8 hbox hb; have BK322 := Aside0.mk (hbox); have GW322 := zz_ (w := w) hg; have GE322 := zz_ (w := w) hg; replace HB := hb_ HB hb;  clear hb hbox hg) | ((with_reducible refine gate_dst (N := 3) rfl ?_); refine bx_ 3 #[.string a1_0, .int .i64 a1_1] 103 ?_; intro gb323 hg w9 hbox hb; have BK323 := Aside0.mk (hbox); have GW323 := zz_ (w := w) hg; have GE323 := zz_ (w := w) hg; replace HB := hb_ HB hb; have NB322_323 := ne1_ hg BK322; have NB323_322 := ne2_ hg BK322; replace BK322 := bb_ BK322 hb;  clear hb hbox hg; have hnb10 := NB322_323.out; have hnc10 := NB323_322.out; obtain ⟨hcz11_0, hcz11_1, hfz11_0, hfz11_1⟩ := bs2_ BK322; obtain ⟨hcz12_0, hcz12_1, hfz12_0, hfz12_1⟩ := bs2_ BK323) | (go_at_call 48; (with_reducible refine (model_Place.calls _ _ l0_0 _ _ l0_1 a1_0 t324 _ ?side1 ?side2 ?side3 ?side4 A3.out).mono ?_); (case side1 => exact kc_ HR0_0 HB); (case side2 => exact HC0_0.out); (case side3 => exact kc_ HR0_1 HB); (case side4 => exact HC0_1.out); rintro e w13 ⟨rfl, hb⟩; replace BK322 := bb_ BK322 hb; replace BK323 := bb_ BK323 hb; replace HB := hb_ HB hb;  (try clear hb); obtain ⟨hcz14_0, hcz14_1, hfz14_0, hfz14_1⟩ := bs2_ BK322; have p325 : 0 ≤ (t324 : Int) := od_; have q325 : t324 < (l0_1.length : Int) := od_; obtain ⟨ad325, A325_5, c325_5, A325_6, c325_6, e325, hx325_0, hx325_1, hx325_2, hx325_3, hx325_4, hx325_5, hx325_6, hl325_5, hi325_5, hl325_6, hi325_6⟩ := at_T48 HR0_1.out t324 p325 q325; cases e325; replace hx325_0 := rr_ HB hx325_0; replace hx325_1 := rr_ HB hx325_1; replace hx325_2 := rr_ HB hx325_2; replace hx325_3 := rr_ HB hx325_3; replace hx325_4 := rr_ HB hx325_4; replace hx325_5 := rr_ HB hx325_5; replace hx325_6 := rr_ HB hx325_6; have HR325_5 := Aside0.mk hi325_5; have HC325_5 := Aside0.mk hl325_5; clear hi325_5 hl325_5; have HR325_6 := Aside0.mk hi325_6; have HC325_6 := Aside0.mk hl325_6; clear hi325_6 hl325_6; replace p325 := eq_true p325; replace q325 := eq_true q325; obtain ⟨hcz15_0, hcz15_1, hfz15_0, hfz15_1⟩ := bs2_ BK323) | (go_at_call 93; (with_reducible refine (model_Legal.calls k ((rd_T48 l0_1 t324).f1) a1_1 t326 _ A7.out).mono ?_); rintro e w' ⟨rfl, ⟨nd, rfl⟩⟩; (try first | exact ⟨rfl, _, World.drewN_drewN _ _ _⟩ | exact ⟨rfl, _, Eq.trans (World.drewN_drewN _ _ _) (congrArg (World.drewN _) (Nat.add_assoc _ _ _))⟩)))
    repeat (go_quiet (first | ((with_reducible refine gate_dst (N := 2) rfl ?_); refine bx_ 2 #[.slice A0_0 l0_0.length c0_0, .slice A0_1 l0_1.length c0_1] 25 ?_; intro gb322 hg w8 hbox hb; have BK322 := Aside0.mk (hbox); have GW322 := zz_ (w := w) hg; have GE322 := zz_ (w := w) hg; replace HB := hb_ HB hb;  clear hb hbox hg) | ((with_reducible refine gate_dst (N := 3) rfl ?_); refine bx_ 3 #[.string a1_0, .int .i64 a1_1] 103 ?_; intro gb323 hg w9 hbox hb; have BK323 := Aside0.mk (hbox); have GW323 := zz_ (w := w) hg; have GE323 := zz_ (w := w) hg; replace HB := hb_ HB hb; have NB322_323 := ne1_ hg BK322; have NB323_322 := ne2_ hg BK322; replace BK322 := bb_ BK322 hb;  clear hb hbox hg; have hnb10 := NB322_323.out; have hnc10 := NB323_322.out; obtain ⟨hcz11_0, hcz11_1, hfz11_0, hfz11_1⟩ := bs2_ BK322; obtain ⟨hcz12_0, hcz12_1, hfz12_0, hfz12_1⟩ := bs2_ BK323) | (go_at_call 48; (with_reducible refine (model_Place.calls _ _ l0_0 _ _ l0_1 a1_0 t324 _ ?side1 ?side2 ?side3 ?side4 A3.out).mono ?_); (case side1 => exact kc_ HR0_0 HB); (case side2 => exact HC0_0.out); (case side3 => exact kc_ HR0_1 HB); (case side4 => exact HC0_1.out); rintro e w13 ⟨rfl, hb⟩; replace BK322 := bb_ BK322 hb; replace BK323 := bb_ BK323 hb; replace HB := hb_ HB hb;  (try clear hb); obtain ⟨hcz14_0, hcz14_1, hfz14_0, hfz14_1⟩ := bs2_ BK322; have p325 : 0 ≤ (t324 : Int) := od_; have q325 : t324 < (l0_1.length : Int) := od_; obtain ⟨ad325, A325_5, c325_5, A325_6, c325_6, e325, hx325_0, hx325_1, hx325_2, hx325_3, hx325_4, hx325_5, hx325_6, hl325_5, hi325_5, hl325_6, hi325_6⟩ := at_T48 HR0_1.out t324 p325 q325; cases e325; replace hx325_0 := rr_ HB hx325_0; replace hx325_1 := rr_ HB hx325_1; replace hx325_2 := rr_ HB hx325_2; replace hx325_3 := rr_ HB hx325_3; replace hx325_4 := rr_ HB hx325_4; replace hx325_5 := rr_ HB hx325_5; replace hx325_6 := rr_ HB hx325_6; have HR325_5 := Aside0.mk hi325_5; have HC325_5 := Aside0.mk hl325_5; clear hi325_5 hl325_5; have HR325_6 := Aside0.mk hi325_6; have HC325_6 := Aside0.mk hl325_6; clear hi325_6 hl325_6; replace p325 := eq_true p325; replace q325 := eq_true q325; obtain ⟨hcz15_0, hcz15_1, hfz15_0, hfz15_1⟩ := bs2_ BK323) | (go_at_call 93; (with_reducible refine (model_Legal.calls k ((rd_T48 l0_1 t324).f1) a1_1 t326 _ A7.out).mono ?_); rintro e w' ⟨rfl, ⟨nd, rfl⟩⟩; (try first | exact ⟨rfl, _, World.drewN_drewN _ _ _⟩ | exact ⟨rfl, _, Eq.trans (World.drewN_drewN _ _ _) (congrArg (World.drewN _) (Nat.add_assoc _ _ _))⟩))); try go_wp2_with (first | ((with_reducible refine gate_dst (N := 2) rfl ?_); refine bx_ 2 #[.slice A0_0 l0_0.length c0_0, .slice A0_1 l0_1.length c0_1] 25 ?_; intro gb322 hg w8 hbox hb; have BK322 := Aside0.mk (hbox); have GW322 := zz_ (w := w) hg; have GE322 := zz_ (w := w) hg; replace HB := hb_ HB hb;  clear hb hbox hg) | ((with_reducible refine gate_dst (N := 3) rfl ?_); refine bx_ 3 #[.string a1_0, .int .i64 a1_1] 103 ?_; intro gb323 hg w9 hbox hb; have BK323 := Aside0.mk (hbox); have GW323 := zz_ (w := w) hg; have GE323 := zz_ (w := w) hg; replace HB := hb_ HB hb; have NB322_323 := ne1_ hg BK322; have NB323_322 := ne2_ hg BK322; replace BK322 := bb_ BK322 hb;  clear hb hbox hg; have hnb10 := NB322_323.out; have hnc10 := NB323_322.out; obtain ⟨hcz11_0, hcz11_1, hfz11_0, hfz11_1⟩ := bs2_ BK322; obtain ⟨hcz12_0, hcz12_1, hfz12_0, hfz12_1⟩ := bs2_ BK323) | (go_at_call 48; (with_reducible refine (model_Place.calls _ _ l0_0 _ _ l0_1 a1_0 t324 _ ?side1 ?side2 ?side3 ?side4 A3.out).mono ?_); (case side1 => exact kc_ HR0_0 HB); (case side2 => exact HC0_0.out); (case side3 => exact kc_ HR0_1 HB); (case side4 => exact HC0_1.out); rintro e w13 ⟨rfl, hb⟩; replace BK322 := bb_ BK322 hb; replace BK323 := bb_ BK323 hb; replace HB := hb_ HB hb;  (try clear hb); obtain ⟨hcz14_0, hcz14_1, hfz14_0, hfz14_1⟩ := bs2_ BK322; have p325 : 0 ≤ (t324 : Int) := od_; have q325 : t324 < (l0_1.length : Int) := od_; obtain ⟨ad325, A325_5, c325_5, A325_6, c325_6, e325, hx325_0, hx325_1, hx325_2, hx325_3, hx325_4, hx325_5, hx325_6, hl325_5, hi325_5, hl325_6, hi325_6⟩ := at_T48 HR0_1.out t324 p325 q325; cases e325; replace hx325_0 := rr_ HB hx325_0; replace hx325_1 := rr_ HB hx325_1; replace hx325_2 := rr_ HB hx325_2; replace hx325_3 := rr_ HB hx325_3; replace hx325_4 := rr_ HB hx325_4; replace hx325_5 := rr_ HB hx325_5; replace hx325_6 := rr_ HB hx325_6; have HR325_5 := Aside0.mk hi325_5; have HC325_5 := Aside0.mk hl325_5; clear hi325_5 hl325_5; have HR325_6 := Aside0.mk hi325_6; have HC325_6 := Aside0.mk hl325_6; clear hi325_6 hl325_6; replace p325 := eq_true p325; replace q325 := eq_true q325; obtain ⟨hcz15_0, hcz15_1, hfz15_0, hfz15_1⟩ := bs2_ BK323) | (go_at_call 93; (with_reducible refine (model_Legal.calls k ((rd_T48 l0_1 t324).f1) a1_1 t326 _ A7.out).mono ?_); rintro e w' ⟨rfl, ⟨nd, rfl⟩⟩; (try first | exact ⟨rfl, _, World.drewN_drewN _ _ _⟩ | exact ⟨rfl, _, Eq.trans (World.drewN_drewN _ _ _) (congrArg (World.drewN _) (Nat.add_assoc _ _ _))⟩))))
    go_ret
    exact ⟨er_, hf_⟩
   ·rw [if_neg c6] at H
    exact absurd H (by simp)
  ·rw [if_neg c5] at H
   exact absurd H (by simp)
 ·rw [if_neg c4] at H
  have c4b0 := decide_eq_false c4
  clear c4
  obtain rfl := Option.some.inj H
  go_enter Try.func88, Try.ntmps88
  go_wp2_with (first | ((with_reducible refine gate_dst (N := 2) rfl ?_); refine bx_ 2 #[.slice A0_0 l0_0.length c0_0, .slice A0_1 l0_1.length c0_1] 25 ?_; intro gb322 hg w16 hbox hb; have BK322 := Aside0.mk (hbox); have GW322 := zz_ (w := w) hg; have GE322 := zz_ (w := w) hg; replace HB := hb_ HB hb;  clear hb hbox hg) | ((with_reducible refine gate_dst (N := 3) rfl ?_); refine bx_ 3 #[.string a1_0, .int .i64 a1_1] 103 ?_; intro gb323 hg w17 hbox hb; have BK323 := Aside0.mk (hbox); have GW323 := zz_ (w := w) hg; have GE323 := zz_ (w := w) hg; replace HB := hb_ HB hb; have NB322_323 := ne1_ hg BK322; have NB323_322 := ne2_ hg BK322; replace BK322 := bb_ BK322 hb;  clear hb hbox hg; have hnb18 := NB322_323.out; have hnc18 := NB323_322.out; obtain ⟨hcz19_0, hcz19_1, hfz19_0, hfz19_1⟩ := bs2_ BK322; obtain ⟨hcz20_0, hcz20_1, hfz20_0, hfz20_1⟩ := bs2_ BK323) | (go_at_call 48; (with_reducible refine (model_Place.calls _ _ l0_0 _ _ l0_1 a1_0 t324 _ ?side1 ?side2 ?side3 ?side4 A3.out).mono ?_); (case side1 => exact kc_ HR0_0 HB); (case side2 => exact HC0_0.out); (case side3 => exact kc_ HR0_1 HB); (case side4 => exact HC0_1.out); rintro e w21 ⟨rfl, hb⟩; replace BK322 := bb_ BK322 hb; replace BK323 := bb_ BK323 hb; replace HB := hb_ HB hb;  (try clear hb)))
  repeat (go_quiet (first | ((with_reducible refine gate_dst (N := 2) rfl ?_); refine bx_ 2 #[.slice A0_0 l0_0.length c0_0, .slice A0_1 l0_1.length c0_1] 25 ?_; intro gb322 hg w16 hbox hb; have BK322 := Aside0.mk (hbox); have GW322 := zz_ (w := w) hg; have GE322 := zz_ (w := w) hg; replace HB := hb_ HB hb;  clear hb hbox hg) | ((with_reducible refine gate_dst (N := 3) rfl ?_); refine bx_ 3 #[.string a1_0, .int .i64 a1_1] 103 ?_; intro gb323 hg w17 hbox hb; have BK323 := Aside0.mk (hbox); have GW323 := zz_ (w := w) hg; have GE323 := zz_ (w := w) hg; replace HB := hb_ HB hb; have NB322_323 := ne1_ hg BK322; have NB323_322 := ne2_ hg BK322; replace BK322 := bb_ BK322 hb;  clear hb hbox hg; have hnb18 := NB322_323.out; have hnc18 := NB323_322.out; obtain ⟨hcz19_0, hcz19_1, hfz19_0, hfz19_1⟩ := bs2_ BK322; obtain ⟨hcz20_0, hcz20_1, hfz20_0, hfz20_1⟩ := bs2_ BK323) | (go_at_call 48; (with_reducible refine (model_Place.calls _ _ l0_0 _ _ l0_1 a1_0 t324 _ ?side1 ?side2 ?side3 ?side4 A3.out).mono ?_); (case side1 => exact kc_ HR0_0 HB); (case side2 => exact HC0_0.out); (case side3 => exact kc_ HR0_1 HB); (case side4 => exact HC0_1.out); rintro e w21 ⟨rfl, hb⟩; replace BK322 := bb_ BK322 hb; replace BK323 := bb_ BK323 hb; replace HB := hb_ HB hb;  (try clear hb))); try go_wp2_with (first | ((with_reducible refine gate_dst (N := 2) rfl ?_); refine bx_ 2 #[.slice A0_0 l0_0.length c0_0, .slice A0_1 l0_1.length c0_1] 25 ?_; intro gb322 hg w16 hbox hb; have BK322 := Aside0.mk (hbox); have GW322 := zz_ (w := w) hg; have GE322 := zz_ (w := w) hg; replace HB := hb_ HB hb;  clear hb hbox hg) | ((with_reducible refine gate_dst (N := 3) rfl ?_); refine bx_ 3 #[.string a1_0, .int .i64 a1_1] 103 ?_; intro gb323 hg w17 hbox hb; have BK323 := Aside0.mk (hbox); have GW323 := zz_ (w := w) hg; have GE323 := zz_ (w := w) hg; replace HB := hb_ HB hb; have NB322_323 := ne1_ hg BK322; have NB323_322 := ne2_ hg BK322; replace BK322 := bb_ BK322 hb;  clear hb hbox hg; have hnb18 := NB322_323.out; have hnc18 := NB323_322.out; obtain ⟨hcz19_0, hcz19_1, hfz19_0, hfz19_1⟩ := bs2_ BK322; obtain ⟨hcz20_0, hcz20_1, hfz20_0, hfz20_1⟩ := bs2_ BK323) | (go_at_call 48; (with_reducible refine (model_Place.calls _ _ l0_0 _ _ l0_1 a1_0 t324 _ ?side1 ?side2 ?side3 ?side4 A3.out).mono ?_); (case side1 => exact kc_ HR0_0 HB); (case side2 => exact HC0_0.out); (case side3 => exact kc_ HR0_1 HB); (case side4 => exact HC0_1.out); rintro e w21 ⟨rfl, hb⟩; replace BK322 := bb_ BK322 hb; replace BK323 := bb_ BK323 hb; replace HB := hb_ HB hb;  (try clear hb))))
  go_ret
  exact ⟨er_, hf_⟩
def legalB (kind event : Int) : Bool :=
 if event = 1 ∨ event = 5 then decide (1 ≤ kind ∧ kind ≤ 5) else if event = 2 ∨ event = 3 then decide (kind = 1 ∨ kind = 2) else if event = 4 then decide (3 ≤ kind ∧ kind ≤ 5) else false
theorem legal_eq (a b : Int) : model_Legal.f 2 a b = some (legalB a b) := by
 unfold model_Legal.f legalB
 by_cases h1 : b = 1
 ·subst h1; simp only [model_Legal.j0]; by_cases h2 : a ≥ 1 <;> by_cases h3 : a ≤ 5 <;> simp [h2, h3]
 by_cases h5 : b = 5
 ·subst h5; simp only [model_Legal.j0]; by_cases h2 : a ≥ 1 <;> by_cases h3 : a ≤ 5 <;> simp [h2, h3]
 rw [if_neg h1, show (b == 5) = false by simpa using h5]
 simp only [model_Legal.j0, Bool.false_eq_true, if_false]
 have h15 : ¬ (b = 1 ∨ b = 5) := by omega
 rw [if_neg h15]
 by_cases h2 : b = 2
 ·subst h2; simp only [model_Legal.j1]; by_cases h3 : a = 1 <;> by_cases h4 : a = 2 <;> simp [h3, h4]
 by_cases h3 : b = 3
 ·subst h3; simp only [model_Legal.j1]; by_cases h3 : a = 1 <;> by_cases h4 : a = 2 <;> simp [h3, h4]
 rw [if_neg h2, show (b == 3) = false by simpa using h3]
 simp only [model_Legal.j1, Bool.false_eq_true, if_false]
 have h23 : ¬ (b = 2 ∨ b = 3) := by omega
 rw [if_neg h23]
 by_cases h4 : b = 4
 ·subst h4; by_cases h2 : a ≥ 3 <;> by_cases h3 : a ≤ 5 <;> simp [h2, h3]
 ·simp [h4]
theorem wrap_lt {i n : Int} (h0 : 0 ≤ i) (h : i < n) (hn : n ≤ 9223372036854775807) : wrap64 (i + 1) = i + 1 := by
 unfold wrap64
 omega
def memB (l : List ByteArray) (s : ByteArray) : Bool := l.any (fun x => s.toList == x.toList)
theorem rdOf_get {α : Type} (z : α) (l : List α) (i : Nat) (h : i < l.length) : rdOf z l (i : Int) = l[i] := by
 simp [rdOf, List.getD_eq_getElem?_getD, List.getElem?_eq_getElem h]
theorem index_any (l : List ByteArray) (s : ByteArray) (hn : l.length ≤ 9223372036854775807) (d : Nat) : ∀ (i k : Nat), i + d = l.length → d < k → ∃ r, slices_Index_string_string.l0 k l s l.length i = some r ∧ decide (r ≥ 0) = (l.drop i).any (fun x => s.toList == x.toList) := by
  induction d with
  | zero =>
    intro i k hi hk
    obtain ⟨k, rfl⟩ : ∃ m, k = m + 1 := ⟨k - 1, by omega⟩
    refine ⟨-1, ?_, ?_⟩
    · simp only [slices_Index_string_string.l0]
      rw [if_neg (by omega)]
    · rw [List.drop_of_length_le (by omega)]
      rfl
  | succ d ih =>
    intro i k hi hk
    obtain ⟨k, rfl⟩ : ∃ m, k = m + 1 := ⟨k - 1, by omega⟩
    have hlt : i < l.length := by omega
    simp only [slices_Index_string_string.l0]
    rw [if_pos (by omega), if_pos (by omega), if_pos (by omega), rdOf_get _ _ _ hlt, List.drop_eq_getElem_cons hlt, List.any_cons]
    by_cases he : s.toList = l[i].toList
    · rw [if_pos he]
      refine ⟨i, rfl, ?_⟩
      rw [show (s.toList == l[i].toList) = true by simpa using he]
      simp
    · rw [if_neg he, show (s.toList == l[i].toList) = false by simpa using he, Bool.false_or, wrap_lt (n := (l.length : Int)) (by omega) (by omega) (by omega)]
      exact ih (i + 1) k (by omega) (by omega)
theorem contains_eq (l : List ByteArray) (s : ByteArray) (hn : l.length ≤ 9223372036854775807) (k : Nat) (hk : l.length < k) : slices_Contains_string_string.f k l s = some (memB l s) := by
 obtain ⟨r, hr, hd⟩ := index_any l s hn l.length 0 k (by omega) hk
 unfold slices_Contains_string_string.f slices_Index_string_string.f
 have hr' : _ = some r := hr
 simp only [Int.natCast_zero, Int.ofNat_eq_natCast, Int.cast_ofNat_Int] at hr'
 rw [hr', Option.bind_some, hd]
 rfl
abbrev hasOn_p (a : ByteArray) (b : Int) (x : S103) : Bool := a.toList == x.f0.toList && (b == x.f1)
def hasOn (l : List (S103)) (a : ByteArray) (b : Int) : Bool := l.any (hasOn_p a b)
theorem hasOn_any (l : List (S103)) (a : ByteArray) (b : Int) (hn : l.length ≤ 9223372036854775807) (d : Nat) : ∀ (i k : Nat), i + d = l.length → d < k → ∃ r, api_On_94.l0 k l l.length i a b = some r ∧ decide (r ≥ 0) = (l.drop i).any (hasOn_p a b) := by
  induction d with
  | zero =>
    intro i k hi hk
    obtain ⟨k, rfl⟩ : ∃ m, k = m + 1 := ⟨k - 1, by omega⟩
    refine ⟨-1, ?_, ?_⟩
    · simp only [api_On_94.l0]
      rw [if_neg (by omega)]
    · rw [List.drop_of_length_le (by omega)]
      rfl
  | succ d ih =>
    intro i k hi hk
    obtain ⟨k, rfl⟩ : ∃ m, k = m + 1 := ⟨k - 1, by omega⟩
    have hlt : i < l.length := by omega
    have hrd : rd_T103 l (i : Int) = l[i] := by simp [rd_T103, List.getD_eq_getElem?_getD, List.getElem?_eq_getElem hlt]
    simp only [api_On_94.l0]
    rw [if_pos (by omega), if_pos (by omega), if_pos (by omega), hrd, List.drop_eq_getElem_cons hlt, List.any_cons]
    cases he : hasOn_p a b l[i] with
    | true =>
      rw [if_pos he]
      exact ⟨i, rfl, by simp⟩
    | false =>
      rw [if_neg (show ¬ (hasOn_p a b l[i]) = true by rw [he]; simp), Bool.false_or, wrap_lt (n := (l.length : Int)) (by omega) (by omega) (by omega)]
      exact ih (i + 1) k (by omega) (by omega)
theorem hasOn_eq (l : List (S103)) (a : ByteArray) (b : Int) (hn : l.length ≤ 9223372036854775807) (k : Nat) (hk : l.length < k) : api_On_89.f k l a b = some (hasOn l a b) := by
 obtain ⟨r, hr, hd⟩ := hasOn_any l a b hn l.length 0 k (by omega) hk
 unfold api_On_89.f api_On_94.f
 have hr' : _ = some r := hr
 simp only [Int.natCast_zero, Int.ofNat_eq_natCast, Int.cast_ofNat_Int] at hr'
 rw [hr', Option.bind_some, hd]
 rfl
def placeI (l : List (S48)) (id : ByteArray) : Int := fidx (model_Place.p id) l
theorem fidx_lt {α : Type} (p : α → Bool) (l : List α) : fidx p l < l.length := by
  unfold fidx
  cases h : l.findIdx? p with
  | none => show (-1 : Int) < _; omega
  | some i =>
    obtain ⟨hi, _⟩ := List.findIdx?_eq_some_iff_getElem.1 h
    show (i : Int) < _
    omega
theorem placeI_lt (l : List (S48)) (id : ByteArray) : placeI l id < l.length := fidx_lt _ _
def onB (l : List (S48)) (a : ByteArray) (b : Int) : Bool := if 0 ≤ placeI l a then legalB (rd_T48 l (placeI l a)).f1 b else false
theorem isOn_eq (fs : List ByteArray) (l : List (S48)) (a : ByteArray) (b : Int) : model_isOn.f 2 fs l a b = some (onB l a b) := by
 unfold model_isOn.f onB model_Place.f
 rw [show fidx (model_Place.p a) l = placeI l a from rfl, Option.bind_some]
 by_cases h : 0 ≤ placeI l a
 ·rw [if_pos h, if_pos h, if_pos (placeI_lt l a), legal_eq, if_pos h]
  rfl
 ·rw [if_neg h, if_neg h]
def opsL : List ByteArray := [(⟨#[60]⟩ : ByteArray), (⟨#[60, 61]⟩ : ByteArray), (⟨#[61]⟩ : ByteArray), (⟨#[33, 61]⟩ : ByteArray), (⟨#[62, 61]⟩ : ByteArray), (⟨#[62]⟩ : ByteArray)]
def ifB (fs : List ByteArray) (file op : ByteArray) (n : Int) : Bool := memB opsL op && (memB fs file && decide (-1000000 ≤ n ∧ n ≤ 1000000))
theorem isIf_eq (fs : List ByteArray) (l : List (S48)) (a b : ByteArray) (c : Int) (hn : fs.length ≤ 9223372036854775807) (k : Nat) (hk : fs.length < k) (hk6 : 6 < k) : model_isIf.f k fs l a b c = some (ifB fs a b c) := by
 unfold model_isIf.f ifB
 rw [show ([(⟨#[60]⟩ : ByteArray), (⟨#[60, 61]⟩ : ByteArray), (⟨#[61]⟩ : ByteArray), (⟨#[33, 61]⟩ : ByteArray), (⟨#[62, 61]⟩ : ByteArray), (⟨#[62]⟩ : ByteArray)] : List ByteArray) = opsL by rfl, contains_eq opsL b (by decide) k hk6, contains_eq fs a hn k hk, Option.bind_some, Option.bind_some]
 cases memB opsL b <;> cases memB fs a <;> simp
 by_cases h : c ≥ -1000000 <;> by_cases h2 : c ≤ 1000000 <;> simp [h, h2] <;> omega
def bits (n m : Nat) : Array Bool := ((List.range n).map (fun i => m.testBit i)).toArray
section
variable {P : Program} {md : Region.Mode} {ops : Array Oper} {Q : Exit → Act → World → Prop} {S : World → Prop} {ds : List Nat}
theorem st_ {id : Nat} {a : Act} {w : World} (S : World → Prop) (n : Nat) (hS : S w.drew) (h : S w.drew → wpAnyLast P .any ops Q S [] n (bits n 0) a w.drew)
 (hm : P.follows .mixedOrders = true := by kernel_rfl) (hn : ops.size = n := by exact rfl) (hl : Array.replicate n false = bits n 0 := by kernel_rfl) : (Code.region id ops true).wp P Q a w :=
 start_ (bits n 0) hm hn hl hS h
theorem pu_ {n m fuel : Nat} {oi : Oper} {v : Value} {a a' : Act} {w : World} (i : Nat) (N : Option Tmp) (h : wpAnyLast P md ops Q S ds fuel (bits n (m ||| 1 <<< i)) a' w)
 (hi : ops[i]? = some oi := by exact rfl) (hN : oi.dst = N := by exact rfl) (hc : anyB md ops (bits n m) (bits n (m ||| 1 <<< i)) i = true := by kernel_rfl)
 (hw : Region.wanted oi (yielded ops a.tmps) = true := by exact rfl) (hy : ∀ w', (execOp a.eval oi).run P w' = .ok (.value v) w' := by (intro w'; go_simp; with_reducible rfl))
 (ha : a.put N v = a' := by (simp only [Act.put, List.setIfInBounds_toArray, List.set_cons_zero, List.set_cons_succ, i64_w, i32_w]; rfl))
 (hQ : ∀ c a w, Q (.panic c) (a.put oi.dst v) w → Q (.panic c) a w := by exact fun _ _ _ h => h) : wpAnyLast P md ops Q S ds (fuel + 1) (bits n m) a w :=
 pure_ _ hi hN hc hQ (Or.inl ⟨hw, hy⟩) ha h
theorem sk_ {n m fuel : Nat} {oi : Oper} {a a' : Act} {w : World} (i : Nat) (N : Option Tmp) (h : wpAnyLast P md ops Q S ds fuel (bits n (m ||| 1 <<< i)) a' w)
 (hi : ops[i]? = some oi := by exact rfl) (hN : oi.dst = N := by exact rfl) (hc : anyB md ops (bits n m) (bits n (m ||| 1 <<< i)) i = true := by kernel_rfl)
 (hw : Region.wanted oi (yielded ops a.tmps) = false := by exact rfl)
 (ha : a.put N undef = a' := by (simp only [Act.put, List.setIfInBounds_toArray, List.set_cons_zero, List.set_cons_succ, i64_w, i32_w]; rfl))
 (hQ : ∀ c a w, Q (.panic c) (a.put oi.dst undef) w → Q (.panic c) a w := by exact fun _ _ _ h => h) : wpAnyLast P md ops Q S ds (fuel + 1) (bits n m) a w :=
 pure_ _ hi hN hc hQ (Or.inr ⟨hw, rfl⟩) ha h
theorem tk_ {n m fuel : Nat} {oi : Oper} {v : Value} {a a' : Act} {w : World} (i : Nat) (N : Option Tmp) (hS : S w) (h : wpAnyLast P md ops Q S ds fuel (bits n (m ||| 1 <<< i)) a' w)
 (hi : ops[i]? = some oi := by exact rfl) (hN : oi.dst = N := by exact rfl) (hc : takeB md ops ds (bits n m) (bits n (m ||| 1 <<< i)) i = true := by kernel_rfl)
 (hw : Region.wanted oi (yielded ops a.tmps) = true := by exact rfl) (hy : ∀ w', S w' → (execOp a.eval oi).run P w' = .ok (.value v) w')
 (ha : a.put N v = a' := by (simp only [Act.put, List.setIfInBounds_toArray, List.set_cons_zero, List.set_cons_succ, i64_w, i32_w]; rfl))
 (hQ : ∀ c a w, Q (.panic c) (a.put oi.dst v) w → Q (.panic c) a w := by exact fun _ _ _ h => h) : wpAnyLast P md ops Q S ds (fuel + 1) (bits n m) a w :=
 take_ _ hi hN hc hQ (Or.inl ⟨hw, hy⟩) hS ha h
theorem ca_ {n m fuel : Nat} {oi : Oper} {a : Act} {w : World} {f : FuncId} {fn : Func} {os : Array Operand} {ts : Array TypeId} (i : Nat) (N : Option Tmp) (hf : P.funcs[f]? = some fn) (args : Array Value)
 (h : Calls P f args w fun e w' => ∃ v, e = .returned v ∧ S w' ∧ (S w' → ∃ a', a.put N v = a' ∧ wpAnyLast P md ops Q S ds fuel (bits n (m ||| 1 <<< i)) a' w'))
 (hi : ops[i]? = some oi := by exact rfl) (hN : oi.dst = N := by exact rfl) (hc : readyB md ops (bits n m) (bits n (m ||| 1 <<< i)) i = true := by kernel_rfl) (hd : i ∉ ds := by decide)
 (hop : oi.op = .call { callee := .value (.func f), args := os, argTypes := ts } := by exact rfl) (hargs : os.map a.eval = args := by ((try simp only [List.map_toArray, List.map_cons, List.map_nil]); first | done | rfl))
 (hw : Region.wanted oi (yielded ops a.tmps) = true := by exact rfl)
 (hname : (fn.name == "runtime.NumGoroutine") = false := by kernel_rfl) (hb : fn.body.isSome = true := by exact rfl) : wpAnyLast P md ops Q S ds (fuel + 1) (bits n m) a w :=
 one_ _ hi hN hc hd fun K hK => goes_ hf hname hb args hw hN hop hargs (h.mono fun e w' hh => by
  obtain ⟨v, rfl, hS, hW⟩ := hh
  refine ⟨v, rfl, hK.out _ _ hS fun hs => ?_⟩
  obtain ⟨a', rfl, h'⟩ := hW hs
  exact h')
theorem dn_ {n m : Nat} {a : Act} {w : World} {k : Nat} (h : Q .normal a w) (hr : (Region.ready md ops (bits n m) == []) = true := by kernel_rfl) : wpAnyLast P md ops Q S ds k (bits n m) a w := done_ hr h
end
section
variable {P : Program} {md : Region.Mode} {ops : Array Oper} {Q : Exit → Act → World → Prop} {S : World → Prop} {ds : List Nat}
theorem oN_ {n m fuel : Nat} {oi : Oper} {a : Act} {w : World} (i : Nat) (N : Option Tmp)
 (h : ∀ K : Act → World → Prop, Shut (∀ a' w', S w' → (S w' → wpAnyLast P md ops Q S ds fuel (bits n (m ||| 1 <<< i)) a' w') → K a' w') → if Region.wanted oi (yielded ops a.tmps) = true then Oper.wp P oi a w K Q else K (a.put N undef) w)
 (hi : ops[i]? = some oi := by exact rfl) (hN : oi.dst = N := by exact rfl) (hc : readyB md ops (bits n m) (bits n (m ||| 1 <<< i)) i = true := by kernel_rfl) (hd : i ∉ ds := by decide) : wpAnyLast P md ops Q S ds (fuel + 1) (bits n m) a w :=
 one_ _ hi hN hc hd h
theorem tW_ {n m fuel : Nat} {oi oj : Oper} {a : Act} {w : World} (i j : Nat) (Ni Nj : Option Tmp)
 (h1 : ∀ K : Act → World → Prop, Shut (∀ a' w', S w' → (S w' → wpAnyLast P md ops Q S ds fuel (bits n (m ||| 1 <<< i)) a' w') → K a' w') → if Region.wanted oi (yielded ops a.tmps) = true then Oper.wp P oi a w K Q else K (a.put Ni undef) w)
 (h2 : ∀ K : Act → World → Prop, Shut (∀ a' w', S w' → (S w' → wpAnyLast P md ops Q S ds fuel (bits n (m ||| 1 <<< j)) a' w') → K a' w') → if Region.wanted oj (yielded ops a.tmps) = true then Oper.wp P oj a w K Q else K (a.put Nj undef) w)
 (hi : ops[i]? = some oi := by exact rfl) (hj : ops[j]? = some oj := by exact rfl) (hNi : oi.dst = Ni := by exact rfl) (hNj : oj.dst = Nj := by exact rfl)
 (hc : (Region.ready md ops (bits n m) == [i, j] && (bits n m).setIfInBounds i true == bits n (m ||| 1 <<< i) && (bits n m).setIfInBounds j true == bits n (m ||| 1 <<< j)) = true := by kernel_rfl) (hdi : i ∉ ds := by decide) (hdj : j ∉ ds := by decide) : wpAnyLast P md ops Q S ds (fuel + 1) (bits n m) a w :=
 two_ _ _ hi hj hNi hNj hc hdi hdj h1 h2
theorem sD_ {id : Nat} {a : Act} {w : World} (ds : List Nat) (S : World → Prop) (n : Nat) (hS : S w.drew) (h : S w.drew → wpAnyLast P .any ops Q S ds n (bits n 0) a w.drew)
 (hm : P.follows .mixedOrders = true := by kernel_rfl) (hn : ops.size = n := by exact rfl) (hl : Array.replicate n false = bits n 0 := by kernel_rfl) : (Code.region id ops true).wp P Q a w :=
 start_ (bits n 0) hm hn hl hS h
theorem lA_ {n m fuel : Nat} {oi : Oper} {a : Act} {w : World} (i : Nat) (N : Option Tmp)
 (h : ∀ K : Act → World → Prop, Shut (∀ a' w', wpAnyLast P md ops Q S ds fuel (bits n (m ||| 1 <<< i)) a' w' → K a' w') → if Region.wanted oi (yielded ops a.tmps) = true then Oper.wp P oi a w K Q else K (a.put N undef) w)
 (hi : ops[i]? = some oi := by exact rfl) (hN : oi.dst = N := by exact rfl) (hc : readyB md ops (bits n m) (bits n (m ||| 1 <<< i)) i = true := by kernel_rfl) (hd : i ∈ ds := by decide) : wpAnyLast P md ops Q S ds (fuel + 1) (bits n m) a w :=
 last_ _ hi hN hc hd h
end
def onsR (ids : List ByteArray) : Nat → RSt → List (S103) × RSt
 | 0, s => ([], s)
 | d + 1, s => (⟨(pickR ids s).1, (numR 6 (pickR ids s).2).1⟩ :: (onsR ids d (numR 6 (pickR ids s).2).2).1, (onsR ids d (numR 6 (pickR ids s).2).2).2)
def ifsR (files : List ByteArray) : Nat → RSt → List (S50) × RSt
 | 0, s => ([], s)
 | d + 1, s => (⟨(pickR files s).1, (pickR opsL (pickR files s).2).1, (signedR (pickR opsL (pickR files s).2).2).1⟩ :: (ifsR files d (signedR (pickR opsL (pickR files s).2).2).2).1, (ifsR files d (signedR (pickR opsL (pickR files s).2).2).2).2)
def sentR (files ids : List ByteArray) (s : RSt) : S54 × RSt :=
 let c1 := countR 3 s
 let o := onsR ids c1.1.toNat c1.2
 let c2 := countR 2 o.2
 let f := ifsR files c2.1.toNat c2.2
 (⟨o.1, f.1⟩, f.2)
def sentsGo (files ids : List ByteArray) : Nat → RSt → List (S54) × RSt
 | 0, s => ([], s)
 | d + 1, s => ((sentR files ids s).1 :: (sentsGo files ids d (sentR files ids s).2).1, (sentsGo files ids d (sentR files ids s).2).2)
def sentsR (files ids : List ByteArray) (s : RSt) : List (S54) × RSt := sentsGo files ids (countR 3 s).1.toNat (countR 3 s).2
def SentsPost (w0 w : World) (g : Nat) (r : List (S54) × RSt) (e : Ending) (w' : World) : Prop := ∃ v, e = .returned v ∧ Kd.R k54 54 w' w.heap.size (fun _ => True) v r.1 ∧ Rs w0 w w' g r.2
theorem countR_le (m : Int) (s : RSt) (h8 : Bytes s.1) (hm : 0 ≤ m) : 0 ≤ (countR m s).1 ∧ (countR m s).1 ≤ m := by
 have h := numR_lt (m + 1) s h8
 unfold countR
 split
 ·exact ⟨Int.le_refl _, hm⟩
 ·rename_i hb
  have := h.2.2 (by simpa using hb)
  exact ⟨h.1, by omega⟩
def Txt (w0 w : World) (g : Nat) (A : Option Addr) (c : Nat) (l : List ByteArray) : Prop := Kd.C Kd.string w A l.length l ∧ l.length ≤ c ∧ (∀ ad, A = some ad → ad.block < w.heap.size ∧ ad.block ≠ g) ∧ l.length ≤ 1000000
theorem Txt.go {T : TypeId} {w0 w w1 : World} {g : Nat} {A : Option Addr} {c : Nat} {l : List ByteArray} {s : RSt} (h : Txt w0 w g A c l) (k : RsT T w0 w w1 g s) : Txt w0 w1 g A c l :=
 ⟨C_kept h.1 k.2.2 h.2.2.1, h.2.1, fun ad e => ⟨Nat.lt_of_lt_of_le (h.2.2.1 ad e).1 k.2.2.1, (h.2.2.1 ad e).2⟩, h.2.2.2⟩
theorem pick_txt {w0 w wr : World} {g : Nat} {s : RSt} {A : Option Addr} {c : Nat} {l : List ByteArray} (hg0 : w0.heap.size ≤ g) (h : Rs w0 w wr g s) (ht : Txt w0 wr g A c l) :
 Calls Try.prog 79 #[.pointer (some ⟨g, 0, none⟩), .slice A l.length c] wr (PickPost w0 w g (pickR l s)) := pick_rs A c l hg0 h ht.1 ht.2.2.1 ht.2.2.2
theorem R_rs {T : TypeId} {w0 w w1 : World} {g : Nat} {s : RSt} {α : Type} {d : Kd α} {e base : Nat} {ok : Nat → Prop} {v : Value} {xs : List α} (h : d.R e w base ok v xs) (k : RsT T w0 w w1 g s) (hg : g < base) : d.R e w1 base ok v xs :=
 Kd.R_mono (Kd.R_keep (Kd.R_bound h) k.keep (fun k hk => by have := hk.2.1; omega)) (fun _ hk => hk.1)
theorem R_set2 {w : World} {α : Type} {d : Kd α} {e base : Nat} {ok : Nat → Prop} {v : Value} {xs : List α} (h : d.R e w base ok v xs) (p : Addr) (u : Value) (hp : p.block < base) : d.R e (w.setCell p u) base ok v xs :=
 Kd.R_mono (Kd.R_far (Kd.R_bound h) (fun k hk => by have := hk.2.1; omega) u) (fun _ hk => hk.1)
theorem info103_ : (Try.prog.info? 103).map (fun i => (i.zero, i.size, i.bytes)) = some (some (.agg #[.string ⟨#[]⟩, .int .i64 0]), 2, 24) := by kernel_rfl
theorem info50_ : (Try.prog.info? 50).map (fun i => (i.zero, i.size, i.bytes)) = some (some (.agg #[.string ⟨#[]⟩, .string ⟨#[]⟩, .int .i64 0]), 3, 40) := by kernel_rfl
theorem info54_ : (Try.prog.info? 54).map (fun i => (i.zero, i.size, i.bytes)) = some (some (.agg #[.slice none 0 0, .slice none 0 0]), 2, 48) := by kernel_rfl
set_option maxHeartbeats 16000000 in
set_option maxRecDepth 100000 in
theorem sentsr_any (w0 w : World) (g : Nat) (s : RSt) (A1 : Option Addr) (c1 : Nat) (files : List ByteArray) (A2 : Option Addr) (c2 : Nat) (ids : List ByteArray) (hg0 : w0.heap.size ≤ g) (h : Rs w0 w w g s) (ht1 : Txt w0 w g A1 c1 files) (ht2 : Txt w0 w g A2 c2 ids) :
 Calls Try.prog 80 #[.pointer (some ⟨g, 0, none⟩), .slice A1 files.length c1, .slice A2 ids.length c2] w (SentsPost w0 w g (sentsR files ids s)) := by
 have hcnt := count_rs 3 (by omega) hg0 h
 have hcl := countR_le 3 s h.bytes (by omega)
 obtain ⟨R, hR⟩ : ∃ R, R = sentsR files ids s := ⟨_, rfl⟩
 rw [← hR]
 unfold sentsR at hR
 obtain ⟨⟨n, z0⟩, hn⟩ : ∃ r, r = countR 3 s := ⟨_, rfl⟩
 rw [← hn] at hcnt hcl hR
 obtain ⟨k, rfl⟩ := Int.eq_ofNat_of_zero_le hcl.1
 have hk3 : k ≤ 3 := by have := hcl.2; simp only at this; omega
 replace hR : R = sentsGo files ids k z0 := hR
 have HR := Lib.hid hR
 have H := Lib.hid h
 have HT1 := Lib.hid ht1
 have HT2 := Lib.hid ht2
 have hgl := h.1.lt
 clear hR hn hcl h ht1 ht2
 go_enter Try.func80, Try.ntmps80
 go_wp2_with fail
 refine hcnt.mono ?_
 rintro e w1 ⟨rfl, hs⟩
 have HS1 := Lib.hid hs
 clear hs hcnt
 go_wp2
 go_loopg [14, 7] k (fun gg s14 s7 wr => ∃ (i d : Nat) (z : RSt) (acc : List (S54)), s14 = .int .i64 i ∧ i + d = k ∧ d ≤ gg ∧ Hid (Kd.R k54 54 wr w.heap.size (fun _ => True) s7 acc ∧ Rs w0 w wr g z ∧ acc.length = i ∧ R = (acc ++ (sentsGo files ids d z).1, (sentsGo files ids d z).2)))
 case atStart => exact ⟨0, k, z0, [], rfl, by omega, Nat.le_refl _, Lib.hid ⟨Kd.R_nil _ _ _ _ _, HS1.out, rfl, by rw [HR.out]; rfl⟩⟩
 case round =>
  obtain ⟨i, d, z, acc, rfl, hid, hdg, X⟩ := hrel
  obtain ⟨wO, rfl⟩ : ∃ wO, wO = wr := ⟨_, rfl⟩
  obtain ⟨hRa, hsO, hacc, hRe⟩ := X.out
  obtain ⟨Av, cv, rfl⟩ := Kd.R_slice hRa
  clear X
  by_cases hlt : i < k
  case neg =>
   have hltz : ¬ (i : Int) < (k : Int) := by omega
   obtain rfl : d = 0 := by omega
   have HT : Hid (R = (acc, z)) := Lib.hid (by rw [hRe]; simp [sentsGo])
   have HF := Lib.hid (And.intro hRa hsO)
   clear hRa hsO hacc hRe
   go_wp2
   go_ret
   exact ⟨_, rfl, by rw [HT.out]; exact HF.out.1, by rw [HT.out]; exact HF.out.2⟩
  have hltz : (i : Int) < (k : Int) := by omega
  obtain ⟨d, rfl⟩ : ∃ e, d = e + 1 := ⟨d - 1, by omega⟩
  have hbg : wO.heap.size ≠ g := by have := hsO.1.lt; omega
  have hgb : g < wO.heap.size + 1 := by have := hsO.1.lt; omega
  have hbw : w.heap.size ≤ wO.heap.size := hsO.2.2.1
  have hbw0 : w0.heap.size ≤ wO.heap.size := hsO.2.1.size
  have hcnt := count_rs (w0 := w0) (w := wO.alloc (.cells #[.slice none 0 0, .slice none 0 0] 54)) 3 (by omega) hg0 (hsO.alloc _).here
  have hcl := countR_le 3 z hsO.bytes (by omega)
  obtain ⟨Z, hZ⟩ : ∃ Z, Z = sentR files ids z := ⟨_, rfl⟩
  have hRe2 : R = (acc ++ Z.1 :: (sentsGo files ids d Z.2).1, (sentsGo files ids d Z.2).2) := by rw [hRe, hZ]; rfl
  unfold sentR at hZ
  obtain ⟨⟨n1, z1⟩, hn1⟩ : ∃ r, r = countR 3 z := ⟨_, rfl⟩
  rw [← hn1] at hcnt hcl hZ
  obtain ⟨k1, rfl⟩ := Int.eq_ofNat_of_zero_le hcl.1
  have hk1 : k1 ≤ 3 := by have := hcl.2; simp only at this; omega
  obtain ⟨O, hO⟩ : ∃ O, O = onsR ids k1 z1 := ⟨_, rfl⟩
  replace hZ : Z = (⟨O.1, (ifsR files (countR 2 O.2).1.toNat (countR 2 O.2).2).1⟩, (ifsR files (countR 2 O.2).1.toNat (countR 2 O.2).2).2) := by rw [hZ, hO]; rfl
  have HRA := Lib.hid hRa
  have HSO := Lib.hid hsO
  have HACC := Lib.hid hacc
  have HRE := Lib.hid hRe2
  have HZ := Lib.hid hZ
  have HO := Lib.hid hO
  have hblk := heap_alloc_new wO (.cells #[.slice none 0 0, .slice none 0 0] 54)
  have HBLK := Lib.hid hblk
  clear hRa hsO hacc hRe hRe2 hZ hO hn1 hcl hblk
  go_wp2_with fail
  refine hcnt.mono ?_
  rintro e w2 ⟨rfl, s2⟩
  have HS2 := Lib.hid ((HSO.out.here.alloc (.cells #[.slice none 0 0, .slice none 0 0] 54)).then_ s2)
  have HB2 := Lib.hid (s2.blk HBLK.out hbg)
  clear s2 hcnt HBLK
  go_wp2
  go_loopg [18] k1 (fun gg s18 wi => ∃ (j e : Nat) (y : RSt) (ons : List (S103)), s18 = .int .i64 j ∧ j + e = k1 ∧ e ≤ gg ∧ Hid (∃ v1, Rs w0 wO wi g y ∧ wi.heap[wO.heap.size]? = some (.cells #[v1, .slice none 0 0] 54 (0, 0)) ∧ Kd.R k103 103 wi (wO.heap.size + 1) (fun _ => True) v1 ons ∧ ons.length = j ∧ O = (ons ++ (onsR ids e y).1, (onsR ids e y).2)))
  case atStart => exact ⟨0, k1, z1, [], rfl, by omega, Nat.le_refl _, Lib.hid ⟨_, HS2.out, HB2.out, Kd.R_nil _ _ _ _ _, rfl, by rw [HO.out]; rfl⟩⟩
  case round =>
   obtain ⟨j, e, y, ons, rfl, hje, heg, Y⟩ := hrel
   obtain ⟨wi, rfl⟩ : ∃ wi, wi = wr := ⟨_, rfl⟩
   obtain ⟨v1, hsi, hbi, hR1, hol, hOe⟩ := Y.out
   obtain ⟨A3, c3, rfl⟩ := Kd.R_slice hR1
   clear Y
   by_cases hlj : j < k1
   case pos =>
    have hltj : (j : Int) < (k1 : Int) := by omega
    obtain ⟨e, rfl⟩ : ∃ f, e = f + 1 := ⟨e - 1, by omega⟩
    have hpk := pick_txt (w0 := w0) (w := wi) hg0 hsi.here (HT2.out.go (H.out.then_ ((HSO.out.then_ hsi))))
    obtain ⟨⟨p, y1⟩, hp⟩ : ∃ r, r = pickR ids y := ⟨_, rfl⟩
    rw [← hp] at hpk
    have hOe2 : O = (ons ++ ⟨p, (numR 6 y1).1⟩ :: (onsR ids e (numR 6 y1).2).1, (onsR ids e (numR 6 y1).2).2) := by rw [hOe]; simp only [onsR]; rw [← hp]
    obtain ⟨m, hm⟩ : ∃ m, m = ons.length := ⟨_, rfl⟩
    rw [← hm] at hR1 hbi
    have HSI := Lib.hid hsi
    have HBI := Lib.hid hbi
    have HR1 := Lib.hid hR1
    have HOE := Lib.hid hOe2
    have HM := Lib.hid hm
    have HOL := Lib.hid hol
    clear hsi hbi hR1 hOe hOe2 hm hp hol
    go_wp2_with fail
    refine hpk.mono ?_
    rintro e' w4 ⟨rfl, s4⟩
    have HS4 := Lib.hid (HSI.out.then_ s4)
    have hb4 := s4.blk HBI.out hbg
    have HR4 := Lib.hid (R_rs HR1.out s4 (by omega))
    clear s4 hpk
    go_wp2
    have hcell : w4.cell? ⟨wO.heap.size, 0, none⟩ = some (.slice A3 m c3) := (blk_cell hb4 0).trans rfl
    refine sD_ [9] (fun w' => w'.cell? ⟨wO.heap.size, 0, none⟩ = some (.slice A3 m c3)) 10 hcell (fun hHeld => ?_)
    have hb5 : w4.drew.heap[wO.heap.size]? = some (.cells #[.slice A3 m c3, .slice none 0 0] 54 (0, 0)) := hb4
    have hs5 : Rs w0 wO w4.drew g y1 := HS4.out.drew
    have hR5 : Kd.R k103 103 w4.drew (wO.heap.size + 1) (fun _ => True) (.slice A3 m c3) ons := Kd.R_drew HR4.out
    clear hcell hb4 HS4 HR4
    generalize w4.drew = wD at hHeld hb5 hs5 hR5 ⊢
    refine pu_ 0 (some 23) ?_
    refine tk_ 1 (some 24) hHeld ?_ (hy := by rintro w' s0; go_simp; with_reducible rfl)
    refine pu_ 2 (some 25) ?_
    refine pu_ 3 (some 26) ?_
    have hnum := num_rs (w0 := w0) (w := wD) 6 hg0 hs5.here
    obtain ⟨⟨q, y2⟩, hq⟩ : ∃ r, r = numR 6 y1 := ⟨_, rfl⟩
    rw [← hq] at hnum
    have HQ := Lib.hid hq
    clear hq
    refine ca_ 4 (some 27) Try.func64 #[.pointer (some ⟨g, 0, none⟩), .int .i64 6] ?_
    refine hnum.mono ?_
    rintro e' w6 ⟨rfl, s6⟩
    have hs6 := hs5.then_ s6
    have hb6 := s6.blk hb5 hbg
    have hR6 := R_rs hR5 s6 hgb
    clear hnum hs5 hb5 hR5 s6 hHeld
    refine ⟨_, rfl, (blk_cell hb6 0).trans rfl, fun hHeld => ⟨_, rfl, nz_ (some 27) ?_⟩⟩
    refine pu_ 5 (some 28) ?_
    refine oN_ 6 (some 29) (fun K hK => ?_)
    go_simp
    refine hK.out _ _ ?_ (fun _ => ?_)
    ·exact (blk_cell (blk_below hb6 (below_alloc (Below.refl _ _) _)) 0).trans rfl
    clear hK K
    refine oN_ 7 (some 30) (fun K hK => ?_)
    refine Kd.R_append_step k103 (w0 := w6) (wO.heap.size + 1) (by rfl) (.tmp 24) (.tmp 29) 52 103 (.agg #[.string ⟨#[]⟩, .int .i64 0]) 24 rfl Try.underlying52 info103_ rfl (by decide) (by omega) (.slice A3 m c3) ons ⟨p, q⟩ [.string p, .int .i64 q] (fun _ => True) (fun _ => False) rfl rfl (k103_mkM _ _ _ _) (fun _ h => h.elim) (fun _ _ => trivial) hR6 (Below.refl _ _) (blk_lt hb6) ?_ ?_
    ·have := HOL.out; omega
    intro v7 w7 hR7 hB7 hgr hat
    have hown : ∀ kk, (Value.slice A3 m c3).ownBlock = some kk → wO.heap.size + 1 ≤ kk := Kd.R_base hR6
    have hs7 := hs6.grown hgr (fun kk ek => ⟨by have := hown kk ek; omega, by have := hown kk ek; omega, by have := hown kk ek; omega⟩)
    have hb7 := (hgr.block _ (blk_lt hb6) (fun ek => by have := hown _ ek.symm; omega)).trans hb6
    obtain ⟨A7, c7, rfl⟩ := Kd.R_slice hR7
    clear hgr hat hB7 hown hs6 hb6 hR6 hHeld
    refine hK.out _ _ ((blk_cell hb7 0).trans rfl) (fun _ => ?_)
    clear hK K
    refine nz_ (some 30) ?_
    refine pu_ 8 (some 31) ?_
    have hcz := (blk_cell hb7 0).trans rfl
    have hfz := blk_frozen hb7 0
    refine lA_ 9 none (fun K hK => ?_)
    go_simp
    have hlen : (ons ++ [(⟨p, q⟩ : S103)]).length = ons.length + 1 := by rw [List.length_append, List.length_singleton]
    have HF : Hid (Rs w0 wO (w7.setCell ⟨wO.heap.size, 0, none⟩ (.slice A7 (ons.length + 1) c7)) g y2 ∧ (w7.setCell ⟨wO.heap.size, 0, none⟩ (.slice A7 (ons.length + 1) c7)).heap[wO.heap.size]? = some (.cells #[.slice A7 (ons.length + 1) c7, .slice none 0 0] 54 (0, 0)) ∧ Kd.R k103 103 (w7.setCell ⟨wO.heap.size, 0, none⟩ (.slice A7 (ons.length + 1) c7)) (wO.heap.size + 1) (fun _ => True) (.slice A7 (ons.length + 1) c7) (ons ++ [⟨p, q⟩])) := Lib.hid ⟨hs7.set _ ⟨hbg, Nat.le_refl _, hbw0⟩, blk_put hb7 0 _ rfl, hlen ▸ R_set2 hR7 _ _ (Nat.lt_succ_self _)⟩
    have HL := Lib.hid hlen
    refine hK.out _ _ ?_
    clear hK K hs7 hb7 hR7 hcz hfz hlen
    refine dn_ ?_
    go_wp2
    go_roundg e
    case measure => omega
    case rel => exact ⟨j + 1, e, y2, ons ++ [⟨p, q⟩], by go_num, by omega, Nat.le_refl _, Lib.hid ⟨_, HF.out.1, HF.out.2.1, HF.out.2.2, by rw [HL.out, HOL.out], by rw [HOE.out, ← HQ.out, List.append_assoc]; rfl⟩⟩
   have hltj : ¬ (j : Int) < (k1 : Int) := by omega
   obtain rfl : e = 0 := by omega
   have hO2 : O = (ons, y) := by rw [hOe]; simp [onsR]
   have HO2 := Lib.hid hO2
   obtain ⟨m, hm⟩ : ∃ m, m = ons.length := ⟨_, rfl⟩
   have hcl := countR_le 2 y hsi.bytes (by omega)
   have hcnt := count_rs (w0 := w0) (w := wi) 2 (by omega) hg0 hsi.here
   obtain ⟨⟨n2, z2⟩, hn2⟩ : ∃ r, r = countR 2 y := ⟨_, rfl⟩
   rw [← hn2] at hcnt hcl
   obtain ⟨k2, rfl⟩ := Int.eq_ofNat_of_zero_le hcl.1
   have hk2 : k2 ≤ 2 := by have := hcl.2; simp only at this; omega
   have HN2 := Lib.hid hn2
   rw [← hm] at hR1 hbi
   have HSI := Lib.hid hsi
   have HBI := Lib.hid hbi
   have HR1 := Lib.hid hR1
   have HM := Lib.hid hm
   clear hsi hbi hR1 hOe hO2 hm hol hn2 hcl
   go_wp2_with fail
   refine hcnt.mono ?_
   rintro e' w5 ⟨rfl, s5⟩
   have HS5 := Lib.hid (HSI.out.then_ s5)
   have HB5 := Lib.hid (s5.blk HBI.out hbg)
   have hR5 := Kd.R_mono (Kd.R_bound (R_rs HR1.out s5 hgb)) (ok' := fun kk => kk < w5.heap.size) (fun kk hk => hk.2.2.1)
   have HR5 := Lib.hid hR5
   obtain ⟨F, hF⟩ : ∃ F, F = ifsR files k2 z2 := ⟨_, rfl⟩
   have HFF := Lib.hid hF
   have hB5 : wO.heap.size + 1 ≤ w5.heap.size := by have := blk_lt HB5.out; omega
   clear s5 hcnt hF HSI HBI HR1 hR5
   go_wp2
   go_loopg [35] k2 (fun gg s35 wi => ∃ (j e : Nat) (y : RSt) (ifs : List (S50)), s35 = .int .i64 j ∧ j + e = k2 ∧ e ≤ gg ∧ Hid (∃ v2, Rs w0 wO wi g y ∧ wi.heap[wO.heap.size]? = some (.cells #[.slice A3 m c3, v2] 54 (0, 0)) ∧ Kd.R k103 103 wi (wO.heap.size + 1) (fun kk => kk < w5.heap.size) (.slice A3 m c3) ons ∧ w5.heap.size ≤ wi.heap.size ∧ Kd.R k50 50 wi w5.heap.size (fun _ => True) v2 ifs ∧ ifs.length = j ∧ F = (ifs ++ (ifsR files e y).1, (ifsR files e y).2)))
   case atStart => exact ⟨0, k2, z2, [], rfl, by omega, Nat.le_refl _, Lib.hid ⟨_, HS5.out, HB5.out, HR5.out, Nat.le_refl _, Kd.R_nil _ _ _ _ _, rfl, by rw [HFF.out]; rfl⟩⟩
   case round =>
    obtain ⟨j2, e, y, ifs, rfl, hje2, heg2, Y⟩ := hrel
    obtain ⟨wj, rfl⟩ : ∃ wj, wj = wr := ⟨_, rfl⟩
    obtain ⟨v2, hsi, hbi, hR1, h5j, hR2, hil, hFe⟩ := Y.out
    obtain ⟨A4, c4, rfl⟩ := Kd.R_slice hR2
    clear Y
    by_cases hlj : j2 < k2
    case pos =>
     have hltj2 : (j2 : Int) < (k2 : Int) := by omega
     obtain ⟨e, rfl⟩ : ∃ f, e = f + 1 := ⟨e - 1, by omega⟩
     have hpk := pick_txt (w0 := w0) (w := wj) hg0 hsi.here (HT1.out.go (H.out.then_ ((HSO.out.then_ hsi))))
     obtain ⟨⟨p, y1⟩, hp⟩ : ∃ r, r = pickR files y := ⟨_, rfl⟩
     rw [← hp] at hpk
     obtain ⟨⟨o, y2⟩, ho⟩ : ∃ r, r = pickR opsL y1 := ⟨_, rfl⟩
     obtain ⟨⟨q, y3⟩, hq⟩ : ∃ r, r = signedR y2 := ⟨_, rfl⟩
     have hFe2 : F = (ifs ++ ⟨p, o, q⟩ :: (ifsR files e y3).1, (ifsR files e y3).2) := by rw [hFe]; simp only [ifsR]; rw [← hp]; simp only; rw [← ho]; simp only; rw [← hq]
     obtain ⟨m2, hm2⟩ : ∃ m2, m2 = ifs.length := ⟨_, rfl⟩
     rw [← hm2] at hR2 hbi
     have HSI := Lib.hid hsi
     have HBI := Lib.hid hbi
     have HR1 := Lib.hid hR1
     have HR2 := Lib.hid hR2
     have HFE := Lib.hid hFe2
     have HM2 := Lib.hid hm2
     have HIL := Lib.hid hil
     have HO := Lib.hid ho
     have HQ := Lib.hid hq
     clear hsi hbi hR1 hR2 hFe hFe2 hm2 hp hil ho hq
     go_wp2_with fail
     refine hpk.mono ?_
     rintro e' w4 ⟨rfl, s4⟩
     have HS4 := Lib.hid (HSI.out.then_ s4)
     have HB4 := Lib.hid (s4.blk HBI.out hbg)
     have HR4 := Lib.hid (R_rs HR1.out s4 hgb)
     have HR42 := Lib.hid (R_rs HR2.out s4 (by omega))
     have h54 : w5.heap.size ≤ w4.heap.size := Nat.le_trans h5j s4.2.2.1
     clear s4 hpk HSI HBI HR1 HR2
     have hop := pack_ops.calls opsL w4 rfl
     go_wp2_with fail
     refine hop.mono ?_
     rintro e' w6 ⟨vo, rfl, hRo, hbo⟩
     obtain ⟨Ao, co, rfl⟩ := Kd.R_slice hRo
     have hrd := Kd.R_reads' hRo
     have hg4 : g < w4.heap.size := HS4.out.1.lt
     have hto : Txt w0 w6 g Ao co opsL := ⟨hrd.2.2, hrd.2.1, fun ad e => by
      subst e
      have h1_ := Kd.R_base hRo ad.block (by simp [Value.ownBlock])
      have h2_ := Kd.R_lt hRo ad.block (by simp [Value.ownBlock])
      exact ⟨h2_, by omega⟩, by decide⟩
     have hpo := pick_txt (w0 := w0) (w := w6) hg0 (HS4.out.below hbo).here hto (s := y1)
     rw [← HO.out] at hpo
     have HS6 := Lib.hid (HS4.out.below hbo)
     have HB6 := Lib.hid (blk_below HB4.out hbo)
     have HR6 := Lib.hid (Kd.R_below HR4.out hbo)
     have HR62 := Lib.hid (Kd.R_below HR42.out hbo)
     have h56 : w5.heap.size ≤ w6.heap.size := Nat.le_trans h54 hbo.size
     clear hRo hrd hto hbo hop HS4 HB4 HR4 HR42
     go_wp2_with fail
     refine hpo.mono ?_
     rintro e' w7 ⟨rfl, s7⟩
     have HS7 := Lib.hid (HS6.out.then_ s7)
     have hb7 := s7.blk HB6.out hbg
     have HR7 := Lib.hid (R_rs HR6.out s7 hgb)
     have HR72 := Lib.hid (R_rs HR62.out s7 (by omega))
     have h57 : w5.heap.size ≤ w7.heap.size := Nat.le_trans h56 s7.2.2.1
     clear s7 hpo HS6 HB6 HR6 HR62
     go_wp2
     have hcell : w7.cell? ⟨wO.heap.size, 1, none⟩ = some (.slice A4 m2 c4) := (blk_cell hb7 1).trans rfl
     refine sD_ [10] (fun w' => w'.cell? ⟨wO.heap.size, 1, none⟩ = some (.slice A4 m2 c4)) 11 hcell (fun hHeld => ?_)
     have hb8 : w7.drew.heap[wO.heap.size]? = some (.cells #[.slice A3 m c3, .slice A4 m2 c4] 54 (0, 0)) := hb7
     have hs8 : Rs w0 wO w7.drew g y2 := HS7.out.drew
     have hR8 : Kd.R k103 103 w7.drew (wO.heap.size + 1) (fun kk => kk < w5.heap.size) (.slice A3 m c3) ons := Kd.R_drew HR7.out
     have hR82 : Kd.R k50 50 w7.drew w5.heap.size (fun _ => True) (.slice A4 m2 c4) ifs := Kd.R_drew HR72.out
     have h58 : w5.heap.size ≤ w7.drew.heap.size := h57
     clear hcell hb7 HS7 HR7 HR72
     generalize w7.drew = wD at hHeld hb8 hs8 hR8 hR82 h58 ⊢
     refine pu_ 0 (some 43) ?_
     refine tk_ 1 (some 44) hHeld ?_ (hy := by rintro w' s0; go_simp; with_reducible rfl)
     refine pu_ 2 (some 45) ?_
     refine pu_ 3 (some 46) ?_
     refine pu_ 4 (some 47) ?_
     have hsg := signed_rs (w0 := w0) (w := wD) hg0 hs8.here
     rw [← HQ.out] at hsg
     refine ca_ 5 (some 48) Try.func86 #[.pointer (some ⟨g, 0, none⟩)] ?_
     refine hsg.mono ?_
     rintro e' w9 ⟨rfl, s9⟩
     have hs9 := hs8.then_ s9
     have hb9 := s9.blk hb8 hbg
     have hR9 := R_rs hR8 s9 hgb
     have hR92 := R_rs hR82 s9 (by omega)
     have h59 : w5.heap.size ≤ w9.heap.size := Nat.le_trans h58 s9.2.2.1
     clear hsg hs8 hb8 hR8 hR82 s9 hHeld
     refine ⟨_, rfl, (blk_cell hb9 1).trans rfl, fun hHeld => ⟨_, rfl, nz_ (some 48) ?_⟩⟩
     refine pu_ 6 (some 49) ?_
     refine oN_ 7 (some 50) (fun K hK => ?_)
     go_simp
     refine hK.out _ _ ?_ (fun _ => ?_)
     ·exact (blk_cell (blk_below hb9 (below_alloc (Below.refl _ _) _)) 1).trans rfl
     clear hK K
     refine oN_ 8 (some 51) (fun K hK => ?_)
     refine Kd.R_append_step k50 (w0 := w9) w5.heap.size (by rfl) (.tmp 44) (.tmp 50) 51 50 (.agg #[.string ⟨#[]⟩, .string ⟨#[]⟩, .int .i64 0]) 40 rfl Try.underlying51 info50_ rfl (by decide) (by omega) (.slice A4 m2 c4) ifs ⟨p, o, q⟩ [.string p, .string o, .int .i64 q] (fun _ => True) (fun _ => False) rfl rfl (k50_mkM _ _ _ _) (fun _ h => h.elim) (fun _ _ => trivial) hR92 (Below.refl _ _) h59 ?_ ?_
     ·have := HIL.out; omega
     intro v10 w10 hR10 hB10 hgr hat
     have hown : ∀ kk, (Value.slice A4 m2 c4).ownBlock = some kk → w5.heap.size ≤ kk := Kd.R_base hR92
     have hs10 := hs9.grown hgr (fun kk ek => ⟨by have := hown kk ek; omega, by have := hown kk ek; omega, by have := hown kk ek; omega⟩)
     have hb10 := (hgr.block _ (blk_lt hb9) (fun ek => by have := hown _ ek.symm; omega)).trans hb9
     have hR101 := Kd.R_grown hR9 hgr (fun kk hk ek => by have := hown kk ek.symm; omega)
     have h510 : w5.heap.size ≤ w10.heap.size := Nat.le_trans h59 hgr.size
     obtain ⟨A7, c7, rfl⟩ := Kd.R_slice hR10
     clear hgr hat hB10 hown hs9 hb9 hR9 hR92 hHeld
     refine hK.out _ _ ((blk_cell hb10 1).trans rfl) (fun _ => ?_)
     clear hK K
     refine nz_ (some 51) ?_
     refine pu_ 9 (some 52) ?_
     have hcz := (blk_cell hb10 1).trans rfl
     have hfz := blk_frozen hb10 1
     refine lA_ 10 none (fun K hK => ?_)
     go_simp
     have hlen : (ifs ++ [(⟨p, o, q⟩ : S50)]).length = ifs.length + 1 := by rw [List.length_append, List.length_singleton]
     have HF : Hid (Rs w0 wO (w10.setCell ⟨wO.heap.size, 1, none⟩ (.slice A7 (ifs.length + 1) c7)) g y3 ∧ (w10.setCell ⟨wO.heap.size, 1, none⟩ (.slice A7 (ifs.length + 1) c7)).heap[wO.heap.size]? = some (.cells #[.slice A3 m c3, .slice A7 (ifs.length + 1) c7] 54 (0, 0)) ∧ Kd.R k103 103 (w10.setCell ⟨wO.heap.size, 1, none⟩ (.slice A7 (ifs.length + 1) c7)) (wO.heap.size + 1) (fun kk => kk < w5.heap.size) (.slice A3 m c3) ons ∧ w5.heap.size ≤ (w10.setCell ⟨wO.heap.size, 1, none⟩ (.slice A7 (ifs.length + 1) c7)).heap.size ∧ Kd.R k50 50 (w10.setCell ⟨wO.heap.size, 1, none⟩ (.slice A7 (ifs.length + 1) c7)) w5.heap.size (fun _ => True) (.slice A7 (ifs.length + 1) c7) (ifs ++ [⟨p, o, q⟩])) := Lib.hid ⟨hs10.set _ ⟨hbg, Nat.le_refl _, hbw0⟩, blk_put hb10 1 _ rfl, R_set2 hR101 _ _ (Nat.lt_succ_self _), by rw [set_size]; exact h510, hlen ▸ R_set2 hR10 _ _ (show wO.heap.size < w5.heap.size by omega)⟩
     have HL := Lib.hid hlen
     refine hK.out _ _ ?_
     clear hK K hs10 hb10 hR10 hR101 hcz hfz hlen
     refine dn_ ?_
     go_wp2
     go_roundg e
     case measure => omega
     case rel => exact ⟨j2 + 1, e, y3, ifs ++ [⟨p, o, q⟩], by go_num, by omega, Nat.le_refl _, Lib.hid ⟨_, HF.out.1, HF.out.2.1, HF.out.2.2.1, HF.out.2.2.2.1, HF.out.2.2.2.2, by rw [HL.out, HIL.out], by rw [HFE.out, List.append_assoc]; rfl⟩⟩
    have hltj2 : ¬ (j2 : Int) < (k2 : Int) := by omega
    obtain rfl : e = 0 := by omega
    have hF2 : F = (ifs, y) := by rw [hFe]; simp [ifsR]
    have hZ2 : Z = (⟨ons, ifs⟩, y) := by
     rw [HZ.out, HO2.out]
     simp only
     rw [← HN2.out]
     simp only [Int.toNat_natCast]
     rw [← HFF.out, hF2]
    have hcz0 := (blk_cell hbi 0).trans rfl
    have hcz1 := (blk_cell hbi 1).trans rfl
    have hRaj := R_rs HRA.out hsi (by omega)
    have hown : ∀ kk, (Value.slice Av acc.length cv).ownBlock = some kk → w.heap.size ≤ kk ∧ kk < wO.heap.size := fun kk ek => ⟨Kd.R_base HRA.out kk ek, Kd.R_lt HRA.out kk ek⟩
    have hM : Kd.M k54 wj w.heap.size (fun kk => wO.heap.size + 1 ≤ kk) ⟨ons, ifs⟩ [.slice A3 m c3, .slice A4 ifs.length c4] := k54_mkM _ _ _ _ (Kd.R_lower (Kd.R_mono (Kd.R_bound hR1) (fun kk hk => hk.2.1)) (show w.heap.size ≤ wO.heap.size + 1 by omega)) (Kd.R_lower (Kd.R_mono (Kd.R_bound hR2) (fun kk hk => Nat.le_trans hB5 hk.2.1)) (show w.heap.size ≤ w5.heap.size by omega))
    have HSJ := Lib.hid (HSO.out.then_ hsi)
    have HZ2 := Lib.hid hZ2
    have HRAJ := Lib.hid hRaj
    have HOWN := Lib.hid hown
    have HMM := Lib.hid hM
    have HWJ := Lib.hid (And.intro hgl (Nat.le_trans hbw hsi.2.2.1))
    have hw0w := H.out.2.1.size
    obtain ⟨ma, hma⟩ : ∃ ma, ma = acc.length := ⟨_, rfl⟩
    obtain ⟨mi, hmi⟩ : ∃ mi, mi = ifs.length := ⟨_, rfl⟩
    rw [← hma] at HRAJ HOWN ⊢
    rw [← hmi] at hcz1 HMM
    have hlim : (acc.length + 1) * 48 ≤ 140737488355328 := by have := HACC.out; omega
    have HLIM := Lib.hid hlim
    have HMA := Lib.hid hma
    clear hsi hbi hR1 hR2 hil hFe hF2 hZ2 hRaj hown hM hma hmi hlim
    go_wp2_with (first | ((with_reducible refine gate_builtin (b := .append) (xs := #[.tmp 54, .tmp 56]) rfl ?_); at_builtin; refine Kd.R_append k54 (w0 := wj) w.heap.size rfl (.tmp 54) (.tmp 56) 46 54 (.agg #[.slice none 0 0, .slice none 0 0]) 48 rfl Try.underlying46 info54_ rfl (by decide) (by omega) (.slice Av ma cv) acc ⟨ons, ifs⟩ [.slice A3 m c3, .slice A4 mi c4] (fun _ => True) (fun kk => wO.heap.size + 1 ≤ kk) rfl rfl HMM.out (fun kk hk => ⟨trivial, fun ek => by have := HOWN.out kk ek.symm; omega⟩) (fun _ _ => trivial) HRAJ.out (Below.refl _ _) HWJ.out.2 HLIM.out ?_; intro v11 w11 hR11 hB11 hgr hat; have HS11 := Lib.hid (HSJ.out.grown hgr (fun kk ek => ⟨by have := HOWN.out kk ek; omega, by have := HOWN.out kk ek; omega, by have := HOWN.out kk ek; omega⟩)); clear hgr hat hB11; obtain ⟨A11, c11, rfl⟩ := Kd.R_slice hR11; rw [List.length_append, List.length_singleton] at hR11; have HR11 := Lib.hid hR11; clear hR11))
    go_roundg d
    case measure => omega
    case rel => exact ⟨i + 1, d, y, acc ++ [⟨ons, ifs⟩], by go_num, by omega, Nat.le_refl _, Lib.hid ⟨HR11.out, HS11.out, by rw [List.length_append, List.length_singleton, HACC.out], by rw [HRE.out, HZ2.out, List.append_assoc]; rfl⟩⟩
theorem numCGo_lt (most : Int) (d : Nat) : ∀ (i : Nat) (n : Int) (s : RSt), Bytes s.1 → 0 ≤ n → 0 ≤ (numCGo most d i n s).1 ∧ ((numCGo most d i n s).2.2 = false → (numCGo most d i n s).1 ≤ most) ∧ ((numCGo most d i n s).2.2 = true → (numCGo most d i n s).1 = 0) := by
  induction d with
  | zero =>
    intro i n s _ h0
    simp only [numCGo]
    exact ⟨Int.le_refl _, (fun h => by cases h), fun _ => trivial⟩
  | succ d ih =>
    intro i n s h8 h0
    simp only [numCGo]
    by_cases hb : s.2 = true
    · rw [if_pos hb]
      exact ⟨Int.le_refl _, (fun h => by cases h), fun _ => rfl⟩
    · rw [if_neg hb]
      obtain ⟨xs, b⟩ := s
      cases xs with
      | nil => exact ⟨Int.le_refl _, (fun h => by cases h), fun _ => rfl⟩
      | cons x r =>
        have hx := Bytes.cons h8
        have hm : 0 ≤ x % 128 * (128 : Int) ^ i := Int.mul_nonneg (by omega) (Int.le_of_lt (Int.pow_pos (by decide)))
        simp only
        split
        · split
          · exact ⟨Int.le_refl _, (fun h => by cases h), fun _ => rfl⟩
          · exact ⟨by show 0 ≤ n + _; omega, fun _ => by show n + _ ≤ most; omega, fun h => by cases h⟩
        · exact ih _ _ _ hx.2 (by omega)
theorem numC_lt (most : Int) (s : RSt) (h8 : Bytes s.1) : 0 ≤ (numC most s).1 ∧ ((numC most s).2.2 = false → (numC most s).1 ≤ most) ∧ ((numC most s).2.2 = true → (numC most s).1 = 0) := numCGo_lt most 5 0 0 s h8 (Int.le_refl _)
def pickC (l : List ByteArray) (s : RSt) : ByteArray × RSt := if (numC (l.length - 1) s).2.2 = true then (⟨#[]⟩, (numC (l.length - 1) s).2) else (rdOf ByteArray.empty l (numC (l.length - 1) s).1, (numC (l.length - 1) s).2)
def textC (s : RSt) : ByteArray × RSt := if (numC 12 s).2.2 = true ∨ (numC 12 s).2.1.length < (numC 12 s).1.toNat then (⟨#[]⟩, ((numC 12 s).2.1, true)) else (strOfNums ((numC 12 s).2.1.take (numC 12 s).1.toNat), ((numC 12 s).2.1.drop (numC 12 s).1.toNat, false))
def CupPost (w0 w : World) (g : Nat) (r : ByteArray × RSt) (e : Ending) (w' : World) : Prop := e = .returned (.string r.1) ∧ Cs w0 w w' g r.2
section
variable {w0 w wr : World} {g : Nat} {s : RSt}
set_option maxHeartbeats 4000000 in
set_option maxRecDepth 100000 in
theorem pickc_rs (A : Option Addr) (c : Nat) (l : List ByteArray) (hg0 : w0.heap.size ≤ g) (h : Cs w0 w wr g s) (hC : Kd.C Kd.string wr A l.length l) (hA : ∀ ad, A = some ad → ad.block < wr.heap.size ∧ ad.block ≠ g) (hll : l.length ≤ 1000000) :
    Calls Try.prog 66 #[.pointer (some ⟨g, 0, none⟩), .slice A l.length c] wr (CupPost w0 w g (pickC l s)) := by
  have hn := numc_rany w0 wr g s (l.length - 1) h.2.1 hg0 h.1
  have hlt := numC_lt (l.length - 1 : Int) s h.bytes
  have HH := Lib.hid h
  obtain ⟨R, hR⟩ : ∃ R, R = pickC l s := ⟨_, rfl⟩
  have hR2 := hR
  unfold pickC at hR2
  rw [← hR]
  obtain ⟨⟨n, xs, b⟩, hr⟩ : ∃ r, r = numC (l.length - 1) s := ⟨_, rfl⟩
  rw [← hr] at hn hlt hR2
  have HE := Lib.hid hR2
  have HC := Lib.hid hC
  have HA := Lib.hid hA
  obtain ⟨h0, h2, -⟩ := hlt
  have HN := Lib.hid h2
  obtain ⟨k, hk⟩ : ∃ k, k = l.length := ⟨_, rfl⟩
  rw [← hk] at hn hll ⊢
  have HK := Lib.hid hk
  clear hR hR2 hr hC hA h h2 hk
  go_enter Try.func66, Try.ntmps66
  go_wp2_with fail
  refine hn.mono ?_
  rintro e w2 ⟨rfl, hs⟩
  have HS := Lib.hid (HH.out.then_ hs)
  have HKC : Hid (Kd.C Kd.string w2 A l.length l) := Lib.hid (C_kept HC.out hs.2.2 HA.out)
  obtain ⟨A2, c2, hl2, hg2, hC2, -⟩ := hs.1
  have hbv : w2.cell? ⟨g, 1, none⟩ = some (.bool b) := (blk_cell hg2 1).trans rfl
  have hfz := blk_frozen hg2 1
  clear hs hg2 hC2 hn
  cases b with
  | true =>
    have HP : Hid (Cs w0 w (w2.setCell ⟨g, 1, none⟩ (.bool true)) g (xs, true)) := Lib.hid (HS.out.put hg0 (HS.out.1.put1 true))
    go_wp2
    go_ret
    exact ⟨by rw [HE.out]; rfl, by rw [HE.out]; exact HP.out⟩
  | false =>
    have hnl : n < (k : Int) := by have h3 : n ≤ (l.length : Int) - 1 := HN.out rfl; have := HK.out; omega
    have hnl2 : ¬ n ≥ (k : Int) := by omega
    obtain ⟨ad, e, hx0⟩ := Kd.at_string HKC.out n h0 (by have := HK.out; omega)
    cases e
    obtain ⟨q, rfl⟩ := Int.eq_ofNat_of_zero_le h0
    simp only [Int.toNat_natCast] at hx0
    have hql : q < k := by omega
    obtain ⟨z, hz⟩ : ∃ z, z = rdOf ByteArray.empty l (q : Int) := ⟨_, rfl⟩
    rw [← hz] at hx0
    have HZ := Lib.hid hz
    clear hz
    go_wp2
    go_ret
    exact ⟨by rw [HE.out, HZ.out]; rfl, by rw [HE.out]; exact HS.out⟩
theorem pickc_txt {A : Option Addr} {c : Nat} {l : List ByteArray} (hg0 : w0.heap.size ≤ g) (h : Cs w0 w wr g s) (ht : Txt w0 wr g A c l) :
 Calls Try.prog 66 #[.pointer (some ⟨g, 0, none⟩), .slice A l.length c] wr (CupPost w0 w g (pickC l s)) := pickc_rs A c l hg0 h ht.1 ht.2.2.1 ht.2.2.2
set_option maxHeartbeats 4000000 in
set_option maxRecDepth 100000 in
theorem textc_rs (hg0 : w0.heap.size ≤ g) (h : Cs w0 w wr g s) :
    Calls Try.prog 37 #[.pointer (some ⟨g, 0, none⟩)] wr (CupPost w0 w g (textC s)) := by
  have hn := numc_rs 12 hg0 h
  have hlt := numC_lt 12 s h.bytes
  obtain ⟨R, hR⟩ : ∃ R, R = textC s := ⟨_, rfl⟩
  have hR2 := hR
  unfold textC at hR2
  rw [← hR]
  obtain ⟨⟨n, xs, b⟩, hr⟩ : ∃ r, r = numC 12 s := ⟨_, rfl⟩
  rw [← hr] at hn hlt hR2
  obtain ⟨h0, h2, -⟩ := hlt
  obtain ⟨q, rfl⟩ := Int.eq_ofNat_of_zero_le h0
  simp only [Int.toNat_natCast] at hR2
  have HE := Lib.hid hR2
  have HN := Lib.hid h2
  clear hR hR2 hr h h2
  go_enter Try.func37, Try.ntmps37
  go_wp2_with fail
  refine hn.mono ?_
  rintro e w2 ⟨rfl, hs⟩
  have HS := Lib.hid hs
  obtain ⟨A2, c2, hl2, hg2, hC2, h8, h6⟩ := hs.1
  simp only at hl2 h6
  have hbv : w2.cell? ⟨g, 1, none⟩ = some (.bool b) := (blk_cell hg2 1).trans rfl
  have hsv : w2.cell? ⟨g, 0, none⟩ = some (.slice A2 xs.length c2) := (blk_cell hg2 0).trans rfl
  have hfz := blk_frozen hg2 0
  have hfz1 := blk_frozen hg2 1
  have HG := Lib.hid hg2
  have HC := Lib.hid hC2
  have H8 := Lib.hid h8
  have HP : Hid (Cs w0 w (w2.setCell ⟨g, 1, none⟩ (.bool true)) g (xs, true)) := Lib.hid (HS.out.put hg0 (HS.out.1.put1 true))
  obtain ⟨m, hm⟩ : ∃ m, m = xs.length := ⟨_, rfl⟩
  rw [← hm] at hsv hl2 h6
  have HM := Lib.hid hm
  clear hs hg2 hC2 hn h8 hm
  cases b with
  | true =>
    have HT : Hid (R = (⟨#[]⟩, (xs, true))) := Lib.hid (by rw [HE.out]; simp)
    go_wp2
    go_ret
    exact ⟨by rw [HT.out]; rfl, by rw [HT.out]; exact HP.out⟩
  | false =>
  by_cases hqm : m < q
  case pos =>
    have hz : (q : Int) > (m : Int) := by omega
    have HT : Hid (R = (⟨#[]⟩, (xs, true))) := Lib.hid (by rw [HE.out, if_pos (.inr (by rw [← HM.out]; exact hqm))])
    go_wp2
    go_ret
    exact ⟨by rw [HT.out]; rfl, by rw [HT.out]; exact HP.out⟩
  case neg =>
    have hz : ¬ (q : Int) > (m : Int) := by omega
    have HT : Hid (R = (strOfNums (xs.take q), (xs.drop q, false))) := Lib.hid (by rw [HE.out, if_neg (by rw [← HM.out]; simp; omega)])
    obtain ⟨i0, hi0, hz0, hz1, hz2⟩ := info_parts info5
    have k1 := cut_to (P := Try.prog) 26 5 .i64 Try.underlying26 hi0 A2 m c2 (q : Int) (by omega) (by omega) hl2
    have k2 := cut_from (P := Try.prog) 26 5 .i64 Try.underlying26 hi0 1 hz1 A2 m c2 (q : Int) (by omega) (by omega)
    rw [Int.toNat_natCast] at k1 k2
    obtain ⟨A3, hA3⟩ : ∃ A3, A3 = if c2 = q then A2 else A2.map (·.add (q * 1)) := ⟨_, rfl⟩
    rw [← hA3] at k2
    obtain ⟨r, hr⟩ : ∃ r, r = m - q := ⟨_, rfl⟩
    rw [← hr] at k2
    have hdl : (xs.drop q).length = r := by rw [List.length_drop, ← HM.out, hr]
    have htl : (xs.take q).length = q := by rw [List.length_take, ← HM.out]; omega
    have hC3 : Kd.C (Kd.int .u8) w0 A3 (xs.drop q).length (xs.drop q) := by rw [hA3]; exact Kd.C_drop HC.out (by rw [← HM.out]; omega) (by rw [← HM.out]; omega)
    have hC1 : Kd.C (Kd.int .u8) w0 A2 (xs.take q).length (xs.take q) := Kd.C_take HC.out (by rw [← HM.out]; omega)
    have hks : (convert 26 9 (.slice A2 (xs.take q).length c2)).run Try.prog w2 = .ok (.string (strOfNums (xs.take q))) w2 := Kd.C_string Try.underlying26 Try.underlying5 Try.underlying9 (Kd.C_below hC1 HS.out.2.1)
    rw [htl] at hks
    obtain ⟨str, hstr⟩ : ∃ str, str = strOfNums (xs.take q) := ⟨_, rfl⟩
    rw [← hstr] at hks
    have HTR := Lib.hid hstr
    have HF : Hid (Cs w0 w (w2.setCell ⟨g, 0, none⟩ (.slice A3 r (c2 - q))) g (xs.drop q, false)) := Lib.hid (HS.out.put hg0 (hdl ▸ RdrT.put0 HG.out (by rw [hdl]; omega) hC3 (fun x hx => H8.out x (List.mem_of_mem_drop hx)) (by rw [hdl]; omega)))
    have hqm2 : q ≤ m := by omega
    clear hA3 hr hdl htl hC3 hC1 hz0 hz1 hz2 hi0 hstr
    go_wp2
    go_ret
    exact ⟨by rw [HT.out, ← HTR.out]; rfl, by rw [HT.out]; exact HF.out⟩
end
def onsC (ids : List ByteArray) : Nat → RSt → List (S103) × RSt
 | 0, s => ([], s)
 | d + 1, s => if s.2 = true then ([], s) else (⟨(pickC ids s).1, (numC 9 (pickC ids s).2).1⟩ :: (onsC ids d (numC 9 (pickC ids s).2).2).1, (onsC ids d (numC 9 (pickC ids s).2).2).2)
def unC (v : Int) : Int := if v % 2 = 1 then -(v / 2) - 1 else v / 2
def ifsC (files : List ByteArray) : Nat → RSt → List (S50) × RSt
 | 0, s => ([], s)
 | d + 1, s => if s.2 = true then ([], s) else (⟨(pickC files s).1, (pickC opsL (pickC files s).2).1, unC (numC 2000001 (pickC opsL (pickC files s).2).2).1⟩ :: (ifsC files d (numC 2000001 (pickC opsL (pickC files s).2).2).2).1, (ifsC files d (numC 2000001 (pickC opsL (pickC files s).2).2).2).2)
def sentC (files ids : List ByteArray) (s : RSt) : S54 × RSt :=
 let c1 := numC 3 s
 let o := onsC ids c1.1.toNat c1.2
 let c2 := numC 2 o.2
 let f := ifsC files c2.1.toNat c2.2
 (⟨o.1, f.1⟩, f.2)
def sentsGoC (files ids : List ByteArray) : Nat → RSt → List (S54) × RSt
 | 0, s => ([], s)
 | d + 1, s => if s.2 = true then ([], s) else ((sentC files ids s).1 :: (sentsGoC files ids d (sentC files ids s).2).1, (sentsGoC files ids d (sentC files ids s).2).2)
def sentsC (files ids : List ByteArray) (s : RSt) : List (S54) × RSt := sentsGoC files ids (numC 3 s).1.toNat (numC 3 s).2
def CuSPost (w0 w : World) (g : Nat) (r : List (S54) × RSt) (e : Ending) (w' : World) : Prop := ∃ v, e = .returned v ∧ Kd.R k54 54 w' w.heap.size (fun _ => True) v r.1 ∧ Cs w0 w w' g r.2
theorem countC_le (m : Int) (s : RSt) (h8 : Bytes s.1) (hm : 0 ≤ m) : 0 ≤ (numC m s).1 ∧ (numC m s).1 ≤ m := by
 have h := numC_lt m s h8
 cases hb : (numC m s).2.2 with
 | true => have := h.2.2 hb; omega
 | false => exact ⟨h.1, h.2.1 hb⟩
theorem lit_ops (W : World) : Kd.R Kd.string 9 (W.alloc (.cells #[.string ⟨#[60]⟩, .string ⟨#[60, 61]⟩, .string ⟨#[61]⟩, .string ⟨#[33, 61]⟩, .string ⟨#[62, 61]⟩, .string ⟨#[62]⟩] 9)) W.heap.size (fun _ => True) (.slice (some ⟨W.heap.size, 0, none⟩) 6 6) opsL :=
 Kd.R_of_own (by simpa [encs, opsL] using World.ownsRow_lit (base := W.heap.size) (e := 9) (size := 1) W #[.string ⟨#[60]⟩, .string ⟨#[60, 61]⟩, .string ⟨#[61]⟩, .string ⟨#[33, 61]⟩, .string ⟨#[62, 61]⟩, .string ⟨#[62]⟩] 6 (Nat.le_refl _) (by decide) (by simp)) (fun _ _ => trivial)
theorem R_setn {w : World} {α : Type} {d : Kd α} {e base n : Nat} {v : Value} {xs : List α} (h : d.R e w base (fun k => k < n) v xs) (p : Addr) (u : Value) (hp : n ≤ p.block) : d.R e (w.setCell p u) base (fun k => k < n) v xs :=
 Kd.R_far h (fun k hk => by omega) u
theorem R_old {w : World} {α : Type} {d : Kd α} {e base : Nat} {ok : Nat → Prop} {v : Value} {xs : List α} (h : d.R e w base ok v xs) : d.R e w base (fun k => k < w.heap.size) v xs := Kd.R_mono (Kd.R_bound h) (fun k hk => hk.2.2.1)
def CondUp (w0 wO w5 W : World) (g n4 : Nat) (y : RSt) (cs : Array Value) (v1 v2 : Value) (ons : List (S103)) (ifs : List (S50)) : Prop :=
 Cs w0 wO W g y ∧ W.heap[wO.heap.size]? = some (.cells cs 54 (0, 0)) ∧ Kd.R k103 103 W (wO.heap.size + 1) (fun kk => kk < w5.heap.size) v1 ons ∧ Kd.R k50 50 W w5.heap.size (fun kk => kk < n4) v2 ifs ∧ n4 < W.heap.size
theorem CondUp.set {w0 wO w5 W : World} {g n4 : Nat} {y : RSt} {cs : Array Value} {v1 v2 : Value} {ons : List (S103)} {ifs : List (S50)} (h : CondUp w0 wO w5 W g n4 y cs v1 v2 ons ifs) (i : Nat) (u : Value) (hg : n4 ≠ g) (h0 : w0.heap.size ≤ n4) (hO : wO.heap.size + 1 ≤ n4) (h5 : w5.heap.size ≤ n4) : CondUp w0 wO w5 (W.setCell ⟨n4, i, none⟩ u) g n4 y cs v1 v2 ons ifs :=
 ⟨h.1.set u ⟨hg, by show wO.heap.size ≤ n4; omega, h0⟩, blk_far h.2.1 (by show wO.heap.size ≠ n4; omega) u, R_setn h.2.2.1 _ u h5, R_setn h.2.2.2.1 _ u (Nat.le_refl _), by rw [set_size]; exact h.2.2.2.2⟩
set_option maxHeartbeats 16000000 in
set_option maxRecDepth 100000 in
theorem sentsc_any (w0 w : World) (g : Nat) (s : RSt) (A1 : Option Addr) (c1 : Nat) (files : List ByteArray) (A2 : Option Addr) (c2 : Nat) (ids : List ByteArray) (hg0 : w0.heap.size ≤ g) (h : Cs w0 w w g s) (ht1 : Txt w0 w g A1 c1 files) (ht2 : Txt w0 w g A2 c2 ids) :
 Calls Try.prog 38 #[.pointer (some ⟨g, 0, none⟩), .slice A1 files.length c1, .slice A2 ids.length c2] w (CuSPost w0 w g (sentsC files ids s)) := by
 obtain ⟨wL, hwL⟩ : ∃ wL, wL = w.alloc (.cells #[.string ⟨#[60]⟩, .string ⟨#[60, 61]⟩, .string ⟨#[61]⟩, .string ⟨#[33, 61]⟩, .string ⟨#[62, 61]⟩, .string ⟨#[62]⟩] 9) := ⟨_, rfl⟩
 have hsL : Cs w0 w wL g s := by rw [hwL]; exact h.alloc _
 have hgw := h.1.lt
 have hzL : wL.heap.size = w.heap.size + 1 := by rw [hwL]; simp
 have htO : Txt w0 wL g (some ⟨w.heap.size, 0, none⟩) 6 opsL := ⟨by rw [hwL]; exact (Kd.R_reads' (lit_ops w)).2.2, Nat.le_refl _, fun ad e => by cases e; exact ⟨by show w.heap.size < _; omega, by show w.heap.size ≠ g; omega⟩, by decide⟩
 have HT1 := Lib.hid (ht1.go hsL)
 have HT2 := Lib.hid (ht2.go hsL)
 have HTO := Lib.hid htO
 have hcnt := numc_rs 3 hg0 hsL.here
 have hcl := countC_le 3 s h.bytes (by omega)
 obtain ⟨R, hR⟩ : ∃ R, R = sentsC files ids s := ⟨_, rfl⟩
 rw [← hR]
 unfold sentsC at hR
 obtain ⟨⟨n, z0⟩, hn⟩ : ∃ r, r = numC 3 s := ⟨_, rfl⟩
 rw [← hn] at hcnt hcl hR
 obtain ⟨k, rfl⟩ := Int.eq_ofNat_of_zero_le hcl.1
 have hk3 : k ≤ 3 := by have := hcl.2; simp only at this; omega
 replace hR : R = sentsGoC files ids k z0 := hR
 have HR := Lib.hid hR
 have HSL := Lib.hid hsL
 have HWL := Lib.hid hwL
 have hww : w.heap.size ≤ wL.heap.size := by omega
 have hgl : g < wL.heap.size := by omega
 have hw0L : w0.heap.size ≤ wL.heap.size := hsL.2.1.size
 clear hR hn hcl h ht1 ht2 htO hsL hwL hzL
 go_enter Try.func38, Try.ntmps38
 go_wp2_with fail
 rw [← HWL.out]
 refine hcnt.mono ?_
 rintro e w1 ⟨rfl, hs⟩
 have HS1 := Lib.hid hs
 clear hs hcnt
 go_wp2
 go_loopg [9, 7] k (fun gg s9 s7 wr => ∃ (d : Nat) (z : RSt) (acc : List (S54)), s9 = .int .i64 d ∧ d ≤ gg ∧ Hid (Kd.R k54 54 wr wL.heap.size (fun _ => True) s7 acc ∧ Cs w0 wL wr g z ∧ acc.length + d ≤ 3 ∧ R = (acc ++ (sentsGoC files ids d z).1, (sentsGoC files ids d z).2)))
 case atStart => exact ⟨k, z0, [], rfl, Nat.le_refl _, Lib.hid ⟨Kd.R_nil _ _ _ _ _, HS1.out, by simpa using hk3, by rw [HR.out]; rfl⟩⟩
 case round =>
  obtain ⟨d, z, acc, rfl, hdg, X⟩ := hrel
  obtain ⟨wO, rfl⟩ : ∃ wO, wO = wr := ⟨_, rfl⟩
  obtain ⟨hRa, hsO, hacc, hRe⟩ := X.out
  obtain ⟨Av, cv, rfl⟩ := Kd.R_slice hRa
  clear X
  obtain ⟨bd, hbd⟩ : ∃ bd, bd = z.2 := ⟨_, rfl⟩
  have hev : wO.cell? ⟨g, 1, none⟩ = some (.bool bd) := by obtain ⟨A, c, -, hg, -⟩ := hsO.1; rw [hbd]; exact (blk_cell hg 1).trans rfl
  by_cases hend : d = 0 ∨ bd = true
  case pos =>
   have HT : Hid (R = (acc, z)) := Lib.hid (by
    rw [hRe]
    rcases hend with rfl | h
    ·simp [sentsGoC]
    ·cases d with
     | zero => simp [sentsGoC]
     | succ d => simp only [sentsGoC]; rw [if_pos (by rw [← hbd]; exact h)]; simp)
   have HF : Hid (Kd.R k54 54 wO w.heap.size (fun _ => True) (.slice Av acc.length cv) acc ∧ Cs w0 w wO g z) := Lib.hid ⟨Kd.R_lower hRa hww, HSL.out.then_ hsO⟩
   clear hRa hsO hacc hRe hbd
   have hfin : CuSPost w0 w g R (.returned (.slice Av acc.length cv)) wO := ⟨_, rfl, by rw [HT.out]; exact HF.out.1, by rw [HT.out]; exact HF.out.2⟩
   have HFIN := Lib.hid hfin
   clear hfin
   obtain ⟨ml, hml⟩ : ∃ ml, ml = acc.length := ⟨_, rfl⟩
   rw [← hml] at HFIN ⊢
   clear hml
   by_cases hd0 : d = 0
   ·subst hd0
    go_wp2
    go_ret
    exact HFIN.out
   ·have hdp : (0 : Int) < (d : Int) := by omega
    have hdp2 : (d : Int) > 0 := hdp
    obtain rfl : bd = true := hend.resolve_left hd0
    go_wp2
    go_ret
    exact HFIN.out
  rw [not_or] at hend
  obtain ⟨hd0, hb0⟩ := hend
  obtain rfl : bd = false := by simpa using hb0
  obtain ⟨d, rfl⟩ : ∃ e, d = e + 1 := ⟨d - 1, by omega⟩
  have hdp : ((d + 1 : Nat) : Int) > 0 := by omega
  have hbg : wO.heap.size ≠ g := by have := hsO.1.lt; omega
  have hgb : g < wO.heap.size + 1 := by have := hsO.1.lt; omega
  have hbw : wL.heap.size ≤ wO.heap.size := hsO.2.2.1
  have hbw0 : w0.heap.size ≤ wO.heap.size := hsO.2.1.size
  have hcnt := numc_rs (w0 := w0) (w := wO.alloc (.cells #[.slice none 0 0, .slice none 0 0] 54)) 3 hg0 (hsO.alloc _).here
  have hcl := countC_le 3 z hsO.bytes (by omega)
  obtain ⟨Z, hZ⟩ : ∃ Z, Z = sentC files ids z := ⟨_, rfl⟩
  have hRe2 : R = (acc ++ Z.1 :: (sentsGoC files ids d Z.2).1, (sentsGoC files ids d Z.2).2) := by rw [hRe, hZ]; simp only [sentsGoC]; rw [if_neg (by rw [← hbd]; decide)]
  unfold sentC at hZ
  obtain ⟨⟨n1, z1⟩, hn1⟩ : ∃ r, r = numC 3 z := ⟨_, rfl⟩
  rw [← hn1] at hcnt hcl hZ
  obtain ⟨k1, rfl⟩ := Int.eq_ofNat_of_zero_le hcl.1
  have hk1 : k1 ≤ 3 := by have := hcl.2; simp only at this; omega
  obtain ⟨O, hO⟩ : ∃ O, O = onsC ids k1 z1 := ⟨_, rfl⟩
  replace hZ : Z = (⟨O.1, (ifsC files (numC 2 O.2).1.toNat (numC 2 O.2).2).1⟩, (ifsC files (numC 2 O.2).1.toNat (numC 2 O.2).2).2) := by rw [hZ, hO]; rfl
  have HRA := Lib.hid hRa
  have HSO := Lib.hid hsO
  have HACC := Lib.hid hacc
  have HRE := Lib.hid hRe2
  have HZ := Lib.hid hZ
  have HO := Lib.hid hO
  have hblk := heap_alloc_new wO (.cells #[.slice none 0 0, .slice none 0 0] 54)
  have HBLK := Lib.hid hblk
  clear hRa hsO hacc hRe hRe2 hZ hO hn1 hcl hblk hbd hd0 hb0
  go_wp2_with fail
  refine hcnt.mono ?_
  rintro e w2 ⟨rfl, s2⟩
  have HS2 := Lib.hid ((HSO.out.here.alloc (.cells #[.slice none 0 0, .slice none 0 0] 54)).then_ s2)
  have HB2 := Lib.hid (s2.blk HBLK.out hbg)
  clear s2 hcnt HBLK
  go_wp2
  go_loopg [11] k1 (fun gg s11 wi => ∃ (e : Nat) (y : RSt) (ons : List (S103)), s11 = .int .i64 e ∧ e ≤ gg ∧ Hid (∃ v1, Cs w0 wO wi g y ∧ wi.heap[wO.heap.size]? = some (.cells #[v1, .slice none 0 0] 54 (0, 0)) ∧ Kd.R k103 103 wi (wO.heap.size + 1) (fun _ => True) v1 ons ∧ ons.length + e ≤ 3 ∧ O = (ons ++ (onsC ids e y).1, (onsC ids e y).2)))
  case atStart => exact ⟨k1, z1, [], rfl, Nat.le_refl _, Lib.hid ⟨_, HS2.out, HB2.out, Kd.R_nil _ _ _ _ _, by simpa using hk1, by rw [HO.out]; rfl⟩⟩
  case round =>
   obtain ⟨e, y, ons, rfl, heg, Y⟩ := hrel
   obtain ⟨wi, rfl⟩ : ∃ wi, wi = wr := ⟨_, rfl⟩
   obtain ⟨v1, hsi, hbi, hR1, hol, hOe⟩ := Y.out
   obtain ⟨A3, c3, rfl⟩ := Kd.R_slice hR1
   clear Y
   obtain ⟨bd, hbd⟩ : ∃ bd, bd = y.2 := ⟨_, rfl⟩
   have hev : wi.cell? ⟨g, 1, none⟩ = some (.bool bd) := by obtain ⟨A, c, -, hg, -⟩ := hsi.1; rw [hbd]; exact (blk_cell hg 1).trans rfl
   by_cases hend : e = 0 ∨ bd = true
   case neg =>
    rw [not_or] at hend
    obtain ⟨he0, hb0⟩ := hend
    obtain rfl : bd = false := by simpa using hb0
    obtain ⟨e, rfl⟩ : ∃ f, e = f + 1 := ⟨e - 1, by omega⟩
    have hep : ((e + 1 : Nat) : Int) > 0 := by omega
    have hpk := pickc_txt (w0 := w0) (w := wi) hg0 hsi.here (HT2.out.go (HSO.out.then_ hsi))
    obtain ⟨⟨p, y1⟩, hp⟩ : ∃ r, r = pickC ids y := ⟨_, rfl⟩
    rw [← hp] at hpk
    have hOe2 : O = (ons ++ ⟨p, (numC 9 y1).1⟩ :: (onsC ids e (numC 9 y1).2).1, (onsC ids e (numC 9 y1).2).2) := by rw [hOe]; simp only [onsC]; rw [if_neg (by rw [← hbd]; decide), ← hp]
    obtain ⟨m, hm⟩ : ∃ m, m = ons.length := ⟨_, rfl⟩
    rw [← hm] at hR1 hbi
    have HSI := Lib.hid hsi
    have HBI := Lib.hid hbi
    have HR1 := Lib.hid hR1
    have HOE := Lib.hid hOe2
    have HM := Lib.hid hm
    have HOL := Lib.hid hol
    clear hsi hbi hR1 hOe hOe2 hm hp hol hbd he0 hb0
    go_wp2_with fail
    refine hpk.mono ?_
    rintro e' w4 ⟨rfl, s4⟩
    have hs4 := HSI.out.then_ s4
    have hb4 := s4.blk HBI.out hbg
    have hR4 := R_old (R_rs HR1.out s4 (by omega))
    obtain ⟨w5, hw5⟩ : ∃ w5, w5 = w4.alloc (.cells #[.string p, .int .i64 0] 103) := ⟨_, rfl⟩
    have hb5 : w5.heap[wO.heap.size]? = some (.cells #[.slice A3 m c3, .slice none 0 0] 54 (0, 0)) := by rw [hw5]; exact blk_below hb4 (below_alloc (Below.refl _ _) _)
    have hx5 : w5.heap[w4.heap.size]? = some (.cells #[.string p, .int .i64 0] 103 (0, 0)) := by rw [hw5]; exact heap_alloc_new w4 _
    have hs5 : Cs w0 wO w5 g y1 := by rw [hw5]; exact hs4.alloc _
    have hR5 : Kd.R k103 103 w5 (wO.heap.size + 1) (fun kk => kk < w4.heap.size) (.slice A3 m c3) ons := by rw [hw5]; exact Kd.R_alloc hR4 _
    have hnum := numc_rs (w0 := w0) (w := w5) 9 hg0 hs5.here
    obtain ⟨⟨q, y2⟩, hq⟩ : ∃ r, r = numC 9 y1 := ⟨_, rfl⟩
    rw [← hq] at hnum
    have HQ := Lib.hid hq
    have HW5 := Lib.hid hw5
    have HS5 := Lib.hid hs5
    have HB5 := Lib.hid hb5
    have HX5 := Lib.hid hx5
    have HR5 := Lib.hid hR5
    have h4g : w4.heap.size ≠ g := by have := hs4.1.lt; omega
    have hnb : wO.heap.size ≠ w4.heap.size := Nat.ne_of_lt (blk_lt hb4)
    have hnb2 : w4.heap.size ≠ wO.heap.size := fun e => hnb e.symm
    have hle4 : wO.heap.size + 1 ≤ w4.heap.size := blk_lt hb4
    clear hs4 hb4 hR4 s4 hpk hq hw5 hs5 hb5 hx5 hR5 HSI HBI HR1
    go_wp2_with fail
    rw [← HW5.out]
    refine hnum.mono ?_
    rintro e' w6 ⟨rfl, s6⟩
    have hb6 := s6.blk HB5.out hbg
    have hx6 := s6.blk HX5.out h4g
    have hR6 := R_rs HR5.out s6 hgb
    have hs6 := HS5.out.then_ s6
    obtain ⟨w7, hw7⟩ : ∃ w7, w7 = w6.setCell ⟨w4.heap.size, 1, none⟩ (.int .i64 q) := ⟨_, rfl⟩
    have hb7 : w7.heap[wO.heap.size]? = some (.cells #[.slice A3 m c3, .slice none 0 0] 54 (0, 0)) := by rw [hw7]; exact blk_far hb6 hnb _
    have hR7 : Kd.R k103 103 w7 (wO.heap.size + 1) (fun _ => True) (.slice A3 m c3) ons := by rw [hw7]; exact Kd.R_mono (R_setn hR6 ⟨w4.heap.size, 1, none⟩ (.int .i64 q) (Nat.le_refl _)) (fun _ _ => trivial)
    have hs7 : Cs w0 wO w7 g y2 := by rw [hw7]; exact hs6.set _ ⟨h4g, by show wO.heap.size ≤ w4.heap.size; omega, by show w0.heap.size ≤ w4.heap.size; omega⟩
    have hcs := (blk_cell hb6 0).trans rfl
    have hcx0 := (blk_cell hx6 0).trans rfl
    have hcx1 := (blk_cell hx6 1).trans rfl
    have hfx1 := blk_frozen hx6 1
    have hl67 : wO.heap.size + 1 ≤ w7.heap.size := blk_lt hb7
    have hz7 : w7.heap.size = w6.heap.size := by rw [hw7, set_size]
    have hlim : (ons.length + 1) * 24 ≤ 140737488355328 := by have := HOL.out; omega
    have HLIM := Lib.hid hlim
    have HW7 := Lib.hid hw7
    have HS7 := Lib.hid hs7
    have HB7 := Lib.hid hb7
    have HR7 := Lib.hid hR7
    clear hnum s6 hb6 hx6 hR6 hs6 hw7 hb7 hR7 hs7 hlim HS5 HB5 HX5 HR5
    go_wp2_with (first | ((with_reducible refine gate_builtin (b := .append) (xs := #[.tmp 52, .tmp 54]) rfl ?_); at_builtin; rw [← HW7.out]; refine Kd.R_append k103 (w0 := w7) (wO.heap.size + 1) rfl (.tmp 52) (.tmp 54) 52 103 (.agg #[.string ⟨#[]⟩, .int .i64 0]) 24 rfl Try.underlying52 info103_ rfl (by decide) (by omega) (.slice A3 m c3) ons ⟨p, q⟩ [.string p, .int .i64 q] (fun _ => True) (fun _ => False) rfl (by rw [hz7]; rfl) (k103_mkM _ _ _ _) (fun _ h => h.elim) (fun _ _ => trivial) HR7.out (Below.refl _ _) hl67 HLIM.out ?_; intro v8 w8 hR8 hB8 hgr hat; have hown : ∀ kk, (Value.slice A3 m c3).ownBlock = some kk → wO.heap.size + 1 ≤ kk := Kd.R_base HR7.out; have hs8 := HS7.out.grown hgr (fun kk ek => by have := hown kk ek; omega); have hb8 := (hgr.block _ (blk_lt HB7.out) (fun ek => by have := hown _ ek.symm; omega)).trans HB7.out; clear hgr hat hB8 hown; obtain ⟨A8, c8, rfl⟩ := Kd.R_slice hR8; rw [List.length_append, List.length_singleton] at hR8; have hcz := (blk_cell hb8 0).trans rfl; have hfz := blk_frozen hb8 0; have HS8 := Lib.hid hs8; have HB8 := Lib.hid hb8; have HR8 := Lib.hid hR8; clear hs8 hb8 hR8))
    have HF : Hid (Cs w0 wO (w8.setCell ⟨wO.heap.size, 0, none⟩ (.slice A8 (ons.length + 1) c8)) g y2 ∧ (w8.setCell ⟨wO.heap.size, 0, none⟩ (.slice A8 (ons.length + 1) c8)).heap[wO.heap.size]? = some (.cells #[.slice A8 (ons.length + 1) c8, .slice none 0 0] 54 (0, 0)) ∧ Kd.R k103 103 (w8.setCell ⟨wO.heap.size, 0, none⟩ (.slice A8 (ons.length + 1) c8)) (wO.heap.size + 1) (fun _ => True) (.slice A8 (ons.length + 1) c8) (ons ++ [⟨p, q⟩])) := Lib.hid ⟨HS8.out.set _ ⟨hbg, Nat.le_refl _, hbw0⟩, blk_put HB8.out 0 _ rfl, R_set2 HR8.out _ _ (Nat.lt_succ_self _)⟩
    have he3 : (e : Int) ≤ 3 := by have := HOL.out; omega
    go_roundg e
    case measure => omega
    case rel => exact ⟨e, y2, ons ++ [⟨p, q⟩], (by rw [show wrap64 (e : Int) = (e : Int) by unfold wrap64; omega]), Nat.le_refl _, Lib.hid ⟨_, HF.out.1, HF.out.2.1, HF.out.2.2, by have := HOL.out; rw [List.length_append, List.length_singleton]; omega, by rw [HOE.out, ← HQ.out, List.append_assoc]; rfl⟩⟩
   have hO2 : O = (ons, y) := by
    rw [hOe]
    rcases hend with rfl | h
    ·simp [onsC]
    ·cases e with
     | zero => simp [onsC]
     | succ e => simp only [onsC]; rw [if_pos (by rw [← hbd]; exact h)]; simp
   have hE : e = 0 ∨ ((e : Int) > 0 ∧ bd = true) := by
    rcases Nat.eq_zero_or_pos e with h0 | h0
    ·exact .inl h0
    ·exact .inr ⟨by omega, hend.resolve_left (by omega)⟩
   have HO2 := Lib.hid hO2
   obtain ⟨m, hm⟩ : ∃ m, m = ons.length := ⟨_, rfl⟩
   have hcl := countC_le 2 y hsi.bytes (by omega)
   have hcnt := numc_rs (w0 := w0) (w := wi) 2 hg0 hsi.here
   obtain ⟨⟨n2, z2⟩, hn2⟩ : ∃ r, r = numC 2 y := ⟨_, rfl⟩
   rw [← hn2] at hcnt hcl
   obtain ⟨k2, rfl⟩ := Int.eq_ofNat_of_zero_le hcl.1
   have hk2 : k2 ≤ 2 := by have := hcl.2; simp only at this; omega
   have HN2 := Lib.hid hn2
   rw [← hm] at hR1 hbi
   have HSI := Lib.hid hsi
   have HBI := Lib.hid hbi
   have HR1 := Lib.hid hR1
   have HM := Lib.hid hm
   clear hsi hbi hR1 hOe hO2 hm hol hn2 hcl hend hbd
   rcases hE with rfl | ⟨hep, rfl⟩
   all_goals
    go_wp2_with fail
    refine hcnt.mono ?_
    rintro e' w5 ⟨rfl, s5⟩
    have HS5 := Lib.hid (HSI.out.then_ s5)
    have HB5 := Lib.hid (s5.blk HBI.out hbg)
    have hR5 := R_old (R_rs HR1.out s5 hgb)
    have HR5 := Lib.hid hR5
    obtain ⟨F, hF⟩ : ∃ F, F = ifsC files k2 z2 := ⟨_, rfl⟩
    have HFF := Lib.hid hF
    have hB5 : wO.heap.size + 1 ≤ w5.heap.size := by have := blk_lt HB5.out; omega
    clear s5 hcnt hF HSI HBI HR1 hR5
    go_wp2
    go_loopg [13] k2 (fun gg s13 wi => ∃ (e : Nat) (y : RSt) (ifs : List (S50)), s13 = .int .i64 e ∧ e ≤ gg ∧ Hid (∃ v2, Cs w0 wO wi g y ∧ wi.heap[wO.heap.size]? = some (.cells #[.slice A3 m c3, v2] 54 (0, 0)) ∧ Kd.R k103 103 wi (wO.heap.size + 1) (fun kk => kk < w5.heap.size) (.slice A3 m c3) ons ∧ w5.heap.size ≤ wi.heap.size ∧ Kd.R k50 50 wi w5.heap.size (fun _ => True) v2 ifs ∧ ifs.length + e ≤ 2 ∧ F = (ifs ++ (ifsC files e y).1, (ifsC files e y).2)))
    case atStart => exact ⟨k2, z2, [], rfl, Nat.le_refl _, Lib.hid ⟨_, HS5.out, HB5.out, HR5.out, Nat.le_refl _, Kd.R_nil _ _ _ _ _, by simpa using hk2, by rw [HFF.out]; rfl⟩⟩
    case round =>
     obtain ⟨e2, y, ifs, rfl, heg2, Y⟩ := hrel
     obtain ⟨wj, rfl⟩ : ∃ wj, wj = wr := ⟨_, rfl⟩
     obtain ⟨v2, hsi, hbi, hR1, h5j, hR2, hil, hFe⟩ := Y.out
     obtain ⟨A4, c4, rfl⟩ := Kd.R_slice hR2
     clear Y
     obtain ⟨bd, hbd⟩ : ∃ bd, bd = y.2 := ⟨_, rfl⟩
     have hev2 : wj.cell? ⟨g, 1, none⟩ = some (.bool bd) := by obtain ⟨A, c, -, hg, -⟩ := hsi.1; rw [hbd]; exact (blk_cell hg 1).trans rfl
     by_cases hend : e2 = 0 ∨ bd = true
     case neg =>
      rw [not_or] at hend
      obtain ⟨he0, hb0⟩ := hend
      obtain rfl : bd = false := by simpa using hb0
      obtain ⟨e2, rfl⟩ : ∃ f, e2 = f + 1 := ⟨e2 - 1, by omega⟩
      have hep2 : ((e2 + 1 : Nat) : Int) > 0 := by omega
      have hpk := pickc_txt (w0 := w0) (w := wj) hg0 hsi.here (HT1.out.go (HSO.out.then_ hsi))
      obtain ⟨⟨p, y1⟩, hp⟩ : ∃ r, r = pickC files y := ⟨_, rfl⟩
      rw [← hp] at hpk
      obtain ⟨⟨o, y2⟩, ho⟩ : ∃ r, r = pickC opsL y1 := ⟨_, rfl⟩
      have hvl := numC_lt 2000001 y2
      obtain ⟨⟨q, y3⟩, hq⟩ : ∃ r, r = numC 2000001 y2 := ⟨_, rfl⟩
      rw [← hq] at hvl
      have hFe2 : F = (ifs ++ ⟨p, o, unC q⟩ :: (ifsC files e2 y3).1, (ifsC files e2 y3).2) := by rw [hFe]; simp only [ifsC]; rw [if_neg (by rw [← hbd]; decide), ← hp]; simp only; rw [← ho]; simp only; rw [← hq]
      obtain ⟨m2, hm2⟩ : ∃ m2, m2 = ifs.length := ⟨_, rfl⟩
      rw [← hm2] at hR2 hbi
      have HSI := Lib.hid hsi
      have HBI := Lib.hid hbi
      have HR1 := Lib.hid hR1
      have HR2 := Lib.hid hR2
      have HFE := Lib.hid hFe2
      have HM2 := Lib.hid hm2
      have HIL := Lib.hid hil
      have HO_ := Lib.hid ho
      have HQ := Lib.hid hq
      have HVL := Lib.hid hvl
      clear hsi hbi hR1 hR2 hFe hFe2 hm2 hp hil ho hq hbd he0 hb0 hvl
      go_wp2_with fail
      refine hpk.mono ?_
      rintro e' w4 ⟨rfl, s4⟩
      have hs4 := HSI.out.then_ s4
      have hb4 := s4.blk HBI.out hbg
      have hR4 := R_rs HR1.out s4 hgb
      have hR42 := R_old (R_rs HR2.out s4 (by omega))
      have h54 : w5.heap.size ≤ w4.heap.size := Nat.le_trans h5j s4.2.2.1
      obtain ⟨w6, hw6⟩ : ∃ w6, w6 = w4.alloc (.cells #[.string p, .string ⟨#[]⟩, .int .i64 0] 50) := ⟨_, rfl⟩
      have hb6 : w6.heap[wO.heap.size]? = some (.cells #[.slice A3 m c3, .slice A4 m2 c4] 54 (0, 0)) := by rw [hw6]; exact blk_below hb4 (below_alloc (Below.refl _ _) _)
      have hx6 : w6.heap[w4.heap.size]? = some (.cells #[.string p, .string ⟨#[]⟩, .int .i64 0] 50 (0, 0)) := by rw [hw6]; exact heap_alloc_new w4 _
      have hs6 : Cs w0 wO w6 g y1 := by rw [hw6]; exact hs4.alloc _
      have hR6 : Kd.R k103 103 w6 (wO.heap.size + 1) (fun kk => kk < w5.heap.size) (.slice A3 m c3) ons := by rw [hw6]; exact Kd.R_alloc hR4 _
      have hR62 : Kd.R k50 50 w6 w5.heap.size (fun kk => kk < w4.heap.size) (.slice A4 m2 c4) ifs := by rw [hw6]; exact Kd.R_alloc hR42 _
      have hpo := pickc_txt (w0 := w0) (w := w6) hg0 hs6.here ((HTO.out.go (HSO.out.then_ hs6)))
      rw [← HO_.out] at hpo
      have HW6 := Lib.hid hw6
      have HS6 := Lib.hid hs6
      have HB6 := Lib.hid hb6
      have HX6 := Lib.hid hx6
      have HR6 := Lib.hid hR6
      have HR62 := Lib.hid hR62
      have h4g : w4.heap.size ≠ g := by have := hs4.1.lt; omega
      have hnb : wO.heap.size ≠ w4.heap.size := Nat.ne_of_lt (blk_lt hb4)
      have hnb2 : w4.heap.size ≠ wO.heap.size := fun e => hnb e.symm
      have h46 : w4.heap.size < w6.heap.size := blk_lt hx6
      clear hs4 hb4 hR4 hR42 s4 hpk hw6 hs6 hb6 hx6 hR6 hR62 HSI HBI HR1 HR2
      go_wp2_with fail
      rw [← HW6.out]
      refine hpo.mono ?_
      rintro e' w7 ⟨rfl, s7⟩
      have hs7 := HS6.out.then_ s7
      have hb7 := s7.blk HB6.out hbg
      have hx7 := s7.blk HX6.out h4g
      have hR7 := R_rs HR6.out s7 hgb
      have hR72 := R_rs HR62.out s7 (by omega)
      obtain ⟨w8, hw8⟩ : ∃ w8, w8 = w7.setCell ⟨w4.heap.size, 1, none⟩ (.string o) := ⟨_, rfl⟩
      have hb8 : w8.heap[wO.heap.size]? = some (.cells #[.slice A3 m c3, .slice A4 m2 c4] 54 (0, 0)) := by rw [hw8]; exact blk_far hb7 hnb _
      have hx8 : w8.heap[w4.heap.size]? = some (.cells #[.string p, .string o, .int .i64 0] 50 (0, 0)) := by rw [hw8]; exact blk_put hx7 1 _ rfl
      have hs8 : Cs w0 wO w8 g y2 := by rw [hw8]; exact hs7.set _ ⟨h4g, by show wO.heap.size ≤ w4.heap.size; omega, by show w0.heap.size ≤ w4.heap.size; omega⟩
      have hR8 : Kd.R k103 103 w8 (wO.heap.size + 1) (fun kk => kk < w5.heap.size) (.slice A3 m c3) ons := by rw [hw8]; exact R_setn hR7 ⟨w4.heap.size, 1, none⟩ (.string o) h54
      have hR82 : Kd.R k50 50 w8 w5.heap.size (fun kk => kk < w4.heap.size) (.slice A4 m2 c4) ifs := by rw [hw8]; exact R_setn hR72 ⟨w4.heap.size, 1, none⟩ (.string o) (Nat.le_refl _)
      have hcx1 := (blk_cell hx7 1).trans rfl
      have hfx1 := blk_frozen hx7 1
      have hnm := numc_rs (w0 := w0) (w := w8) 2000001 hg0 hs8.here
      rw [← HQ.out] at hnm
      have hvl := HVL.out hs8.bytes
      have HW8 := Lib.hid hw8
      have HS8 := Lib.hid hs8
      have HB8 := Lib.hid hb8
      have HX8 := Lib.hid hx8
      have HR8 := Lib.hid hR8
      have HR82 := Lib.hid hR82
      clear s7 hpo hs7 hb7 hx7 hR7 hR72 hw8 hs8 hb8 hx8 hR8 hR82 HS6 HB6 HX6 HR6 HR62
      go_wp2_with fail
      rw [← HW8.out]
      refine hnm.mono ?_
      rintro e' w9 ⟨rfl, s9⟩
      have hs9 := HS8.out.then_ s9
      have hb9 := s9.blk HB8.out hbg
      have hx9 := s9.blk HX8.out h4g
      have hR9 := R_rs HR8.out s9 hgb
      have hR92 := R_rs HR82.out s9 (by omega)
      obtain ⟨h0, h2, h3⟩ := hvl
      have hq0 : 0 ≤ q := h0
      have hq1 : q ≤ 2000001 := by
       cases hb : y3.2 with
       | true => have h4 : q = 0 := h3 hb; omega
       | false => exact h2 hb
      have ha : Go.bits .and .i64 q 1 = q % 2 := by
       obtain ⟨k, rfl⟩ := Int.eq_ofNat_of_zero_le hq0
       rw [and_one k (by omega)]
       omega
      have hcx0 := (blk_cell hx9 0).trans rfl
      have hcy1 := (blk_cell hx9 1).trans rfl
      have hcx2 := (blk_cell hx9 2).trans rfl
      have hfx2 := blk_frozen hx9 2
      have hcs := (blk_cell hb9 1).trans rfl
      clear hnm h0 h2 h3 HVL
      have HC9 : Hid (CondUp w0 wO w5 w9 g w4.heap.size y3 #[.slice A3 m c3, .slice A4 m2 c4] (.slice A3 m c3) (.slice A4 m2 c4) ons ifs) := Lib.hid ⟨hs9, hb9, hR9, hR92, by have := blk_lt hx9; exact this⟩
      have hw04 : w0.heap.size ≤ w4.heap.size := by omega
      have hO4 : wO.heap.size + 1 ≤ w4.heap.size := by omega
      have hwc : (q % 2 = 1 ∧ unC q = -(q / 2) - 1 ∧ ∃ wc, CondUp w0 wO w5 wc g w4.heap.size y3 #[.slice A3 m c3, .slice A4 m2 c4] (.slice A3 m c3) (.slice A4 m2 c4) ons ifs ∧ wc = (w9.setCell ⟨w4.heap.size, 2, none⟩ (.int .i64 (q / 2))).setCell ⟨w4.heap.size, 2, none⟩ (.int .i64 (-(q / 2) - 1)) ∧ wc.heap.size = w9.heap.size) ∨ ((q % 2 == 1) = false ∧ unC q = q / 2 ∧ ∃ wc, CondUp w0 wO w5 wc g w4.heap.size y3 #[.slice A3 m c3, .slice A4 m2 c4] (.slice A3 m c3) (.slice A4 m2 c4) ons ifs ∧ wc = w9.setCell ⟨w4.heap.size, 2, none⟩ (.int .i64 (q / 2)) ∧ wc.heap.size = w9.heap.size) := by
       by_cases hm : q % 2 = 1
       ·exact .inl ⟨hm, if_pos hm, _, (HC9.out.set 2 _ h4g hw04 hO4 h54).set 2 _ h4g hw04 hO4 h54, rfl, by rw [set_size, set_size]⟩
       ·exact .inr ⟨beq_eq_false_iff_ne.mpr hm, if_neg hm, _, HC9.out.set 2 _ h4g hw04 hO4 h54, rfl, set_size _ _ _⟩
      have hlim : (ifs.length + 1) * 40 ≤ 140737488355328 := by have := HIL.out; omega
      have HLIM := Lib.hid hlim
      clear hs9 hb9 hx9 hR9 hR92 s9 HS8 HB8 HX8 HR8 HR82 hlim
      rcases hwc with ⟨hm, hu, wc, hcu, hwc, hz⟩ | ⟨hm, hu, wc, hcu, hwc, hz⟩
      all_goals
       have HU := Lib.hid hu
       have HWC := Lib.hid hwc
       have HCU := Lib.hid hcu
       have HZC := Lib.hid hz
       have h5c : w5.heap.size ≤ wc.heap.size := by have := hcu.2.2.2.2; omega
       have HR := Lib.hid (Kd.R_mono hcu.2.2.2.1 (fun _ _ => trivial) : Kd.R k50 50 wc w5.heap.size (fun _ => True) (.slice A4 m2 c4) ifs)
       clear hu hwc hcu hz
       go_wp2_with (first | ((with_reducible refine gate_builtin (b := .append) (xs := #[.tmp 92, .tmp 94]) rfl ?_); at_builtin; rw [← HWC.out]; refine Kd.R_append k50 (w0 := wc) w5.heap.size rfl (.tmp 92) (.tmp 94) 51 50 (.agg #[.string ⟨#[]⟩, .string ⟨#[]⟩, .int .i64 0]) 40 rfl Try.underlying51 info50_ rfl (by decide) (by omega) (.slice A4 m2 c4) ifs ⟨p, o, _⟩ [.string p, .string o, .int .i64 _] (fun _ => True) (fun _ => False) rfl (by rw [HZC.out]; rfl) (k50_mkM _ _ _ _) (fun _ h => h.elim) (fun _ _ => trivial) HR.out (Below.refl _ _) h5c HLIM.out ?_; intro v11 w11 hR11 hB11 hgr hat; rw [← HU.out] at hR11; have hown : ∀ kk, (Value.slice A4 m2 c4).ownBlock = some kk → w5.heap.size ≤ kk := Kd.R_base HR.out; have hs11 := HCU.out.1.grown hgr (fun kk ek => by have := hown kk ek; omega); have hb11 := (hgr.block _ (blk_lt HCU.out.2.1) (fun ek => by have := hown _ ek.symm; omega)).trans HCU.out.2.1; have hR1_11 := Kd.R_grown HCU.out.2.2.1 hgr (fun kk hk ek => by have := hown kk ek.symm; omega); have h511 : w5.heap.size ≤ w11.heap.size := Nat.le_trans h5c hgr.size; clear hgr hat hB11 hown; obtain ⟨A7, c7, rfl⟩ := Kd.R_slice hR11; rw [List.length_append, List.length_singleton] at hR11; have hcz := (blk_cell hb11 1).trans rfl; have hfz := blk_frozen hb11 1; have HS11 := Lib.hid hs11; have HB11 := Lib.hid hb11; have HR11 := Lib.hid hR11; have HR1_11 := Lib.hid hR1_11; clear hs11 hb11 hR11 hR1_11))
       have HF : Hid (Cs w0 wO (w11.setCell ⟨wO.heap.size, 1, none⟩ (.slice A7 (ifs.length + 1) c7)) g y3 ∧ (w11.setCell ⟨wO.heap.size, 1, none⟩ (.slice A7 (ifs.length + 1) c7)).heap[wO.heap.size]? = some (.cells #[.slice A3 m c3, .slice A7 (ifs.length + 1) c7] 54 (0, 0)) ∧ Kd.R k103 103 (w11.setCell ⟨wO.heap.size, 1, none⟩ (.slice A7 (ifs.length + 1) c7)) (wO.heap.size + 1) (fun kk => kk < w5.heap.size) (.slice A3 m c3) ons ∧ w5.heap.size ≤ (w11.setCell ⟨wO.heap.size, 1, none⟩ (.slice A7 (ifs.length + 1) c7)).heap.size ∧ Kd.R k50 50 (w11.setCell ⟨wO.heap.size, 1, none⟩ (.slice A7 (ifs.length + 1) c7)) w5.heap.size (fun _ => True) (.slice A7 (ifs.length + 1) c7) (ifs ++ [⟨p, o, unC q⟩])) := Lib.hid ⟨HS11.out.set _ ⟨hbg, Nat.le_refl _, hbw0⟩, blk_put HB11.out 1 _ rfl, R_set2 HR1_11.out _ _ (Nat.lt_succ_self _), by rw [set_size]; exact h511, R_set2 HR11.out _ _ (show wO.heap.size < w5.heap.size by omega)⟩
       have he3 : (e2 : Int) ≤ 3 := by have := HIL.out; omega
       go_roundg e2
       case measure => omega
       case rel => exact ⟨e2, y3, ifs ++ [⟨p, o, unC q⟩], (by rw [show wrap64 (e2 : Int) = (e2 : Int) by unfold wrap64; omega]), Nat.le_refl _, Lib.hid ⟨_, HF.out.1, HF.out.2.1, HF.out.2.2.1, HF.out.2.2.2.1, HF.out.2.2.2.2, by have := HIL.out; rw [List.length_append, List.length_singleton]; omega, by rw [HFE.out, List.append_assoc]; rfl⟩⟩
     have hF2 : F = (ifs, y) := by
      rw [hFe]
      rcases hend with rfl | h
      ·simp [ifsC]
      ·cases e2 with
       | zero => simp [ifsC]
       | succ e2 => simp only [ifsC]; rw [if_pos (by rw [← hbd]; exact h)]; simp
     have hE : e2 = 0 ∨ ((e2 : Int) > 0 ∧ bd = true) := by
      rcases Nat.eq_zero_or_pos e2 with h0 | h0
      ·exact .inl h0
      ·exact .inr ⟨by omega, hend.resolve_left (by omega)⟩
     have hZ2 : Z = (⟨ons, ifs⟩, y) := by
      rw [HZ.out, HO2.out]
      simp only
      rw [← HN2.out]
      simp only [Int.toNat_natCast]
      rw [← HFF.out, hF2]
     have hcz0 := (blk_cell hbi 0).trans rfl
     have hcz1 := (blk_cell hbi 1).trans rfl
     have hRaj := R_rs HRA.out hsi (by omega)
     have hown : ∀ kk, (Value.slice Av acc.length cv).ownBlock = some kk → wL.heap.size ≤ kk ∧ kk < wO.heap.size := fun kk ek => ⟨Kd.R_base HRA.out kk ek, Kd.R_lt HRA.out kk ek⟩
     have hM : Kd.M k54 wj wL.heap.size (fun kk => wO.heap.size + 1 ≤ kk) ⟨ons, ifs⟩ [.slice A3 m c3, .slice A4 ifs.length c4] := k54_mkM _ _ _ _ (Kd.R_lower (Kd.R_mono (Kd.R_bound hR1) (fun kk hk => hk.2.1)) (show wL.heap.size ≤ wO.heap.size + 1 by omega)) (Kd.R_lower (Kd.R_mono (Kd.R_bound hR2) (fun kk hk => Nat.le_trans hB5 hk.2.1)) (show wL.heap.size ≤ w5.heap.size by omega))
     have HSJ := Lib.hid (HSO.out.then_ hsi)
     have HZ2 := Lib.hid hZ2
     have HRAJ := Lib.hid hRaj
     have HOWN := Lib.hid hown
     have HMM := Lib.hid hM
     have HWJ := Lib.hid (Nat.le_trans hbw hsi.2.2.1)
     obtain ⟨ma, hma⟩ : ∃ ma, ma = acc.length := ⟨_, rfl⟩
     obtain ⟨mi, hmi⟩ : ∃ mi, mi = ifs.length := ⟨_, rfl⟩
     rw [← hma] at HRAJ HOWN ⊢
     rw [← hmi] at hcz1 HMM
     have hlim : (acc.length + 1) * 48 ≤ 140737488355328 := by have := HACC.out; omega
     have HLIM := Lib.hid hlim
     have HMA := Lib.hid hma
     have hd3 : (d : Int) ≤ 3 := by have := HACC.out; omega
     clear hsi hbi hR1 hR2 hil hFe hF2 hZ2 hRaj hown hM hma hmi hlim hend hbd
     rcases hE with rfl | ⟨hep2, rfl⟩
     all_goals
      go_wp2_with (first | ((with_reducible refine gate_builtin (b := .append) (xs := #[.tmp 97, .tmp 99]) rfl ?_); at_builtin; refine Kd.R_append k54 (w0 := wj) wL.heap.size rfl (.tmp 97) (.tmp 99) 46 54 (.agg #[.slice none 0 0, .slice none 0 0]) 48 rfl Try.underlying46 info54_ rfl (by decide) (by omega) (.slice Av ma cv) acc ⟨ons, ifs⟩ [.slice A3 m c3, .slice A4 mi c4] (fun _ => True) (fun kk => wO.heap.size + 1 ≤ kk) rfl rfl HMM.out (fun kk hk => ⟨trivial, fun ek => by have := HOWN.out kk ek.symm; omega⟩) (fun _ _ => trivial) HRAJ.out (Below.refl _ _) HWJ.out HLIM.out ?_; intro v11 w11 hR11 hB11 hgr hat; have HS11 := Lib.hid (HSJ.out.grown hgr (fun kk ek => by have := HOWN.out kk ek; omega)); clear hgr hat hB11; obtain ⟨A11, c11, rfl⟩ := Kd.R_slice hR11; rw [List.length_append, List.length_singleton] at hR11; have HR11 := Lib.hid hR11; clear hR11))
      go_roundg d
      case measure => omega
      case rel => exact ⟨d, y, acc ++ [⟨ons, ifs⟩], rfl, Nat.le_refl _, Lib.hid ⟨HR11.out, HS11.out, by have := HACC.out; rw [List.length_append, List.length_singleton]; omega, by rw [HRE.out, HZ2.out, List.append_assoc]; rfl⟩⟩
def sentryref1_first.f (a0 : Int) : Option (Bool) := if a0 ≥ 97 then (if a0 ≤ 122 then (some true) else (if a0 ≥ 65 then (if a0 ≤ 90 then (some true) else (some (a0 == 95))) else (some (a0 == 95)))) else (if a0 ≥ 65 then (if a0 ≤ 90 then (some true) else (some (a0 == 95))) else (some (a0 == 95)))
set_option maxHeartbeats 8000000 in
set_option maxRecDepth 100000 in
theorem sentryref1_first.calls (a0 : Int) (r : Bool) (w : World) (h : sentryref1_first.f a0 = some r) :
 Calls Try.prog 56 #[.int .u8 a0] w fun e w' => e = .returned (.bool r) ∧ Drawn0 w w' := by
 unfold sentryref1_first.f at h
 have H := h
 clear h
 by_cases c2 : a0 ≥ 97
 ·rw [if_pos c2] at H
  have c2b0 := decide_eq_true c2
  clear c2
  by_cases c3 : a0 ≤ 122
  ·rw [if_pos c3] at H
   have c3b0 := decide_eq_true c3
   clear c3
   obtain rfl := Option.some.inj H
   go_enter Try.func56, Try.ntmps56
   go_wp2
   go_ret
   exact ⟨by first | rfl | (simp; done) | (simp [*]; done), by repeat (first | exact Drawn0.refl _ | apply Drawn0.step)⟩
  ·rw [if_neg c3] at H
   have c3b0 := decide_eq_false c3
   clear c3
   by_cases c4 : a0 ≥ 65
   ·rw [if_pos c4] at H
    have c4b0 := decide_eq_true c4
    clear c4
    by_cases c5 : a0 ≤ 90
    ·rw [if_pos c5] at H
     have c5b0 := decide_eq_true c5
     clear c5
     obtain rfl := Option.some.inj H
     go_enter Try.func56, Try.ntmps56
     go_wp2
     go_ret
     exact ⟨by first | rfl | (simp; done) | (simp [*]; done), by repeat (first | exact Drawn0.refl _ | apply Drawn0.step)⟩
    ·rw [if_neg c5] at H
     have c5b0 := decide_eq_false c5
     clear c5
     obtain rfl := Option.some.inj H
     go_enter Try.func56, Try.ntmps56
     go_wp2
     go_ret
     exact ⟨by first | rfl | (simp; done) | (simp [*]; done), by repeat (first | exact Drawn0.refl _ | apply Drawn0.step)⟩
   ·rw [if_neg c4] at H
    have c4b0 := decide_eq_false c4
    clear c4
    obtain rfl := Option.some.inj H
    go_enter Try.func56, Try.ntmps56
    go_wp2
    go_ret
    exact ⟨by first | rfl | (simp; done) | (simp [*]; done), by repeat (first | exact Drawn0.refl _ | apply Drawn0.step)⟩
 ·rw [if_neg c2] at H
  have c2b0 := decide_eq_false c2
  clear c2
  by_cases c6 : a0 ≥ 65
  ·rw [if_pos c6] at H
   have c6b0 := decide_eq_true c6
   clear c6
   by_cases c7 : a0 ≤ 90
   ·rw [if_pos c7] at H
    have c7b0 := decide_eq_true c7
    clear c7
    obtain rfl := Option.some.inj H
    go_enter Try.func56, Try.ntmps56
    go_wp2
    go_ret
    exact ⟨by first | rfl | (simp; done) | (simp [*]; done), by repeat (first | exact Drawn0.refl _ | apply Drawn0.step)⟩
   ·rw [if_neg c7] at H
    have c7b0 := decide_eq_false c7
    clear c7
    obtain rfl := Option.some.inj H
    go_enter Try.func56, Try.ntmps56
    go_wp2
    go_ret
    exact ⟨by first | rfl | (simp; done) | (simp [*]; done), by repeat (first | exact Drawn0.refl _ | apply Drawn0.step)⟩
  ·rw [if_neg c6] at H
   have c6b0 := decide_eq_false c6
   clear c6
   obtain rfl := Option.some.inj H
   go_enter Try.func56, Try.ntmps56
   go_wp2
   go_ret
   exact ⟨by first | rfl | (simp; done) | (simp [*]; done), by repeat (first | exact Drawn0.refl _ | apply Drawn0.step)⟩
def sentryref1_Byte.f (a0 : Int) : Option (Bool) := (sentryref1_first.f a0).bind fun t101 => (if t101 = true then (some true) else (if a0 ≥ 48 then (if a0 ≤ 57 then (some true) else (if a0 = 45 then (some true) else (some (a0 == 46)))) else (if a0 = 45 then (some true) else (some (a0 == 46)))))
set_option maxHeartbeats 8000000 in
set_option maxRecDepth 100000 in
theorem sentryref1_Byte.calls (a0 : Int) (r : Bool) (w : World) (h : sentryref1_Byte.f a0 = some r) :
 Calls Try.prog 57 #[.int .u8 a0] w fun e w' => e = .returned (.bool r) ∧ Drawn0 w w' := by
 unfold sentryref1_Byte.f at h
 have H := h
 clear h
 replace H := Option.bind_eq_some_iff.mp H
 obtain ⟨t101, A20, H⟩ := H
 have A2 := Aside0.mk A20
 clear A20
 by_cases c3 : t101 = true
 ·subst c3
  have H1 : (some true) = some r := by rw [if_pos rfl] at H; exact H
  clear H
  have H := H1
  clear H1
  obtain rfl := Option.some.inj H
  go_enter Try.func57, Try.ntmps57
  go_wp2_with (first | ((with_reducible refine gate_callee (f := 56) rfl ?_); refine gl_ (some 4) Try.func56 #[.int .u8 a0] ?_; (with_reducible refine (sentryref1_first.calls a0 true _ A2.out).mono ?_); rintro e w' ⟨rfl, ⟨nd, rfl⟩⟩; refine ⟨_, rfl, ?_⟩))
  go_ret
  exact ⟨by first | rfl | (simp; done) | (simp [*]; done), by repeat (first | exact Drawn0.refl _ | apply Drawn0.step)⟩
 ·replace c3 := Bool.eq_false_iff.mpr c3
  subst c3
  have H1 : (if a0 ≥ 48 then (if a0 ≤ 57 then (some true) else (if a0 = 45 then (some true) else (some (a0 == 46)))) else (if a0 = 45 then (some true) else (some (a0 == 46)))) = some r := by rw [if_neg (show ¬ (false = true) by decide)] at H; exact H
  clear H
  have H := H1
  clear H1
  by_cases c4 : a0 ≥ 48
  ·rw [if_pos c4] at H
   have c4b0 := decide_eq_true c4
   clear c4
   by_cases c5 : a0 ≤ 57
   ·rw [if_pos c5] at H
    have c5b0 := decide_eq_true c5
    clear c5
    obtain rfl := Option.some.inj H
    go_enter Try.func57, Try.ntmps57
    go_wp2_with (first | ((with_reducible refine gate_callee (f := 56) rfl ?_); refine gl_ (some 4) Try.func56 #[.int .u8 a0] ?_; (with_reducible refine (sentryref1_first.calls a0 false _ A2.out).mono ?_); rintro e w' ⟨rfl, ⟨nd, rfl⟩⟩; refine ⟨_, rfl, ?_⟩))
    go_ret
    exact ⟨by first | rfl | (simp; done) | (simp [*]; done), by repeat (first | exact Drawn0.refl _ | apply Drawn0.step)⟩
   ·rw [if_neg c5] at H
    have c5b0 := decide_eq_false c5
    clear c5
    by_cases c6 : a0 = 45
    ·rw [if_pos c6] at H
     have c6b0 : (a0 == 45) = true := beq_iff_eq.mpr c6
     have c6b1 : (a0 != 45) = false := bne_eq_false_iff_eq.mpr c6
     clear c6
     obtain rfl := Option.some.inj H
     go_enter Try.func57, Try.ntmps57
     go_wp2_with (first | ((with_reducible refine gate_callee (f := 56) rfl ?_); refine gl_ (some 4) Try.func56 #[.int .u8 a0] ?_; (with_reducible refine (sentryref1_first.calls a0 false _ A2.out).mono ?_); rintro e w' ⟨rfl, ⟨nd, rfl⟩⟩; refine ⟨_, rfl, ?_⟩))
     go_ret
     exact ⟨by first | rfl | (simp; done) | (simp [*]; done), by repeat (first | exact Drawn0.refl _ | apply Drawn0.step)⟩
    ·rw [if_neg c6] at H
     have c6b0 : (a0 == 45) = false := beq_eq_false_iff_ne.mpr c6
     have c6b1 : (a0 != 45) = true := bne_iff_ne.mpr c6
     obtain rfl := Option.some.inj H
     go_enter Try.func57, Try.ntmps57
     go_wp2_with (first | ((with_reducible refine gate_callee (f := 56) rfl ?_); refine gl_ (some 4) Try.func56 #[.int .u8 a0] ?_; (with_reducible refine (sentryref1_first.calls a0 false _ A2.out).mono ?_); rintro e w' ⟨rfl, ⟨nd, rfl⟩⟩; refine ⟨_, rfl, ?_⟩))
     go_ret
     exact ⟨by first | rfl | (simp; done) | (simp [*]; done), by repeat (first | exact Drawn0.refl _ | apply Drawn0.step)⟩
  ·rw [if_neg c4] at H
   have c4b0 := decide_eq_false c4
   clear c4
   by_cases c7 : a0 = 45
   ·rw [if_pos c7] at H
    have c7b0 : (a0 == 45) = true := beq_iff_eq.mpr c7
    have c7b1 : (a0 != 45) = false := bne_eq_false_iff_eq.mpr c7
    clear c7
    obtain rfl := Option.some.inj H
    go_enter Try.func57, Try.ntmps57
    go_wp2_with (first | ((with_reducible refine gate_callee (f := 56) rfl ?_); refine gl_ (some 4) Try.func56 #[.int .u8 a0] ?_; (with_reducible refine (sentryref1_first.calls a0 false _ A2.out).mono ?_); rintro e w' ⟨rfl, ⟨nd, rfl⟩⟩; refine ⟨_, rfl, ?_⟩))
    go_ret
    exact ⟨by first | rfl | (simp; done) | (simp [*]; done), by repeat (first | exact Drawn0.refl _ | apply Drawn0.step)⟩
   ·rw [if_neg c7] at H
    have c7b0 : (a0 == 45) = false := beq_eq_false_iff_ne.mpr c7
    have c7b1 : (a0 != 45) = true := bne_iff_ne.mpr c7
    obtain rfl := Option.some.inj H
    go_enter Try.func57, Try.ntmps57
    go_wp2_with (first | ((with_reducible refine gate_callee (f := 56) rfl ?_); refine gl_ (some 4) Try.func56 #[.int .u8 a0] ?_; (with_reducible refine (sentryref1_first.calls a0 false _ A2.out).mono ?_); rintro e w' ⟨rfl, ⟨nd, rfl⟩⟩; refine ⟨_, rfl, ?_⟩))
    go_ret
    exact ⟨by first | rfl | (simp; done) | (simp [*]; done), by repeat (first | exact Drawn0.refl _ | apply Drawn0.step)⟩
mutual
def sentryref1_Is.j0 : Nat → ByteArray → Bool → Option (Bool)
 | 0, _, _ => none
 | k + 1, x0, x17 => if x17 = true then (some false) else (sentryref1_Is.l0 k x0 0)
def sentryref1_Is.l0 : Nat → ByteArray → Int → Option (Bool)
 | 0, _, _ => none
 | k + 1, x0, x3 => if x3 < (x0.size : Int) then (if 0 ≤ x3 then ((sentryref1_Byte.f (bt x0 x3)).bind fun t103 => (if t103 = true then (sentryref1_Is.l0 k x0 (wrap64 (x3 + 1))) else (some false))) else (none)) else (some true)
end
def sentryref1_Is.f (k : Nat) (a0 : ByteArray) : Option (Bool) := if (a0.size : Int) < 1 then (sentryref1_Is.j0 k a0 true) else (if (a0.size : Int) > 12 then (sentryref1_Is.j0 k a0 true) else (if 0 < (a0.size : Int) then ((sentryref1_first.f (bt a0 0)).bind fun t102 => (sentryref1_Is.j0 k a0 (!t102))) else (none)))
theorem sentryref1_Is.mono_l : ∀ k, (∀ y0 y1, LeO (sentryref1_Is.j0 k y0 y1) (sentryref1_Is.j0 (k + 1) y0 y1)) ∧ (∀ y0 y1, LeO (sentryref1_Is.l0 k y0 y1) (sentryref1_Is.l0 (k + 1) y0 y1))
 | 0 => ⟨fun _ _ r h => by simp [sentryref1_Is.j0] at h, fun _ _ r h => by simp [sentryref1_Is.l0] at h⟩
 | k + 1 => by
  obtain ⟨ih0, ih1⟩ := sentryref1_Is.mono_l k
  refine ⟨?_, ?_⟩
  intro y0 y1
  unfold sentryref1_Is.j0
  rotate_left
  intro y0 y1
  unfold sentryref1_Is.l0
  rotate_left
  all_goals repeat' first
   | (with_reducible exact ih0 _ _)
   | (with_reducible exact ih1 _ _)
   | (with_reducible exact LeO.refl _)
   | (with_reducible exact LeO.none _)
   | (with_reducible refine LeO.ite ?_ ?_)
   | (with_reducible refine LeO.bind ?_ (fun _ => ?_))
   | exact ih0 _ _
   | exact ih1 _ _
   | exact LeO.none _
   | refine LeO.ite ?_ ?_
   | refine LeO.bind ?_ (fun _ => ?_)
theorem sentryref1_Is.mono : ∀ a0 k, LeO (sentryref1_Is.f k a0) (sentryref1_Is.f (k + 1) a0) := by
 intro a0 k
 obtain ⟨ih0, ih1⟩ := sentryref1_Is.mono_l k
 unfold sentryref1_Is.f
 repeat' first
  | (with_reducible exact ih0 _ _)
  | (with_reducible exact ih1 _ _)
  | (with_reducible exact LeO.refl _)
  | (with_reducible exact LeO.none _)
  | (with_reducible refine LeO.ite ?_ ?_)
  | (with_reducible refine LeO.bind ?_ (fun _ => ?_))
  | exact ih0 _ _
  | exact ih1 _ _
  | exact LeO.none _
  | refine LeO.ite ?_ ?_
  | refine LeO.bind ?_ (fun _ => ?_)
set_option maxHeartbeats 8000000 in
set_option maxRecDepth 100000 in
theorem sentryref1_Is.calls (k : Nat) (a0 : ByteArray) (r : Bool) (w : World) (h : sentryref1_Is.f k a0 = some r) :
 Calls Try.prog 28 #[.string a0] w fun e w' => e = .returned (.bool r) ∧ Drawn0 w w' := by
 unfold sentryref1_Is.f at h
 have H := h
 clear h
 have HC2 := Aside0.mk H
 clear H
 go_enter Try.func28, Try.ntmps28
 go_upto_region 1 with (fail)
 go_cut [17] (fun v17 wc => ∃ (kq : Nat) (x17_1 : Bool), v17 = .bool x17_1 ∧ Aside0 (sentryref1_Is.j0 kq a0 x17_1 = some r) ∧ Aside0 (kq ≤ k) ∧ Drawn0 w wc)
 case first =>
  have H := HC2.out
  clear HC2
  by_cases c3 : (a0.size : Int) < 1
  ·rw [if_pos c3] at H
   have c3b0 := decide_eq_true c3
   have c3b1 : decide (a0.size < 1) = true := decide_eq_true (by omega)
   clear c3
   (first | rw [c3b0] | (simp only [i64_w, i32_w]; rw [c3b0]) | skip)
   have H' := Aside0.mk H
   clear H
   go_wp2
   go_meet
   case rel => exact ⟨_, (true), rf_, H', ⟨by first | omega | exact Nat.le_refl _⟩, by repeat (first | exact Drawn0.refl _ | apply Drawn0.step)⟩
  ·rw [if_neg c3] at H
   have c3b0 := decide_eq_false c3
   have c3b1 : decide (a0.size < 1) = false := decide_eq_false (by omega)
   clear c3
   (first | rw [c3b0] | (simp only [i64_w, i32_w]; rw [c3b0]) | skip)
   by_cases c4 : (a0.size : Int) > 12
   ·rw [if_pos c4] at H
    have c4b0 := decide_eq_true c4
    have c4b1 : decide (12 < a0.size) = true := decide_eq_true (by omega)
    clear c4
    have H' := Aside0.mk H
    clear H
    go_wp2
    go_meet
    case rel => exact ⟨_, (true), rf_, H', ⟨by first | omega | exact Nat.le_refl _⟩, by repeat (first | exact Drawn0.refl _ | apply Drawn0.step)⟩
   ·rw [if_neg c4] at H
    have c4b0 := decide_eq_false c4
    have c4b1 : decide (12 < a0.size) = false := decide_eq_false (by omega)
    clear c4
    by_cases c5 : 0 < (a0.size : Int)
    ·rw [if_pos c5] at H
     have c5b0 := decide_eq_true c5
     have c5b1 : decide (0 < a0.size) = true := decide_eq_true (by omega)
     clear c5
     replace H := Option.bind_eq_some_iff.mp H
     obtain ⟨t102, A70, H⟩ := H
     have A7 := Aside0.mk A70
     clear A70
     have H' := Aside0.mk H
     clear H
     have p6 : 0 ≤ (0 : Int) := (by omega)
     have q6 : 0 < a0.size := (by have : (0 : Int) < (a0.size : Int) := od_; omega)
     have hx6 : ∀ h : 0 < a0.size, ((a0[0]'h).toNat : Int) = bt a0 0 := bt_at a0 0
     clear p6
     have qi6 : (0 < (a0.size : Int)) = True := eq_true (od_)
     replace q6 := eq_true q6
     go_wp2_with (first | (go_at_call 56; (with_reducible refine (sentryref1_first.calls (bt a0 0) t102 _ A7.out).mono ?_); rintro e w' ⟨rfl, ⟨nd, rfl⟩⟩))
     go_meet
     case rel => exact ⟨_, (!t102), rf_, H', ⟨by first | omega | exact Nat.le_refl _⟩, by repeat (first | exact Drawn0.refl _ | apply Drawn0.step)⟩
    ·rw [if_neg c5] at H
     exact absurd H (by simp)
 case rest =>
  clear HC2
  obtain ⟨kq, x17_1, rfl, HA, HJ1, ⟨mc1, rfl⟩⟩ := hcut
  cases kq with
  | zero => exact absurd HA.out (by simp [sentryref1_Is.j0])
  | succ kj1 =>
   have H := HA.out
   clear HA
   simp only [sentryref1_Is.j0] at H
   by_cases c8 : x17_1 = true
   ·subst c8
    have H1 : (some false) = some r := by rw [if_pos rfl] at H; exact H
    clear H
    have H := H1
    clear H1
    obtain rfl := Option.some.inj H
    go_wp2
    go_ret
    exact ⟨by first | rfl | (simp; done) | (simp [*]; done), by repeat (first | exact Drawn0.refl _ | apply Drawn0.step)⟩
   ·replace c8 := Bool.eq_false_iff.mpr c8
    subst c8
    have H1 : (sentryref1_Is.l0 kj1 a0 0) = some r := by rw [if_neg (show ¬ (false = true) by decide)] at H; exact H
    clear H
    have H := H1
    clear H1
    have H' := Aside0.mk H
    clear H
    go_wp2
    go_loopg [3] kj1 (fun kq v3 w' => ∃ (x3_2 : Int), v3 = .int .i64 x3_2 ∧ Aside0 (sentryref1_Is.l0 kq a0 x3_2 = some r) ∧ Aside0 (kq ≤ kj1) ∧ Drawn0 w w')
    case atStart => exact ⟨(0), rf_, H', ⟨Nat.le_refl _⟩, by repeat (first | exact Drawn0.refl _ | apply Drawn0.step)⟩
    case round =>
     clear H'
     obtain ⟨x3_2, rfl, HA, HK2, ⟨m2, rfl⟩⟩ := hrel
     cases gk with
     | zero => exact absurd HA.out (by simp [sentryref1_Is.l0])
     | succ k2 =>
      have H := HA.out
      clear HA
      simp only [sentryref1_Is.l0] at H
      by_cases c9 : x3_2 < (a0.size : Int)
      ·rw [if_pos c9] at H
       have c9b0 := decide_eq_true c9
       clear c9
       by_cases c10 : 0 ≤ x3_2
       ·rw [if_pos c10] at H
        have c10b0 := decide_eq_true c10
        clear c10
        replace H := Option.bind_eq_some_iff.mp H
        obtain ⟨t103, A120, H⟩ := H
        have A12 := Aside0.mk A120
        clear A120
        by_cases c13 : t103 = true
        ·subst c13
         have H1 : (sentryref1_Is.l0 k2 a0 (wrap64 (x3_2 + 1))) = some r := by rw [if_pos rfl] at H; exact H
         clear H
         have H := H1
         clear H1
         have H' := Aside0.mk H
         clear H
         have p11 : 0 ≤ (x3_2 : Int) := od_
         have q11 : x3_2 < (a0.size : Int) := od_
         have hx11 := bt_at a0 x3_2
         replace p11 := eq_true p11
         replace q11 := eq_true q11
         go_wp2_with (first | ((with_reducible refine gate_callee (f := 57) rfl ?_); refine gl_ (some 27) Try.func57 #[.int .u8 (bt a0 x3_2)] ?_; (with_reducible refine (sentryref1_Byte.calls (bt a0 x3_2) true _ A12.out).mono ?_); rintro e w' ⟨rfl, ⟨nd, rfl⟩⟩; refine ⟨_, rfl, ?_⟩))
         go_roundg k2
         case measure => have := HJ1.out; have := HK2.out; omega
         case rel => exact ⟨(wrap64 (x3_2 + 1)), rf_, H', ⟨by have := HJ1.out; have := HK2.out; omega⟩, by repeat (first | exact Drawn0.refl _ | apply Drawn0.step)⟩
        ·replace c13 := Bool.eq_false_iff.mpr c13
         subst c13
         have H1 : (some false) = some r := by rw [if_neg (show ¬ (false = true) by decide)] at H; exact H
         clear H
         have H := H1
         clear H1
         obtain rfl := Option.some.inj H
         have p11 : 0 ≤ (x3_2 : Int) := od_
         have q11 : x3_2 < (a0.size : Int) := od_
         have hx11 := bt_at a0 x3_2
         replace p11 := eq_true p11
         replace q11 := eq_true q11
         go_wp2_with (first | ((with_reducible refine gate_callee (f := 57) rfl ?_); refine gl_ (some 27) Try.func57 #[.int .u8 (bt a0 x3_2)] ?_; (with_reducible refine (sentryref1_Byte.calls (bt a0 x3_2) false _ A12.out).mono ?_); rintro e w' ⟨rfl, ⟨nd, rfl⟩⟩; refine ⟨_, rfl, ?_⟩))
         go_ret
         exact ⟨by first | rfl | (simp; done) | (simp [*]; done), by repeat (first | exact Drawn0.refl _ | apply Drawn0.step)⟩
       ·rw [if_neg c10] at H
        exact absurd H (by simp)
      ·rw [if_neg c9] at H
       have c9b0 := decide_eq_false c9
       clear c9
       obtain rfl := Option.some.inj H
       go_wp2
       go_ret
       exact ⟨by first | rfl | (simp; done) | (simp [*]; done), by repeat (first | exact Drawn0.refl _ | apply Drawn0.step)⟩
def sentryref4_File.l0 : Nat → List ByteArray → ByteArray → Int → Option (Bool)
 | 0, _, _, _ => none
 | k + 1, x0, x1, x5 => if x5 < (x0.length : Int) then (if 0 ≤ x5 then (if (rdOf ByteArray.empty x0 x5).toList = x1.toList then (some true) else (sentryref4_File.l0 k x0 x1 (wrap64 (x5 + 1)))) else (none)) else (some false)
def sentryref4_File.f (k : Nat) (l0 : List ByteArray) (a1 : ByteArray) : Option (Bool) := sentryref4_File.l0 k l0 a1 0
theorem sentryref4_File.mono_l : ∀ k, (∀ y0 y1 y2, LeO (sentryref4_File.l0 k y0 y1 y2) (sentryref4_File.l0 (k + 1) y0 y1 y2))
 | 0 => fun _ _ _ r h => by simp [sentryref4_File.l0] at h
 | k + 1 => by
  have ih0 := sentryref4_File.mono_l k
  ·intro y0 y1 y2
   unfold sentryref4_File.l0
   repeat' first
   | (with_reducible exact ih0 _ _ _)
   | (with_reducible exact LeO.refl _)
   | (with_reducible exact LeO.none _)
   | (with_reducible refine LeO.ite ?_ ?_)
   | (with_reducible refine LeO.bind ?_ (fun _ => ?_))
   | exact ih0 _ _ _
   | exact LeO.none _
   | refine LeO.ite ?_ ?_
   | refine LeO.bind ?_ (fun _ => ?_)
theorem sentryref4_File.mono : ∀ a0 a1 k, LeO (sentryref4_File.f k a0 a1) (sentryref4_File.f (k + 1) a0 a1) := by
 intro a0 a1 k
 have ih0 := sentryref4_File.mono_l k
 unfold sentryref4_File.f
 repeat' first
  | (with_reducible exact ih0 _ _ _)
  | (with_reducible exact LeO.refl _)
  | (with_reducible exact LeO.none _)
  | (with_reducible refine LeO.ite ?_ ?_)
  | (with_reducible refine LeO.bind ?_ (fun _ => ?_))
  | exact ih0 _ _ _
  | exact LeO.none _
  | refine LeO.ite ?_ ?_
  | refine LeO.bind ?_ (fun _ => ?_)
set_option maxHeartbeats 8000000 in
set_option maxRecDepth 100000 in
theorem sentryref4_File.calls (k : Nat) (A0 : Option Addr) (c0 : Nat) (l0 : List ByteArray) (a1 : ByteArray) (r : Bool) (w : World) (hr0 : Kd.C Kd.string w A0 l0.length l0) (hc0 : l0.length ≤ c0) (h : sentryref4_File.f k l0 a1 = some r) :
 Calls Try.prog 29 #[.slice A0 l0.length c0, .string a1] w fun e w' => e = .returned (.bool r) ∧ Drawn0 w w' := by
 have HR0 := Aside0.mk hr0
 have HC0 := Aside0.mk hc0
 clear hr0 hc0
 have H : (sentryref4_File.l0 k l0 a1 0) = some r := h
 clear h
 have H' := Aside0.mk H
 clear H
 go_enter Try.func29, Try.ntmps29
 go_wp2
 go_loopg [5] k (fun kq v5 w' => ∃ (x5_1 : Int), v5 = .int .i64 x5_1 ∧ Aside0 (sentryref4_File.l0 kq l0 a1 x5_1 = some r) ∧ Aside0 (kq ≤ k) ∧ Drawn0 w w')
 case atStart => exact ⟨(0), rf_, H', ⟨Nat.le_refl _⟩, by repeat (first | exact Drawn0.refl _ | apply Drawn0.step)⟩
 case round =>
  clear H'
  obtain ⟨x5_1, rfl, HA, HK1, ⟨m1, rfl⟩⟩ := hrel
  cases gk with
  | zero => exact absurd HA.out (by simp [sentryref4_File.l0])
  | succ k1 =>
   have H := HA.out
   clear HA
   simp only [sentryref4_File.l0] at H
   by_cases c3 : x5_1 < (l0.length : Int)
   ·rw [if_pos c3] at H
    have c3b0 := decide_eq_true c3
    clear c3
    by_cases c4 : 0 ≤ x5_1
    ·rw [if_pos c4] at H
     have c4b0 := decide_eq_true c4
     clear c4
     by_cases c5 : (rdOf ByteArray.empty l0 x5_1).toList = a1.toList
     ·rw [if_pos c5] at H
      have c5b0 : ((rdOf ByteArray.empty l0 x5_1).toList == a1.toList) = true := beq_iff_eq.mpr c5
      have c5b1 : ((rdOf ByteArray.empty l0 x5_1).toList != a1.toList) = false := bne_eq_false_iff_eq.mpr c5
      clear c5
      obtain rfl := Option.some.inj H
      obtain ⟨ad104, e104, hx104_0, p104, q104⟩ := au_string HR0 ⟨Below.refl _ _⟩ (x5_1)
      cases e104
      go_wp2
      go_ret
      exact ⟨by first | rfl | (simp; done) | (simp [*]; done), by repeat (first | exact Drawn0.refl _ | apply Drawn0.step)⟩
     ·rw [if_neg c5] at H
      have c5b0 : ((rdOf ByteArray.empty l0 x5_1).toList == a1.toList) = false := beq_eq_false_iff_ne.mpr c5
      have c5b1 : ((rdOf ByteArray.empty l0 x5_1).toList != a1.toList) = true := bne_iff_ne.mpr c5
      have H' := Aside0.mk H
      clear H
      obtain ⟨ad104, e104, hx104_0, p104, q104⟩ := au_string HR0 ⟨Below.refl _ _⟩ (x5_1)
      cases e104
      go_wp2
      go_roundg k1
      case measure => have := HK1.out; omega
      case rel => exact ⟨(wrap64 (x5_1 + 1)), rf_, H', ⟨by have := HK1.out; omega⟩, by repeat (first | exact Drawn0.refl _ | apply Drawn0.step)⟩
    ·rw [if_neg c4] at H
     exact absurd H (by simp)
   ·rw [if_neg c3] at H
    have c3b0 := decide_eq_false c3
    clear c3
    obtain rfl := Option.some.inj H
    go_wp2
    go_ret
    exact ⟨by first | rfl | (simp; done) | (simp [*]; done), by repeat (first | exact Drawn0.refl _ | apply Drawn0.step)⟩
def sentryref4_Place.l0 : Nat → ByteArray → Int → List ByteArray → List (S48) → Option (Int)
 | 0, _, _, _, _ => none
 | k + 1, x1, x5, x106000, x106001 => if x5 < (x106001.length : Int) then (if 0 ≤ x5 then (if ((rd_T48 x106001 x5).f0).toList = x1.toList then (some x5) else (sentryref4_Place.l0 k x1 (wrap64 (x5 + 1)) x106000 x106001)) else (none)) else (some (-1))
def sentryref4_Place.f (k : Nat) (l0_0 : List ByteArray) (l0_1 : List (S48)) (a1 : ByteArray) : Option (Int) := sentryref4_Place.l0 k a1 0 l0_0 l0_1
theorem sentryref4_Place.mono_l : ∀ k, (∀ y0 y1 y2 y3, LeO (sentryref4_Place.l0 k y0 y1 y2 y3) (sentryref4_Place.l0 (k + 1) y0 y1 y2 y3))
 | 0 => fun _ _ _ _ r h => by simp [sentryref4_Place.l0] at h
 | k + 1 => by
  have ih0 := sentryref4_Place.mono_l k
  ·intro y0 y1 y2 y3
   unfold sentryref4_Place.l0
   repeat' first
   | (with_reducible exact ih0 _ _ _ _)
   | (with_reducible exact LeO.refl _)
   | (with_reducible exact LeO.none _)
   | (with_reducible refine LeO.ite ?_ ?_)
   | (with_reducible refine LeO.bind ?_ (fun _ => ?_))
   | exact ih0 _ _ _ _
   | exact LeO.none _
   | refine LeO.ite ?_ ?_
   | refine LeO.bind ?_ (fun _ => ?_)
theorem sentryref4_Place.mono : ∀ a0 a1 a2 k, LeO (sentryref4_Place.f k a0 a1 a2) (sentryref4_Place.f (k + 1) a0 a1 a2) := by
 intro a0 a1 a2 k
 have ih0 := sentryref4_Place.mono_l k
 unfold sentryref4_Place.f
 repeat' first
  | (with_reducible exact ih0 _ _ _ _)
  | (with_reducible exact LeO.refl _)
  | (with_reducible exact LeO.none _)
  | (with_reducible refine LeO.ite ?_ ?_)
  | (with_reducible refine LeO.bind ?_ (fun _ => ?_))
  | exact ih0 _ _ _ _
  | exact LeO.none _
  | refine LeO.ite ?_ ?_
  | refine LeO.bind ?_ (fun _ => ?_)
set_option maxHeartbeats 8000000 in
set_option maxRecDepth 100000 in
theorem sentryref4_Place.calls (k : Nat) (A0_0 : Option Addr) (c0_0 : Nat) (l0_0 : List ByteArray) (A0_1 : Option Addr) (c0_1 : Nat) (l0_1 : List (S48)) (a1 : ByteArray) (r : Int) (w : World) (hr0_0 : Kd.C Kd.string w A0_0 l0_0.length l0_0) (hc0_0 : l0_0.length ≤ c0_0) (hr0_1 : Kd.C k48 w A0_1 l0_1.length l0_1) (hc0_1 : l0_1.length ≤ c0_1) (h : sentryref4_Place.f k l0_0 l0_1 a1 = some r) :
 Calls Try.prog 54 #[.agg #[.slice A0_0 l0_0.length c0_0, .slice A0_1 l0_1.length c0_1], .string a1] w fun e w' => e = .returned (.int .i64 r) ∧ Below w.heap.size w w' := by
 have hu25 := Try.underlying25
 have HR0_0 := Aside0.mk hr0_0
 have HC0_0 := Aside0.mk hc0_0
 clear hr0_0 hc0_0
 have HR0_1 := Aside0.mk hr0_1
 have HC0_1 := Aside0.mk hc0_1
 clear hr0_1 hc0_1
 have HB := Aside0.mk (Below.refl w.heap.size w)
 have H : (sentryref4_Place.l0 k a1 0 l0_0 l0_1) = some r := h
 clear h
 have H' := Aside0.mk H
 clear H
 go_enter Try.func54, Try.ntmps54
 go_wp2_with (first | ((with_reducible refine gate_dst (N := 2) rfl ?_); refine bx_ 2 #[.slice A0_0 l0_0.length c0_0, .slice A0_1 l0_1.length c0_1] 25 ?_; intro gb105 hg w3 hbox hb; have BK105 := Aside0.mk (hbox); have GW105 := zz_ (w := w) hg; have GE105 := zz_ (w := w) hg; replace HB := hb_ HB hb;  clear hb hbox hg))
 go_loopg [5] k (fun kq v5 w' => ∃ (x5_1 : Int), v5 = .int .i64 x5_1 ∧ Aside0 (sentryref4_Place.l0 kq a1 x5_1 l0_0 l0_1 = some r) ∧ Aside0 (kq ≤ k) ∧ Aside0 (w'.heap[gb105]? = some (.cells #[(.slice A0_0 l0_0.length c0_0), (.slice A0_1 l0_1.length c0_1)] 25 (0, 0))) ∧ Aside0 (Below w.heap.size w w'))
 case atStart => exact ⟨(0), rf_, H', ⟨Nat.le_refl _⟩, ⟨gx_ BK105⟩, ⟨hf_⟩⟩
 case round =>
  clear H'
  try clear p2
  obtain ⟨x5_1, rfl, HA, HK1, BK105, HB⟩ := hrel
  cases gk with
  | zero => exact absurd HA.out (by simp [sentryref4_Place.l0])
  | succ k1 =>
   have H := HA.out
   clear HA
   simp only [sentryref4_Place.l0] at H
   by_cases c4 : x5_1 < (l0_1.length : Int)
   ·rw [if_pos c4] at H
    have c4b0 := decide_eq_true c4
    clear c4
    by_cases c5 : 0 ≤ x5_1
    ·rw [if_pos c5] at H
     have c5b0 := decide_eq_true c5
     clear c5
     by_cases c6 : ((rd_T48 l0_1 x5_1).f0).toList = a1.toList
     ·rw [if_pos c6] at H
      have c6b0 : (((rd_T48 l0_1 x5_1).f0).toList == a1.toList) = true := beq_iff_eq.mpr c6
      have c6b1 : (((rd_T48 l0_1 x5_1).f0).toList != a1.toList) = false := bne_eq_false_iff_eq.mpr c6
      clear c6
      obtain rfl := Option.some.inj H
      obtain ⟨hcz7_0, hcz7_1, hfz7_0, hfz7_1⟩ := bs2_ BK105
      obtain ⟨ad106, A106_5, c106_5, A106_6, c106_6, e106, hx106_0, hx106_1, hx106_2, hx106_3, hx106_4, hx106_5, hx106_6, HC106_5, HR106_5, HC106_6, HR106_6, p106, q106⟩ := au_T48 HR0_1 HB (x5_1)
      cases e106
      go_wp2
      go_ret
      exact ⟨er_, hf_⟩
     ·rw [if_neg c6] at H
      have c6b0 : (((rd_T48 l0_1 x5_1).f0).toList == a1.toList) = false := beq_eq_false_iff_ne.mpr c6
      have c6b1 : (((rd_T48 l0_1 x5_1).f0).toList != a1.toList) = true := bne_iff_ne.mpr c6
      have H' := Aside0.mk H
      clear H
      obtain ⟨hcz8_0, hcz8_1, hfz8_0, hfz8_1⟩ := bs2_ BK105
      obtain ⟨ad106, A106_5, c106_5, A106_6, c106_6, e106, hx106_0, hx106_1, hx106_2, hx106_3, hx106_4, hx106_5, hx106_6, HC106_5, HR106_5, HC106_6, HR106_6, p106, q106⟩ := au_T48 HR0_1 HB (x5_1)
      cases e106
      go_wp2
      go_roundg k1
      case measure => have := HK1.out; omega
      case rel => exact ⟨(wrap64 (x5_1 + 1)), rf_, H', ⟨by have := HK1.out; omega⟩, ⟨gx_ BK105⟩, ⟨hf_⟩⟩
    ·rw [if_neg c5] at H
     exact absurd H (by simp)
   ·rw [if_neg c4] at H
    have c4b0 := decide_eq_false c4
    clear c4
    obtain rfl := Option.some.inj H
    obtain ⟨hcz9_0, hcz9_1, hfz9_0, hfz9_1⟩ := bs2_ BK105
    go_wp2
    go_ret
    exact ⟨er_, hf_⟩
def sentryref4_Depth.l0 : Nat → Int → Int → List ByteArray → List (S48) → Option (Int)
 | 0, _, _, _, _ => none
 | k + 1, x1, x5, x112000, x112001 => if x1 > 0 then (if x5 ≤ (x112001.length : Int) then (if 0 ≤ x1 then (if x1 < (x112001.length : Int) then ((sentryref4_Place.f k x112000 x112001 ((rd_T48 x112001 x1).f2)).bind fun t113 => (sentryref4_Depth.l0 k t113 (wrap64 (x5 + 1)) x112000 x112001)) else (none)) else (none)) else (if x1 < 0 then (some (-1)) else (if x5 > (x112001.length : Int) then (some (-1)) else (some x5)))) else (if x1 < 0 then (some (-1)) else (if x5 > (x112001.length : Int) then (some (-1)) else (some x5)))
def sentryref4_Depth.f (k : Nat) (l0_0 : List ByteArray) (l0_1 : List (S48)) (a1 : Int) : Option (Int) := sentryref4_Depth.l0 k a1 0 l0_0 l0_1
theorem sentryref4_Depth.mono_l : ∀ k, (∀ y0 y1 y2 y3, LeO (sentryref4_Depth.l0 k y0 y1 y2 y3) (sentryref4_Depth.l0 (k + 1) y0 y1 y2 y3))
 | 0 => fun _ _ _ _ r h => by simp [sentryref4_Depth.l0] at h
 | k + 1 => by
  have ih0 := sentryref4_Depth.mono_l k
  ·intro y0 y1 y2 y3
   unfold sentryref4_Depth.l0
   repeat' first
   | (with_reducible exact ih0 _ _ _ _)
   | (with_reducible exact sentryref4_Place.mono _ _ _ _)
   | (with_reducible exact LeO.refl _)
   | (with_reducible exact LeO.none _)
   | (with_reducible refine LeO.ite ?_ ?_)
   | (with_reducible refine LeO.bind ?_ (fun _ => ?_))
   | exact ih0 _ _ _ _
   | exact sentryref4_Place.mono _ _ _ _
   | exact LeO.none _
   | refine LeO.ite ?_ ?_
   | refine LeO.bind ?_ (fun _ => ?_)
theorem sentryref4_Depth.mono : ∀ a0 a1 a2 k, LeO (sentryref4_Depth.f k a0 a1 a2) (sentryref4_Depth.f (k + 1) a0 a1 a2) := by
 intro a0 a1 a2 k
 have ih0 := sentryref4_Depth.mono_l k
 unfold sentryref4_Depth.f
 repeat' first
  | (with_reducible exact ih0 _ _ _ _)
  | (with_reducible exact sentryref4_Place.mono _ _ _ _)
  | (with_reducible exact LeO.refl _)
  | (with_reducible exact LeO.none _)
  | (with_reducible refine LeO.ite ?_ ?_)
  | (with_reducible refine LeO.bind ?_ (fun _ => ?_))
  | exact ih0 _ _ _ _
  | exact sentryref4_Place.mono _ _ _ _
  | exact LeO.none _
  | refine LeO.ite ?_ ?_
  | refine LeO.bind ?_ (fun _ => ?_)
def sentryref4_Depth.T3 : Bool × List (List Nat × List Nat) := (true, [([], []), ([], []), ([1], [1]), ([], []), ([2, 3], [2, 3]), ([4], [4]), ([5], [5]), ([0, 6], [0, 6]), ([7, 7, 0, 1, 2, 3, 4, 5, 6, 7], [3, 7])])
def sentryref4_Depth.B3 : List Nat := [0, 0, 2, 0, 14, 30, 62, 127, 255]
theorem sentryref4_Depth.tab3 : rtab .any (opsOf Try.f59 3) = sentryref4_Depth.T3 := by kernel_rfl
theorem sentryref4_Depth.bits3 : waitsOk sentryref4_Depth.T3.2 sentryref4_Depth.B3 = true := by kernel_rfl
set_option maxHeartbeats 8000000 in
set_option maxRecDepth 100000 in
theorem sentryref4_Depth.calls (k : Nat) (A0_0 : Option Addr) (c0_0 : Nat) (l0_0 : List ByteArray) (A0_1 : Option Addr) (c0_1 : Nat) (l0_1 : List (S48)) (a1 : Int) (r : Int) (w : World) (hr0_0 : Kd.C Kd.string w A0_0 l0_0.length l0_0) (hc0_0 : l0_0.length ≤ c0_0) (hr0_1 : Kd.C k48 w A0_1 l0_1.length l0_1) (hc0_1 : l0_1.length ≤ c0_1) (h : sentryref4_Depth.f k l0_0 l0_1 a1 = some r) :
 Calls Try.prog 59 #[.agg #[.slice A0_0 l0_0.length c0_0, .slice A0_1 l0_1.length c0_1], .int .i64 a1] w fun e w' => e = .returned (.int .i64 r) ∧ Below w.heap.size w w' := by
 have hu25 := Try.underlying25
 have HR0_0 := Aside0.mk hr0_0
 have HC0_0 := Aside0.mk hc0_0
 clear hr0_0 hc0_0
 have HR0_1 := Aside0.mk hr0_1
 have HC0_1 := Aside0.mk hc0_1
 clear hr0_1 hc0_1
 have HB := Aside0.mk (Below.refl w.heap.size w)
 have H : (sentryref4_Depth.l0 k a1 0 l0_0 l0_1) = some r := h
 clear h
 have H' := Aside0.mk H
 clear H
 go_enter Try.func59, Try.ntmps59
 go_wp2_with (first | ((with_reducible refine gate_dst (N := 2) rfl ?_); (try (refine gate_guard (by rfl) ?_; dsimp only)); refine bx_ 2 #[.slice A0_0 l0_0.length c0_0, .slice A0_1 l0_1.length c0_1] 25 ?_; intro gb111 hg w3 hbox hb; have BK111 := Aside0.mk (hbox); have GW111 := zz_ (w := w) hg; have GE111 := zz_ (w := w) hg; replace HB := hb_ HB hb;  clear hb hbox hg))
 go_loopg [1, 5] k (fun kq v1 v5 w' => ∃ (x1_1 : Int) (x5_1 : Int), v1 = .int .i64 x1_1 ∧ v5 = .int .i64 x5_1 ∧ Aside0 (sentryref4_Depth.l0 kq x1_1 x5_1 l0_0 l0_1 = some r) ∧ Aside0 (kq ≤ k) ∧ Aside0 (w'.heap[gb111]? = some (.cells #[(.slice A0_0 l0_0.length c0_0), (.slice A0_1 l0_1.length c0_1)] 25 (0, 0))) ∧ Aside0 (Below w.heap.size w w'))
 case atStart => exact ⟨(a1), (0), rf_, rf_, H', ⟨Nat.le_refl _⟩, ⟨gx_ BK111⟩, ⟨hf_⟩⟩
 case round =>
  clear H'
  try clear p2
  obtain ⟨x1_1, x5_1, rfl, rfl, HA, HK1, BK111, HB⟩ := hrel
  cases gk with
  | zero => exact absurd HA.out (by simp [sentryref4_Depth.l0])
  | succ k1 =>
   have H := HA.out
   clear HA
   simp only [sentryref4_Depth.l0] at H
   by_cases c4 : x1_1 > 0
   ·rw [if_pos c4] at H
    have c4b0 := decide_eq_true c4
    clear c4
    by_cases c5 : x5_1 ≤ (l0_1.length : Int)
    ·rw [if_pos c5] at H
     have c5b0 := decide_eq_true c5
     clear c5
     by_cases c6 : 0 ≤ x1_1
     ·rw [if_pos c6] at H
      have c6b0 := decide_eq_true c6
      clear c6
      by_cases c7 : x1_1 < (l0_1.length : Int)
      ·rw [if_pos c7] at H
       have c7b0 := decide_eq_true c7
       clear c7
       replace H := Option.bind_eq_some_iff.mp H
       obtain ⟨t113, A80, H⟩ := H
       have A8 := Aside0.mk A80
       clear A80
       have H' := Aside0.mk H
       clear H
       obtain ⟨hcz9_0, hcz9_1, hfz9_0, hfz9_1⟩ := bs2_ BK111
       try go_wp2
       replace BK111 := Aside0.mk (blk_drew BK111.out)
       replace HB := Aside0.mk (below_drew1 HB.out)
       have p112 : 0 ≤ (x1_1 : Int) := od_
       have q112 : x1_1 < (l0_1.length : Int) := od_
       obtain ⟨ad112, A112_5, c112_5, A112_6, c112_6, e112, hx112_0, hx112_1, hx112_2, hx112_3, hx112_4, hx112_5, hx112_6, hl112_5, hi112_5, hl112_6, hi112_6⟩ := at_T48 HR0_1.out x1_1 p112 q112
       have hw112_6 := hx112_6
       have hw112_5 := hx112_5
       have hw112_4 := hx112_4
       have hw112_3 := hx112_3
       have hw112_2 := hx112_2
       have hw112_1 := hx112_1
       have hw112_0 := hx112_0
       cases e112
       replace hx112_0 := rr_ HB hx112_0
       replace hx112_1 := rr_ HB hx112_1
       replace hx112_2 := rr_ HB hx112_2
       replace hx112_3 := rr_ HB hx112_3
       replace hx112_4 := rr_ HB hx112_4
       replace hx112_5 := rr_ HB hx112_5
       replace hx112_6 := rr_ HB hx112_6
       have HR112_5 := Aside0.mk hi112_5
       have HC112_5 := Aside0.mk hl112_5
       clear hi112_5 hl112_5
       have HR112_6 := Aside0.mk hi112_6
       have HC112_6 := Aside0.mk hl112_6
       clear hi112_6 hl112_6
       replace p112 := eq_true p112
       replace q112 := eq_true q112
       refine start_ (n := 9) (S := fun w' => w'.cell? ⟨gb111, 0, none⟩ = some (.slice A0_0 l0_0.length c0_0) ∧ w'.cell? ⟨gb111, 1, none⟩ = some (.slice (some ad112) l0_1.length c0_1) ∧ w'.cell? (ad112.add ((x1_1).toNat * 7)) = some (.string ((rd_T48 l0_1 x1_1).f0)) ∧ w'.cell? ⟨(ad112.add ((x1_1).toNat * 7)).block, (ad112.add ((x1_1).toNat * 7)).off + 1, none⟩ = some (.int .i64 ((rd_T48 l0_1 x1_1).f1)) ∧ w'.cell? ⟨(ad112.add ((x1_1).toNat * 7)).block, (ad112.add ((x1_1).toNat * 7)).off + 2, none⟩ = some (.string ((rd_T48 l0_1 x1_1).f2)) ∧ w'.cell? ⟨(ad112.add ((x1_1).toNat * 7)).block, (ad112.add ((x1_1).toNat * 7)).off + 3, none⟩ = some (.bool ((rd_T48 l0_1 x1_1).f3)) ∧ w'.cell? ⟨(ad112.add ((x1_1).toNat * 7)).block, (ad112.add ((x1_1).toNat * 7)).off + 4, none⟩ = some (.int .i64 ((rd_T48 l0_1 x1_1).f4)) ∧ w'.cell? ⟨(ad112.add ((x1_1).toNat * 7)).block, (ad112.add ((x1_1).toNat * 7)).off + 5, none⟩ = some (.slice A112_5 ((rd_T48 l0_1 x1_1).f5).length c112_5) ∧ w'.cell? ⟨(ad112.add ((x1_1).toNat * 7)).block, (ad112.add ((x1_1).toNat * 7)).off + 6, none⟩ = some (.slice A112_6 ((rd_T48 l0_1 x1_1).f6).length c112_6)) (ds := []) (bits_ 9 0) (by kernel_rfl) rfl rfl ⟨(bk0_ BK111 :), (bk1_ BK111 :), (rr_ HB hw112_0 :), (rr_ HB hw112_1 :), (rr_ HB hw112_2 :), (rr_ HB hw112_3 :), (rr_ HB hw112_4 :), (rr_ HB hw112_5 :), (rr_ HB hw112_6 :)⟩ (fun hHeld => ?_); refine with_tabW sentryref4_Depth.tab3 sentryref4_Depth.bits3 (fun HT_ HW_ => ?_)
       generalize wr.drew = w10 at BK111 HB HR112_5 HR112_6 hx112_0 hx112_1 hx112_2 hx112_3 hx112_4 hx112_5 hx112_6 hHeld ⊢
       refine pz_ 1 (some 16) (bits_ 9 2) HT_.out ?_
       refine pz_ 3 (some 18) (bits_ 9 10) HT_.out ?_
       refine tz_ 0 (some 15) (bits_ 9 11) HT_.out HW_.out hHeld ?_ (hy := by rintro w' ⟨s0, s1, s2, s3, s4, s5, s6, s7, s8⟩; go_simp; with_reducible rfl)
       refine tz_ 2 (some 17) (bits_ 9 15) HT_.out HW_.out hHeld ?_ (hy := by rintro w' ⟨s0, s1, s2, s3, s4, s5, s6, s7, s8⟩; go_simp; with_reducible rfl)
       refine pz_ 4 (some 19) (bits_ 9 31) HT_.out ?_
       refine pz_ 5 (some 20) (bits_ 9 63) HT_.out ?_
       refine tz_ 6 (some 21) (bits_ 9 127) HT_.out HW_.out hHeld ?_ (hy := by rintro w' ⟨s0, s1, s2, s3, s4, s5, s6, s7, s8⟩; go_simp; with_reducible rfl)
       refine oz_ 7 (some 22) (bits_ 9 255) HT_.out (fun K hK => ?_)
       refine go_s_ Try.func54 #[.agg #[.slice A0_0 l0_0.length c0_0, .slice (some ad112) l0_1.length c0_1], .string ((rd_T48 l0_1 x1_1).f2)] ?_
       with_reducible refine (sentryref4_Place.calls k1 _ _ l0_0 _ _ l0_1 ((rd_T48 l0_1 x1_1).f2) t113 _ ?side1 ?side2 ?side3 ?side4 A8.out).mono ?_
       (case side1 => exact kc_ HR0_0 HB)
       (case side2 => exact HC0_0.out)
       (case side3 => exact kc_ HR0_1 HB)
       (case side4 => exact HC0_1.out)
       rintro e w11 ⟨rfl, hb⟩
       refine ⟨_, rfl, ?_⟩
       replace BK111 := bb_ BK111 hb
       replace HB := hb_ HB hb
       clear hb
       refine hK.out _ _ ⟨(bk0_ BK111 :), (bk1_ BK111 :), (rr_ HB hw112_0 :), (rr_ HB hw112_1 :), (rr_ HB hw112_2 :), (rr_ HB hw112_3 :), (rr_ HB hw112_4 :), (rr_ HB hw112_5 :), (rr_ HB hw112_6 :)⟩ (fun hHeld => ?_)
       clear hK K
       refine nz_ (some 22) ?_
       refine pz_ 8 (some 1) (bits_ 9 511) HT_.out ?_
       refine done_ (done_of HT_.out (by kernel_rfl)) ?_
       try go_wp2
       go_roundg k1
       case measure => have := HK1.out; omega
       case rel => exact ⟨(t113), (wrap64 (x5_1 + 1)), rf_, rf_, H', ⟨by have := HK1.out; omega⟩, ⟨gx_ BK111⟩, ⟨hf_⟩⟩
      ·rw [if_neg c7] at H
       exact absurd H (by simp)
     ·rw [if_neg c6] at H
      exact absurd H (by simp)
    ·rw [if_neg c5] at H
     have c5b0 := decide_eq_false c5
     clear c5
     by_cases c12 : x1_1 < 0
     ·rw [if_pos c12] at H
      have c12b0 := decide_eq_true c12
      clear c12
      obtain rfl := Option.some.inj H
      obtain ⟨hcz13_0, hcz13_1, hfz13_0, hfz13_1⟩ := bs2_ BK111
      go_wp2
      go_ret
      exact ⟨er_, hf_⟩
     ·rw [if_neg c12] at H
      have c12b0 := decide_eq_false c12
      clear c12
      by_cases c14 : x5_1 > (l0_1.length : Int)
      ·rw [if_pos c14] at H
       have c14b0 := decide_eq_true c14
       clear c14
       obtain rfl := Option.some.inj H
       obtain ⟨hcz15_0, hcz15_1, hfz15_0, hfz15_1⟩ := bs2_ BK111
       go_wp2
       go_ret
       exact ⟨er_, hf_⟩
      ·rw [if_neg c14] at H
       have c14b0 := decide_eq_false c14
       clear c14
       obtain rfl := Option.some.inj H
       obtain ⟨hcz16_0, hcz16_1, hfz16_0, hfz16_1⟩ := bs2_ BK111
       go_wp2
       go_ret
       exact ⟨er_, hf_⟩
   ·rw [if_neg c4] at H
    have c4b0 := decide_eq_false c4
    clear c4
    by_cases c17 : x1_1 < 0
    ·rw [if_pos c17] at H
     have c17b0 := decide_eq_true c17
     clear c17
     obtain rfl := Option.some.inj H
     go_wp2
     go_ret
     exact ⟨er_, hf_⟩
    ·rw [if_neg c17] at H
     have c17b0 := decide_eq_false c17
     clear c17
     by_cases c18 : x5_1 > (l0_1.length : Int)
     ·rw [if_pos c18] at H
      have c18b0 := decide_eq_true c18
      clear c18
      obtain rfl := Option.some.inj H
      obtain ⟨hcz19_0, hcz19_1, hfz19_0, hfz19_1⟩ := bs2_ BK111
      go_wp2
      go_ret
      exact ⟨er_, hf_⟩
     ·rw [if_neg c18] at H
      have c18b0 := decide_eq_false c18
      clear c18
      obtain rfl := Option.some.inj H
      obtain ⟨hcz20_0, hcz20_1, hfz20_0, hfz20_1⟩ := bs2_ BK111
      go_wp2
      go_ret
      exact ⟨er_, hf_⟩
mutual
def sentryref4_within.l0 : Nat → Int → ByteArray → Int → List ByteArray → List (S48) → Option (Bool)
 | 0, _, _, _, _, _ => none
 | k + 1, x1, x2, x7, x108000, x108001 => if x1 ≥ 0 then (sentryref4_within.j1 k x1 x2 x7 (decide (x7 ≤ (x108001.length : Int))) x108000 x108001) else (sentryref4_within.j1 k x1 x2 x7 false x108000 x108001)
def sentryref4_within.j1 : Nat → Int → ByteArray → Int → Bool → List ByteArray → List (S48) → Option (Bool)
 | 0, _, _, _, _, _, _ => none
 | k + 1, x1, x2, x7, x16, x108000, x108001 => if x16 = true then (if 0 ≤ x1 then (if x1 < (x108001.length : Int) then (if ((rd_T48 x108001 x1).f0).toList = x2.toList then (some true) else ((sentryref4_Place.f k x108000 x108001 ((rd_T48 x108001 x1).f2)).bind fun t110 => (sentryref4_within.l0 k t110 x2 (wrap64 (x7 + 1)) x108000 x108001))) else (none)) else (none)) else (some false)
end
def sentryref4_within.f (k : Nat) (l0_0 : List ByteArray) (l0_1 : List (S48)) (a1 : Int) (a2 : ByteArray) : Option (Bool) := sentryref4_within.l0 k a1 a2 0 l0_0 l0_1
theorem sentryref4_within.mono_l : ∀ k, (∀ y0 y1 y2 y3 y4, LeO (sentryref4_within.l0 k y0 y1 y2 y3 y4) (sentryref4_within.l0 (k + 1) y0 y1 y2 y3 y4)) ∧ (∀ y0 y1 y2 y3 y4 y5, LeO (sentryref4_within.j1 k y0 y1 y2 y3 y4 y5) (sentryref4_within.j1 (k + 1) y0 y1 y2 y3 y4 y5))
 | 0 => ⟨fun _ _ _ _ _ r h => by simp [sentryref4_within.l0] at h, fun _ _ _ _ _ _ r h => by simp [sentryref4_within.j1] at h⟩
 | k + 1 => by
  obtain ⟨ih0, ih1⟩ := sentryref4_within.mono_l k
  refine ⟨?_, ?_⟩
  intro y0 y1 y2 y3 y4
  unfold sentryref4_within.l0
  rotate_left
  intro y0 y1 y2 y3 y4 y5
  unfold sentryref4_within.j1
  rotate_left
  all_goals repeat' first
   | (with_reducible exact ih0 _ _ _ _ _)
   | (with_reducible exact ih1 _ _ _ _ _ _)
   | (with_reducible exact sentryref4_Place.mono _ _ _ _)
   | (with_reducible exact LeO.refl _)
   | (with_reducible exact LeO.none _)
   | (with_reducible refine LeO.ite ?_ ?_)
   | (with_reducible refine LeO.bind ?_ (fun _ => ?_))
   | exact ih0 _ _ _ _ _
   | exact ih1 _ _ _ _ _ _
   | exact sentryref4_Place.mono _ _ _ _
   | exact LeO.none _
   | refine LeO.ite ?_ ?_
   | refine LeO.bind ?_ (fun _ => ?_)
theorem sentryref4_within.mono : ∀ a0 a1 a2 a3 k, LeO (sentryref4_within.f k a0 a1 a2 a3) (sentryref4_within.f (k + 1) a0 a1 a2 a3) := by
 intro a0 a1 a2 a3 k
 obtain ⟨ih0, ih1⟩ := sentryref4_within.mono_l k
 unfold sentryref4_within.f
 repeat' first
  | (with_reducible exact ih0 _ _ _ _ _)
  | (with_reducible exact ih1 _ _ _ _ _ _)
  | (with_reducible exact sentryref4_Place.mono _ _ _ _)
  | (with_reducible exact LeO.refl _)
  | (with_reducible exact LeO.none _)
  | (with_reducible refine LeO.ite ?_ ?_)
  | (with_reducible refine LeO.bind ?_ (fun _ => ?_))
  | exact ih0 _ _ _ _ _
  | exact ih1 _ _ _ _ _ _
  | exact sentryref4_Place.mono _ _ _ _
  | exact LeO.none _
  | refine LeO.ite ?_ ?_
  | refine LeO.bind ?_ (fun _ => ?_)
def sentryref4_within.T6 : Bool × List (List Nat × List Nat) := (true, [([], []), ([], []), ([1], [1]), ([], []), ([2, 3], [2, 3]), ([4], [4]), ([5], [5]), ([0, 6], [0, 6]), ([7, 7, 0, 1, 2, 3, 4, 5, 6, 7], [3, 7])])
def sentryref4_within.B6 : List Nat := [0, 0, 2, 0, 14, 30, 62, 127, 255]
theorem sentryref4_within.tab6 : rtab .any (opsOf Try.f58 6) = sentryref4_within.T6 := by kernel_rfl
theorem sentryref4_within.bits6 : waitsOk sentryref4_within.T6.2 sentryref4_within.B6 = true := by kernel_rfl
set_option maxHeartbeats 8000000 in
set_option maxRecDepth 100000 in
theorem sentryref4_within.calls (k : Nat) (A0_0 : Option Addr) (c0_0 : Nat) (l0_0 : List ByteArray) (A0_1 : Option Addr) (c0_1 : Nat) (l0_1 : List (S48)) (a1 : Int) (a2 : ByteArray) (r : Bool) (w : World) (hr0_0 : Kd.C Kd.string w A0_0 l0_0.length l0_0) (hc0_0 : l0_0.length ≤ c0_0) (hr0_1 : Kd.C k48 w A0_1 l0_1.length l0_1) (hc0_1 : l0_1.length ≤ c0_1) (h : sentryref4_within.f k l0_0 l0_1 a1 a2 = some r) :
 Calls Try.prog 58 #[.agg #[.slice A0_0 l0_0.length c0_0, .slice A0_1 l0_1.length c0_1], .int .i64 a1, .string a2] w fun e w' => e = .returned (.bool r) ∧ Below w.heap.size w w' := by
 have hu25 := Try.underlying25
 have HR0_0 := Aside0.mk hr0_0
 have HC0_0 := Aside0.mk hc0_0
 clear hr0_0 hc0_0
 have HR0_1 := Aside0.mk hr0_1
 have HC0_1 := Aside0.mk hc0_1
 clear hr0_1 hc0_1
 have HB := Aside0.mk (Below.refl w.heap.size w)
 have H : (sentryref4_within.l0 k a1 a2 0 l0_0 l0_1) = some r := h
 clear h
 have H' := Aside0.mk H
 clear H
 go_enter Try.func58, Try.ntmps58
 go_wp2_with (first | ((with_reducible refine gate_dst (N := 3) rfl ?_); (try (refine gate_guard (by rfl) ?_; dsimp only)); refine bx_ 3 #[.slice A0_0 l0_0.length c0_0, .slice A0_1 l0_1.length c0_1] 25 ?_; intro gb107 hg w4 hbox hb; have BK107 := Aside0.mk (hbox); have GW107 := zz_ (w := w) hg; have GE107 := zz_ (w := w) hg; replace HB := hb_ HB hb;  clear hb hbox hg))
 go_loopg [1, 7] k (fun kq v1 v7 w' => ∃ (x1_1 : Int) (x7_1 : Int), v1 = .int .i64 x1_1 ∧ v7 = .int .i64 x7_1 ∧ Aside0 (sentryref4_within.l0 kq x1_1 a2 x7_1 l0_0 l0_1 = some r) ∧ Aside0 (kq ≤ k) ∧ Aside0 (w'.heap[gb107]? = some (.cells #[(.slice A0_0 l0_0.length c0_0), (.slice A0_1 l0_1.length c0_1)] 25 (0, 0))) ∧ Aside0 (Below w.heap.size w w'))
 case atStart => exact ⟨(a1), (0), rf_, rf_, H', ⟨Nat.le_refl _⟩, ⟨gx_ BK107⟩, ⟨hf_⟩⟩
 case round =>
  clear H'
  try clear p2
  obtain ⟨x1_1, x7_1, rfl, rfl, HA, HK1, BK107, HB⟩ := hrel
  cases gk with
  | zero => exact absurd HA.out (by simp [sentryref4_within.l0])
  | succ k1 =>
   have H := HA.out
   clear HA
   simp only [sentryref4_within.l0] at H
   have HC5 := Aside0.mk H
   clear H
   go_upto_region 2 with (fail)
   go_cut [16] (fun v16 wc => ∃ (kq : Nat) (x16_4 : Bool), v16 = .bool x16_4 ∧ Aside0 (sentryref4_within.j1 kq x1_1 a2 x7_1 x16_4 l0_0 l0_1 = some r) ∧ Aside0 (kq ≤ k1) ∧ Aside0 (wc.heap[gb107]? = some (.cells #[(.slice A0_0 l0_0.length c0_0), (.slice A0_1 l0_1.length c0_1)] 25 (0, 0))) ∧ Aside0 (Below w.heap.size w wc))
   case first =>
    have H := HC5.out
    clear HC5
    by_cases c6 : x1_1 ≥ 0
    ·rw [if_pos c6] at H
     have c6b0 := decide_eq_true c6
     clear c6
     (first | rw [c6b0] | (simp only [i64_w, i32_w]; rw [c6b0]) | skip)
     have H' := Aside0.mk H
     clear H
     obtain ⟨hcz7_0, hcz7_1, hfz7_0, hfz7_1⟩ := bs2_ BK107
     go_wp2
     go_meet
     case rel => exact ⟨_, (decide (x7_1 ≤ (l0_1.length : Int))), rf_, H', ⟨by have := HK1.out; first | omega | exact Nat.le_refl _⟩, ⟨gx_ BK107⟩, ⟨hf_⟩⟩
    ·rw [if_neg c6] at H
     have c6b0 := decide_eq_false c6
     clear c6
     (first | rw [c6b0] | (simp only [i64_w, i32_w]; rw [c6b0]) | skip)
     have H' := Aside0.mk H
     clear H
     go_wp2
     go_meet
     case rel => exact ⟨_, (false), rf_, H', ⟨by have := HK1.out; first | omega | exact Nat.le_refl _⟩, ⟨gx_ BK107⟩, ⟨hf_⟩⟩
   case rest =>
    clear HC5
    obtain ⟨kq, x16_4, rfl, HA, HJ4, BK107, HB⟩ := hcut
    cases kq with
    | zero => exact absurd HA.out (by simp [sentryref4_within.j1])
    | succ kj4 =>
     have H := HA.out
     clear HA
     simp only [sentryref4_within.j1] at H
     by_cases c8 : x16_4 = true
     ·subst c8
      have H1 : (if 0 ≤ x1_1 then (if x1_1 < (l0_1.length : Int) then (if ((rd_T48 l0_1 x1_1).f0).toList = a2.toList then (some true) else ((sentryref4_Place.f kj4 l0_0 l0_1 ((rd_T48 l0_1 x1_1).f2)).bind fun t110 => (sentryref4_within.l0 kj4 t110 a2 (wrap64 (x7_1 + 1)) l0_0 l0_1))) else (none)) else (none)) = some r := by rw [if_pos rfl] at H; exact H
      clear H
      have H := H1
      clear H1
      by_cases c9 : 0 ≤ x1_1
      ·rw [if_pos c9] at H
       have c9b0 := decide_eq_true c9
       clear c9
       by_cases c10 : x1_1 < (l0_1.length : Int)
       ·rw [if_pos c10] at H
        have c10b0 := decide_eq_true c10
        clear c10
        by_cases c11 : ((rd_T48 l0_1 x1_1).f0).toList = a2.toList
        ·rw [if_pos c11] at H
         have c11b0 : (((rd_T48 l0_1 x1_1).f0).toList == a2.toList) = true := beq_iff_eq.mpr c11
         have c11b1 : (((rd_T48 l0_1 x1_1).f0).toList != a2.toList) = false := bne_eq_false_iff_eq.mpr c11
         clear c11
         obtain rfl := Option.some.inj H
         obtain ⟨hcz12_0, hcz12_1, hfz12_0, hfz12_1⟩ := bs2_ BK107
         obtain ⟨ad108, A108_5, c108_5, A108_6, c108_6, e108, hx108_0, hx108_1, hx108_2, hx108_3, hx108_4, hx108_5, hx108_6, HC108_5, HR108_5, HC108_6, HR108_6, p108, q108⟩ := au_T48 HR0_1 HB (x1_1)
         cases e108
         go_wp2
         go_ret
         exact ⟨er_, hf_⟩
        ·rw [if_neg c11] at H
         have c11b0 : (((rd_T48 l0_1 x1_1).f0).toList == a2.toList) = false := beq_eq_false_iff_ne.mpr c11
         have c11b1 : (((rd_T48 l0_1 x1_1).f0).toList != a2.toList) = true := bne_iff_ne.mpr c11
         replace H := Option.bind_eq_some_iff.mp H
         obtain ⟨t110, A130, H⟩ := H
         have A13 := Aside0.mk A130
         clear A130
         have H' := Aside0.mk H
         clear H
         obtain ⟨hcz14_0, hcz14_1, hfz14_0, hfz14_1⟩ := bs2_ BK107
         obtain ⟨ad108, A108_5, c108_5, A108_6, c108_6, e108, hx108_0, hx108_1, hx108_2, hx108_3, hx108_4, hx108_5, hx108_6, HC108_5, HR108_5, HC108_6, HR108_6, p108, q108⟩ := au_T48 HR0_1 HB (x1_1)
         cases e108
         try go_wp2
         replace BK107 := Aside0.mk (blk_drew BK107.out)
         replace HB := Aside0.mk (below_drew1 HB.out)
         have p109 : 0 ≤ (x1_1 : Int) := od_
         have q109 : x1_1 < (l0_1.length : Int) := od_
         obtain ⟨ad109, A109_5, c109_5, A109_6, c109_6, e109, hx109_0, hx109_1, hx109_2, hx109_3, hx109_4, hx109_5, hx109_6, hl109_5, hi109_5, hl109_6, hi109_6⟩ := at_T48 HR0_1.out x1_1 p109 q109
         have hw109_6 := hx109_6
         have hw109_5 := hx109_5
         have hw109_4 := hx109_4
         have hw109_3 := hx109_3
         have hw109_2 := hx109_2
         have hw109_1 := hx109_1
         have hw109_0 := hx109_0
         obtain rfl : ad108 = ad109 := (by injection e109)
         replace hx109_0 := rr_ HB hx109_0
         replace hx109_1 := rr_ HB hx109_1
         replace hx109_2 := rr_ HB hx109_2
         replace hx109_3 := rr_ HB hx109_3
         replace hx109_4 := rr_ HB hx109_4
         replace hx109_5 := rr_ HB hx109_5
         replace hx109_6 := rr_ HB hx109_6
         have HR109_5 := Aside0.mk hi109_5
         have HC109_5 := Aside0.mk hl109_5
         clear hi109_5 hl109_5
         have HR109_6 := Aside0.mk hi109_6
         have HC109_6 := Aside0.mk hl109_6
         clear hi109_6 hl109_6
         replace p109 := eq_true p109
         replace q109 := eq_true q109
         refine start_ (n := 9) (S := fun w' => w'.cell? ⟨gb107, 0, none⟩ = some (.slice A0_0 l0_0.length c0_0) ∧ w'.cell? ⟨gb107, 1, none⟩ = some (.slice (some ad108) l0_1.length c0_1) ∧ w'.cell? (ad108.add ((x1_1).toNat * 7)) = some (.string ((rd_T48 l0_1 x1_1).f0)) ∧ w'.cell? ⟨(ad108.add ((x1_1).toNat * 7)).block, (ad108.add ((x1_1).toNat * 7)).off + 1, none⟩ = some (.int .i64 ((rd_T48 l0_1 x1_1).f1)) ∧ w'.cell? ⟨(ad108.add ((x1_1).toNat * 7)).block, (ad108.add ((x1_1).toNat * 7)).off + 2, none⟩ = some (.string ((rd_T48 l0_1 x1_1).f2)) ∧ w'.cell? ⟨(ad108.add ((x1_1).toNat * 7)).block, (ad108.add ((x1_1).toNat * 7)).off + 3, none⟩ = some (.bool ((rd_T48 l0_1 x1_1).f3)) ∧ w'.cell? ⟨(ad108.add ((x1_1).toNat * 7)).block, (ad108.add ((x1_1).toNat * 7)).off + 4, none⟩ = some (.int .i64 ((rd_T48 l0_1 x1_1).f4)) ∧ w'.cell? ⟨(ad108.add ((x1_1).toNat * 7)).block, (ad108.add ((x1_1).toNat * 7)).off + 5, none⟩ = some (.slice A109_5 ((rd_T48 l0_1 x1_1).f5).length c109_5) ∧ w'.cell? ⟨(ad108.add ((x1_1).toNat * 7)).block, (ad108.add ((x1_1).toNat * 7)).off + 6, none⟩ = some (.slice A109_6 ((rd_T48 l0_1 x1_1).f6).length c109_6)) (ds := []) (bits_ 9 0) (by kernel_rfl) rfl rfl ⟨(bk0_ BK107 :), (bk1_ BK107 :), (rr_ HB hw109_0 :), (rr_ HB hw109_1 :), (rr_ HB hw109_2 :), (rr_ HB hw109_3 :), (rr_ HB hw109_4 :), (rr_ HB hw109_5 :), (rr_ HB hw109_6 :)⟩ (fun hHeld => ?_); refine with_tabW sentryref4_within.tab6 sentryref4_within.bits6 (fun HT_ HW_ => ?_)
         generalize wc.drew = w15 at BK107 HB HR109_5 HR109_6 hx109_0 hx109_1 hx109_2 hx109_3 hx109_4 hx109_5 hx109_6 hHeld ⊢
         refine pz_ 1 (some 28) (bits_ 9 2) HT_.out ?_
         refine pz_ 3 (some 30) (bits_ 9 10) HT_.out ?_
         refine tz_ 0 (some 27) (bits_ 9 11) HT_.out HW_.out hHeld ?_ (hy := by rintro w' ⟨s0, s1, s2, s3, s4, s5, s6, s7, s8⟩; go_simp; with_reducible rfl)
         refine tz_ 2 (some 29) (bits_ 9 15) HT_.out HW_.out hHeld ?_ (hy := by rintro w' ⟨s0, s1, s2, s3, s4, s5, s6, s7, s8⟩; go_simp; with_reducible rfl)
         refine pz_ 4 (some 31) (bits_ 9 31) HT_.out ?_
         refine pz_ 5 (some 32) (bits_ 9 63) HT_.out ?_
         refine tz_ 6 (some 33) (bits_ 9 127) HT_.out HW_.out hHeld ?_ (hy := by rintro w' ⟨s0, s1, s2, s3, s4, s5, s6, s7, s8⟩; go_simp; with_reducible rfl)
         refine oz_ 7 (some 34) (bits_ 9 255) HT_.out (fun K hK => ?_)
         refine go_s_ Try.func54 #[.agg #[.slice A0_0 l0_0.length c0_0, .slice (some ad108) l0_1.length c0_1], .string ((rd_T48 l0_1 x1_1).f2)] ?_
         with_reducible refine (sentryref4_Place.calls kj4 _ _ l0_0 _ _ l0_1 ((rd_T48 l0_1 x1_1).f2) t110 _ ?side1 ?side2 ?side3 ?side4 A13.out).mono ?_
         (case side1 => exact kc_ HR0_0 HB)
         (case side2 => exact HC0_0.out)
         (case side3 => exact kc_ HR0_1 HB)
         (case side4 => exact HC0_1.out)
         rintro e w16 ⟨rfl, hb⟩
         refine ⟨_, rfl, ?_⟩
         replace BK107 := bb_ BK107 hb
         replace HB := hb_ HB hb
         clear hb
         refine hK.out _ _ ⟨(bk0_ BK107 :), (bk1_ BK107 :), (rr_ HB hw109_0 :), (rr_ HB hw109_1 :), (rr_ HB hw109_2 :), (rr_ HB hw109_3 :), (rr_ HB hw109_4 :), (rr_ HB hw109_5 :), (rr_ HB hw109_6 :)⟩ (fun hHeld => ?_)
         clear hK K
         refine nz_ (some 34) ?_
         refine pz_ 8 (some 1) (bits_ 9 511) HT_.out ?_
         refine done_ (done_of HT_.out (by kernel_rfl)) ?_
         try go_wp2
         go_roundg kj4
         case measure => have := HK1.out; have := HJ4.out; omega
         case rel => exact ⟨(t110), (wrap64 (x7_1 + 1)), rf_, rf_, H', ⟨by have := HK1.out; have := HJ4.out; omega⟩, ⟨gx_ BK107⟩, ⟨hf_⟩⟩
       ·rw [if_neg c10] at H
        exact absurd H (by simp)
      ·rw [if_neg c9] at H
       exact absurd H (by simp)
     ·replace c8 := Bool.eq_false_iff.mpr c8
      subst c8
      have H1 : (some false) = some r := by rw [if_neg (show ¬ (false = true) by decide)] at H; exact H
      clear H
      have H := H1
      clear H1
      obtain rfl := Option.some.inj H
      go_wp2
      go_ret
      exact ⟨er_, hf_⟩
end Go.Proofs.Ytaiglhfmmdajdaa.Pm
end
