/- The law XlateLong: for every input the call answers true, and the input reads as it did. No condition. (Walks and laws of several texts, merged, and what is not used struck, by a program.) -/
import Derived.Test.YteddgedacjdjgaaMXlateLong0
import Derived.Test.YteddgedacjdjgaaMXlateLong1
import Derived.Test.YteddgedacjdjgaaMXlateLong3
import Derived.Lib.Hide
import Derived.Test.YteddgedacjdjgaaMXlateLong5
import Derived.Test.YteddgedacjdjgaaMXlateLong4
import Derived.Below
import Derived.ChangeOld
import Derived.ChangeSlices
import Derived.OpenShut
import Derived.ProofKit
import Derived.ShutString
import Derived.SizedLaws
import Derived.Test.YteddgedacjdjgaaRows
import Derived.WalkKit
section
namespace Go.Proofs.Yteddgedacjdjgaa.Pm
open Go.RowKit Go.Proofs.YteddgedacjdjgaaW.PrintWords Go.Proofs.YteddgedacjdjgaaW.PrintLast Go.Proofs.YteddgedacjdjgaaW.PrintMore
attribute [local go_sem] max2_int min2_int max_two min_two max_three min_three max_four min_four   -- for this text's walks alone
set_option linter.unusedVariables false
set_option linter.unusedSimpArgs false
mutual
def q13.l0 : Nat → Int → Int → List ByteArray → List (S41) → Option (Bool)
 | 0, _, _, _, _ => none
 | k + 1, x3, x4, x183000, x183001 => if x4 < (x183001.length : Int) then (q13.j1 k x3 x4 (decide (x3 < 400)) x183000 x183001) else (q13.j1 k x3 x4 false x183000 x183001)
def q13.j1 : Nat → Int → Int → Bool → List ByteArray → List (S41) → Option (Bool)
 | 0, _, _, _, _, _ => none
 | k + 1, x3, x4, x23, x183000, x183001 => if x23 = true then (if 0 ≤ x4 then (if x4 < (x183001.length : Int) then (q13.l1 k (wrap64 ((wrap64 ((wrap64 ((wrap64 (x3 + (((q74 x183001 x4).f5).length : Int))) + (((q74 x183001 x4).f6).length : Int))) + (wrap64 ((((q74 x183001 x4).f0).size : Int) / 50)))) + (wrap64 ((((q74 x183001 x4).f2).size : Int) / 50)))) x4 0 x183000 x183001 ((q74 x183001 x4).f0) ((q74 x183001 x4).f1) ((q74 x183001 x4).f2) ((q74 x183001 x4).f3) ((q74 x183001 x4).f4) ((q74 x183001 x4).f5) ((q74 x183001 x4).f6)) else (none)) else (none)) else (some (decide (x3 ≥ 400)))
def q13.j3 : Nat → Int → Int → List ByteArray → List (S41) → ByteArray → Int → ByteArray → Bool → Int → List (S45) → List (S45) → Option (Bool)
 | 0, _, _, _, _, _, _, _, _, _, _, _ => none
 | k + 1, x3, x4, x183000, x183001, x185000, x185001, x185002, x185003, x185004, x185005, x185006 => q13.l2 k x3 x4 0 x183000 x183001 x185000 x185001 x185002 x185003 x185004 x185005 x185006
def q13.l2 : Nat → Int → Int → Int → List ByteArray → List (S41) → ByteArray → Int → ByteArray → Bool → Int → List (S45) → List (S45) → Option (Bool)
 | 0, _, _, _, _, _, _, _, _, _, _, _, _ => none
 | k + 1, x3, x4, x7, x183000, x183001, x185000, x185001, x185002, x185003, x185004, x185005, x185006 => if x7 < (x185006.length : Int) then (if x3 < 400 then (if 0 ≤ x7 then (q13.l2 k (wrap64 ((wrap64 (x3 + (((q75 x185006 x7).f0).length : Int))) + (((q75 x185006 x7).f1).length : Int))) x4 (wrap64 (x7 + 1)) x183000 x183001 x185000 x185001 x185002 x185003 x185004 x185005 x185006) else (none)) else (q13.l0 k x3 (wrap64 (x4 + 1)) x183000 x183001)) else (q13.l0 k x3 (wrap64 (x4 + 1)) x183000 x183001)
def q13.l1 : Nat → Int → Int → Int → List ByteArray → List (S41) → ByteArray → Int → ByteArray → Bool → Int → List (S45) → List (S45) → Option (Bool)
 | 0, _, _, _, _, _, _, _, _, _, _, _, _ => none
 | k + 1, x3, x4, x6, x183000, x183001, x185000, x185001, x185002, x185003, x185004, x185005, x185006 => if x6 < (x185005.length : Int) then (if x3 < 400 then (if 0 ≤ x6 then (q13.l1 k (wrap64 ((wrap64 (x3 + (((q75 x185005 x6).f0).length : Int))) + (((q75 x185005 x6).f1).length : Int))) x4 (wrap64 (x6 + 1)) x183000 x183001 x185000 x185001 x185002 x185003 x185004 x185005 x185006) else (none)) else (q13.j3 k x3 x4 x183000 x183001 x185000 x185001 x185002 x185003 x185004 x185005 x185006)) else (q13.j3 k x3 x4 x183000 x183001 x185000 x185001 x185002 x185003 x185004 x185005 x185006)
end
def q13.f (k : Nat) (l0_0 : List ByteArray) (l0_1 : List (S41)) : Option (Bool) := q13.l0 k (wrap64 ((l0_0.length : Int) + (l0_1.length : Int))) 0 l0_0 l0_1
theorem q13.mono_l : ∀ k, (∀ y0 y1 y2 y3, LeO (q13.l0 k y0 y1 y2 y3) (q13.l0 (k + 1) y0 y1 y2 y3)) ∧ (∀ y0 y1 y2 y3 y4, LeO (q13.j1 k y0 y1 y2 y3 y4) (q13.j1 (k + 1) y0 y1 y2 y3 y4)) ∧ (∀ y0 y1 y2 y3 y4 y5 y6 y7 y8 y9 y10, LeO (q13.j3 k y0 y1 y2 y3 y4 y5 y6 y7 y8 y9 y10) (q13.j3 (k + 1) y0 y1 y2 y3 y4 y5 y6 y7 y8 y9 y10)) ∧ (∀ y0 y1 y2 y3 y4 y5 y6 y7 y8 y9 y10 y11, LeO (q13.l2 k y0 y1 y2 y3 y4 y5 y6 y7 y8 y9 y10 y11) (q13.l2 (k + 1) y0 y1 y2 y3 y4 y5 y6 y7 y8 y9 y10 y11)) ∧ (∀ y0 y1 y2 y3 y4 y5 y6 y7 y8 y9 y10 y11, LeO (q13.l1 k y0 y1 y2 y3 y4 y5 y6 y7 y8 y9 y10 y11) (q13.l1 (k + 1) y0 y1 y2 y3 y4 y5 y6 y7 y8 y9 y10 y11))
 | 0 => ⟨fun _ _ _ _ r h => by simp [q13.l0] at h, fun _ _ _ _ _ r h => by simp [q13.j1] at h, fun _ _ _ _ _ _ _ _ _ _ _ r h => by simp [q13.j3] at h, fun _ _ _ _ _ _ _ _ _ _ _ _ r h => by simp [q13.l2] at h, fun _ _ _ _ _ _ _ _ _ _ _ _ r h => by simp [q13.l1] at h⟩
 | k + 1 => by
  obtain ⟨ih0, ih1, ih2, ih3, ih4⟩ := q13.mono_l k
  refine ⟨?_, ?_, ?_, ?_, ?_⟩
  intro y0 y1 y2 y3
  unfold q13.l0
  rotate_left
  intro y0 y1 y2 y3 y4
  unfold q13.j1
  rotate_left
  intro y0 y1 y2 y3 y4 y5 y6 y7 y8 y9 y10
  unfold q13.j3
  rotate_left
  intro y0 y1 y2 y3 y4 y5 y6 y7 y8 y9 y10 y11
  unfold q13.l2
  rotate_left
  intro y0 y1 y2 y3 y4 y5 y6 y7 y8 y9 y10 y11
  unfold q13.l1
  rotate_left
  all_goals repeat' first
   | (with_reducible exact ih0 _ _ _ _)
   | (with_reducible exact ih1 _ _ _ _ _)
   | (with_reducible exact ih2 _ _ _ _ _ _ _ _ _ _ _)
   | (with_reducible exact ih3 _ _ _ _ _ _ _ _ _ _ _ _)
   | (with_reducible exact ih4 _ _ _ _ _ _ _ _ _ _ _ _)
   | (with_reducible exact LeO.refl _)
   | (with_reducible exact LeO.none _)
   | (with_reducible refine LeO.ite ?_ ?_)
   | (with_reducible refine LeO.bind ?_ (fun _ => ?_))
   | exact ih0 _ _ _ _
   | exact ih1 _ _ _ _ _
   | exact ih2 _ _ _ _ _ _ _ _ _ _ _
   | exact ih3 _ _ _ _ _ _ _ _ _ _ _ _
   | exact ih4 _ _ _ _ _ _ _ _ _ _ _ _
   | exact LeO.none _
   | refine LeO.ite ?_ ?_
   | refine LeO.bind ?_ (fun _ => ?_)
theorem q13.mono : ∀ a0 a1 k, LeO (q13.f k a0 a1) (q13.f (k + 1) a0 a1) := by
 intro a0 a1 k
 obtain ⟨ih0, ih1, ih2, ih3, ih4⟩ := q13.mono_l k
 unfold q13.f
 repeat' first
  | (with_reducible exact ih0 _ _ _ _)
  | (with_reducible exact ih1 _ _ _ _ _)
  | (with_reducible exact ih2 _ _ _ _ _ _ _ _ _ _ _)
  | (with_reducible exact ih3 _ _ _ _ _ _ _ _ _ _ _ _)
  | (with_reducible exact ih4 _ _ _ _ _ _ _ _ _ _ _ _)
  | (with_reducible exact LeO.refl _)
  | (with_reducible exact LeO.none _)
  | (with_reducible refine LeO.ite ?_ ?_)
  | (with_reducible refine LeO.bind ?_ (fun _ => ?_))
  | exact ih0 _ _ _ _
  | exact ih1 _ _ _ _ _
  | exact ih2 _ _ _ _ _ _ _ _ _ _ _
  | exact ih3 _ _ _ _ _ _ _ _ _ _ _ _
  | exact ih4 _ _ _ _ _ _ _ _ _ _ _ _
  | exact LeO.none _
  | refine LeO.ite ?_ ?_
  | refine LeO.bind ?_ (fun _ => ?_)
set_option maxHeartbeats 8000000 in
set_option maxRecDepth 100000 in
theorem q13.calls (k : Nat) (A0_0 : Option Addr) (c0_0 : Nat) (l0_0 : List ByteArray) (A0_1 : Option Addr) (c0_1 : Nat) (l0_1 : List (S41)) (r : Bool) (w : World) (hr0_0 : Kd.C Kd.string w A0_0 l0_0.length l0_0) (hc0_0 : l0_0.length ≤ c0_0) (hr0_1 : Kd.C k41 w A0_1 l0_1.length l0_1) (hc0_1 : l0_1.length ≤ c0_1) (h : q13.f k l0_0 l0_1 = some r) :
 Calls Try.prog 6 #[.agg #[.slice A0_0 l0_0.length c0_0, .slice A0_1 l0_1.length c0_1]] w fun e w' => e = .returned (.bool r) ∧ Below w.heap.size w w' := by
 have hu25 := Try.underlying25
 have hu41 := Try.underlying41
 have HR0_0 := q49.mk hr0_0
 have HC0_0 := q49.mk hc0_0
 clear hr0_0 hc0_0
 have HR0_1 := q49.mk hr0_1
 have HC0_1 := q49.mk hc0_1
 clear hr0_1 hc0_1
 have HB := q49.mk (Below.refl w.heap.size w)
 have H : (q13.l0 k (wrap64 ((l0_0.length : Int) + (l0_1.length : Int))) 0 l0_0 l0_1) = some r := h
 clear h
 have H' := q49.mk H
 clear H
 go_enter Try.func6, Try.ntmps6
 go_wp2_with (first | ((with_reducible refine q64 (N := 1) rfl ?_); refine bx_ 1 #[.slice A0_0 l0_0.length c0_0, .slice A0_1 l0_1.length c0_1] 25 ?_; intro gb182 hg w2 hbox hb; have BK182 := q49.mk (hbox); have GW182 := zz_ (w := w) hg; have GE182 := zz_ (w := w) hg; replace HB := hb_ HB hb;  clear hb hbox hg; obtain ⟨hcz3_0, hcz3_1, hfz3_0, hfz3_1⟩ := bs2_ BK182))
 repeat (go_quiet (first | ((with_reducible refine q64 (N := 1) rfl ?_); refine bx_ 1 #[.slice A0_0 l0_0.length c0_0, .slice A0_1 l0_1.length c0_1] 25 ?_; intro gb182 hg w2 hbox hb; have BK182 := q49.mk (hbox); have GW182 := zz_ (w := w) hg; have GE182 := zz_ (w := w) hg; replace HB := hb_ HB hb;  clear hb hbox hg; obtain ⟨hcz3_0, hcz3_1, hfz3_0, hfz3_1⟩ := bs2_ BK182)); try go_wp2_with (first | ((with_reducible refine q64 (N := 1) rfl ?_); refine bx_ 1 #[.slice A0_0 l0_0.length c0_0, .slice A0_1 l0_1.length c0_1] 25 ?_; intro gb182 hg w2 hbox hb; have BK182 := q49.mk (hbox); have GW182 := zz_ (w := w) hg; have GE182 := zz_ (w := w) hg; replace HB := hb_ HB hb;  clear hb hbox hg; obtain ⟨hcz3_0, hcz3_1, hfz3_0, hfz3_1⟩ := bs2_ BK182)))
 go_loopg [3, 4] k (fun kq v3 v4 w' => ∃ (x3_1 : Int) (x4_1 : Int), v3 = .int .i64 x3_1 ∧ v4 = .int .i64 x4_1 ∧ q49 (q13.l0 kq x3_1 x4_1 l0_0 l0_1 = some r) ∧ q49 (kq ≤ k) ∧ q49 (w'.heap[gb182]? = some (.cells #[(.slice A0_0 l0_0.length c0_0), (.slice A0_1 l0_1.length c0_1)] 25 (0, 0))) ∧ q49 (Below w.heap.size w w'))
 case atStart => exact ⟨(wrap64 ((l0_0.length : Int) + (l0_1.length : Int))), (0), rf_, rf_, H', ⟨Nat.le_refl _⟩, ⟨gx_ BK182⟩, ⟨hf_⟩⟩
 case round =>
  clear H'
  (try clear hcz3_0); (try clear hcz3_1); (try clear hfz3_0); (try clear hfz3_1)
  obtain ⟨x3_1, x4_1, rfl, rfl, HA, HK1, BK182, HB⟩ := hrel
  cases gk with
  | zero => exact absurd HA.out (by simp [q13.l0])
  | succ k1 =>
   have H := HA.out
   clear HA
   simp only [q13.l0] at H
   have HC4 := q49.mk H
   clear H
   go_upto_region 3 with (fail)
   repeat (go_quiet (fail); go_upto_region 3 with (fail))
   go_cut [23] (fun v23 wc => ∃ (kq : Nat) (x23_3 : Bool), v23 = .bool x23_3 ∧ q49 (q13.j1 kq x3_1 x4_1 x23_3 l0_0 l0_1 = some r) ∧ q49 (kq ≤ k1) ∧ q49 (wc.heap[gb182]? = some (.cells #[(.slice A0_0 l0_0.length c0_0), (.slice A0_1 l0_1.length c0_1)] 25 (0, 0))) ∧ q49 (Below w.heap.size w wc))
   case first =>
    have H := HC4.out
    clear HC4
    by_cases c5 : x4_1 < (l0_1.length : Int)
    ·rw [if_pos c5] at H
     have c5b0 := decide_eq_true c5
     clear c5
     (first | rw [c5b0] | (simp only [i64_w, i32_w]; rw [c5b0]) | skip)
     have H' := q49.mk H
     clear H
     obtain ⟨hcz6_0, hcz6_1, hfz6_0, hfz6_1⟩ := bs2_ BK182
     go_wp2
     repeat (go_quiet (fail); try go_wp2)
     go_meet
     case rel => exact ⟨_, (decide (x3_1 < 400)), rf_, H', ⟨by have := HK1.out; first | omega | exact Nat.le_refl _⟩, ⟨gx_ BK182⟩, ⟨hf_⟩⟩
    ·rw [if_neg c5] at H
     have c5b0 := decide_eq_false c5
     clear c5
     (first | rw [c5b0] | (simp only [i64_w, i32_w]; rw [c5b0]) | skip)
     have H' := q49.mk H
     clear H
     obtain ⟨hcz7_0, hcz7_1, hfz7_0, hfz7_1⟩ := bs2_ BK182
     go_wp2
     repeat (go_quiet (fail); try go_wp2)
     go_meet
     case rel => exact ⟨_, (false), rf_, H', ⟨by have := HK1.out; first | omega | exact Nat.le_refl _⟩, ⟨gx_ BK182⟩, ⟨hf_⟩⟩
   case rest =>
    clear HC4
    obtain ⟨kq, x23_3, rfl, HA, HJ3, BK182, HB⟩ := hcut
    cases kq with
    | zero => exact absurd HA.out (by simp [q13.j1])
    | succ kj3 =>
     have H := HA.out
     clear HA
     simp only [q13.j1] at H
     by_cases c8 : x23_3 = true
     ·subst c8
      have H1 : (if 0 ≤ x4_1 then (if x4_1 < (l0_1.length : Int) then (q13.l1 kj3 (wrap64 ((wrap64 ((wrap64 ((wrap64 (x3_1 + (((q74 l0_1 x4_1).f5).length : Int))) + (((q74 l0_1 x4_1).f6).length : Int))) + (wrap64 ((((q74 l0_1 x4_1).f0).size : Int) / 50)))) + (wrap64 ((((q74 l0_1 x4_1).f2).size : Int) / 50)))) x4_1 0 l0_0 l0_1 ((q74 l0_1 x4_1).f0) ((q74 l0_1 x4_1).f1) ((q74 l0_1 x4_1).f2) ((q74 l0_1 x4_1).f3) ((q74 l0_1 x4_1).f4) ((q74 l0_1 x4_1).f5) ((q74 l0_1 x4_1).f6)) else (none)) else (none)) = some r := by rw [if_pos rfl] at H; exact H
      clear H
      have H := H1
      clear H1
      by_cases c9 : 0 ≤ x4_1
      ·rw [if_pos c9] at H
       have c9b0 := decide_eq_true c9
       clear c9
       by_cases c10 : x4_1 < (l0_1.length : Int)
       ·rw [if_pos c10] at H
        have c10b0 := decide_eq_true c10
        clear c10
        have HC11 := q49.mk H
        clear H
        obtain ⟨hcz12_0, hcz12_1, hfz12_0, hfz12_1⟩ := bs2_ BK182
        obtain ⟨ad183, A183_5, c183_5, A183_6, c183_6, e183, hx183_0, hx183_1, hx183_2, hx183_3, hx183_4, hx183_5, hx183_6, HC183_5, HR183_5, HC183_6, HR183_6, p183, q183⟩ := au_T41 HR0_1 HB (x4_1)
        cases e183
        go_upto_block 2 with (first | ((with_reducible refine q64 (N := 5) rfl ?_); refine bx_ 5 #[.string (⟨#[]⟩ : ByteArray), .int .i64 0, .string (⟨#[]⟩ : ByteArray), .bool false, .int .i64 0, .slice none 0 0, .slice none 0 0] 41 ?_; intro gb184 hg w13 hbox hb; have BK184 := q49.mk (hbox); have GW184 := zz_ (w := w) hg; have GE184 := zz_ (w := w) hg; replace HB := hb_ HB hb; have NB182_184 := ne1_ hg BK182; have NB184_182 := ne2_ hg BK182; replace BK182 := bb_ BK182 hb;  clear hb hbox hg; have hnb14 := NB184_182.out; have hnc14 := NB182_184.out; obtain ⟨hcz15_0, hcz15_1, hcz15_2, hcz15_3, hcz15_4, hcz15_5, hcz15_6, hfz15_0, hfz15_1, hfz15_2, hfz15_3, hfz15_4, hfz15_5, hfz15_6⟩ := bs7_ BK184))
        repeat (go_quiet (first | ((with_reducible refine q64 (N := 5) rfl ?_); refine bx_ 5 #[.string (⟨#[]⟩ : ByteArray), .int .i64 0, .string (⟨#[]⟩ : ByteArray), .bool false, .int .i64 0, .slice none 0 0, .slice none 0 0] 41 ?_; intro gb184 hg w13 hbox hb; have BK184 := q49.mk (hbox); have GW184 := zz_ (w := w) hg; have GE184 := zz_ (w := w) hg; replace HB := hb_ HB hb; have NB182_184 := ne1_ hg BK182; have NB184_182 := ne2_ hg BK182; replace BK182 := bb_ BK182 hb;  clear hb hbox hg; have hnb14 := NB184_182.out; have hnc14 := NB182_184.out; obtain ⟨hcz15_0, hcz15_1, hcz15_2, hcz15_3, hcz15_4, hcz15_5, hcz15_6, hfz15_0, hfz15_1, hfz15_2, hfz15_3, hfz15_4, hfz15_5, hfz15_6⟩ := bs7_ BK184)); go_upto_block 2 with (first | ((with_reducible refine q64 (N := 5) rfl ?_); refine bx_ 5 #[.string (⟨#[]⟩ : ByteArray), .int .i64 0, .string (⟨#[]⟩ : ByteArray), .bool false, .int .i64 0, .slice none 0 0, .slice none 0 0] 41 ?_; intro gb184 hg w13 hbox hb; have BK184 := q49.mk (hbox); have GW184 := zz_ (w := w) hg; have GE184 := zz_ (w := w) hg; replace HB := hb_ HB hb; have NB182_184 := ne1_ hg BK182; have NB184_182 := ne2_ hg BK182; replace BK182 := bb_ BK182 hb;  clear hb hbox hg; have hnb14 := NB184_182.out; have hnc14 := NB182_184.out; obtain ⟨hcz15_0, hcz15_1, hcz15_2, hcz15_3, hcz15_4, hcz15_5, hcz15_6, hfz15_0, hfz15_1, hfz15_2, hfz15_3, hfz15_4, hfz15_5, hfz15_6⟩ := bs7_ BK184)))
        (try simp only [Act.put, List.setIfInBounds_toArray, List.set_cons_zero, List.set_cons_succ])
        go_cut [3] (fun v3 wc => ∃ (kq : Nat) (x3_10 : Int), v3 = .int .i64 x3_10 ∧ q49 (q13.j3 kq x3_10 x4_1 l0_0 l0_1 ((q74 l0_1 x4_1).f0) ((q74 l0_1 x4_1).f1) ((q74 l0_1 x4_1).f2) ((q74 l0_1 x4_1).f3) ((q74 l0_1 x4_1).f4) ((q74 l0_1 x4_1).f5) ((q74 l0_1 x4_1).f6) = some r) ∧ q49 (kq ≤ kj3) ∧ q49 (wc.heap[gb182]? = some (.cells #[(.slice A0_0 l0_0.length c0_0), (.slice (some ad183) l0_1.length c0_1)] 25 (0, 0))) ∧ q49 (wc.heap[gb184]? = some (.cells #[.string ((q74 l0_1 x4_1).f0), .int .i64 ((q74 l0_1 x4_1).f1), .string ((q74 l0_1 x4_1).f2), .bool ((q74 l0_1 x4_1).f3), .int .i64 ((q74 l0_1 x4_1).f4), (.slice A183_5 ((q74 l0_1 x4_1).f5).length c183_5), (.slice A183_6 ((q74 l0_1 x4_1).f6).length c183_6)] 41 (0, 0))) ∧ q49 (Below w.heap.size w wc))
        case first =>
         have H := HC11.out
         clear HC11
         have H' := q49.mk H
         clear H
         go_wp2
         repeat (go_quiet (fail); try go_wp2)
         go_loopg [3, 6] kj3 (fun kq v3 v6 w' => ∃ (x3_3 : Int) (x6_3 : Int), v3 = .int .i64 x3_3 ∧ v6 = .int .i64 x6_3 ∧ q49 (q13.l1 kq x3_3 x4_1 x6_3 l0_0 l0_1 ((q74 l0_1 x4_1).f0) ((q74 l0_1 x4_1).f1) ((q74 l0_1 x4_1).f2) ((q74 l0_1 x4_1).f3) ((q74 l0_1 x4_1).f4) ((q74 l0_1 x4_1).f5) ((q74 l0_1 x4_1).f6) = some r) ∧ q49 (kq ≤ kj3) ∧ q49 (w'.heap[gb182]? = some (.cells #[(.slice A0_0 l0_0.length c0_0), (.slice (some ad183) l0_1.length c0_1)] 25 (0, 0))) ∧ q49 (w'.heap[gb184]? = some (.cells #[.string ((q74 l0_1 x4_1).f0), .int .i64 ((q74 l0_1 x4_1).f1), .string ((q74 l0_1 x4_1).f2), .bool ((q74 l0_1 x4_1).f3), .int .i64 ((q74 l0_1 x4_1).f4), (.slice A183_5 ((q74 l0_1 x4_1).f5).length c183_5), (.slice A183_6 ((q74 l0_1 x4_1).f6).length c183_6)] 41 (0, 0))) ∧ q49 (Below w.heap.size w w'))
         case atStart => exact ⟨(wrap64 ((wrap64 ((wrap64 ((wrap64 (x3_1 + (((q74 l0_1 x4_1).f5).length : Int))) + (((q74 l0_1 x4_1).f6).length : Int))) + (wrap64 ((((q74 l0_1 x4_1).f0).size : Int) / 50)))) + (wrap64 ((((q74 l0_1 x4_1).f2).size : Int) / 50)))), (0), rf_, rf_, H', ⟨Nat.le_refl _⟩, ⟨by (with_reducible repeat (first | refine q58 ?_ _ | refine q57 ?_ | refine q54 ?_ _)); refine q59 ?_ NB182_184.out _; (with_reducible repeat (first | refine q58 ?_ _ | refine q57 ?_ | refine q54 ?_ _)); refine q59 ?_ NB182_184.out _; (with_reducible repeat (first | refine q58 ?_ _ | refine q57 ?_ | refine q54 ?_ _)); refine q59 ?_ NB182_184.out _; (with_reducible repeat (first | refine q58 ?_ _ | refine q57 ?_ | refine q54 ?_ _)); refine q59 ?_ NB182_184.out _; (with_reducible repeat (first | refine q58 ?_ _ | refine q57 ?_ | refine q54 ?_ _)); refine q59 ?_ NB182_184.out _; (with_reducible repeat (first | refine q58 ?_ _ | refine q57 ?_ | refine q54 ?_ _)); refine q59 ?_ NB182_184.out _; (with_reducible repeat (first | refine q58 ?_ _ | refine q57 ?_ | refine q54 ?_ _)); refine q59 ?_ NB182_184.out _; (with_reducible repeat (first | refine q58 ?_ _ | refine q57 ?_ | refine q54 ?_ _)); exact BK182.out⟩, ⟨by (with_reducible repeat (first | refine q58 ?_ _ | refine q57 ?_ | refine q54 ?_ _)); refine q61 (cs := #[.string ((q74 l0_1 x4_1).f0), .int .i64 ((q74 l0_1 x4_1).f1), .string ((q74 l0_1 x4_1).f2), .bool ((q74 l0_1 x4_1).f3), .int .i64 ((q74 l0_1 x4_1).f4), .slice A183_5 ((q74 l0_1 x4_1).f5).length c183_5, .slice none 0 0]) ?_ 6 _ rfl; (with_reducible repeat (first | refine q58 ?_ _ | refine q57 ?_ | refine q54 ?_ _)); refine q61 (cs := #[.string ((q74 l0_1 x4_1).f0), .int .i64 ((q74 l0_1 x4_1).f1), .string ((q74 l0_1 x4_1).f2), .bool ((q74 l0_1 x4_1).f3), .int .i64 ((q74 l0_1 x4_1).f4), .slice none 0 0, .slice none 0 0]) ?_ 5 _ rfl; (with_reducible repeat (first | refine q58 ?_ _ | refine q57 ?_ | refine q54 ?_ _)); refine q61 (cs := #[.string ((q74 l0_1 x4_1).f0), .int .i64 ((q74 l0_1 x4_1).f1), .string ((q74 l0_1 x4_1).f2), .bool ((q74 l0_1 x4_1).f3), .int .i64 0, .slice none 0 0, .slice none 0 0]) ?_ 4 _ rfl; (with_reducible repeat (first | refine q58 ?_ _ | refine q57 ?_ | refine q54 ?_ _)); refine q61 (cs := #[.string ((q74 l0_1 x4_1).f0), .int .i64 ((q74 l0_1 x4_1).f1), .string ((q74 l0_1 x4_1).f2), .bool false, .int .i64 0, .slice none 0 0, .slice none 0 0]) ?_ 3 _ rfl; (with_reducible repeat (first | refine q58 ?_ _ | refine q57 ?_ | refine q54 ?_ _)); refine q61 (cs := #[.string ((q74 l0_1 x4_1).f0), .int .i64 ((q74 l0_1 x4_1).f1), .string (⟨#[]⟩ : ByteArray), .bool false, .int .i64 0, .slice none 0 0, .slice none 0 0]) ?_ 2 _ rfl; (with_reducible repeat (first | refine q58 ?_ _ | refine q57 ?_ | refine q54 ?_ _)); refine q61 (cs := #[.string ((q74 l0_1 x4_1).f0), .int .i64 0, .string (⟨#[]⟩ : ByteArray), .bool false, .int .i64 0, .slice none 0 0, .slice none 0 0]) ?_ 1 _ rfl; (with_reducible repeat (first | refine q58 ?_ _ | refine q57 ?_ | refine q54 ?_ _)); refine q61 (cs := #[.string (⟨#[]⟩ : ByteArray), .int .i64 0, .string (⟨#[]⟩ : ByteArray), .bool false, .int .i64 0, .slice none 0 0, .slice none 0 0]) ?_ 0 _ rfl; (with_reducible repeat (first | refine q58 ?_ _ | refine q57 ?_ | refine q54 ?_ _)); exact BK184.out⟩, ⟨hf_⟩⟩
         case round =>
          clear H'
          clear c9b0 c10b0 hcz12_0 hcz12_1 hfz12_0 hfz12_1 hx183_0 hx183_1 hx183_2 hx183_3 hx183_4 hx183_5 hx183_6 p183 q183; (try clear hcz15_0); (try clear hcz15_1); (try clear hcz15_2); (try clear hcz15_3); (try clear hcz15_4); (try clear hcz15_5); (try clear hcz15_6); (try clear hfz15_0); (try clear hfz15_1); (try clear hfz15_2); (try clear hfz15_3); (try clear hfz15_4); (try clear hfz15_5); (try clear hfz15_6)
          obtain ⟨x3_3, x6_3, rfl, rfl, HA, HK3, BK182, BK184, HB⟩ := hrel
          cases gk with
          | zero => exact absurd HA.out (by simp [q13.l1])
          | succ k3 =>
           have H := HA.out
           clear HA
           simp only [q13.l1] at H
           by_cases c16 : x6_3 < (((q74 l0_1 x4_1).f5).length : Int)
           ·rw [if_pos c16] at H
            have c16b0 := decide_eq_true c16
            clear c16
            (first | rw [c16b0] | (simp only [i64_w, i32_w]; rw [c16b0]) | skip)
            by_cases c17 : x3_3 < 400
            ·rw [if_pos c17] at H
             replace c17 := decide_eq_true c17
             by_cases c18 : 0 ≤ x6_3
             ·rw [if_pos c18] at H
              replace c18 := decide_eq_true c18
              have H' := q49.mk H
              clear H
              have hnb19 := NB184_182.out
              have hnc19 := NB182_184.out
              obtain ⟨hcz20_0, hcz20_1, hcz20_2, hcz20_3, hcz20_4, hcz20_5, hcz20_6, hfz20_0, hfz20_1, hfz20_2, hfz20_3, hfz20_4, hfz20_5, hfz20_6⟩ := bs7_ BK184
              obtain ⟨ad185, A185_0, c185_0, A185_1, c185_1, e185, hx185_0, hx185_1, HC185_0, HR185_0, HC185_1, HR185_1, p185, q185⟩ := au_T45 HR183_5 HB (x6_3)
              cases e185
              obtain ⟨ad186, A186_0, c186_0, A186_1, c186_1, e186, hx186_0, hx186_1, HC186_0, HR186_0, HC186_1, HR186_1, p186, q186⟩ := au_T45 HR183_5 HB (x6_3)
              obtain rfl : ad185 = ad186 := (by injection e186)
              have ea_ := Option.some.inj (hx185_0.symm.trans hx186_0)
              injection ea_ with ea_ en_ ec_
              subst ea_
              subst ec_
              clear en_
              have ea_ := Option.some.inj (hx185_1.symm.trans hx186_1)
              injection ea_ with ea_ en_ ec_
              subst ea_
              subst ec_
              clear en_
              go_wp2
              repeat (go_quiet (fail); try go_wp2)
              go_roundg k3
              case measure => have := HK1.out; have := HJ3.out; have := HK3.out; omega
              case rel => exact ⟨(wrap64 ((wrap64 (x3_3 + (((q75 ((q74 l0_1 x4_1).f5) x6_3).f0).length : Int))) + (((q75 ((q74 l0_1 x4_1).f5) x6_3).f1).length : Int))), (wrap64 (x6_3 + 1)), rf_, rf_, H', ⟨by have := HK1.out; have := HJ3.out; have := HK3.out; omega⟩, ⟨gx_ BK182⟩, ⟨gx_ BK184⟩, ⟨hf_⟩⟩
             ·rw [if_neg c18] at H
              exact absurd H (by simp)
            ·rw [if_neg c17] at H
             replace c17 := decide_eq_false c17
             have H' := q49.mk H
             clear H
             have hnb21 := NB184_182.out
             have hnc21 := NB182_184.out
             obtain ⟨hcz22_0, hcz22_1, hcz22_2, hcz22_3, hcz22_4, hcz22_5, hcz22_6, hfz22_0, hfz22_1, hfz22_2, hfz22_3, hfz22_4, hfz22_5, hfz22_6⟩ := bs7_ BK184
             go_wp2
             repeat (go_quiet (fail); try go_wp2)
             go_meet
             case rel => exact ⟨_, (x3_3), rf_, H', ⟨by have := HK1.out; have := HJ3.out; have := HK3.out; first | omega | exact Nat.le_refl _⟩, ⟨gx_ BK182⟩, ⟨gx_ BK184⟩, ⟨hf_⟩⟩
           ·rw [if_neg c16] at H
            have c16b0 := decide_eq_false c16
            clear c16
            (first | rw [c16b0] | (simp only [i64_w, i32_w]; rw [c16b0]) | skip)
            have H' := q49.mk H
            clear H
            have hnb23 := NB184_182.out
            have hnc23 := NB182_184.out
            obtain ⟨hcz24_0, hcz24_1, hcz24_2, hcz24_3, hcz24_4, hcz24_5, hcz24_6, hfz24_0, hfz24_1, hfz24_2, hfz24_3, hfz24_4, hfz24_5, hfz24_6⟩ := bs7_ BK184
            go_wp2
            repeat (go_quiet (fail); try go_wp2)
            go_meet
            case rel => exact ⟨_, (x3_3), rf_, H', ⟨by have := HK1.out; have := HJ3.out; have := HK3.out; first | omega | exact Nat.le_refl _⟩, ⟨gx_ BK182⟩, ⟨gx_ BK184⟩, ⟨hf_⟩⟩
        case rest =>
         clear HC11
         clear c9b0 c10b0 hcz12_0 hcz12_1 hfz12_0 hfz12_1 hx183_0 hx183_1 hx183_2 hx183_3 hx183_4 hx183_5 hx183_6 p183 q183; (try clear hcz15_0); (try clear hcz15_1); (try clear hcz15_2); (try clear hcz15_3); (try clear hcz15_4); (try clear hcz15_5); (try clear hcz15_6); (try clear hfz15_0); (try clear hfz15_1); (try clear hfz15_2); (try clear hfz15_3); (try clear hfz15_4); (try clear hfz15_5); (try clear hfz15_6)
         obtain ⟨kq, x3_10, rfl, HA, HJ10, BK182, BK184, HB⟩ := hcut
         cases kq with
         | zero => exact absurd HA.out (by simp [q13.j3])
         | succ kj10 =>
          have H := HA.out
          clear HA
          simp only [q13.j3] at H
          have H' := q49.mk H
          clear H
          go_wp2
          repeat (go_quiet (fail); try go_wp2)
          go_loopg [3, 7] kj10 (fun kq v3 v7 w' => ∃ (x3_4 : Int) (x7_4 : Int), v3 = .int .i64 x3_4 ∧ v7 = .int .i64 x7_4 ∧ q49 (q13.l2 kq x3_4 x4_1 x7_4 l0_0 l0_1 ((q74 l0_1 x4_1).f0) ((q74 l0_1 x4_1).f1) ((q74 l0_1 x4_1).f2) ((q74 l0_1 x4_1).f3) ((q74 l0_1 x4_1).f4) ((q74 l0_1 x4_1).f5) ((q74 l0_1 x4_1).f6) = some r) ∧ q49 (kq ≤ kj10) ∧ q49 (w'.heap[gb182]? = some (.cells #[(.slice A0_0 l0_0.length c0_0), (.slice (some ad183) l0_1.length c0_1)] 25 (0, 0))) ∧ q49 (w'.heap[gb184]? = some (.cells #[.string ((q74 l0_1 x4_1).f0), .int .i64 ((q74 l0_1 x4_1).f1), .string ((q74 l0_1 x4_1).f2), .bool ((q74 l0_1 x4_1).f3), .int .i64 ((q74 l0_1 x4_1).f4), (.slice A183_5 ((q74 l0_1 x4_1).f5).length c183_5), (.slice A183_6 ((q74 l0_1 x4_1).f6).length c183_6)] 41 (0, 0))) ∧ q49 (Below w.heap.size w w'))
          case atStart => exact ⟨(x3_10), (0), rf_, rf_, H', ⟨Nat.le_refl _⟩, ⟨gx_ BK182⟩, ⟨gx_ BK184⟩, ⟨hf_⟩⟩
          case round =>
           clear H'
           obtain ⟨x3_4, x7_4, rfl, rfl, HA, HK4, BK182, BK184, HB⟩ := hrel
           cases gk with
           | zero => exact absurd HA.out (by simp [q13.l2])
           | succ k4 =>
            have H := HA.out
            clear HA
            simp only [q13.l2] at H
            by_cases c25 : x7_4 < (((q74 l0_1 x4_1).f6).length : Int)
            ·rw [if_pos c25] at H
             replace c25 := decide_eq_true c25
             by_cases c26 : x3_4 < 400
             ·rw [if_pos c26] at H
              replace c26 := decide_eq_true c26
              by_cases c27 : 0 ≤ x7_4
              ·rw [if_pos c27] at H
               replace c27 := decide_eq_true c27
               have H' := q49.mk H
               clear H
               have hnb28 := NB184_182.out
               have hnc28 := NB182_184.out
               obtain ⟨hcz29_0, hcz29_1, hcz29_2, hcz29_3, hcz29_4, hcz29_5, hcz29_6, hfz29_0, hfz29_1, hfz29_2, hfz29_3, hfz29_4, hfz29_5, hfz29_6⟩ := bs7_ BK184
               obtain ⟨ad187, A187_0, c187_0, A187_1, c187_1, e187, hx187_0, hx187_1, HC187_0, HR187_0, HC187_1, HR187_1, p187, q187⟩ := au_T45 HR183_6 HB (x7_4)
               cases e187
               obtain ⟨ad188, A188_0, c188_0, A188_1, c188_1, e188, hx188_0, hx188_1, HC188_0, HR188_0, HC188_1, HR188_1, p188, q188⟩ := au_T45 HR183_6 HB (x7_4)
               obtain rfl : ad187 = ad188 := (by injection e188)
               have ea_ := Option.some.inj (hx187_0.symm.trans hx188_0)
               injection ea_ with ea_ en_ ec_
               subst ea_
               subst ec_
               clear en_
               have ea_ := Option.some.inj (hx187_1.symm.trans hx188_1)
               injection ea_ with ea_ en_ ec_
               subst ea_
               subst ec_
               clear en_
               go_wp2
               repeat (go_quiet (fail); try go_wp2)
               go_roundg k4
               case measure => have := HK1.out; have := HJ3.out; have := HJ10.out; have := HK4.out; omega
               case rel => exact ⟨(wrap64 ((wrap64 (x3_4 + (((q75 ((q74 l0_1 x4_1).f6) x7_4).f0).length : Int))) + (((q75 ((q74 l0_1 x4_1).f6) x7_4).f1).length : Int))), (wrap64 (x7_4 + 1)), rf_, rf_, H', ⟨by have := HK1.out; have := HJ3.out; have := HJ10.out; have := HK4.out; omega⟩, ⟨gx_ BK182⟩, ⟨gx_ BK184⟩, ⟨hf_⟩⟩
              ·rw [if_neg c27] at H
               exact absurd H (by simp)
             ·rw [if_neg c26] at H
              replace c26 := decide_eq_false c26
              have H' := q49.mk H
              clear H
              have hnb30 := NB184_182.out
              have hnc30 := NB182_184.out
              obtain ⟨hcz31_0, hcz31_1, hcz31_2, hcz31_3, hcz31_4, hcz31_5, hcz31_6, hfz31_0, hfz31_1, hfz31_2, hfz31_3, hfz31_4, hfz31_5, hfz31_6⟩ := bs7_ BK184
              go_wp2
              repeat (go_quiet (fail); try go_wp2)
              go_roundg k4
              case measure => have := HK1.out; have := HJ3.out; have := HJ10.out; have := HK4.out; omega
              case rel => exact ⟨(x3_4), (wrap64 (x4_1 + 1)), rf_, rf_, H', ⟨by have := HK1.out; have := HJ3.out; have := HJ10.out; have := HK4.out; omega⟩, ⟨gx_ BK182⟩, ⟨hf_⟩⟩
            ·rw [if_neg c25] at H
             replace c25 := decide_eq_false c25
             have H' := q49.mk H
             clear H
             have hnb32 := NB184_182.out
             have hnc32 := NB182_184.out
             obtain ⟨hcz33_0, hcz33_1, hcz33_2, hcz33_3, hcz33_4, hcz33_5, hcz33_6, hfz33_0, hfz33_1, hfz33_2, hfz33_3, hfz33_4, hfz33_5, hfz33_6⟩ := bs7_ BK184
             go_wp2
             repeat (go_quiet (fail); try go_wp2)
             go_roundg k4
             case measure => have := HK1.out; have := HJ3.out; have := HJ10.out; have := HK4.out; omega
             case rel => exact ⟨(x3_4), (wrap64 (x4_1 + 1)), rf_, rf_, H', ⟨by have := HK1.out; have := HJ3.out; have := HJ10.out; have := HK4.out; omega⟩, ⟨gx_ BK182⟩, ⟨hf_⟩⟩
       ·rw [if_neg c10] at H
        exact absurd H (by simp)
      ·rw [if_neg c9] at H
       exact absurd H (by simp)
     ·replace c8 := Bool.eq_false_iff.mpr c8
      subst c8
      have H1 : (some (decide (x3_1 ≥ 400))) = some r := by rw [if_neg (show ¬ (false = true) by decide)] at H; exact H
      clear H
      have H := H1
      clear H1
      obtain rfl := Option.some.inj H
      go_wp2
      repeat (go_quiet (fail); try go_wp2)
      go_ret
      exact ⟨er_, hf_⟩
def q10.l0 : Nat → List Int → List Int → Int → Option (Bool)
 | 0, _, _, _ => none
 | k + 1, x0, x1, x5 => if x5 < (x0.length : Int) then (if 0 ≤ x5 then (if x5 < (x1.length : Int) then (if (rd x0 x5) = (rd x1 x5) then (q10.l0 k x0 x1 (wrap64 (x5 + 1))) else (some false)) else (none)) else (none)) else (some true)
def q10.f (k : Nat) (l0 : List Int) (l1 : List Int) : Option (Bool) := if (l0.length : Int) = (l1.length : Int) then (q10.l0 k l0 l1 0) else (some false)
theorem q10.mono_l : ∀ k, (∀ y0 y1 y2, LeO (q10.l0 k y0 y1 y2) (q10.l0 (k + 1) y0 y1 y2))
 | 0 => fun _ _ _ r h => by simp [q10.l0] at h
 | k + 1 => by
  have ih0 := q10.mono_l k
  ·intro y0 y1 y2
   unfold q10.l0
   repeat' first
   | (with_reducible exact ih0 _ _ _)
   | (with_reducible exact LeO.refl _)
   | (with_reducible exact LeO.none _)
   | (with_reducible refine LeO.ite ?_ ?_)
   | (with_reducible refine LeO.bind ?_ (fun _ => ?_))
   | exact ih0 _ _ _
   | exact LeO.none _
   | refine LeO.ite ?_ ?_
   | refine LeO.bind ?_ (fun _ => ?_)
theorem q10.mono : ∀ a0 a1 k, LeO (q10.f k a0 a1) (q10.f (k + 1) a0 a1) := by
 intro a0 a1 k
 have ih0 := q10.mono_l k
 unfold q10.f
 repeat' first
  | (with_reducible exact ih0 _ _ _)
  | (with_reducible exact LeO.refl _)
  | (with_reducible exact LeO.none _)
  | (with_reducible refine LeO.ite ?_ ?_)
  | (with_reducible refine LeO.bind ?_ (fun _ => ?_))
  | exact ih0 _ _ _
  | exact LeO.none _
  | refine LeO.ite ?_ ?_
  | refine LeO.bind ?_ (fun _ => ?_)
set_option maxHeartbeats 8000000 in
set_option maxRecDepth 100000 in
theorem q10.calls (k : Nat) (A0 : Option Addr) (c0 : Nat) (l0 : List Int) (A1 : Option Addr) (c1 : Nat) (l1 : List Int) (r : Bool) (w : World) (hr0 : Kd.C (Kd.int .i64) w A0 l0.length l0) (hc0 : l0.length ≤ c0) (hr1 : Kd.C (Kd.int .i64) w A1 l1.length l1) (hc1 : l1.length ≤ c1) (h : q10.f k l0 l1 = some r) :
 Calls Try.prog 12 #[.slice A0 l0.length c0, .slice A1 l1.length c1] w fun e w' => e = .returned (.bool r) ∧ Drawn0 w w' := by
 have HR0 := q49.mk hr0
 have HC0 := q49.mk hc0
 clear hr0 hc0
 have HR1 := q49.mk hr1
 have HC1 := q49.mk hc1
 clear hr1 hc1
 unfold q10.f at h
 have H := h
 clear h
 by_cases c3 : (l0.length : Int) = (l1.length : Int)
 ·rw [if_pos c3] at H
  have c3b0 : ((l0.length : Int) == (l1.length : Int)) = true := beq_iff_eq.mpr c3
  have c3b1 : ((l0.length : Int) != (l1.length : Int)) = false := bne_eq_false_iff_eq.mpr c3
  have c3b2 : (l0.length == l1.length) = true := by first | simpa using c3 | (simp at c3 ⊢; omega)
  clear c3
  have H' := q49.mk H
  clear H
  go_enter Try.func12, Try.ntmps12
  go_wp2
  repeat (go_quiet (fail); try go_wp2)
  go_loopg [5] k (fun kq v5 w' => ∃ (x5_1 : Int), v5 = .int .i64 x5_1 ∧ q49 (q10.l0 kq l0 l1 x5_1 = some r) ∧ q49 (kq ≤ k) ∧ Drawn0 w w')
  case atStart => exact ⟨(0), rf_, H', ⟨Nat.le_refl _⟩, by repeat (first | exact Drawn0.refl _ | apply Drawn0.step)⟩
  case round =>
   clear H'
   clear c3b0 c3b1 c3b2
   obtain ⟨x5_1, rfl, HA, HK1, ⟨m1, rfl⟩⟩ := hrel
   cases gk with
   | zero => exact absurd HA.out (by simp [q10.l0])
   | succ k1 =>
    have H := HA.out
    clear HA
    simp only [q10.l0] at H
    by_cases c4 : x5_1 < (l0.length : Int)
    ·rw [if_pos c4] at H
     replace c4 := decide_eq_true c4
     by_cases c5 : 0 ≤ x5_1
     ·rw [if_pos c5] at H
      replace c5 := decide_eq_true c5
      by_cases c6 : x5_1 < (l1.length : Int)
      ·rw [if_pos c6] at H
       replace c6 := decide_eq_true c6
       by_cases c7 : (rd l0 x5_1) = (rd l1 x5_1)
       ·rw [if_pos c7] at H
        have c7b0 : ((rd l0 x5_1) == (rd l1 x5_1)) = true := beq_iff_eq.mpr c7
        have c7b1 : ((rd l0 x5_1) != (rd l1 x5_1)) = false := bne_eq_false_iff_eq.mpr c7
        clear c7
        have H' := q49.mk H
        clear H
        obtain ⟨ad219, e219, hx219_0, p219, q219⟩ := au_int HR0 ⟨Below.refl _ _⟩ (x5_1)
        cases e219
        obtain ⟨ad220, e220, hx220_0, p220, q220⟩ := au_int HR1 ⟨Below.refl _ _⟩ (x5_1)
        cases e220
        go_wp2
        repeat (go_quiet (fail); try go_wp2)
        go_roundg k1
        case measure => have := HK1.out; omega
        case rel => exact ⟨(wrap64 (x5_1 + 1)), rf_, H', ⟨by have := HK1.out; omega⟩, by repeat (first | exact Drawn0.refl _ | apply Drawn0.step)⟩
       ·rw [if_neg c7] at H
        have c7b0 : ((rd l0 x5_1) == (rd l1 x5_1)) = false := beq_eq_false_iff_ne.mpr c7
        have c7b1 : ((rd l0 x5_1) != (rd l1 x5_1)) = true := bne_iff_ne.mpr c7
        obtain rfl := Option.some.inj H
        obtain ⟨ad219, e219, hx219_0, p219, q219⟩ := au_int HR0 ⟨Below.refl _ _⟩ (x5_1)
        cases e219
        obtain ⟨ad220, e220, hx220_0, p220, q220⟩ := au_int HR1 ⟨Below.refl _ _⟩ (x5_1)
        cases e220
        go_wp2
        repeat (go_quiet (fail); try go_wp2)
        go_ret
        exact ⟨by first | rfl | (simp; done) | (simp [*]; done), by repeat (first | exact Drawn0.refl _ | apply Drawn0.step)⟩
      ·rw [if_neg c6] at H
       exact absurd H (by simp)
     ·rw [if_neg c5] at H
      exact absurd H (by simp)
    ·rw [if_neg c4] at H
     replace c4 := decide_eq_false c4
     obtain rfl := Option.some.inj H
     go_wp2
     repeat (go_quiet (fail); try go_wp2)
     go_ret
     exact ⟨by first | rfl | (simp; done) | (simp [*]; done), by repeat (first | exact Drawn0.refl _ | apply Drawn0.step)⟩
 ·rw [if_neg c3] at H
  have c3b0 : ((l0.length : Int) == (l1.length : Int)) = false := beq_eq_false_iff_ne.mpr c3
  have c3b1 : ((l0.length : Int) != (l1.length : Int)) = true := bne_iff_ne.mpr c3
  have c3b2 : (l0.length == l1.length) = false := by first | simpa using c3 | (simp at c3 ⊢; omega)
  obtain rfl := Option.some.inj H
  go_enter Try.func12, Try.ntmps12
  go_wp2
  repeat (go_quiet (fail); try go_wp2)
  go_ret
  exact ⟨by first | rfl | (simp; done) | (simp [*]; done), by repeat (first | exact Drawn0.refl _ | apply Drawn0.step)⟩
theorem rd_s (l : List (S45)) (i : Nat) (h : i < l.length) : q75 l (i : Int) = l[i] := by simp [q75, List.getD_eq_getElem?_getD, List.getElem?_eq_getElem h]
theorem hv_add {a b c : Int} (h1 : 0 ≤ a) (h2 : a ≤ 1152921504606846976) (h3 : 0 ≤ b) (h4 : b ≤ 140737488351232) (h5 : 0 ≤ c) (h6 : c ≤ 140737488351232) : wrap64 (wrap64 (a + b) + c) = a + b + c := by
 unfold wrap64; omega
theorem hv_sum {y a b c d : Int} (h1 : 0 ≤ y) (h2 : y < 400) (a1 : 0 ≤ a) (a2 : a ≤ 140737488351232) (b1 : 0 ≤ b) (b2 : b ≤ 140737488351232) (c1 : 0 ≤ c) (c2 : c ≤ 140737488351232) (d1 : 0 ≤ d) (d2 : d ≤ 140737488351232) : wrap64 (wrap64 (wrap64 (wrap64 (y + a) + b) + wrap64 (c / 50)) + wrap64 (d / 50)) = y + a + b + c / 50 + d / 50 ∧ 0 ≤ c / 50 ∧ c / 50 ≤ 140737488351232 ∧ 0 ≤ d / 50 ∧ d / 50 ≤ 140737488351232 := by
 have e1 : 0 ≤ c / 50 ∧ c / 50 ≤ 140737488351232 := by omega
 have e2 : 0 ≤ d / 50 ∧ d / 50 ≤ 140737488351232 := by omega
 refine ⟨?_, e1.1, e1.2, e2.1, e2.2⟩
 revert e1 e2
 generalize c / 50 = c
 generalize d / 50 = d
 intro e1 e2
 rw [show wrap64 c = c by unfold wrap64; omega, show wrap64 d = d by unfold wrap64; omega, hv_add (a := y) h1 (by omega) a1 a2 b1 b2, hv_add (a := y + a + b) (by omega) (by omega) e1.1 e1.2 e2.1 e2.2]
theorem ev_hv2 (fs : List ByteArray) (l : List (S41)) (N0 : Int) (h0 : 0 ≤ N0) (x : S41) (hx : goodItem x) (i : Nat) (hi : i < l.length) (hl : l.length ≤ 140737488351232)
    (hR : ∀ y : Int, N0 ≤ y → y ≤ 1152921504606846976 → ∃ b, Ev (fun k => q13.l0 k y (((i + 1 : Nat)) : Int) fs l) b ∧ (b = false → N0 < 400)) (d : Nat) : ∀ (j : Nat) (y : Int), j + d = x.f6.length → N0 ≤ y → y ≤ 1152921504606846976 → ∃ b, Ev (fun k => q13.l2 k y (i : Int) (j : Int) fs l x.f0 x.f1 x.f2 x.f3 x.f4 x.f5 x.f6) b ∧ (b = false → N0 < 400) := by
  obtain ⟨_, _, _, g6, _, hs6⟩ := hx
  induction d with
  | zero =>
    intro j y hj h1 h2
    obtain ⟨b, hb, hc⟩ := hR y h1 h2
    refine ⟨b, Ev.step (f := fun k => q13.l0 k y (((i + 1 : Nat)) : Int) fs l) (fun k => ?_) hb, hc⟩
    simp only [q13.l2]
    rw [if_neg (by omega), wrap_lt (n := (l.length : Int)) (by omega) (by omega) (by omega)]
    rfl
  | succ d ih =>
    intro j y hj h1 h2
    by_cases hc : y < 400
    case neg =>
      obtain ⟨b, hb, hc'⟩ := hR y h1 h2
      refine ⟨b, Ev.step (f := fun k => q13.l0 k y (((i + 1 : Nat)) : Int) fs l) (fun k => ?_) hb, hc'⟩
      simp only [q13.l2]
      rw [if_pos (by omega), if_neg hc, wrap_lt (n := (l.length : Int)) (by omega) (by omega) (by omega)]
      rfl
    have hjl : j < x.f6.length := by omega
    obtain ⟨ga, gb⟩ := hs6 x.f6[j] (List.getElem_mem hjl)
    obtain ⟨b, hb, hc'⟩ := ih (j + 1) (y + (x.f6[j]).f0.length + (x.f6[j]).f1.length) (by omega) (by omega) (by omega)
    refine ⟨b, Ev.step (f := fun k => q13.l2 k (y + (x.f6[j]).f0.length + (x.f6[j]).f1.length) (i : Int) (((j + 1 : Nat)) : Int) fs l x.f0 x.f1 x.f2 x.f3 x.f4 x.f5 x.f6) (fun k => ?_) hb, hc'⟩
    simp only [q13.l2]
    rw [if_pos (by omega), if_pos hc, if_pos (by omega), rd_s _ _ hjl, hv_add (by omega) (by omega) (by omega) (by omega) (by omega) (by omega), wrap_lt (n := (x.f6.length : Int)) (by omega) (by omega) (by omega)]
    rfl
theorem ev_hv1 (fs : List ByteArray) (l : List (S41)) (N0 : Int) (h0 : 0 ≤ N0) (x : S41) (hx : goodItem x) (i : Nat) (hi : i < l.length) (hl : l.length ≤ 140737488351232)
    (hR : ∀ y : Int, N0 ≤ y → y ≤ 1152921504606846976 → ∃ b, Ev (fun k => q13.l0 k y (((i + 1 : Nat)) : Int) fs l) b ∧ (b = false → N0 < 400)) (d : Nat) : ∀ (j : Nat) (y : Int), j + d = x.f5.length → N0 ≤ y → y ≤ 1152921504606846976 → ∃ b, Ev (fun k => q13.l1 k y (i : Int) (j : Int) fs l x.f0 x.f1 x.f2 x.f3 x.f4 x.f5 x.f6) b ∧ (b = false → N0 < 400) := by
  have hx0 := hx
  obtain ⟨_, _, g5, _, hs5, _⟩ := hx
  have hnext : ∀ y : Int, N0 ≤ y → y ≤ 1152921504606846976 → ∃ b, Ev (fun k => q13.j3 k y (i : Int) fs l x.f0 x.f1 x.f2 x.f3 x.f4 x.f5 x.f6) b ∧ (b = false → N0 < 400) := by
    intro y h1 h2
    obtain ⟨b, hb, hc⟩ := ev_hv2 fs l N0 h0 x hx0 i hi hl hR x.f6.length 0 y (by omega) h1 h2
    exact ⟨b, Ev.step (fun k => by simp only [q13.j3]; rfl) hb, hc⟩
  induction d with
  | zero =>
    intro j y hj h1 h2
    obtain ⟨b, hb, hc⟩ := hnext y h1 h2
    refine ⟨b, Ev.step (fun k => ?_) hb, hc⟩
    simp only [q13.l1]
    rw [if_neg (by omega)]
  | succ d ih =>
    intro j y hj h1 h2
    by_cases hc : y < 400
    case neg =>
      obtain ⟨b, hb, hc'⟩ := hnext y h1 h2
      refine ⟨b, Ev.step (fun k => ?_) hb, hc'⟩
      simp only [q13.l1]
      rw [if_pos (by omega), if_neg hc]
    have hjl : j < x.f5.length := by omega
    obtain ⟨ga, gb⟩ := hs5 x.f5[j] (List.getElem_mem hjl)
    obtain ⟨b, hb, hc'⟩ := ih (j + 1) (y + (x.f5[j]).f0.length + (x.f5[j]).f1.length) (by omega) (by omega) (by omega)
    refine ⟨b, Ev.step (f := fun k => q13.l1 k (y + (x.f5[j]).f0.length + (x.f5[j]).f1.length) (i : Int) (((j + 1 : Nat)) : Int) fs l x.f0 x.f1 x.f2 x.f3 x.f4 x.f5 x.f6) (fun k => ?_) hb, hc'⟩
    simp only [q13.l1]
    rw [if_pos (by omega), if_pos hc, if_pos (by omega), rd_s _ _ hjl, hv_add (by omega) (by omega) (by omega) (by omega) (by omega) (by omega), wrap_lt (n := (x.f5.length : Int)) (by omega) (by omega) (by omega)]
    rfl
theorem ev_hv0 (fs : List ByteArray) (l : List (S41)) (hg : ∀ x ∈ l, goodItem x) (hl : l.length ≤ 140737488351232) (N0 : Int) (h0 : 0 ≤ N0) (d : Nat) : ∀ (i : Nat) (y : Int), i + d = l.length → N0 ≤ y → y ≤ 1152921504606846976 → ∃ b, Ev (fun k => q13.l0 k y (i : Int) fs l) b ∧ (b = false → N0 < 400) := by
  have hend : ∀ (i : Nat) (y : Int), N0 ≤ y → ∃ b, Ev (fun k => q13.j1 k y (i : Int) false fs l) b ∧ (b = false → N0 < 400) := by
    intro i y h1
    refine ⟨decide (y ≥ 400), Ev.step (f := fun _ => some (decide (y ≥ 400))) (fun k => by simp [q13.j1]) (Ev.now _), fun h => ?_⟩
    have := of_decide_eq_false h
    omega
  induction d with
  | zero =>
    intro i y hi h1 h2
    obtain ⟨b, hb, hc⟩ := hend i y h1
    refine ⟨b, Ev.step (fun k => ?_) hb, hc⟩
    simp only [q13.l0]
    rw [if_neg (by omega)]
  | succ d ih =>
    intro i y hi h1 h2
    by_cases hc : y < 400
    case neg =>
      obtain ⟨b, hb, hc'⟩ := hend i y h1
      refine ⟨b, Ev.step (fun k => ?_) hb, hc'⟩
      simp only [q13.l0]
      rw [if_pos (by omega), decide_eq_false hc]
    have hil : i < l.length := by omega
    have hrd : q74 l (i : Int) = l[i] := by simp [q74, List.getD_eq_getElem?_getD, List.getElem?_eq_getElem hil]
    obtain ⟨x, hx⟩ : ∃ x, x = l[i] := ⟨_, rfl⟩
    have hgx : goodItem x := by rw [hx]; exact hg _ (List.getElem_mem hil)
    have hgx0 := hgx
    obtain ⟨g0, g2, g5, g6, _, _⟩ := hgx
    obtain ⟨z, hz⟩ : ∃ z : Int, z = y + x.f5.length + x.f6.length + (x.f0.size : Int) / 50 + (x.f2.size : Int) / 50 := ⟨_, rfl⟩
    obtain ⟨hsum, q1, q2, q3, q4⟩ := hv_sum (y := y) (a := (x.f5.length : Int)) (b := (x.f6.length : Int)) (c := (x.f0.size : Int)) (d := (x.f2.size : Int)) (by omega) hc (by omega) (by omega) (by omega) (by omega) (by omega) (by omega) (by omega) (by omega)
    rw [← hz] at hsum
    have hzb : N0 ≤ z ∧ z ≤ 1152921504606846976 := by
      clear hsum
      revert hz q1 q2 q3 q4
      generalize (x.f0.size : Int) / 50 = c
      generalize (x.f2.size : Int) / 50 = d
      intro hz q1 q2 q3 q4
      omega
    clear hz q1 q2 q3 q4
    obtain ⟨b, hb, hc'⟩ := ev_hv1 fs l N0 h0 x hgx0 i hil hl (fun y' h1' h2' => ih (i + 1) y' (by omega) h1' h2') x.f5.length 0 z (by omega) hzb.1 hzb.2
    have hb' : Ev (fun k => q13.l1 k z (i : Int) 0 fs l x.f0 x.f1 x.f2 x.f3 x.f4 x.f5 x.f6) b := hb
    refine ⟨b, Ev.step (f := fun k => q13.j1 k y (i : Int) true fs l) (fun k => ?_) (Ev.step (fun k => ?_) hb'), hc'⟩
    · simp only [q13.l0]
      rw [if_pos (by omega), decide_eq_true hc]
    · simp only [q13.j1]
      rw [if_pos trivial, if_pos (by omega), if_pos (by omega), hrd, ← hx, hsum]
theorem ev_heavy (fs : List ByteArray) (l : List (S41)) (hf : fs.length ≤ 140737488351232) (hl : l.length ≤ 140737488351232) (hg : ∀ x ∈ l, goodItem x) : ∃ b, Ev (fun k => q13.f k fs l) b ∧ (b = false → fs.length + l.length < 400) := by
 unfold q13.f
 rw [show wrap64 ((fs.length : Int) + (l.length : Int)) = (fs.length : Int) + (l.length : Int) by unfold wrap64; omega]
 obtain ⟨b, hb, hc⟩ := ev_hv0 fs l hg hl ((fs.length : Int) + (l.length : Int)) (by omega) l.length 0 _ (by omega) (Int.le_refl _) (by omega)
 exact ⟨b, hb, fun h => by have := hc h; omega⟩
def q43.f (l0_0 : List ByteArray) (l0_1 : List (S41)) (a1 : ByteArray) (a2 : Int) : Option (Int) := (q32.f l0_0 l0_1 a1).bind fun t246 => (if t246 < 0 then (some (-1)) else (if a2 < 1 then (some (-1)) else (if a2 > 4 then (some (-1)) else ((q36.f t246 a2).bind fun t247 => (some t247)))))
set_option maxHeartbeats 8000000 in
set_option maxRecDepth 100000 in
theorem q43.calls (A0_0 : Option Addr) (c0_0 : Nat) (l0_0 : List ByteArray) (A0_1 : Option Addr) (c0_1 : Nat) (l0_1 : List (S41)) (a1 : ByteArray) (a2 : Int) (r : Int) (w : World) (hr0_0 : Kd.C Kd.string w A0_0 l0_0.length l0_0) (hc0_0 : l0_0.length ≤ c0_0) (hr0_1 : Kd.C k41 w A0_1 l0_1.length l0_1) (hc0_1 : l0_1.length ≤ c0_1) (h : q43.f l0_0 l0_1 a1 a2 = some r) :
 Calls Try.prog 13 #[.agg #[.slice A0_0 l0_0.length c0_0, .slice A0_1 l0_1.length c0_1], .string a1, .int .i64 a2] w fun e w' => e = .returned (.int .i64 r) ∧ Below w.heap.size w w' := by
 have hu25 := Try.underlying25
 have HR0_0 := q49.mk hr0_0
 have HC0_0 := q49.mk hc0_0
 clear hr0_0 hc0_0
 have HR0_1 := q49.mk hr0_1
 have HC0_1 := q49.mk hc0_1
 clear hr0_1 hc0_1
 have HB := q49.mk (Below.refl w.heap.size w)
 unfold q43.f at h
 have H := h
 clear h
 replace H := Option.bind_eq_some_iff.mp H
 obtain ⟨t246, A40, H⟩ := H
 have A4 := q49.mk A40
 clear A40
 by_cases c5 : t246 < 0
 ·rw [if_pos c5] at H
  replace c5 := decide_eq_true c5
  obtain rfl := Option.some.inj H
  go_enter Try.func13, Try.ntmps13
  go_wp2_with (first | ((with_reducible refine q64 (N := 3) rfl ?_); refine bx_ 3 #[.slice A0_0 l0_0.length c0_0, .slice A0_1 l0_1.length c0_1] 25 ?_; intro gb245 hg w6 hbox hb; have BK245 := q49.mk (hbox); have GW245 := zz_ (w := w) hg; have GE245 := zz_ (w := w) hg; replace HB := hb_ HB hb;  clear hb hbox hg; obtain ⟨hcz7_0, hcz7_1, hfz7_0, hfz7_1⟩ := bs2_ BK245) | ((with_reducible refine q63 (f := 45) rfl ?_); refine gl_ (some 10) Try.func45 #[.agg #[.slice A0_0 l0_0.length c0_0, .slice A0_1 l0_1.length c0_1], .string a1] ?_; (with_reducible refine (q32.calls _ _ l0_0 _ _ l0_1 a1 t246 _ ?side1 ?side2 ?side3 ?side4 A4.out).mono ?_); (case side1 => exact kc_ HR0_0 HB); (case side2 => exact HC0_0.out); (case side3 => exact kc_ HR0_1 HB); (case side4 => exact HC0_1.out); rintro e w8 ⟨rfl, hb⟩; refine ⟨_, rfl, ?_⟩; replace BK245 := bb_ BK245 hb; replace HB := hb_ HB hb;  (try clear hb)))
  go_ret
  exact ⟨er_, hf_⟩
 ·rw [if_neg c5] at H
  replace c5 := decide_eq_false c5
  by_cases c9 : a2 < 1
  ·rw [if_pos c9] at H
   replace c9 := decide_eq_true c9
   obtain rfl := Option.some.inj H
   go_enter Try.func13, Try.ntmps13
   go_wp2_with (first | ((with_reducible refine q64 (N := 3) rfl ?_); refine bx_ 3 #[.slice A0_0 l0_0.length c0_0, .slice A0_1 l0_1.length c0_1] 25 ?_; intro gb245 hg w10 hbox hb; have BK245 := q49.mk (hbox); have GW245 := zz_ (w := w) hg; have GE245 := zz_ (w := w) hg; replace HB := hb_ HB hb;  clear hb hbox hg; obtain ⟨hcz11_0, hcz11_1, hfz11_0, hfz11_1⟩ := bs2_ BK245) | ((with_reducible refine q63 (f := 45) rfl ?_); refine gl_ (some 10) Try.func45 #[.agg #[.slice A0_0 l0_0.length c0_0, .slice A0_1 l0_1.length c0_1], .string a1] ?_; (with_reducible refine (q32.calls _ _ l0_0 _ _ l0_1 a1 t246 _ ?side1 ?side2 ?side3 ?side4 A4.out).mono ?_); (case side1 => exact kc_ HR0_0 HB); (case side2 => exact HC0_0.out); (case side3 => exact kc_ HR0_1 HB); (case side4 => exact HC0_1.out); rintro e w12 ⟨rfl, hb⟩; refine ⟨_, rfl, ?_⟩; replace BK245 := bb_ BK245 hb; replace HB := hb_ HB hb;  (try clear hb)))
   go_ret
   exact ⟨er_, hf_⟩
  ·rw [if_neg c9] at H
   replace c9 := decide_eq_false c9
   by_cases c13 : a2 > 4
   ·rw [if_pos c13] at H
    replace c13 := decide_eq_true c13
    obtain rfl := Option.some.inj H
    go_enter Try.func13, Try.ntmps13
    go_wp2_with (first | ((with_reducible refine q64 (N := 3) rfl ?_); refine bx_ 3 #[.slice A0_0 l0_0.length c0_0, .slice A0_1 l0_1.length c0_1] 25 ?_; intro gb245 hg w14 hbox hb; have BK245 := q49.mk (hbox); have GW245 := zz_ (w := w) hg; have GE245 := zz_ (w := w) hg; replace HB := hb_ HB hb;  clear hb hbox hg; obtain ⟨hcz15_0, hcz15_1, hfz15_0, hfz15_1⟩ := bs2_ BK245) | ((with_reducible refine q63 (f := 45) rfl ?_); refine gl_ (some 10) Try.func45 #[.agg #[.slice A0_0 l0_0.length c0_0, .slice A0_1 l0_1.length c0_1], .string a1] ?_; (with_reducible refine (q32.calls _ _ l0_0 _ _ l0_1 a1 t246 _ ?side1 ?side2 ?side3 ?side4 A4.out).mono ?_); (case side1 => exact kc_ HR0_0 HB); (case side2 => exact HC0_0.out); (case side3 => exact kc_ HR0_1 HB); (case side4 => exact HC0_1.out); rintro e w16 ⟨rfl, hb⟩; refine ⟨_, rfl, ?_⟩; replace BK245 := bb_ BK245 hb; replace HB := hb_ HB hb;  (try clear hb)))
    go_ret
    exact ⟨er_, hf_⟩
   ·rw [if_neg c13] at H
    replace c13 := decide_eq_false c13
    replace H := Option.bind_eq_some_iff.mp H
    obtain ⟨t247, A170, H⟩ := H
    have A17 := q49.mk A170
    clear A170
    obtain rfl := Option.some.inj H
    go_enter Try.func13, Try.ntmps13
    go_wp2_with (first | ((with_reducible refine q64 (N := 3) rfl ?_); refine bx_ 3 #[.slice A0_0 l0_0.length c0_0, .slice A0_1 l0_1.length c0_1] 25 ?_; intro gb245 hg w18 hbox hb; have BK245 := q49.mk (hbox); have GW245 := zz_ (w := w) hg; have GE245 := zz_ (w := w) hg; replace HB := hb_ HB hb;  clear hb hbox hg; obtain ⟨hcz19_0, hcz19_1, hfz19_0, hfz19_1⟩ := bs2_ BK245) | ((with_reducible refine q63 (f := 45) rfl ?_); refine gl_ (some 10) Try.func45 #[.agg #[.slice A0_0 l0_0.length c0_0, .slice A0_1 l0_1.length c0_1], .string a1] ?_; (with_reducible refine (q32.calls _ _ l0_0 _ _ l0_1 a1 t246 _ ?side1 ?side2 ?side3 ?side4 A4.out).mono ?_); (case side1 => exact kc_ HR0_0 HB); (case side2 => exact HC0_0.out); (case side3 => exact kc_ HR0_1 HB); (case side4 => exact HC0_1.out); rintro e w20 ⟨rfl, hb⟩; refine ⟨_, rfl, ?_⟩; replace BK245 := bb_ BK245 hb; replace HB := hb_ HB hb;  (try clear hb)) | ((with_reducible refine q63 (f := 23) rfl ?_); refine gl_ (some 23) Try.func23 #[.int .i64 t246, .int .i64 a2] ?_; (with_reducible refine (q36.calls t246 a2 t247 _ A17.out).mono ?_); rintro e w' ⟨rfl, ⟨nd, rfl⟩⟩; refine ⟨_, rfl, ?_⟩))
    go_ret
    exact ⟨er_, hf_⟩
theorem To_legal (w : World) (A0 : Option Addr) (c0 : Nat) (fs : List ByteArray) (A1 : Option Addr) (c1 : Nat) (l : List (S41)) (hr0 : Kd.C Kd.string w A0 fs.length fs) (hc0 : fs.length ≤ c0) (hr1 : Kd.C k41 w A1 l.length l) (hc1 : l.length ≤ c1) (his : isB fs l = true) :
 Calls Try.prog 8 #[.agg #[.slice A0 fs.length c0, .slice A1 l.length c1]] w (ToPost w fs l) := by
 obtain ⟨h1, h2, h3, h4, h5⟩ := to_facts fs l his
 exact To_any w A0 c0 fs A1 c1 l hr0 hc0 hr1 hc1 h5 his h1 h2 h3 h4
def ToShort (w : World) (fs : List ByteArray) (l : List (S41)) (e : Ending) (w' : World) : Prop := ∃ A4 c4 A5 c5 A7 n7 c7 Ar lr cr Ac lc cc Au lu cu A11 n11 c11, ∃ fl la : Int, e = .returned (.tuple #[.agg #[.int .i64 fl, .int .i64 la, .slice A4 1 c4, .slice A5 2 c5, .int .i64 6, .slice A7 n7 c7, .slice Ar lr cr, .slice Ac lc cc, .slice Au lu cu, .slice A11 n11 c11], .int .i64 0]) ∧ la = (marksN l l.length : Nat) ∧ fl = la + 6 * (l.length : Int) + (sentsN l l.length : Nat) ∧ Kd.C (Kd.int .i64) w' A4 1 [1] ∧ 1 ≤ c4 ∧ Kd.C (Kd.int .i64) w' A5 2 [2, 3] ∧ 2 ≤ c5 ∧ Below w.heap.size w w'
theorem To_short (w : World) (A0 : Option Addr) (c0 : Nat) (fs : List ByteArray) (A1 : Option Addr) (c1 : Nat) (l : List (S41)) (hr0 : Kd.C Kd.string w A0 fs.length fs) (hc0 : fs.length ≤ c0) (hr1 : Kd.C k41 w A1 l.length l) (hc1 : l.length ≤ c1) (his : isB fs l = true) :
 Calls Try.prog 8 #[.agg #[.slice A0 fs.length c0, .slice A1 l.length c1]] w (ToShort w fs l) := by
 refine (To_legal w A0 c0 fs A1 c1 l hr0 hc0 hr1 hc1 his).mono ?_
 rintro e w' ⟨v4, v5, v7, v11, vr, vc, vu, c, rfl, -, h1, h2, r4, r5, r7, r11, rr, rc, ru, hb⟩
 obtain ⟨A4, c4, rfl⟩ := Kd.R_slice r4
 obtain ⟨A5, c5, rfl⟩ := Kd.R_slice r5
 obtain ⟨A7, c7, rfl⟩ := Kd.R_slice r7
 obtain ⟨A11, c11, rfl⟩ := Kd.R_slice r11
 obtain ⟨Ar, cr, rfl⟩ := Kd.R_slice rr
 obtain ⟨Ac, cc, rfl⟩ := Kd.R_slice rc
 obtain ⟨Au, cu, rfl⟩ := Kd.R_slice ru
 exact ⟨A4, c4, A5, c5, A7, _, c7, Ar, _, cr, Ac, _, cc, Au, _, cu, A11, _, c11, c.fl, c.la, rfl, h1, h2, (Kd.R_reads' r4).2.2, (Kd.R_reads' r4).2.1, (Kd.R_reads' r5).2.2, (Kd.R_reads' r5).2.1, hb⟩
def planItem : S41 := ⟨(⟨#[112]⟩ : ByteArray), 1, (⟨#[]⟩ : ByteArray), false, 0, [], []⟩
set_option maxRecDepth 100000 in
theorem isB_plan : isB [] [planItem] = true := by decide +kernel
theorem plan_C (W : World) (g : Nat) (hc : ∀ j u, [Value.string ⟨#[112]⟩, .int .i64 1, .string ⟨#[]⟩, .bool false, .int .i64 0, .slice none 0 0, .slice none 0 0][j]? = some u → W.cell? ((⟨g, 0, none⟩ : Addr).add j) = some u) : Kd.C k41 W (some ⟨g, 0, none⟩) [planItem].length [planItem] := by
 refine ⟨rfl, by decide, fun _ => ⟨_, rfl, fun j p hj => ?_⟩⟩
 obtain rfl : j = 0 := by
  have := (List.getElem?_eq_some_iff.1 hj).1
  simp at this
  exact this
 obtain rfl : planItem = p := by simpa using hj
 refine ⟨_, rfl, k41_mk W planItem (A5 := none) (c5 := 0) (Nat.le_refl _) (Kd.C_nil _ W) (A6 := none) (c6 := 0) (Nat.le_refl _) (Kd.C_nil _ W), fun i u hi => ?_⟩
 have h2 := hc i u hi
 rwa [show 0 * (Kd.sz k41) + i = i by omega]
set_option maxRecDepth 100000 in
theorem flag_open : q43.f [] [planItem] ⟨#[112]⟩ 2 = some 1 := by decide +kernel
set_option maxRecDepth 100000 in
theorem flag_wait : q43.f [] [planItem] ⟨#[112]⟩ 0 = some (-1) := by decide +kernel
set_option maxHeartbeats 8000000 in
set_option maxRecDepth 100000 in
theorem known12_any (w : World) : Calls Try.prog 11 #[] w fun e w' => e = .returned (.bool true) ∧ Below w.heap.size w w' := by
 have hu25 := Try.underlying25
 have hu32 := Try.underlying32
 have hu41 := Try.underlying41
 obtain ⟨wB, hwB⟩ : ∃ wB, wB = (w.alloc (.cells #[.string ⟨#[112]⟩, .int .i64 1, .string ⟨#[]⟩, .bool false, .int .i64 0, .slice none 0 0, .slice none 0 0] 41)).alloc (.cells #[.slice none 0 0, .slice (some ⟨w.heap.size, 0, none⟩) 1 1] 25) := ⟨_, rfl⟩
 have hbB : Below w.heap.size w wB := by rw [hwB]; exact q50 (q50 (Below.refl _ _) _) _
 have hg1 : wB.heap[w.heap.size]? = some (.cells #[.string ⟨#[112]⟩, .int .i64 1, .string ⟨#[]⟩, .bool false, .int .i64 0, .slice none 0 0, .slice none 0 0] 41 (0, 0)) := by rw [hwB]; exact q54 (heap_alloc_new _ _) _
 have hg2 : wB.heap[w.heap.size + 1]? = some (.cells #[.slice none 0 0, .slice (some ⟨w.heap.size, 0, none⟩) 1 1] 25 (0, 0)) := by
  rw [hwB, show w.heap.size + 1 = (w.alloc (.cells #[.string ⟨#[112]⟩, .int .i64 1, .string ⟨#[]⟩, .bool false, .int .i64 0, .slice none 0 0, .slice none 0 0] 41)).heap.size by simp]
  exact heap_alloc_new _ _
 have hC := plan_C wB w.heap.size (World.news_of_block (cs := #[.string ⟨#[112]⟩, .int .i64 1, .string ⟨#[]⟩, .bool false, .int .i64 0, .slice none 0 0, .slice none 0 0]) (t := 41) (fr := (0, 0)) hg1)
 have hT := To_short wB none 0 [] (some ⟨w.heap.size, 0, none⟩) 1 [planItem] (Kd.C_nil _ _) (Nat.le_refl _) hC (Nat.le_refl _) isB_plan
 obtain ⟨b, hb⟩ : ∃ b, b = w.heap.size + 1 := ⟨_, rfl⟩
 rw [← hb] at hg2
 have hm0 : wB.cell? ⟨b, 0, none⟩ = some (.slice none 0 0) := (q56 hg2 0).trans rfl
 have hm1 : wB.cell? ⟨b, 1, none⟩ = some (.slice (some ⟨w.heap.size, 0, none⟩) 1 1) := (q56 hg2 1).trans rfl
 have HBB := Lib.hid hbB
 have HWB := Lib.hid hwB
 have HC := Lib.hid hC
 have HB := Lib.hid hb
 have HMM := Lib.hid (And.intro hm0 hm1)
 have hFl : ∀ W, Below wB.heap.size wB W → ∀ st r : Int, q43.f [] [planItem] ⟨#[112]⟩ st = some r → Calls Try.prog 13 #[.agg #[.slice none 0 0, .slice (some ⟨w.heap.size, 0, none⟩) 1 1], .string ⟨#[112]⟩, .int .i64 st] W fun e w' => e = .returned (.int .i64 r) ∧ Below W.heap.size W w' := fun W hW st r h =>
  q43.calls none 0 [] (some ⟨w.heap.size, 0, none⟩) 1 [planItem] ⟨#[112]⟩ st r W (Kd.C_nil _ _) (Nat.le_refl _) (Kd.C_below HC.out hW) (Nat.le_refl _) h
 have HFL := Lib.hid hFl
 obtain ⟨p, hp⟩ : ∃ p, p = w.heap.size := ⟨_, rfl⟩
 clear hbB hwB hg1 hg2 hC hb hm0 hm1 hFl
 go_enter Try.func11, Try.ntmps11
 go_upto_region 2 with (fail)
 rw [← HWB.out, ← show b = _ from HB.out]
 have hm0 := HMM.out.1
 have hm1 := HMM.out.2
 clear hp
 go_wp2_with fail
 refine hT.mono ?_
 rintro e w2 ⟨A4, c4, A5, c5, A7, n7, c7, Ar, lr, cr, Ac, lc, cc, Au, lu, cu, A11, n11, c11, fl, la, rfl, hla, hfl, -, -, -, -, hb2⟩
 have hla4 : la = 4 := by rw [hla]; decide
 have hfl10 : fl = 10 := by rw [hfl, hla4]; decide
 rw [hla4, hfl10]
 have HB2 := Lib.hid hb2
 have hm0 := q66 hb2 hm0
 have hm1 := q66 hb2 hm1
 clear hT hla hfl hla4 hfl10 hb2
 obtain ⟨w3, hw3⟩ : ∃ w3, w3 = w2.alloc (.cells #[.int .i64 10, .int .i64 4, .slice A4 1 c4, .slice A5 2 c5, .int .i64 6, .slice A7 n7 c7, .slice Ar lr cr, .slice Ac lc cc, .slice Au lu cu, .slice A11 n11 c11] 32) := ⟨_, rfl⟩
 have hb3 : Below w2.heap.size w2 w3 := by rw [hw3]; exact q50 (Below.refl _ _) _
 have hg3 : w3.heap[w2.heap.size]? = some (.cells #[.int .i64 10, .int .i64 4, .slice A4 1 c4, .slice A5 2 c5, .int .i64 6, .slice A7 n7 c7, .slice Ar lr cr, .slice Ac lc cc, .slice Au lu cu, .slice A11 n11 c11] 32 (0, 0)) := by rw [hw3]; exact heap_alloc_new _ _
 obtain ⟨q, hq⟩ : ∃ q, q = w2.heap.size := ⟨_, rfl⟩
 rw [← hq] at hg3
 have hp0 : w3.cell? ⟨q, 0, none⟩ = some (.int .i64 10) := (q56 hg3 0).trans rfl
 have hp1 : w3.cell? ⟨q, 1, none⟩ = some (.int .i64 4) := (q56 hg3 1).trans rfl
 have hp4 : w3.cell? ⟨q, 4, none⟩ = some (.int .i64 6) := (q56 hg3 4).trans rfl
 have hm0 := q66 hb3 hm0
 have hm1 := q66 hb3 hm1
 have HB3 := Lib.hid (q53 HB2.out HB2.out.size hb3)
 have HW3 := Lib.hid hw3
 have HQ := Lib.hid hq
 clear hw3 hb3 hg3 hq
 go_upto_region 3 with (fail)
 rw [← HW3.out, ← HQ.out]
 have hf1 := HFL.out w3 HB3.out 2 1 flag_open
 go_wp2_with fail
 refine hf1.mono ?_
 rintro e w4 ⟨rfl, hb4⟩
 have HB4 := Lib.hid (q53 HB3.out HB3.out.size hb4)
 have hm0 := q66 hb4 hm0
 have hm1 := q66 hb4 hm1
 have hf2 := HFL.out w4 HB4.out 0 (-1) flag_wait
 clear hf1 hb4 hp0 hp1 hp4
 go_wp2_with fail
 refine hf2.mono ?_
 rintro e w5 ⟨rfl, hb5⟩
 have HB5 := Lib.hid (q53 HB4.out HB4.out.size hb5)
 clear hf2 hb5 hm0 hm1
 go_wp2
 go_ret
 exact ⟨rfl, q53 HBB.out HBB.out.size HB5.out⟩
def TB (v : Bool) (W : World) (e : Ending) (w' : World) : Prop := e = .returned (.bool v) ∧ Below W.heap.size W w'
def Md (w : World) (A0 : Option Addr) (c0 : Nat) (fs : List ByteArray) (A1 : Option Addr) (c1 : Nat) (l : List (S41)) : Prop := (Kd.C Kd.string w A0 fs.length fs ∧ fs.length ≤ c0 ∧ Kd.C k41 w A1 l.length l ∧ l.length ≤ c1) ∧ fs.length ≤ 140737488351232 ∧ l.length ≤ 140737488351232 ∧ ∀ x ∈ l, goodItem x
section
variable {w : World} {A0 : Option Addr} {c0 : Nat} {fs : List ByteArray} {A1 : Option Addr} {c1 : Nat} {l : List (S41)}
theorem Md.heavy (h : Md w A0 c0 fs A1 c1 l) : ∃ v, ∀ W, Below w.heap.size w W → Calls Try.prog 6 #[.agg #[.slice A0 fs.length c0, .slice A1 l.length c1]] W (TB v W) := by
 obtain ⟨⟨h0, h1, h2, h3⟩, h4, h5, h6⟩ := h
 obtain ⟨v, ⟨k, hk⟩, -⟩ := ev_heavy fs l h4 h5 h6
 exact ⟨v, fun W hb => q13.calls k A0 c0 fs A1 c1 l v W (Kd.C_below h0 hb) h1 (Kd.C_below h2 hb) h3 (hk k (Nat.le_refl _))⟩
theorem Md.is (h : Md w A0 c0 fs A1 c1 l) : ∀ W, Below w.heap.size w W → Calls Try.prog 7 #[.agg #[.slice A0 fs.length c0, .slice A1 l.length c1]] W (TB (isB fs l) W) := by
 obtain ⟨⟨h0, h1, h2, h3⟩, h4, h5, h6⟩ := h
 obtain ⟨k, hk⟩ := ev_ris fs l (fits_of fs l h4 h5 h6)
 exact fun W hb => q25.calls k A0 c0 fs A1 c1 l _ W (Kd.C_below h0 hb) h1 (Kd.C_below h2 hb) h3 (by rw [← ris_eq]; exact hk k (Nat.le_refl _))
theorem Md.to (h : Md w A0 c0 fs A1 c1 l) (his : isB fs l = true) : ∀ W, Below w.heap.size w W → Calls Try.prog 8 #[.agg #[.slice A0 fs.length c0, .slice A1 l.length c1]] W (ToShort W fs l) := by
 obtain ⟨⟨h0, h1, h2, h3⟩, -⟩ := h
 exact fun W hb => To_short W A0 c0 fs A1 c1 l (Kd.C_below h0 hb) h1 (Kd.C_below h2 hb) h3 his
end
theorem known_call (W : World) : Calls Try.prog 11 #[] W (TB true W) := known12_any W
set_option maxRecDepth 100000 in
theorem ints_one : q10.f 9 [1] [1] = some true := by decide +kernel
set_option maxRecDepth 100000 in
theorem ints_two : q10.f 9 [2, 3] [2, 3] = some true := by decide +kernel
theorem one_call (W : World) (A0 : Option Addr) (c0 : Nat) (A1 : Option Addr) (h0 : Kd.C (Kd.int .i64) W A0 1 [1]) (hc : 1 ≤ c0) (h1 : Kd.C (Kd.int .i64) W A1 1 [1]) : Calls Try.prog 12 #[.slice A0 1 c0, .slice A1 1 1] W (TB true W) :=
 (q10.calls 9 A0 c0 [1] A1 1 [1] true W h0 hc h1 (Nat.le_refl _) ints_one).mono fun e w' h => ⟨h.1, h.2.below⟩
theorem two_call (W : World) (A0 : Option Addr) (c0 : Nat) (A1 : Option Addr) (h0 : Kd.C (Kd.int .i64) W A0 2 [2, 3]) (hc : 2 ≤ c0) (h1 : Kd.C (Kd.int .i64) W A1 2 [2, 3]) : Calls Try.prog 12 #[.slice A0 2 c0, .slice A1 2 2] W (TB true W) :=
 (q10.calls 9 A0 c0 [2, 3] A1 2 [2, 3] true W h0 hc h1 (Nat.le_refl _) ints_two).mono fun e w' h => ⟨h.1, h.2.below⟩
theorem wrap_id (x : Int) (h : 0 ≤ x ∧ x ≤ 1000000000) : wrap64 x = x := by unfold wrap64; omega
theorem wrap_ns (n oq sq : Nat) (hn : n ≤ 16) (ho : oq ≤ 22000) (hs : sq ≤ 6000) : wrap64 (4 * (n : Int)) = 4 * (n : Int) ∧ wrap64 (4 * (n : Int) + (oq : Int)) = 4 * (n : Int) + (oq : Int) ∧ wrap64 (10 * (n : Int)) = 10 * (n : Int) ∧ wrap64 (10 * (n : Int) + (oq : Int)) = 10 * (n : Int) + (oq : Int) ∧ wrap64 (10 * (n : Int) + (oq : Int) + (sq : Int)) = 10 * (n : Int) + (oq : Int) + (sq : Int) :=
 ⟨wrap_id _ (by omega), wrap_id _ (by omega), wrap_id _ (by omega), wrap_id _ (by omega), wrap_id _ (by omega)⟩
theorem wrap_add (a b : Nat) (ha : a ≤ 100000) (hb : b ≤ 100000) : wrap64 ((a : Int) + (b : Int)) = (a : Int) + (b : Int) := wrap_id _ (by omega)
theorem wrap_add3 (a b c : Nat) (ha : a ≤ 100000) (hb : b ≤ 100000) (hc : c ≤ 100000) : wrap64 (((a + b : Nat) : Int) + (c : Int)) = ((a + (b + c) : Nat) : Int) ∧ wrap64 ((a : Int) + (b : Int) + (c : Int)) = ((a + (b + c) : Nat) : Int) := ⟨by rw [wrap_id _ (by omega)]; omega, by rw [wrap_id _ (by omega)]; omega⟩
def onsUpto (l : List (S41)) (i : Nat) : Nat := ((l.take i).map (fun x => onsN (x.f5 ++ x.f6))).sum
set_option maxHeartbeats 16000000 in
set_option maxRecDepth 100000 in
theorem xlateLong_any (A0 : Option Addr) (c0 : Nat) (fs : List ByteArray) (A1 : Option Addr) (c1 : Nat) (l : List (S41)) (w : World) (hM : Md w A0 c0 fs A1 c1 l) :
 Calls Try.prog 4 #[.agg #[.slice A0 fs.length c0, .slice A1 l.length c1]] w (TB true w) := by
 have hu25 := Try.underlying25
 have hu32 := Try.underlying32
 have hu41 := Try.underlying41
 have hu45 := Try.underlying45
 obtain ⟨v, hv⟩ := hM.heavy
 have hi := hM.is
 have HMD := Lib.hid hM
 obtain ⟨n, hn⟩ : ∃ n, n = l.length := ⟨_, rfl⟩
 obtain ⟨nf, hnf⟩ : ∃ nf, nf = fs.length := ⟨_, rfl⟩
 rw [← hn, ← hnf] at hv hi ⊢
 have HN := Lib.hid hn
 have HNF := Lib.hid hnf
 obtain ⟨wB, hwB⟩ : ∃ wB, wB = w.alloc (.cells #[.slice A0 nf c0, .slice A1 n c1] 25) := ⟨_, rfl⟩
 have hbB : Below w.heap.size w wB := by rw [hwB]; exact q50 (Below.refl _ _) _
 have hgB : wB.heap[w.heap.size]? = some (.cells #[.slice A0 nf c0, .slice A1 n c1] 25 (0, 0)) := by rw [hwB]; exact heap_alloc_new _ _
 obtain ⟨b, hb⟩ : ∃ b, b = w.heap.size := ⟨_, rfl⟩
 rw [← hb] at hgB
 have hm0 : wB.cell? ⟨b, 0, none⟩ = some (.slice A0 nf c0) := (q56 hgB 0).trans rfl
 have hm1 : wB.cell? ⟨b, 1, none⟩ = some (.slice A1 n c1) := (q56 hgB 1).trans rfl
 have hvB := hv wB hbB
 have HI := Lib.hid hi
 have HBB := Lib.hid hbB
 have HWB := Lib.hid hwB
 have HB := Lib.hid hb
 have HC := Lib.hid (And.intro hm0 hm1)
 clear hM hv hi hn hnf hwB hbB hgB hb hm0 hm1
 go_enter Try.func4, Try.ntmps4
 go_upto_region 1 with (fail)
 rw [← HWB.out, ← show b = _ from HB.out]
 have hm0 := HC.out.1
 have hm1 := HC.out.2
 go_wp2_with fail
 refine hvB.mono ?_
 rintro e w2 ⟨rfl, hb2⟩
 have HB2 := Lib.hid (q53 HBB.out HBB.out.size hb2)
 have hm0 := q66 hb2 hm0
 have hm1 := q66 hb2 hm1
 have hi2 := HI.out w2 HB2.out
 clear hvB hb2
 cases v
 case true =>
  clear hi2
  go_wp2
  go_ret
  exact ⟨rfl, HB2.out⟩
 go_wp2_with fail
 refine hi2.mono ?_
 rintro e w3 ⟨rfl, hb3⟩
 have HB3 := Lib.hid (q53 HB2.out HB2.out.size hb3)
 have hm0 := q66 hb3 hm0
 have hm1 := q66 hb3 hm1
 clear hi2 hb3
 obtain ⟨iv, hiv⟩ : ∃ iv, iv = isB fs l := ⟨_, rfl⟩
 rw [← hiv]
 cases iv
 ·clear hiv
  go_wp2
  go_ret
  exact ⟨rfl, HB3.out⟩
 obtain ⟨hf1, hf2, -⟩ := to_facts fs l hiv.symm
 have HF1 := Lib.hid hf1
 have hn16 : n ≤ 16 := by have := HN.out; omega
 have HIV := Lib.hid hiv.symm
 have HM3 := Lib.hid (And.intro hm0 hm1)
 clear hf1 hf2 hiv hm0 hm1
 go_wp2_with fail
 go_loopg [3, 4, 5] n (fun gg s3 s4 s5 wr => ∃ i : Nat, s5 = .int .i64 i ∧ s3 = .int .i64 (onsUpto l i : Nat) ∧ s4 = .int .i64 (sentsN l i : Nat) ∧ i ≤ n ∧ n - i ≤ gg ∧ Hid (Below w3.heap.size w3 wr))
 case atStart => exact ⟨0, rfl, rfl, rfl, Nat.zero_le _, by omega, Lib.hid (Below.refl _ _)⟩
 case round =>
  obtain ⟨i, rfl, rfl, rfl, hin, hig, Y⟩ := hrel
  obtain ⟨wO, rfl⟩ : ∃ wO, wO = wr := ⟨_, rfl⟩
  have hm0 := q66 Y.out HM3.out.1
  have hm1 := q66 Y.out HM3.out.2
  by_cases hlt : i < n
  case neg =>
   obtain rfl : n = i := by omega
   have hlz : ¬ (n : Int) < (n : Int) := by omega
   have HYB := Lib.hid (q53 HB3.out HB3.out.size Y.out)
   have hT := HMD.out.to HIV.out wO HYB.out
   rw [← HN.out, ← HNF.out] at hT
   have hol : onsUpto l n ≤ 22000 := by
    have e : marksN l n = 4 * l.length + onsUpto l n := rfl
    have := marksN_le HF1.out (by have := HN.out; omega) n (by have := HN.out; omega)
    omega
   have hsl := sentsN_le HF1.out (by have := HN.out; omega) n (by have := HN.out; omega)
   have HE : Hid (marksN l n = 4 * n + onsUpto l n) := Lib.hid (by have e : marksN l n = 4 * l.length + onsUpto l n := rfl; have := HN.out; omega)
   obtain ⟨oq, hoq⟩ : ∃ oq, oq = onsUpto l n := ⟨_, rfl⟩
   obtain ⟨sq, hsq⟩ : ∃ sq, sq = sentsN l n := ⟨_, rfl⟩
   rw [← hoq] at HE hol ⊢
   rw [← hsq] at hsl ⊢
   have HSQ := Lib.hid hsq
   clear Y hoq hsq
   go_wp2_with fail
   refine hT.mono ?_
   rintro e w5 ⟨A4, c4, A5, c5, A7, n7, c7, Ar, lr, cr, Ac, lc, cc, Au, lu, cu, A11, n11, c11, fl, la, rfl, hla, hfl, hC4, hc4, hC5, hc5, hb5⟩
   have hla2 : la = 4 * (n : Int) + (oq : Int) := by rw [hla, ← HN.out, HE.out]; omega
   have hfl2 : fl = 10 * (n : Int) + (oq : Int) + (sq : Int) := by rw [hfl, hla2, ← HN.out, HSQ.out]; omega
   have HLF := Lib.hid (And.intro hla2 hfl2)
   clear hla2 hfl2
   have hm1 := q66 hb5 hm1
   obtain ⟨w6, hw6⟩ : ∃ w6, w6 = w5.alloc (.cells #[.int .i64 fl, .int .i64 la, .slice A4 1 c4, .slice A5 2 c5, .int .i64 6, .slice A7 n7 c7, .slice Ar lr cr, .slice Ac lc cc, .slice Au lu cu, .slice A11 n11 c11] 32) := ⟨_, rfl⟩
   have hb6 : Below w5.heap.size w5 w6 := by rw [hw6]; exact q50 (Below.refl _ _) _
   have hg6 : w6.heap[w5.heap.size]? = some (.cells #[.int .i64 fl, .int .i64 la, .slice A4 1 c4, .slice A5 2 c5, .int .i64 6, .slice A7 n7 c7, .slice Ar lr cr, .slice Ac lc cc, .slice Au lu cu, .slice A11 n11 c11] 32 (0, 0)) := by rw [hw6]; exact heap_alloc_new _ _
   obtain ⟨q, hq⟩ : ∃ q, q = w5.heap.size := ⟨_, rfl⟩
   rw [← hq] at hg6
   have hp0 : w6.cell? ⟨q, 0, none⟩ = some (.int .i64 fl) := (q56 hg6 0).trans rfl
   have hp1 : w6.cell? ⟨q, 1, none⟩ = some (.int .i64 la) := (q56 hg6 1).trans rfl
   have hp2 : w6.cell? ⟨q, 2, none⟩ = some (.slice A4 1 c4) := (q56 hg6 2).trans rfl
   have hp3 : w6.cell? ⟨q, 3, none⟩ = some (.slice A5 2 c5) := (q56 hg6 3).trans rfl
   have hm1 := q66 hb6 hm1
   have hz6 := q50 (Below.refl w6.heap.size w6) (.cells (([1] : List Int).map (Value.int .i64)).toArray 3)
   have h1 : Calls Try.prog 12 #[.slice A4 1 c4, .slice (some ⟨w6.heap.size, 0, none⟩) 1 1] (w6.alloc (.cells #[.int .i64 1] 3)) (TB true (w6.alloc (.cells #[.int .i64 1] 3))) :=
    one_call (w6.alloc (.cells (([1] : List Int).map (Value.int .i64)).toArray 3)) A4 c4 _ (Kd.C_below (Kd.C_below hC4 hb6) hz6) hc4 (Kd.R_reads' (ints_row w6 [1] (by simp))).2.2
   have HB6 := Lib.hid (q53 HYB.out HYB.out.size (q53 hb5 hb5.size hb6))
   have HC5 := Lib.hid (Kd.C_below hC5 hb6)
   have HZ6 : Hid (Below w6.heap.size w6 (w6.alloc (.cells #[.int .i64 1] 3))) := Lib.hid hz6
   have HW6 := Lib.hid hw6
   have HQ := Lib.hid hq
   have hns := wrap_ns n oq sq hn16 hol hsl
   rw [← HLF.out.1, ← HLF.out.2] at hns
   obtain ⟨a1, ha1⟩ : ∃ a1 : Int, a1 = 4 * (n : Int) := ⟨_, rfl⟩
   obtain ⟨a2, ha2⟩ : ∃ a2 : Int, a2 = 10 * (n : Int) := ⟨_, rfl⟩
   obtain ⟨a3, ha3⟩ : ∃ a3 : Int, a3 = a2 + (oq : Int) := ⟨_, rfl⟩
   have hw41 : wrap64 (4 * (n : Int)) = a1 := by rw [ha1]; exact hns.1
   have hw42 : wrap64 (a1 + (oq : Int)) = la := by rw [ha1, ← HLF.out.1]; exact hns.2.1
   have hw43 : wrap64 (10 * (n : Int)) = a2 := by rw [ha2]; exact hns.2.2.1
   have hw44 : wrap64 (a2 + (oq : Int)) = a3 := by rw [ha3, ha2]; exact hns.2.2.2.1
   have hw45 : wrap64 (a3 + (sq : Int)) = fl := by rw [ha3, ha2, ← HLF.out.2]; exact hns.2.2.2.2
   clear hns ha1 ha2 ha3 HLF
   clear hT hla hfl hC4 hC5 hb5 hw6 hb6 hg6 hq hz6 hm0
   go_upto_region 14 with (fail)
   rw [← HW6.out, ← HQ.out]
   go_upto_region 15 with (fail)
   obtain ⟨N, hNe⟩ : ∃ N : Int, N = (n : Int) := ⟨_, rfl⟩
   obtain ⟨O, hOe⟩ : ∃ O : Int, O = (oq : Int) := ⟨_, rfl⟩
   obtain ⟨U, hUe⟩ : ∃ U : Int, U = (sq : Int) := ⟨_, rfl⟩
   rw [← hNe] at hw41 hw43 ⊢
   rw [← hOe] at hw42 hw44 ⊢
   rw [← hUe] at hw45 ⊢
   clear hNe hOe hUe
   go_wp2_with fail
   refine h1.mono ?_
   rintro e w7 ⟨rfl, hb7⟩
   have hb67 := q53 HZ6.out HZ6.out.size hb7
   have hp3 := q66 hb67 hp3
   have hz7 := q50 (Below.refl w7.heap.size w7) (.cells (([2, 3] : List Int).map (Value.int .i64)).toArray 3)
   have h2 : Calls Try.prog 12 #[.slice A5 2 c5, .slice (some ⟨w7.heap.size, 0, none⟩) 2 2] (w7.alloc (.cells #[.int .i64 2, .int .i64 3] 3)) (TB true (w7.alloc (.cells #[.int .i64 2, .int .i64 3] 3))) :=
    two_call (w7.alloc (.cells (([2, 3] : List Int).map (Value.int .i64)).toArray 3)) A5 c5 _ (Kd.C_below (Kd.C_below HC5.out hb67) hz7) hc5 (Kd.R_reads' (ints_row w7 [2, 3] (by simp))).2.2
   have HB7 := Lib.hid (q53 HB6.out HB6.out.size hb67)
   have HZ7 : Hid (Below w7.heap.size w7 (w7.alloc (.cells #[.int .i64 2, .int .i64 3] 3))) := Lib.hid hz7
   clear h1 hb7 hb67 hz7 hp0 hp1 hp2 hm1
   go_wp2_with fail
   refine h2.mono ?_
   rintro e w8 ⟨rfl, hb8⟩
   have HB8 := Lib.hid (q53 HB7.out HB7.out.size (q53 HZ7.out HZ7.out.size hb8))
   have hk := known_call w8
   clear h2 hb8 hp3
   go_wp2_with fail
   refine hk.mono ?_
   rintro e w9 ⟨rfl, hb9⟩
   have HB9 := Lib.hid (q53 HB8.out HB8.out.size hb9)
   clear hk hb9
   go_wp2
   go_ret
   exact ⟨rfl, HB9.out⟩
  have hlz : (i : Int) < (n : Int) := by omega
  have hil : i < l.length := by have := HN.out; omega
  obtain ⟨ad, A5, c5, A6, c6, e, x0, x1, x2, x3, x4, x5, x6, l5, g5, l6, g6⟩ := at_T41 (Kd.C_below HMD.out.1.2.2.1 (q53 HB3.out HB3.out.size Y.out)) (i : Int) (by omega) (by omega)
  simp only [Int.toNat_natCast] at x5 x6
  obtain ⟨x, hx⟩ : ∃ x, x = q74 l (i : Int) := ⟨_, rfl⟩
  have hxl : x = l[i] := by rw [hx]; simp [q74, List.getD_eq_getElem?_getD, List.getElem?_eq_getElem hil]
  rw [← hx] at x5 x6 l5 g5 l6 g6
  have hw6 := HF1.out x (by rw [hxl]; exact List.getElem_mem hil)
  have hs1 : sentsN l (i + 1) = sentsN l i + (x.f5 ++ x.f6).length := by rw [hxl]; exact sentsN_succ l i hil
  have ho1 : onsUpto l (i + 1) = onsUpto l i + onsN (x.f5 ++ x.f6) := by unfold onsUpto; rw [take_sum _ l i hil, hxl]
  have hsl := sentsN_le HF1.out (by have := HN.out; omega) i (by omega)
  have hml := marksN_le HF1.out (by have := HN.out; omega) i (by omega)
  have hol : onsUpto l i ≤ 22000 := by have e : marksN l i = 4 * l.length + onsUpto l i := rfl; omega
  obtain ⟨r5, hr5, hC5, hK5⟩ := C_raw g5
  obtain ⟨r6, hr6, hC6, hK6⟩ := C_raw g6
  have hrl : (r5 ++ r6).length = (x.f5 ++ x.f6).length := by rw [List.length_append, List.length_append, hr5, hr6]
  obtain ⟨ss, hss⟩ : ∃ ss, ss = x.f5 ++ x.f6 := ⟨_, rfl⟩
  have HKR : Hid (∀ (j : Nat) (p : S45), ss[j]? = some p → ∃ cs, (r5 ++ r6)[j]? = some cs ∧ (k45).K wO p cs) := Lib.hid (fun j p hj => by
   rw [hss, List.getElem?_append] at hj
   rw [List.getElem?_append, hr5]
   split at hj
   ·rename_i hlt
    rw [if_pos hlt]
    exact hK5 j p hj
   ·rename_i hlt
    rw [if_neg hlt]
    exact hK6 (j - x.f5.length) p hj)
  rw [← hss] at hw6 hs1 ho1 hrl
  obtain ⟨m, hm⟩ : ∃ m, m = ss.length := ⟨_, rfl⟩
  rw [← hm] at hw6 hs1 hrl
  obtain ⟨n5, hn5⟩ : ∃ n5, n5 = x.f5.length := ⟨_, rfl⟩
  obtain ⟨n6, hn6⟩ : ∃ n6, n6 = x.f6.length := ⟨_, rfl⟩
  rw [← hn5] at x5 hC5 hr5
  rw [← hn6] at x6 hC6 hr6
  have hm6 := hw6.1
  have HW6 := Lib.hid hw6.2
  have HRR := Lib.hid (And.intro hr5 (And.intro hr6 hrl))
  have HC56 := Lib.hid (And.intro hC5 hC6)
  have HS1 := Lib.hid hs1
  have HO1 := Lib.hid ho1
  have HMS := Lib.hid hm
  have HY := Lib.hid Y.out
  obtain ⟨sq, hsq⟩ : ∃ sq, sq = sentsN l i := ⟨_, rfl⟩
  obtain ⟨oq, hoq⟩ : ∃ oq, oq = onsUpto l i := ⟨_, rfl⟩
  rw [← hsq] at HS1 hsl ⊢
  rw [← hoq] at HO1 hol ⊢
  cases e
  clear hx hxl x0 x1 x2 x3 x4 hw6 hs1 ho1 hr5 hr6 hrl hm hn5 hn6 hss hK5 hK6 hC5 hC6 l5 l6 g5 g6 hm0 hsq hoq Y hml
  go_wp2_with fail
  have hS : (((wO.drew).cell? ⟨b, 1, none⟩ = some (.slice (some ad) n c1)) ∧ ((wO.drew).cell? ⟨(ad.add (i * 7)).block, (ad.add (i * 7)).off + 5, none⟩ = some (.slice A5 n5 c5)) ∧ ((wO.drew).cell? ⟨(ad.add (i * 7)).block, (ad.add (i * 7)).off + 6, none⟩ = some (.slice A6 n6 c6))) ∧ Below wO.heap.size wO wO.drew := ⟨⟨hm1, x5, x6⟩, q51 (Below.refl _ _)⟩
  refine sD_ [] (fun w' => ((w'.cell? ⟨b, 1, none⟩ = some (.slice (some ad) n c1)) ∧ (w'.cell? ⟨(ad.add (i * 7)).block, (ad.add (i * 7)).off + 5, none⟩ = some (.slice A5 n5 c5)) ∧ (w'.cell? ⟨(ad.add (i * 7)).block, (ad.add (i * 7)).off + 6, none⟩ = some (.slice A6 n6 c6))) ∧ Below wO.heap.size wO w') 16 hS (fun hHeld => ?_)
  clear hS
  obtain ⟨wD, hwD⟩ : ∃ wD, wD = wO.drew := ⟨_, rfl⟩
  rw [← hwD] at hHeld ⊢
  clear hwD
  refine pu_ 1 (some 26) ?_
  refine pu_ 3 (some 28) ?_
  refine pu_ 8 (some 33) ?_
  refine pu_ 10 (some 35) ?_
  refine tk_ 2 (some 27) hHeld ?_ (hy := by rintro w' ⟨⟨s0, s1, s2⟩, -⟩; go_simp; with_reducible rfl)
  refine tk_ 9 (some 34) hHeld ?_ (hy := by rintro w' ⟨⟨s0, s1, s2⟩, -⟩; go_simp; with_reducible rfl)
  refine pu_ 4 (some 29) ?_
  refine pu_ 5 (some 30) ?_
  refine pu_ 11 (some 36) ?_
  refine pu_ 12 (some 37) ?_
  refine tk_ 6 (some 31) hHeld ?_ (hy := by rintro w' ⟨⟨s0, s1, s2⟩, -⟩; go_simp; with_reducible rfl)
  refine tk_ 13 (some 38) hHeld ?_ (hy := by rintro w' ⟨⟨s0, s1, s2⟩, -⟩; go_simp; with_reducible rfl)
  refine oN_ 0 (some 25) (fun K hK => ?_)
  go_simp
  have hbz : Below wD.heap.size wD (wD.alloc (.cells #[] 45)) := q50 (Below.refl _ _) _
  have hrz := R_voidN (kRaw 2) 45 wO.heap.size wD (fun _ => True) trivial hHeld.2.size
  refine hK.out _ _ ⟨⟨q66 hbz hHeld.1.1, q66 hbz hHeld.1.2.1, q66 hbz hHeld.1.2.2⟩, q65 hbz hHeld.2⟩ (fun hHeld => ?_)
  clear hK K
  obtain ⟨w7, hw7⟩ : ∃ w7, w7 = wD.alloc (.cells #[] 45) := ⟨_, rfl⟩
  obtain ⟨o7, ho7⟩ : ∃ o7, o7 = wD.heap.size := ⟨_, rfl⟩
  rw [← hw7, ← ho7] at hrz
  rw [← hw7] at hHeld ⊢
  rw [← ho7]
  have HRZ := Lib.hid hrz
  have HH7 := Lib.hid hHeld.2
  have HC5 := Lib.hid (Kd.C_below HC56.out.1 hHeld.2)
  have HFIT : Hid ((([] : List (List Value)).length + n5) * 48 ≤ 140737488355328) := Lib.hid (by have h3 := HRR.out.2.2; rw [List.length_append] at h3; have h1 := HRR.out.1; have h2 := HRR.out.2.1; simp only [List.length_nil]; omega)
  clear hrz hbz hw7 ho7 hHeld
  refine oN_ 7 (some 32) (fun K hK => ?_)
  refine Kd.R_append_rows_step (kRaw 2) (w0 := wO) wO.heap.size rfl (.tmp 25) (.tmp 31) 39 45 (.agg #[.slice none 0 0, .slice none 0 0]) 48 rfl Try.underlying39 iSent_ rfl (by decide) (by omega) (.slice (some ⟨o7, 0, none⟩) 0 0) [] r5 A5 n5 c5 (fun _ => True) (fun _ => False) rfl rfl HRZ.out HC5.out (fun _ _ h => h) (fun _ h => h.elim) (fun _ _ => trivial) HH7.out HH7.out.size HFIT.out ?_
  intro v1 w8 hR8 hB8 hg8 hat8
  refine hK.out _ _ ⟨⟨q66 hB8 hm1, q66 hB8 x5, q66 hB8 x6⟩, hB8⟩ (fun _ => ?_)
  clear hK K hg8 hat8
  obtain ⟨A8, c8, rfl⟩ := Kd.R_slice hR8
  simp only [List.nil_append] at hR8 ⊢
  obtain ⟨n8, hn8⟩ : ∃ n8, n8 = r5.length := ⟨_, rfl⟩
  rw [← hn8] at hR8 ⊢
  have HR8 := Lib.hid hR8
  have HB8 := Lib.hid hB8
  have HC6 := Lib.hid (Kd.C_below HC56.out.2 hB8)
  have HFIT : Hid ((r5.length + n6) * 48 ≤ 140737488355328) := Lib.hid (by have h3 := HRR.out.2.2; rw [List.length_append] at h3; have h1 := HRR.out.1; have h2 := HRR.out.2.1; omega)
  clear hR8 hB8 hn8
  refine nz_ (some 32) ?_
  refine oN_ 14 (some 39) (fun K hK => ?_)
  refine Kd.R_append_rows_step (kRaw 2) (w0 := wO) wO.heap.size rfl (.tmp 32) (.tmp 38) 39 45 (.agg #[.slice none 0 0, .slice none 0 0]) 48 rfl Try.underlying39 iSent_ rfl (by decide) (by omega) (.slice A8 n8 c8) r5 r6 A6 n6 c6 (fun _ => True) (fun _ => False) rfl rfl HR8.out HC6.out (fun _ _ h => h) (fun _ h => h.elim) (fun _ _ => trivial) HB8.out HB8.out.size HFIT.out ?_
  intro v1 w9 hR9 hB9 hg9 hat9
  refine hK.out _ _ ⟨⟨q66 hB9 hm1, q66 hB9 x5, q66 hB9 x6⟩, hB9⟩ (fun _ => ?_)
  clear hK K hg9 hat9
  obtain ⟨A9, c9, rfl⟩ := Kd.R_slice hR9
  rw [HRR.out.2.2] at hR9 ⊢
  have HR9 := Lib.hid hR9
  have HB9 := Lib.hid hB9
  clear hR9 hB9 hm1 x5 x6
  refine nz_ (some 39) ?_
  refine pu_ 15 (some 6) ?_
  refine dn_ ?_
  have HRL2 := Lib.hid HRR.out.2.2
  clear HRR HC56 HRZ HH7 HC5 HFIT HR8 HB8 HC6
  have hws := wrap_add sq m (Nat.le_trans hsl (by decide)) (Nat.le_trans hm6 (by decide))
  go_wp2_with fail
  go_loopg [3, 7] m (fun gg s3 s7 wr => ∃ k : Nat, s7 = .int .i64 k ∧ s3 = .int .i64 ((oq + onsN (ss.take k) : Nat) : Int) ∧ k ≤ m ∧ m - k ≤ gg ∧ wr = w9)
  case atStart => exact ⟨0, rfl, by simp [onsN], Nat.zero_le _, by omega, rfl⟩
  case round =>
   obtain ⟨k, rfl, rfl, hkm, hkg, hwr⟩ := hrel
   obtain rfl := hwr
   by_cases hlk : k < m
   case neg =>
    obtain rfl : m = k := by omega
    have hlz2 : ¬ (m : Int) < (m : Int) := by omega
    have HE : Hid (ss.take m = ss) := Lib.hid (by rw [HMS.out]; exact List.take_length)
    go_wp2
    go_roundg (n - (i + 1))
    case measure => omega
    case rel => exact ⟨i + 1, by go_num, by rw [HO1.out, HE.out, Int.natCast_add], by rw [HS1.out, Int.natCast_add], by omega, Nat.le_refl _, Lib.hid (q53 HY.out HY.out.size HB9.out)⟩
   have hlz2 : (k : Int) < (m : Int) := by omega
   have hks : k < ss.length := by have := HMS.out; omega
   obtain ⟨ad2, B8, d8, B9, d9, e2, y0, y1, -⟩ := sent_at (Kd.R_reads' HR9.out).2.2 HKR.out k hks (HRL2.out.trans HMS.out)
   cases e2
   have hts := onsN_take ss k hks
   have hle : ∀ k, onsN (ss.take k) ≤ 3 * k := fun k => take_sum_le (fun s : S45 => s.f0.length) 3 ss (fun s hs => (HW6.out s hs).1) k
   have hl1 := hle k
   have hq3 := (HW6.out ss[k] (List.getElem_mem hks)).1
   obtain ⟨nq, hnq⟩ : ∃ nq, nq = ss[k].f0.length := ⟨_, rfl⟩
   rw [← hnq] at y0 hts hq3
   have HT := Lib.hid hts
   obtain ⟨tk, htk⟩ : ∃ tk, tk = onsN (ss.take k) := ⟨_, rfl⟩
   rw [← htk] at HT hl1 ⊢
   have HWO := Lib.hid (wrap_add3 oq tk nq (Nat.le_trans hol (by decide)) (by omega) (by omega))
   clear hts hnq htk hle y1
   go_wp2
   go_roundg (m - (k + 1))
   case measure => omega
   case rel => exact ⟨k + 1, by go_num, by first | rw [HT.out, HWO.out.2] | rw [HT.out, HWO.out.1] | (rw [HT.out]; go_num), by omega, Nat.le_refl _, rfl⟩
end Go.Proofs.Yteddgedacjdjgaa.Pm
end
section
namespace Go.Proofs.Yteddgedacjdjgaa.xlateLong
open Go.ChangeShapes Go.WideShapes Go.ChangeAt Go.RowKit Go.Proofs.YteddgedacjdjgaaW.PrintWords
open Go.ChangeMaps (open_string shut_string)
set_option linter.unusedVariables false
theorem own : ownKnob Try.prog.godebug = none := by kernel_rfl
theorem laidOut : laidOutB Try.prog = true := by kernel_rfl
set_option maxRecDepth 100000 in
theorem lifted (os : Os) (started : os.Started) (H : Type) (enc : TypeId × Value → H) :
 ReturnsInHanded {} Try.checked os 4 .any (Rows.xlateLongSpec.pre6 enc Try.prog Try.f4 Rows.xlateLongRow.domain false) (Rows.xlateLongSpec.post enc Try.prog Try.f4 false true false false) := by
 refine returnsInHanded_of_change_sized (C := Try.checked) own started (by kernel_rfl) Try.func4
  (ChangeSpec.witness6 (enc := enc) (C := Try.checked) false ⟨#[], #[.agg #[.slice none 0 0, .slice none 0 0]], []⟩ 8 (by kernel_rfl) (by kernel_rfl) (by kernel_rfl) (by kernel_rfl)) ?_
 intro W base args ds gs before hval0 hW hcnd hsz0 _
 have hsz : (DataW.weightsEach Try.prog (Try.f4.params.toList ++ Rows.xlateLongSpec.plain.varTypes Try.prog) (ds ++ gs)).all (· ≤ reachBytes) = true := hsz0
 have hval : ∀ (j : Nat) t v, Try.f4.params[j]? = some t → args[j]? = some v → Value.okWide Try.prog W .any base t v := hval0
 have hW' := hW
 obtain ⟨p, q, hA0, hV, rfl, hfz, hnd⟩ := hW
 have hA : DataW.TrodAll enc Try.prog W 0 (fun _ => true) true Try.f4.params.toList args.toList ds p := hA0
 rw [Try.params4] at hA hval hsz
 obtain ⟨v0, vs0, d0, ds0, p0, q0, hargs, rfl, rfl, h0, r0⟩ := trodAll_cons hA
 obtain ⟨rfl, rfl, rfl⟩ := trodAll_nil r0
 obtain rfl : args = #[v0] := by cases args; simp_all
 obtain ⟨rfl, rfl⟩ := trodVars_none hV
 have k0 := h0
 have lt0 : ∀ x ∈ p0, x.block < W.heap.size := by obtain ⟨m, hm⟩ := k0; exact DataW.trod_lt m _ _ _ hm
 obtain ⟨A0, c0, fs0, B0, e0, l0, rfl, rdf0, hcf0, rdl0, hcl0, hf0, hl0, hg0⟩ := Pm.open_model (hval 0 25 v0 rfl rfl) h0 (Pm.light_of hsz (j := 0) (t := 25) rfl rfl)
 clear hA0 hval0 hsz0 hsz
 refine ((Pm.xlateLong_any A0 c0 fs0 B0 e0 l0 W ⟨⟨rdf0, hcf0, rdl0, hcl0⟩, hf0, hl0, hg0⟩)).mono fun e W' ⟨he, bel⟩ => ?_
 subst he
 exact ⟨_, rfl, _, _, _, [], _, [], hW', trodAll_mk1 (shut_bool Try.underlying4 _), (trodAll_cons_mk (Below.trod laidOut (by kernel_rfl) (of_decide_eq_true (by kernel_rfl)) k0 bel lt0) trodAll_mk0), rfl, bel.frame _, fun h => by cases h⟩
theorem over : Rows.xlateLongRow.holds Try.pinned (OpenSpec.ofChange Rows.xlateLongSpec) :=
 OpenClaim.holds_of_wide 4 Try.f4 rfl rfl rfl rfl rfl rfl rfl ⟨rfl, rfl, rfl, rfl, rfl⟩ rfl rfl rfl rfl rfl (by kernel_rfl) Try.func4 (by kernel_rfl)
  (of_decide_eq_true (by kernel_rfl)) (by unfold Func.isWrapper; first | (rw [if_pos (by decide +kernel)]; kernel_rfl) | (rw [if_neg (by decide +kernel)]; exact ⟨rfl, rfl⟩))
  (fun os started H enc _ => lifted os started H enc)
theorem proved : Rows.XlateLongSaid := over
end Go.Proofs.Yteddgedacjdjgaa.xlateLong
namespace Go.Proofs.Yteddgedacjdjgaa
theorem xlateLong_holds : Rows.XlateLongSaid := xlateLong.proved
end Go.Proofs.Yteddgedacjdjgaa
end
