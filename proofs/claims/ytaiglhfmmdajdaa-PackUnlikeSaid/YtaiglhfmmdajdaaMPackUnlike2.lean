/- Walks and plain laws on the way to the law PackUnlike: several texts of this workplace and of the kit's printer, merged; what is not used is struck, by a program. No condition. -/
import Derived.Test.YtaiglhfmmdajdaaMPackUnlike0
section
namespace Go.Proofs.Ytaiglhfmmdajdaa.Pm
open Go.RowKit Go.Proofs.YtaiglhfmmdajdaaW.PrintWords Go.Proofs.YtaiglhfmmdajdaaW.PrintLast Go.Proofs.YtaiglhfmmdajdaaW.PrintMore
attribute [local go_sem] max2_int min2_int max_two min_two max_three min_three max_four min_four   -- for this text's walks alone
set_option linter.unusedVariables false
set_option linter.unusedSimpArgs false
mutual
def sentrylaw6_heavy.l0 : Nat → Int → Int → List ByteArray → List (S48) → Option (Bool)
 | 0, _, _, _, _ => none
 | k + 1, x3, x4, x307000, x307001 => if x4 < (x307001.length : Int) then (sentrylaw6_heavy.j1 k x3 x4 (decide (x3 < 400)) x307000 x307001) else (sentrylaw6_heavy.j1 k x3 x4 false x307000 x307001)
def sentrylaw6_heavy.j1 : Nat → Int → Int → Bool → List ByteArray → List (S48) → Option (Bool)
 | 0, _, _, _, _, _ => none
 | k + 1, x3, x4, x23, x307000, x307001 => if x23 = true then (if 0 ≤ x4 then (if x4 < (x307001.length : Int) then (sentrylaw6_heavy.l1 k (wrap64 ((wrap64 ((wrap64 ((wrap64 (x3 + (((rd_T48 x307001 x4).f5).length : Int))) + (((rd_T48 x307001 x4).f6).length : Int))) + (wrap64 ((((rd_T48 x307001 x4).f0).size : Int) / 50)))) + (wrap64 ((((rd_T48 x307001 x4).f2).size : Int) / 50)))) x4 0 x307000 x307001 ((rd_T48 x307001 x4).f0) ((rd_T48 x307001 x4).f1) ((rd_T48 x307001 x4).f2) ((rd_T48 x307001 x4).f3) ((rd_T48 x307001 x4).f4) ((rd_T48 x307001 x4).f5) ((rd_T48 x307001 x4).f6)) else (none)) else (none)) else (some (decide (x3 ≥ 400)))
def sentrylaw6_heavy.j3 : Nat → Int → Int → List ByteArray → List (S48) → ByteArray → Int → ByteArray → Bool → Int → List (S54) → List (S54) → Option (Bool)
 | 0, _, _, _, _, _, _, _, _, _, _, _ => none
 | k + 1, x3, x4, x307000, x307001, x309000, x309001, x309002, x309003, x309004, x309005, x309006 => sentrylaw6_heavy.l2 k x3 x4 0 x307000 x307001 x309000 x309001 x309002 x309003 x309004 x309005 x309006
def sentrylaw6_heavy.l2 : Nat → Int → Int → Int → List ByteArray → List (S48) → ByteArray → Int → ByteArray → Bool → Int → List (S54) → List (S54) → Option (Bool)
 | 0, _, _, _, _, _, _, _, _, _, _, _, _ => none
 | k + 1, x3, x4, x7, x307000, x307001, x309000, x309001, x309002, x309003, x309004, x309005, x309006 => if x7 < (x309006.length : Int) then (if x3 < 400 then (if 0 ≤ x7 then (sentrylaw6_heavy.l2 k (wrap64 ((wrap64 (x3 + (((rd_T54 x309006 x7).f0).length : Int))) + (((rd_T54 x309006 x7).f1).length : Int))) x4 (wrap64 (x7 + 1)) x307000 x307001 x309000 x309001 x309002 x309003 x309004 x309005 x309006) else (none)) else (sentrylaw6_heavy.l0 k x3 (wrap64 (x4 + 1)) x307000 x307001)) else (sentrylaw6_heavy.l0 k x3 (wrap64 (x4 + 1)) x307000 x307001)
def sentrylaw6_heavy.l1 : Nat → Int → Int → Int → List ByteArray → List (S48) → ByteArray → Int → ByteArray → Bool → Int → List (S54) → List (S54) → Option (Bool)
 | 0, _, _, _, _, _, _, _, _, _, _, _, _ => none
 | k + 1, x3, x4, x6, x307000, x307001, x309000, x309001, x309002, x309003, x309004, x309005, x309006 => if x6 < (x309005.length : Int) then (if x3 < 400 then (if 0 ≤ x6 then (sentrylaw6_heavy.l1 k (wrap64 ((wrap64 (x3 + (((rd_T54 x309005 x6).f0).length : Int))) + (((rd_T54 x309005 x6).f1).length : Int))) x4 (wrap64 (x6 + 1)) x307000 x307001 x309000 x309001 x309002 x309003 x309004 x309005 x309006) else (none)) else (sentrylaw6_heavy.j3 k x3 x4 x307000 x307001 x309000 x309001 x309002 x309003 x309004 x309005 x309006)) else (sentrylaw6_heavy.j3 k x3 x4 x307000 x307001 x309000 x309001 x309002 x309003 x309004 x309005 x309006)
end
def sentrylaw6_heavy.f (k : Nat) (l0_0 : List ByteArray) (l0_1 : List (S48)) : Option (Bool) := sentrylaw6_heavy.l0 k (wrap64 ((l0_0.length : Int) + (l0_1.length : Int))) 0 l0_0 l0_1
theorem sentrylaw6_heavy.mono_l : ∀ k, (∀ y0 y1 y2 y3, LeO (sentrylaw6_heavy.l0 k y0 y1 y2 y3) (sentrylaw6_heavy.l0 (k + 1) y0 y1 y2 y3)) ∧ (∀ y0 y1 y2 y3 y4, LeO (sentrylaw6_heavy.j1 k y0 y1 y2 y3 y4) (sentrylaw6_heavy.j1 (k + 1) y0 y1 y2 y3 y4)) ∧ (∀ y0 y1 y2 y3 y4 y5 y6 y7 y8 y9 y10, LeO (sentrylaw6_heavy.j3 k y0 y1 y2 y3 y4 y5 y6 y7 y8 y9 y10) (sentrylaw6_heavy.j3 (k + 1) y0 y1 y2 y3 y4 y5 y6 y7 y8 y9 y10)) ∧ (∀ y0 y1 y2 y3 y4 y5 y6 y7 y8 y9 y10 y11, LeO (sentrylaw6_heavy.l2 k y0 y1 y2 y3 y4 y5 y6 y7 y8 y9 y10 y11) (sentrylaw6_heavy.l2 (k + 1) y0 y1 y2 y3 y4 y5 y6 y7 y8 y9 y10 y11)) ∧ (∀ y0 y1 y2 y3 y4 y5 y6 y7 y8 y9 y10 y11, LeO (sentrylaw6_heavy.l1 k y0 y1 y2 y3 y4 y5 y6 y7 y8 y9 y10 y11) (sentrylaw6_heavy.l1 (k + 1) y0 y1 y2 y3 y4 y5 y6 y7 y8 y9 y10 y11))
 | 0 => ⟨fun _ _ _ _ r h => by simp [sentrylaw6_heavy.l0] at h, fun _ _ _ _ _ r h => by simp [sentrylaw6_heavy.j1] at h, fun _ _ _ _ _ _ _ _ _ _ _ r h => by simp [sentrylaw6_heavy.j3] at h, fun _ _ _ _ _ _ _ _ _ _ _ _ r h => by simp [sentrylaw6_heavy.l2] at h, fun _ _ _ _ _ _ _ _ _ _ _ _ r h => by simp [sentrylaw6_heavy.l1] at h⟩
 | k + 1 => by
  obtain ⟨ih0, ih1, ih2, ih3, ih4⟩ := sentrylaw6_heavy.mono_l k
  refine ⟨?_, ?_, ?_, ?_, ?_⟩
  intro y0 y1 y2 y3
  unfold sentrylaw6_heavy.l0
  rotate_left
  intro y0 y1 y2 y3 y4
  unfold sentrylaw6_heavy.j1
  rotate_left
  intro y0 y1 y2 y3 y4 y5 y6 y7 y8 y9 y10
  unfold sentrylaw6_heavy.j3
  rotate_left
  intro y0 y1 y2 y3 y4 y5 y6 y7 y8 y9 y10 y11
  unfold sentrylaw6_heavy.l2
  rotate_left
  intro y0 y1 y2 y3 y4 y5 y6 y7 y8 y9 y10 y11
  unfold sentrylaw6_heavy.l1
  rotate_left
  all_goals repeat' first
   | (with_reducible exact ih0 _ _ _ _)
   | (with_reducible exact ih1 _ _ _ _ _)
   | (with_reducible exact ih2 _ _ _ _ _ _ _ _ _ _ _)
   | (with_reducible exact ih3 _ _ _ _ _ _ _ _ _ _ _ _)
   | (with_reducible exact ih4 _ _ _ _ _ _ _ _ _ _ _ _)
   | (with_reducible exact LeO.refl _)
   | (with_reducible exact LeO.none _)
   | (with_reducible refine LeO.ite ?_ ?_)
   | (with_reducible refine LeO.bind ?_ (fun _ => ?_))
   | exact ih0 _ _ _ _
   | exact ih1 _ _ _ _ _
   | exact ih2 _ _ _ _ _ _ _ _ _ _ _
   | exact ih3 _ _ _ _ _ _ _ _ _ _ _ _
   | exact ih4 _ _ _ _ _ _ _ _ _ _ _ _
   | exact LeO.none _
   | refine LeO.ite ?_ ?_
   | refine LeO.bind ?_ (fun _ => ?_)
theorem sentrylaw6_heavy.mono : ∀ a0 a1 k, LeO (sentrylaw6_heavy.f k a0 a1) (sentrylaw6_heavy.f (k + 1) a0 a1) := by
 intro a0 a1 k
 obtain ⟨ih0, ih1, ih2, ih3, ih4⟩ := sentrylaw6_heavy.mono_l k
 unfold sentrylaw6_heavy.f
 repeat' first
   | (with_reducible exact ih0 _ _ _ _)
   | (with_reducible exact ih1 _ _ _ _ _)
   | (with_reducible exact ih2 _ _ _ _ _ _ _ _ _ _ _)
   | (with_reducible exact ih3 _ _ _ _ _ _ _ _ _ _ _ _)
   | (with_reducible exact ih4 _ _ _ _ _ _ _ _ _ _ _ _)
   | (with_reducible exact LeO.refl _)
   | (with_reducible exact LeO.none _)
   | (with_reducible refine LeO.ite ?_ ?_)
   | (with_reducible refine LeO.bind ?_ (fun _ => ?_))
   | exact ih0 _ _ _ _
   | exact ih1 _ _ _ _ _
   | exact ih2 _ _ _ _ _ _ _ _ _ _ _
   | exact ih3 _ _ _ _ _ _ _ _ _ _ _ _
   | exact ih4 _ _ _ _ _ _ _ _ _ _ _ _
   | exact LeO.none _
   | refine LeO.ite ?_ ?_
   | refine LeO.bind ?_ (fun _ => ?_)
set_option maxHeartbeats 8000000 in
set_option maxRecDepth 100000 in
theorem sentrylaw6_heavy.calls (k : Nat) (A0_0 : Option Addr) (c0_0 : Nat) (l0_0 : List ByteArray) (A0_1 : Option Addr) (c0_1 : Nat) (l0_1 : List (S48)) (r : Bool) (w : World) (hr0_0 : Kd.C Kd.string w A0_0 l0_0.length l0_0) (hc0_0 : l0_0.length ≤ c0_0) (hr0_1 : Kd.C k48 w A0_1 l0_1.length l0_1) (hc0_1 : l0_1.length ≤ c0_1) (h : sentrylaw6_heavy.f k l0_0 l0_1 = some r) :
  Calls Try.prog 13 #[.agg #[.slice A0_0 l0_0.length c0_0, .slice A0_1 l0_1.length c0_1]] w fun e w' => e = .returned (.bool r) ∧ Below w.heap.size w w' := by
 have hu25 := Try.underlying25
 have hu48 := Try.underlying48
 have HR0_0 := Aside0.mk hr0_0
 have HC0_0 := Aside0.mk hc0_0
 clear hr0_0 hc0_0
 have HR0_1 := Aside0.mk hr0_1
 have HC0_1 := Aside0.mk hc0_1
 clear hr0_1 hc0_1
 have HB := Aside0.mk (Below.refl w.heap.size w)
 have H : (sentrylaw6_heavy.l0 k (wrap64 ((l0_0.length : Int) + (l0_1.length : Int))) 0 l0_0 l0_1) = some r := h
 clear h
 have H' := Aside0.mk H
 clear H
 go_enter Try.func13, Try.ntmps13
 go_wp2_with (first | ((with_reducible refine gate_dst (N := 1) rfl ?_); refine box_event ?hg (N := 1) ?hd (cs := #[.slice A0_0 l0_0.length c0_0, .slice A0_1 l0_1.length c0_1]) (t := 25) ?hr ?_; (case hd => rfl); (case hg => rfl); (case hr => first | (go_simp; done) | (go_simp; rfl)); intro gb306 hg w2 hbox hb; have n0_ := hb_ HB hb; have n1_ := Aside0.mk (hbox); have n2_ := Aside0.mk ((by rw [hg]; exact (below_size (by repeat (first | (with_reducible first | exact HB.out | apply below_alloc | apply pw_below_drewN | apply below_drew1) | exact HB.out))) : w.heap.size ≤ gb306)); have n3_ := Aside0.mk ((by rw [hg]; exact (below_size (by repeat (first | (with_reducible first | exact HB.out | apply below_alloc | apply pw_below_drewN | apply below_drew1) | exact HB.out))) : w.heap.size ≤ gb306)); clear HB; have HB := n0_; have BK306 := n1_; have GW306 := n2_; have GE306 := n3_; clear n0_ n1_ n2_ n3_; clear hb hbox hg; obtain ⟨hcz3_0, hcz3_1, hfz3_0, hfz3_1⟩ := bs2_ BK306))
 repeat (go_quiet (first | ((with_reducible refine gate_dst (N := 1) rfl ?_); refine box_event ?hg (N := 1) ?hd (cs := #[.slice A0_0 l0_0.length c0_0, .slice A0_1 l0_1.length c0_1]) (t := 25) ?hr ?_; (case hd => rfl); (case hg => rfl); (case hr => first | (go_simp; done) | (go_simp; rfl)); intro gb306 hg w2 hbox hb; have n0_ := hb_ HB hb; have n1_ := Aside0.mk (hbox); have n2_ := Aside0.mk ((by rw [hg]; exact (below_size (by repeat (first | (with_reducible first | exact HB.out | apply below_alloc | apply pw_below_drewN | apply below_drew1) | exact HB.out))) : w.heap.size ≤ gb306)); have n3_ := Aside0.mk ((by rw [hg]; exact (below_size (by repeat (first | (with_reducible first | exact HB.out | apply below_alloc | apply pw_below_drewN | apply below_drew1) | exact HB.out))) : w.heap.size ≤ gb306)); clear HB; have HB := n0_; have BK306 := n1_; have GW306 := n2_; have GE306 := n3_; clear n0_ n1_ n2_ n3_; clear hb hbox hg; obtain ⟨hcz3_0, hcz3_1, hfz3_0, hfz3_1⟩ := bs2_ BK306)); try go_wp2_with (first | ((with_reducible refine gate_dst (N := 1) rfl ?_); refine box_event ?hg (N := 1) ?hd (cs := #[.slice A0_0 l0_0.length c0_0, .slice A0_1 l0_1.length c0_1]) (t := 25) ?hr ?_; (case hd => rfl); (case hg => rfl); (case hr => first | (go_simp; done) | (go_simp; rfl)); intro gb306 hg w2 hbox hb; have n0_ := hb_ HB hb; have n1_ := Aside0.mk (hbox); have n2_ := Aside0.mk ((by rw [hg]; exact (below_size (by repeat (first | (with_reducible first | exact HB.out | apply below_alloc | apply pw_below_drewN | apply below_drew1) | exact HB.out))) : w.heap.size ≤ gb306)); have n3_ := Aside0.mk ((by rw [hg]; exact (below_size (by repeat (first | (with_reducible first | exact HB.out | apply below_alloc | apply pw_below_drewN | apply below_drew1) | exact HB.out))) : w.heap.size ≤ gb306)); clear HB; have HB := n0_; have BK306 := n1_; have GW306 := n2_; have GE306 := n3_; clear n0_ n1_ n2_ n3_; clear hb hbox hg; obtain ⟨hcz3_0, hcz3_1, hfz3_0, hfz3_1⟩ := bs2_ BK306)))
 go_loopg [3, 4] k (fun kq v3 v4 w' => ∃ (x3_1 : Int) (x4_1 : Int), v3 = .int .i64 x3_1 ∧ v4 = .int .i64 x4_1 ∧ Aside0 (sentrylaw6_heavy.l0 kq x3_1 x4_1 l0_0 l0_1 = some r) ∧ Aside0 (kq ≤ k) ∧ Aside0 (w'.heap[gb306]? = some (.cells #[(.slice A0_0 l0_0.length c0_0), (.slice A0_1 l0_1.length c0_1)] 25 (0, 0))) ∧ Aside0 (Below w.heap.size w w'))
 case atStart => exact ⟨(wrap64 ((l0_0.length : Int) + (l0_1.length : Int))), (0), (by first | rfl | (simp; done) | (simp [*]; done)), (by first | rfl | (simp; done) | (simp [*]; done)), H', ⟨Nat.le_refl _⟩, ⟨gx_ BK306⟩, ⟨hf_⟩⟩
 case round =>
  clear H'
  (try clear c1); (try clear p2); (try clear hcz3_0); (try clear hcz3_1); (try clear hfz3_0); (try clear hfz3_1)
  obtain ⟨x3_1, x4_1, rfl, rfl, HA, HK1, BK306, HB⟩ := hrel
  cases gk with
  | zero => exact absurd HA.out (by simp [sentrylaw6_heavy.l0])
  | succ k1 =>
   have H := HA.out
   clear HA
   simp only [sentrylaw6_heavy.l0] at H
   have HC4 := Aside0.mk H
   clear H
   go_upto_region 3 with (fail)
   repeat (go_quiet (fail); go_upto_region 3 with (fail))
   go_cut [23] (fun v23 wc => ∃ (kq : Nat) (x23_3 : Bool), v23 = .bool x23_3 ∧ Aside0 (sentrylaw6_heavy.j1 kq x3_1 x4_1 x23_3 l0_0 l0_1 = some r) ∧ Aside0 (kq ≤ k1) ∧ Aside0 (wc.heap[gb306]? = some (.cells #[(.slice A0_0 l0_0.length c0_0), (.slice A0_1 l0_1.length c0_1)] 25 (0, 0))) ∧ Aside0 (Below w.heap.size w wc))
   case first =>
    have H := HC4.out
    clear HC4
    by_cases c5 : x4_1 < (l0_1.length : Int)
    ·rw [if_pos c5] at H
     have c5b0 : decide (x4_1 < (l0_1.length : Int)) = true := decide_eq_true c5
     clear c5
     (first | rw [c5b0] | (simp only [i64_w, i32_w]; rw [c5b0]) | skip)
     have H' := Aside0.mk H
     clear H
     obtain ⟨hcz6_0, hcz6_1, hfz6_0, hfz6_1⟩ := bs2_ BK306
     go_wp2
     repeat (go_quiet (fail); try go_wp2)
     go_meet
     case rel => exact ⟨_, (decide (x3_1 < 400)), (by first | rfl | (simp; done) | (simp [*]; done)), H', ⟨by have := HK1.out; first | omega | exact Nat.le_refl _⟩, ⟨gx_ BK306⟩, ⟨hf_⟩⟩
    ·rw [if_neg c5] at H
     have c5b0 : decide (x4_1 < (l0_1.length : Int)) = false := decide_eq_false c5
     clear c5
     (first | rw [c5b0] | (simp only [i64_w, i32_w]; rw [c5b0]) | skip)
     have H' := Aside0.mk H
     clear H
     obtain ⟨hcz7_0, hcz7_1, hfz7_0, hfz7_1⟩ := bs2_ BK306
     go_wp2
     repeat (go_quiet (fail); try go_wp2)
     go_meet
     case rel => exact ⟨_, (false), (by first | rfl | (simp; done) | (simp [*]; done)), H', ⟨by have := HK1.out; first | omega | exact Nat.le_refl _⟩, ⟨gx_ BK306⟩, ⟨hf_⟩⟩
   case rest =>
    clear HC4
    (try clear c1); (try clear p2); (try clear c5); (try clear c5b0); (try clear p6); (try clear hcz3_0); (try clear hcz3_1); (try clear hcz6_0); (try clear hcz6_1); (try clear hcz7_0); (try clear hcz7_1); (try clear hfz3_0); (try clear hfz3_1); (try clear hfz6_0); (try clear hfz6_1); (try clear hfz7_0); (try clear hfz7_1); (try clear p2)
    obtain ⟨kq, x23_3, rfl, HA, HJ3, BK306, HB⟩ := hcut
    cases kq with
    | zero => exact absurd HA.out (by simp [sentrylaw6_heavy.j1])
    | succ kj3 =>
     have H := HA.out
     clear HA
     simp only [sentrylaw6_heavy.j1] at H
     by_cases c8 : x23_3 = true
     ·subst c8
      have H1 : (if 0 ≤ x4_1 then (if x4_1 < (l0_1.length : Int) then (sentrylaw6_heavy.l1 kj3 (wrap64 ((wrap64 ((wrap64 ((wrap64 (x3_1 + (((rd_T48 l0_1 x4_1).f5).length : Int))) + (((rd_T48 l0_1 x4_1).f6).length : Int))) + (wrap64 ((((rd_T48 l0_1 x4_1).f0).size : Int) / 50)))) + (wrap64 ((((rd_T48 l0_1 x4_1).f2).size : Int) / 50)))) x4_1 0 l0_0 l0_1 ((rd_T48 l0_1 x4_1).f0) ((rd_T48 l0_1 x4_1).f1) ((rd_T48 l0_1 x4_1).f2) ((rd_T48 l0_1 x4_1).f3) ((rd_T48 l0_1 x4_1).f4) ((rd_T48 l0_1 x4_1).f5) ((rd_T48 l0_1 x4_1).f6)) else (none)) else (none)) = some r := by rw [if_pos rfl] at H; exact H
      clear H
      have H := H1
      clear H1
      by_cases c9 : 0 ≤ x4_1
      ·rw [if_pos c9] at H
       have c9b0 : decide (0 ≤ x4_1) = true := decide_eq_true c9
       clear c9
       by_cases c10 : x4_1 < (l0_1.length : Int)
       ·rw [if_pos c10] at H
        have c10b0 : decide (x4_1 < (l0_1.length : Int)) = true := decide_eq_true c10
        clear c10
        have HC11 := Aside0.mk H
        clear H
        obtain ⟨hcz12_0, hcz12_1, hfz12_0, hfz12_1⟩ := bs2_ BK306
        have p307 : 0 ≤ (x4_1 : Int) := od_
        have q307 : x4_1 < (l0_1.length : Int) := od_
        obtain ⟨ad307, A307_5, c307_5, A307_6, c307_6, e307, hx307_0, hx307_1, hx307_2, hx307_3, hx307_4, hx307_5, hx307_6, hl307_5, hi307_5, hl307_6, hi307_6⟩ := at_T48 HR0_1.out x4_1 p307 q307
        cases e307
        replace hx307_0 := rr_ HB hx307_0
        replace hx307_1 := rr_ HB hx307_1
        replace hx307_2 := rr_ HB hx307_2
        replace hx307_3 := rr_ HB hx307_3
        replace hx307_4 := rr_ HB hx307_4
        replace hx307_5 := rr_ HB hx307_5
        replace hx307_6 := rr_ HB hx307_6
        have HR307_5 := Aside0.mk hi307_5
        have HC307_5 := Aside0.mk hl307_5
        clear hi307_5 hl307_5
        have HR307_6 := Aside0.mk hi307_6
        have HC307_6 := Aside0.mk hl307_6
        clear hi307_6 hl307_6
        replace p307 := eq_true p307
        replace q307 := eq_true q307
        go_upto_block 2 with (first | ((with_reducible refine gate_dst (N := 5) rfl ?_); refine box_event ?hg (N := 5) ?hd (cs := #[.string (⟨#[]⟩ : ByteArray), .int .i64 0, .string (⟨#[]⟩ : ByteArray), .bool false, .int .i64 0, .slice none 0 0, .slice none 0 0]) (t := 48) ?hr ?_; (case hd => rfl); (case hg => rfl); (case hr => first | (go_simp; done) | (go_simp; rfl)); intro gb308 hg w13 hbox hb; have n0_ := bb_ BK306 hb; have n1_ := hb_ HB hb; have n2_ := Aside0.mk (hbox); have n3_ := Aside0.mk ((by rw [hg]; exact (below_size (by repeat (first | (with_reducible first | exact HB.out | apply below_alloc | apply pw_below_drewN | apply below_drew1 | refine below_set ?_ GE306.out) | exact HB.out))) : w.heap.size ≤ gb308)); have n4_ := Aside0.mk ((by rw [hg]; exact (below_size (by repeat (first | (with_reducible first | exact HB.out | apply below_alloc | apply pw_below_drewN | apply below_drew1 | refine below_set ?_ GE306.out) | exact HB.out))) : w.heap.size ≤ gb308)); have n5_ := Aside0.mk ((by rw [hg]; exact Nat.ne_of_lt (blk_lt (g := gb306) (o := .cells #[.slice A0_0 l0_0.length c0_0, .slice (some ad307) l0_1.length c0_1] 25 (0, 0)) (by (with_reducible repeat (first | refine blk_drewN ?_ _ | refine blk_drew ?_ | refine blk_alloc ?_ _)); exact BK306.out)) : gb306 ≠ gb308)); have n6_ := Aside0.mk ((by rw [hg]; exact Nat.ne_of_gt (blk_lt (g := gb306) (o := .cells #[.slice A0_0 l0_0.length c0_0, .slice (some ad307) l0_1.length c0_1] 25 (0, 0)) (by (with_reducible repeat (first | refine blk_drewN ?_ _ | refine blk_drew ?_ | refine blk_alloc ?_ _)); exact BK306.out)) : gb308 ≠ gb306)); clear BK306; clear HB; have BK306 := n0_; have HB := n1_; have BK308 := n2_; have GW308 := n3_; have GE308 := n4_; have NB306_308 := n5_; have NB308_306 := n6_; clear n0_ n1_ n2_ n3_ n4_ n5_ n6_; clear hb hbox hg; have hnb14 := NB308_306.out; have hnc14 := NB306_308.out; obtain ⟨hcz15_0, hcz15_1, hcz15_2, hcz15_3, hcz15_4, hcz15_5, hcz15_6, hfz15_0, hfz15_1, hfz15_2, hfz15_3, hfz15_4, hfz15_5, hfz15_6⟩ := bs7_ BK308))
        repeat (go_quiet (first | ((with_reducible refine gate_dst (N := 5) rfl ?_); refine box_event ?hg (N := 5) ?hd (cs := #[.string (⟨#[]⟩ : ByteArray), .int .i64 0, .string (⟨#[]⟩ : ByteArray), .bool false, .int .i64 0, .slice none 0 0, .slice none 0 0]) (t := 48) ?hr ?_; (case hd => rfl); (case hg => rfl); (case hr => first | (go_simp; done) | (go_simp; rfl)); intro gb308 hg w13 hbox hb; have n0_ := bb_ BK306 hb; have n1_ := hb_ HB hb; have n2_ := Aside0.mk (hbox); have n3_ := Aside0.mk ((by rw [hg]; exact (below_size (by repeat (first | (with_reducible first | exact HB.out | apply below_alloc | apply pw_below_drewN | apply below_drew1 | refine below_set ?_ GE306.out) | exact HB.out))) : w.heap.size ≤ gb308)); have n4_ := Aside0.mk ((by rw [hg]; exact (below_size (by repeat (first | (with_reducible first | exact HB.out | apply below_alloc | apply pw_below_drewN | apply below_drew1 | refine below_set ?_ GE306.out) | exact HB.out))) : w.heap.size ≤ gb308)); have n5_ := Aside0.mk ((by rw [hg]; exact Nat.ne_of_lt (blk_lt (g := gb306) (o := .cells #[.slice A0_0 l0_0.length c0_0, .slice (some ad307) l0_1.length c0_1] 25 (0, 0)) (by (with_reducible repeat (first | refine blk_drewN ?_ _ | refine blk_drew ?_ | refine blk_alloc ?_ _)); exact BK306.out)) : gb306 ≠ gb308)); have n6_ := Aside0.mk ((by rw [hg]; exact Nat.ne_of_gt (blk_lt (g := gb306) (o := .cells #[.slice A0_0 l0_0.length c0_0, .slice (some ad307) l0_1.length c0_1] 25 (0, 0)) (by (with_reducible repeat (first | refine blk_drewN ?_ _ | refine blk_drew ?_ | refine blk_alloc ?_ _)); exact BK306.out)) : gb308 ≠ gb306)); clear BK306; clear HB; have BK306 := n0_; have HB := n1_; have BK308 := n2_; have GW308 := n3_; have GE308 := n4_; have NB306_308 := n5_; have NB308_306 := n6_; clear n0_ n1_ n2_ n3_ n4_ n5_ n6_; clear hb hbox hg; have hnb14 := NB308_306.out; have hnc14 := NB306_308.out; obtain ⟨hcz15_0, hcz15_1, hcz15_2, hcz15_3, hcz15_4, hcz15_5, hcz15_6, hfz15_0, hfz15_1, hfz15_2, hfz15_3, hfz15_4, hfz15_5, hfz15_6⟩ := bs7_ BK308)); go_upto_block 2 with (first | ((with_reducible refine gate_dst (N := 5) rfl ?_); refine box_event ?hg (N := 5) ?hd (cs := #[.string (⟨#[]⟩ : ByteArray), .int .i64 0, .string (⟨#[]⟩ : ByteArray), .bool false, .int .i64 0, .slice none 0 0, .slice none 0 0]) (t := 48) ?hr ?_; (case hd => rfl); (case hg => rfl); (case hr => first | (go_simp; done) | (go_simp; rfl)); intro gb308 hg w13 hbox hb; have n0_ := bb_ BK306 hb; have n1_ := hb_ HB hb; have n2_ := Aside0.mk (hbox); have n3_ := Aside0.mk ((by rw [hg]; exact (below_size (by repeat (first | (with_reducible first | exact HB.out | apply below_alloc | apply pw_below_drewN | apply below_drew1 | refine below_set ?_ GE306.out) | exact HB.out))) : w.heap.size ≤ gb308)); have n4_ := Aside0.mk ((by rw [hg]; exact (below_size (by repeat (first | (with_reducible first | exact HB.out | apply below_alloc | apply pw_below_drewN | apply below_drew1 | refine below_set ?_ GE306.out) | exact HB.out))) : w.heap.size ≤ gb308)); have n5_ := Aside0.mk ((by rw [hg]; exact Nat.ne_of_lt (blk_lt (g := gb306) (o := .cells #[.slice A0_0 l0_0.length c0_0, .slice (some ad307) l0_1.length c0_1] 25 (0, 0)) (by (with_reducible repeat (first | refine blk_drewN ?_ _ | refine blk_drew ?_ | refine blk_alloc ?_ _)); exact BK306.out)) : gb306 ≠ gb308)); have n6_ := Aside0.mk ((by rw [hg]; exact Nat.ne_of_gt (blk_lt (g := gb306) (o := .cells #[.slice A0_0 l0_0.length c0_0, .slice (some ad307) l0_1.length c0_1] 25 (0, 0)) (by (with_reducible repeat (first | refine blk_drewN ?_ _ | refine blk_drew ?_ | refine blk_alloc ?_ _)); exact BK306.out)) : gb308 ≠ gb306)); clear BK306; clear HB; have BK306 := n0_; have HB := n1_; have BK308 := n2_; have GW308 := n3_; have GE308 := n4_; have NB306_308 := n5_; have NB308_306 := n6_; clear n0_ n1_ n2_ n3_ n4_ n5_ n6_; clear hb hbox hg; have hnb14 := NB308_306.out; have hnc14 := NB306_308.out; obtain ⟨hcz15_0, hcz15_1, hcz15_2, hcz15_3, hcz15_4, hcz15_5, hcz15_6, hfz15_0, hfz15_1, hfz15_2, hfz15_3, hfz15_4, hfz15_5, hfz15_6⟩ := bs7_ BK308)))
        (try simp only [Act.put, List.setIfInBounds_toArray, List.set_cons_zero, List.set_cons_succ])
        go_cut [3] (fun v3 wc => ∃ (kq : Nat) (x3_10 : Int), v3 = .int .i64 x3_10 ∧ Aside0 (sentrylaw6_heavy.j3 kq x3_10 x4_1 l0_0 l0_1 ((rd_T48 l0_1 x4_1).f0) ((rd_T48 l0_1 x4_1).f1) ((rd_T48 l0_1 x4_1).f2) ((rd_T48 l0_1 x4_1).f3) ((rd_T48 l0_1 x4_1).f4) ((rd_T48 l0_1 x4_1).f5) ((rd_T48 l0_1 x4_1).f6) = some r) ∧ Aside0 (kq ≤ kj3) ∧ Aside0 (wc.heap[gb306]? = some (.cells #[(.slice A0_0 l0_0.length c0_0), (.slice (some ad307) l0_1.length c0_1)] 25 (0, 0))) ∧ Aside0 (wc.heap[gb308]? = some (.cells #[.string ((rd_T48 l0_1 x4_1).f0), .int .i64 ((rd_T48 l0_1 x4_1).f1), .string ((rd_T48 l0_1 x4_1).f2), .bool ((rd_T48 l0_1 x4_1).f3), .int .i64 ((rd_T48 l0_1 x4_1).f4), (.slice A307_5 ((rd_T48 l0_1 x4_1).f5).length c307_5), (.slice A307_6 ((rd_T48 l0_1 x4_1).f6).length c307_6)] 48 (0, 0))) ∧ Aside0 (Below w.heap.size w wc))
        case first =>
         have H := HC11.out
         clear HC11
         have H' := Aside0.mk H
         clear H
         go_wp2
         repeat (go_quiet (fail); try go_wp2)
         go_loopg [3, 6] kj3 (fun kq v3 v6 w' => ∃ (x3_3 : Int) (x6_3 : Int), v3 = .int .i64 x3_3 ∧ v6 = .int .i64 x6_3 ∧ Aside0 (sentrylaw6_heavy.l1 kq x3_3 x4_1 x6_3 l0_0 l0_1 ((rd_T48 l0_1 x4_1).f0) ((rd_T48 l0_1 x4_1).f1) ((rd_T48 l0_1 x4_1).f2) ((rd_T48 l0_1 x4_1).f3) ((rd_T48 l0_1 x4_1).f4) ((rd_T48 l0_1 x4_1).f5) ((rd_T48 l0_1 x4_1).f6) = some r) ∧ Aside0 (kq ≤ kj3) ∧ Aside0 (w'.heap[gb306]? = some (.cells #[(.slice A0_0 l0_0.length c0_0), (.slice (some ad307) l0_1.length c0_1)] 25 (0, 0))) ∧ Aside0 (w'.heap[gb308]? = some (.cells #[.string ((rd_T48 l0_1 x4_1).f0), .int .i64 ((rd_T48 l0_1 x4_1).f1), .string ((rd_T48 l0_1 x4_1).f2), .bool ((rd_T48 l0_1 x4_1).f3), .int .i64 ((rd_T48 l0_1 x4_1).f4), (.slice A307_5 ((rd_T48 l0_1 x4_1).f5).length c307_5), (.slice A307_6 ((rd_T48 l0_1 x4_1).f6).length c307_6)] 48 (0, 0))) ∧ Aside0 (Below w.heap.size w w'))
         case atStart => exact ⟨(wrap64 ((wrap64 ((wrap64 ((wrap64 (x3_1 + (((rd_T48 l0_1 x4_1).f5).length : Int))) + (((rd_T48 l0_1 x4_1).f6).length : Int))) + (wrap64 ((((rd_T48 l0_1 x4_1).f0).size : Int) / 50)))) + (wrap64 ((((rd_T48 l0_1 x4_1).f2).size : Int) / 50)))), (0), (by first | rfl | (simp; done) | (simp [*]; done)), (by first | rfl | (simp; done) | (simp [*]; done)), H', ⟨Nat.le_refl _⟩, ⟨by (with_reducible repeat (first | refine blk_drewN ?_ _ | refine blk_drew ?_ | refine blk_alloc ?_ _)); refine blk_far ?_ NB306_308.out _; (with_reducible repeat (first | refine blk_drewN ?_ _ | refine blk_drew ?_ | refine blk_alloc ?_ _)); refine blk_far ?_ NB306_308.out _; (with_reducible repeat (first | refine blk_drewN ?_ _ | refine blk_drew ?_ | refine blk_alloc ?_ _)); refine blk_far ?_ NB306_308.out _; (with_reducible repeat (first | refine blk_drewN ?_ _ | refine blk_drew ?_ | refine blk_alloc ?_ _)); refine blk_far ?_ NB306_308.out _; (with_reducible repeat (first | refine blk_drewN ?_ _ | refine blk_drew ?_ | refine blk_alloc ?_ _)); refine blk_far ?_ NB306_308.out _; (with_reducible repeat (first | refine blk_drewN ?_ _ | refine blk_drew ?_ | refine blk_alloc ?_ _)); refine blk_far ?_ NB306_308.out _; (with_reducible repeat (first | refine blk_drewN ?_ _ | refine blk_drew ?_ | refine blk_alloc ?_ _)); refine blk_far ?_ NB306_308.out _; (with_reducible repeat (first | refine blk_drewN ?_ _ | refine blk_drew ?_ | refine blk_alloc ?_ _)); exact BK306.out⟩, ⟨by (with_reducible repeat (first | refine blk_drewN ?_ _ | refine blk_drew ?_ | refine blk_alloc ?_ _)); refine blk_put (cs := #[.string ((rd_T48 l0_1 x4_1).f0), .int .i64 ((rd_T48 l0_1 x4_1).f1), .string ((rd_T48 l0_1 x4_1).f2), .bool ((rd_T48 l0_1 x4_1).f3), .int .i64 ((rd_T48 l0_1 x4_1).f4), .slice A307_5 ((rd_T48 l0_1 x4_1).f5).length c307_5, .slice none 0 0]) ?_ 6 _ rfl; (with_reducible repeat (first | refine blk_drewN ?_ _ | refine blk_drew ?_ | refine blk_alloc ?_ _)); refine blk_put (cs := #[.string ((rd_T48 l0_1 x4_1).f0), .int .i64 ((rd_T48 l0_1 x4_1).f1), .string ((rd_T48 l0_1 x4_1).f2), .bool ((rd_T48 l0_1 x4_1).f3), .int .i64 ((rd_T48 l0_1 x4_1).f4), .slice none 0 0, .slice none 0 0]) ?_ 5 _ rfl; (with_reducible repeat (first | refine blk_drewN ?_ _ | refine blk_drew ?_ | refine blk_alloc ?_ _)); refine blk_put (cs := #[.string ((rd_T48 l0_1 x4_1).f0), .int .i64 ((rd_T48 l0_1 x4_1).f1), .string ((rd_T48 l0_1 x4_1).f2), .bool ((rd_T48 l0_1 x4_1).f3), .int .i64 0, .slice none 0 0, .slice none 0 0]) ?_ 4 _ rfl; (with_reducible repeat (first | refine blk_drewN ?_ _ | refine blk_drew ?_ | refine blk_alloc ?_ _)); refine blk_put (cs := #[.string ((rd_T48 l0_1 x4_1).f0), .int .i64 ((rd_T48 l0_1 x4_1).f1), .string ((rd_T48 l0_1 x4_1).f2), .bool false, .int .i64 0, .slice none 0 0, .slice none 0 0]) ?_ 3 _ rfl; (with_reducible repeat (first | refine blk_drewN ?_ _ | refine blk_drew ?_ | refine blk_alloc ?_ _)); refine blk_put (cs := #[.string ((rd_T48 l0_1 x4_1).f0), .int .i64 ((rd_T48 l0_1 x4_1).f1), .string (⟨#[]⟩ : ByteArray), .bool false, .int .i64 0, .slice none 0 0, .slice none 0 0]) ?_ 2 _ rfl; (with_reducible repeat (first | refine blk_drewN ?_ _ | refine blk_drew ?_ | refine blk_alloc ?_ _)); refine blk_put (cs := #[.string ((rd_T48 l0_1 x4_1).f0), .int .i64 0, .string (⟨#[]⟩ : ByteArray), .bool false, .int .i64 0, .slice none 0 0, .slice none 0 0]) ?_ 1 _ rfl; (with_reducible repeat (first | refine blk_drewN ?_ _ | refine blk_drew ?_ | refine blk_alloc ?_ _)); refine blk_put (cs := #[.string (⟨#[]⟩ : ByteArray), .int .i64 0, .string (⟨#[]⟩ : ByteArray), .bool false, .int .i64 0, .slice none 0 0, .slice none 0 0]) ?_ 0 _ rfl; (with_reducible repeat (first | refine blk_drewN ?_ _ | refine blk_drew ?_ | refine blk_alloc ?_ _)); exact BK308.out⟩, ⟨hf_⟩⟩
         case round =>
          clear H'
          (try clear c1); (try clear p2); (try clear c3); (try clear p3); (try clear q3); (try clear hx3); (try clear c5); (try clear c5b0); (try clear p6); (try clear c8); (try clear c9); (try clear c9b0); (try clear c10); (try clear c10b0); (try clear c13); (try clear c14); (try clear hcz12_0); (try clear hcz12_1); (try clear hcz15_0); (try clear hcz15_1); (try clear hcz15_2); (try clear hcz15_3); (try clear hcz15_4); (try clear hcz15_5); (try clear hcz15_6); (try clear hcz3_0); (try clear hcz3_1); (try clear hcz6_0); (try clear hcz6_1); (try clear hcz7_0); (try clear hcz7_1); (try clear hfz12_0); (try clear hfz12_1); (try clear hfz15_0); (try clear hfz15_1); (try clear hfz15_2); (try clear hfz15_3); (try clear hfz15_4); (try clear hfz15_5); (try clear hfz15_6); (try clear hfz3_0); (try clear hfz3_1); (try clear hfz6_0); (try clear hfz6_1); (try clear hfz7_0); (try clear hfz7_1); (try clear hx307_0); (try clear hx307_1); (try clear hx307_2); (try clear hx307_3); (try clear hx307_4); (try clear hx307_5); (try clear hx307_6); (try clear p2); (try clear p307); (try clear p6); (try clear q307)
          obtain ⟨x3_3, x6_3, rfl, rfl, HA, HK3, BK306, BK308, HB⟩ := hrel
          cases gk with
          | zero => exact absurd HA.out (by simp [sentrylaw6_heavy.l1])
          | succ k3 =>
           have H := HA.out
           clear HA
           simp only [sentrylaw6_heavy.l1] at H
           by_cases c16 : x6_3 < (((rd_T48 l0_1 x4_1).f5).length : Int)
           ·rw [if_pos c16] at H
            have c16b0 : decide (x6_3 < (((rd_T48 l0_1 x4_1).f5).length : Int)) = true := decide_eq_true c16
            clear c16
            (first | rw [c16b0] | (simp only [i64_w, i32_w]; rw [c16b0]) | skip)
            by_cases c17 : x3_3 < 400
            ·rw [if_pos c17] at H
             have c17b0 : decide (x3_3 < 400) = true := decide_eq_true c17
             clear c17
             by_cases c18 : 0 ≤ x6_3
             ·rw [if_pos c18] at H
              have c18b0 : decide (0 ≤ x6_3) = true := decide_eq_true c18
              clear c18
              have H' := Aside0.mk H
              clear H
              have hnb19 := NB308_306.out
              have hnc19 := NB306_308.out
              obtain ⟨hcz20_0, hcz20_1, hcz20_2, hcz20_3, hcz20_4, hcz20_5, hcz20_6, hfz20_0, hfz20_1, hfz20_2, hfz20_3, hfz20_4, hfz20_5, hfz20_6⟩ := bs7_ BK308
              have p309 : 0 ≤ (x6_3 : Int) := od_
              have q309 : x6_3 < (((rd_T48 l0_1 x4_1).f5).length : Int) := od_
              obtain ⟨ad309, A309_0, c309_0, A309_1, c309_1, e309, hx309_0, hx309_1, hl309_0, hi309_0, hl309_1, hi309_1⟩ := at_T54 HR307_5.out x6_3 p309 q309
              cases e309
              replace hx309_0 := rr_ HB hx309_0
              replace hx309_1 := rr_ HB hx309_1
              have HR309_0 := Aside0.mk hi309_0
              have HC309_0 := Aside0.mk hl309_0
              clear hi309_0 hl309_0
              have HR309_1 := Aside0.mk hi309_1
              have HC309_1 := Aside0.mk hl309_1
              clear hi309_1 hl309_1
              replace p309 := eq_true p309
              replace q309 := eq_true q309
              have p310 : 0 ≤ (x6_3 : Int) := od_
              have q310 : x6_3 < (((rd_T48 l0_1 x4_1).f5).length : Int) := od_
              obtain ⟨ad310, A310_0, c310_0, A310_1, c310_1, e310, hx310_0, hx310_1, hl310_0, hi310_0, hl310_1, hi310_1⟩ := at_T54 HR307_5.out x6_3 p310 q310
              obtain rfl : ad309 = ad310 := (by injection e310)
              replace hx310_0 := rr_ HB hx310_0
              replace hx310_1 := rr_ HB hx310_1
              have HR310_0 := Aside0.mk hi310_0
              have HC310_0 := Aside0.mk hl310_0
              clear hi310_0 hl310_0
              have HR310_1 := Aside0.mk hi310_1
              have HC310_1 := Aside0.mk hl310_1
              clear hi310_1 hl310_1
              replace p310 := eq_true p310
              replace q310 := eq_true q310
              have ea_ := Option.some.inj (hx309_0.symm.trans hx310_0)
              injection ea_ with ea_ en_ ec_
              subst ea_
              subst ec_
              clear en_
              have ea_ := Option.some.inj (hx309_1.symm.trans hx310_1)
              injection ea_ with ea_ en_ ec_
              subst ea_
              subst ec_
              clear en_
              go_wp2
              repeat (go_quiet (fail); try go_wp2)
              go_roundg k3
              case measure => have := HK1.out; have := HJ3.out; have := HK3.out; omega
              case rel => exact ⟨(wrap64 ((wrap64 (x3_3 + (((rd_T54 ((rd_T48 l0_1 x4_1).f5) x6_3).f0).length : Int))) + (((rd_T54 ((rd_T48 l0_1 x4_1).f5) x6_3).f1).length : Int))), (wrap64 (x6_3 + 1)), (by first | rfl | (simp; done) | (simp [*]; done)), (by first | rfl | (simp; done) | (simp [*]; done)), H', ⟨by have := HK1.out; have := HJ3.out; have := HK3.out; omega⟩, ⟨gx_ BK306⟩, ⟨gx_ BK308⟩, ⟨hf_⟩⟩
             ·rw [if_neg c18] at H
              exact absurd H (by simp)
            ·rw [if_neg c17] at H
             have c17b0 : decide (x3_3 < 400) = false := decide_eq_false c17
             clear c17
             have H' := Aside0.mk H
             clear H
             have hnb21 := NB308_306.out
             have hnc21 := NB306_308.out
             obtain ⟨hcz22_0, hcz22_1, hcz22_2, hcz22_3, hcz22_4, hcz22_5, hcz22_6, hfz22_0, hfz22_1, hfz22_2, hfz22_3, hfz22_4, hfz22_5, hfz22_6⟩ := bs7_ BK308
             go_wp2
             repeat (go_quiet (fail); try go_wp2)
             go_meet
             case rel => exact ⟨_, (x3_3), (by first | rfl | (simp; done) | (simp [*]; done)), H', ⟨by have := HK1.out; have := HJ3.out; have := HK3.out; first | omega | exact Nat.le_refl _⟩, ⟨gx_ BK306⟩, ⟨gx_ BK308⟩, ⟨hf_⟩⟩
           ·rw [if_neg c16] at H
            have c16b0 : decide (x6_3 < (((rd_T48 l0_1 x4_1).f5).length : Int)) = false := decide_eq_false c16
            clear c16
            (first | rw [c16b0] | (simp only [i64_w, i32_w]; rw [c16b0]) | skip)
            have H' := Aside0.mk H
            clear H
            have hnb23 := NB308_306.out
            have hnc23 := NB306_308.out
            obtain ⟨hcz24_0, hcz24_1, hcz24_2, hcz24_3, hcz24_4, hcz24_5, hcz24_6, hfz24_0, hfz24_1, hfz24_2, hfz24_3, hfz24_4, hfz24_5, hfz24_6⟩ := bs7_ BK308
            go_wp2
            repeat (go_quiet (fail); try go_wp2)
            go_meet
            case rel => exact ⟨_, (x3_3), (by first | rfl | (simp; done) | (simp [*]; done)), H', ⟨by have := HK1.out; have := HJ3.out; have := HK3.out; first | omega | exact Nat.le_refl _⟩, ⟨gx_ BK306⟩, ⟨gx_ BK308⟩, ⟨hf_⟩⟩
        case rest =>
         clear HC11
         (try clear c1); (try clear c2); (try clear p2); (try clear c3); (try clear p3); (try clear q3); (try clear hx3); (try clear c5); (try clear c5b0); (try clear p6); (try clear c8); (try clear c9); (try clear c9b0); (try clear c10); (try clear c10b0); (try clear c13); (try clear c14); (try clear c16); (try clear c16b0); (try clear c17); (try clear c17b0); (try clear c18); (try clear c18b0); (try clear c19); (try clear c21); (try clear c23); (try clear hcz12_0); (try clear hcz12_1); (try clear hcz15_0); (try clear hcz15_1); (try clear hcz15_2); (try clear hcz15_3); (try clear hcz15_4); (try clear hcz15_5); (try clear hcz15_6); (try clear hcz20_0); (try clear hcz20_1); (try clear hcz20_2); (try clear hcz20_3); (try clear hcz20_4); (try clear hcz20_5); (try clear hcz20_6); (try clear hcz22_0); (try clear hcz22_1); (try clear hcz22_2); (try clear hcz22_3); (try clear hcz22_4); (try clear hcz22_5); (try clear hcz22_6); (try clear hcz24_0); (try clear hcz24_1); (try clear hcz24_2); (try clear hcz24_3); (try clear hcz24_4); (try clear hcz24_5); (try clear hcz24_6); (try clear hcz3_0); (try clear hcz3_1); (try clear hcz6_0); (try clear hcz6_1); (try clear hcz7_0); (try clear hcz7_1); (try clear hfz12_0); (try clear hfz12_1); (try clear hfz15_0); (try clear hfz15_1); (try clear hfz15_2); (try clear hfz15_3); (try clear hfz15_4); (try clear hfz15_5); (try clear hfz15_6); (try clear hfz20_0); (try clear hfz20_1); (try clear hfz20_2); (try clear hfz20_3); (try clear hfz20_4); (try clear hfz20_5); (try clear hfz20_6); (try clear hfz22_0); (try clear hfz22_1); (try clear hfz22_2); (try clear hfz22_3); (try clear hfz22_4); (try clear hfz22_5); (try clear hfz22_6); (try clear hfz24_0); (try clear hfz24_1); (try clear hfz24_2); (try clear hfz24_3); (try clear hfz24_4); (try clear hfz24_5); (try clear hfz24_6); (try clear hfz3_0); (try clear hfz3_1); (try clear hfz6_0); (try clear hfz6_1); (try clear hfz7_0); (try clear hfz7_1); (try clear hx307_0); (try clear hx307_1); (try clear hx307_2); (try clear hx307_3); (try clear hx307_4); (try clear hx307_5); (try clear hx307_6); (try clear hx309_0); (try clear hx309_1); (try clear hx310_0); (try clear hx310_1); (try clear p2); (try clear p3); (try clear p307); (try clear p309); (try clear p310); (try clear p6); (try clear q3); (try clear q307); (try clear q309); (try clear q310)
         obtain ⟨kq, x3_10, rfl, HA, HJ10, BK306, BK308, HB⟩ := hcut
         cases kq with
         | zero => exact absurd HA.out (by simp [sentrylaw6_heavy.j3])
         | succ kj10 =>
          have H := HA.out
          clear HA
          simp only [sentrylaw6_heavy.j3] at H
          have H' := Aside0.mk H
          clear H
          go_wp2
          repeat (go_quiet (fail); try go_wp2)
          go_loopg [3, 7] kj10 (fun kq v3 v7 w' => ∃ (x3_4 : Int) (x7_4 : Int), v3 = .int .i64 x3_4 ∧ v7 = .int .i64 x7_4 ∧ Aside0 (sentrylaw6_heavy.l2 kq x3_4 x4_1 x7_4 l0_0 l0_1 ((rd_T48 l0_1 x4_1).f0) ((rd_T48 l0_1 x4_1).f1) ((rd_T48 l0_1 x4_1).f2) ((rd_T48 l0_1 x4_1).f3) ((rd_T48 l0_1 x4_1).f4) ((rd_T48 l0_1 x4_1).f5) ((rd_T48 l0_1 x4_1).f6) = some r) ∧ Aside0 (kq ≤ kj10) ∧ Aside0 (w'.heap[gb306]? = some (.cells #[(.slice A0_0 l0_0.length c0_0), (.slice (some ad307) l0_1.length c0_1)] 25 (0, 0))) ∧ Aside0 (w'.heap[gb308]? = some (.cells #[.string ((rd_T48 l0_1 x4_1).f0), .int .i64 ((rd_T48 l0_1 x4_1).f1), .string ((rd_T48 l0_1 x4_1).f2), .bool ((rd_T48 l0_1 x4_1).f3), .int .i64 ((rd_T48 l0_1 x4_1).f4), (.slice A307_5 ((rd_T48 l0_1 x4_1).f5).length c307_5), (.slice A307_6 ((rd_T48 l0_1 x4_1).f6).length c307_6)] 48 (0, 0))) ∧ Aside0 (Below w.heap.size w w'))
          case atStart => exact ⟨(x3_10), (0), (by first | rfl | (simp; done) | (simp [*]; done)), (by first | rfl | (simp; done) | (simp [*]; done)), H', ⟨Nat.le_refl _⟩, ⟨gx_ BK306⟩, ⟨gx_ BK308⟩, ⟨hf_⟩⟩
          case round =>
           clear H'
           (try clear c1); (try clear c2); (try clear p2); (try clear c3); (try clear p3); (try clear q3); (try clear hx3); (try clear c5); (try clear c5b0); (try clear p6); (try clear c8); (try clear c9); (try clear c9b0); (try clear c10); (try clear c10b0); (try clear c13); (try clear c14); (try clear c16); (try clear c16b0); (try clear c17); (try clear c17b0); (try clear c18); (try clear c18b0); (try clear c19); (try clear c21); (try clear c23); (try clear hcz12_0); (try clear hcz12_1); (try clear hcz15_0); (try clear hcz15_1); (try clear hcz15_2); (try clear hcz15_3); (try clear hcz15_4); (try clear hcz15_5); (try clear hcz15_6); (try clear hcz20_0); (try clear hcz20_1); (try clear hcz20_2); (try clear hcz20_3); (try clear hcz20_4); (try clear hcz20_5); (try clear hcz20_6); (try clear hcz22_0); (try clear hcz22_1); (try clear hcz22_2); (try clear hcz22_3); (try clear hcz22_4); (try clear hcz22_5); (try clear hcz22_6); (try clear hcz24_0); (try clear hcz24_1); (try clear hcz24_2); (try clear hcz24_3); (try clear hcz24_4); (try clear hcz24_5); (try clear hcz24_6); (try clear hcz3_0); (try clear hcz3_1); (try clear hcz6_0); (try clear hcz6_1); (try clear hcz7_0); (try clear hcz7_1); (try clear hfz12_0); (try clear hfz12_1); (try clear hfz15_0); (try clear hfz15_1); (try clear hfz15_2); (try clear hfz15_3); (try clear hfz15_4); (try clear hfz15_5); (try clear hfz15_6); (try clear hfz20_0); (try clear hfz20_1); (try clear hfz20_2); (try clear hfz20_3); (try clear hfz20_4); (try clear hfz20_5); (try clear hfz20_6); (try clear hfz22_0); (try clear hfz22_1); (try clear hfz22_2); (try clear hfz22_3); (try clear hfz22_4); (try clear hfz22_5); (try clear hfz22_6); (try clear hfz24_0); (try clear hfz24_1); (try clear hfz24_2); (try clear hfz24_3); (try clear hfz24_4); (try clear hfz24_5); (try clear hfz24_6); (try clear hfz3_0); (try clear hfz3_1); (try clear hfz6_0); (try clear hfz6_1); (try clear hfz7_0); (try clear hfz7_1); (try clear hx307_0); (try clear hx307_1); (try clear hx307_2); (try clear hx307_3); (try clear hx307_4); (try clear hx307_5); (try clear hx307_6); (try clear hx309_0); (try clear hx309_1); (try clear hx310_0); (try clear hx310_1); (try clear p2); (try clear p3); (try clear p307); (try clear p309); (try clear p310); (try clear p6); (try clear q3); (try clear q307); (try clear q309); (try clear q310)
           obtain ⟨x3_4, x7_4, rfl, rfl, HA, HK4, BK306, BK308, HB⟩ := hrel
           cases gk with
           | zero => exact absurd HA.out (by simp [sentrylaw6_heavy.l2])
           | succ k4 =>
            have H := HA.out
            clear HA
            simp only [sentrylaw6_heavy.l2] at H
            by_cases c25 : x7_4 < (((rd_T48 l0_1 x4_1).f6).length : Int)
            ·rw [if_pos c25] at H
             have c25b0 : decide (x7_4 < (((rd_T48 l0_1 x4_1).f6).length : Int)) = true := decide_eq_true c25
             clear c25
             by_cases c26 : x3_4 < 400
             ·rw [if_pos c26] at H
              have c26b0 : decide (x3_4 < 400) = true := decide_eq_true c26
              clear c26
              by_cases c27 : 0 ≤ x7_4
              ·rw [if_pos c27] at H
               have c27b0 : decide (0 ≤ x7_4) = true := decide_eq_true c27
               clear c27
               have H' := Aside0.mk H
               clear H
               have hnb28 := NB308_306.out
               have hnc28 := NB306_308.out
               obtain ⟨hcz29_0, hcz29_1, hcz29_2, hcz29_3, hcz29_4, hcz29_5, hcz29_6, hfz29_0, hfz29_1, hfz29_2, hfz29_3, hfz29_4, hfz29_5, hfz29_6⟩ := bs7_ BK308
               have p311 : 0 ≤ (x7_4 : Int) := od_
               have q311 : x7_4 < (((rd_T48 l0_1 x4_1).f6).length : Int) := od_
               obtain ⟨ad311, A311_0, c311_0, A311_1, c311_1, e311, hx311_0, hx311_1, hl311_0, hi311_0, hl311_1, hi311_1⟩ := at_T54 HR307_6.out x7_4 p311 q311
               cases e311
               replace hx311_0 := rr_ HB hx311_0
               replace hx311_1 := rr_ HB hx311_1
               have HR311_0 := Aside0.mk hi311_0
               have HC311_0 := Aside0.mk hl311_0
               clear hi311_0 hl311_0
               have HR311_1 := Aside0.mk hi311_1
               have HC311_1 := Aside0.mk hl311_1
               clear hi311_1 hl311_1
               replace p311 := eq_true p311
               replace q311 := eq_true q311
               have p312 : 0 ≤ (x7_4 : Int) := od_
               have q312 : x7_4 < (((rd_T48 l0_1 x4_1).f6).length : Int) := od_
               obtain ⟨ad312, A312_0, c312_0, A312_1, c312_1, e312, hx312_0, hx312_1, hl312_0, hi312_0, hl312_1, hi312_1⟩ := at_T54 HR307_6.out x7_4 p312 q312
               obtain rfl : ad311 = ad312 := (by injection e312)
               replace hx312_0 := rr_ HB hx312_0
               replace hx312_1 := rr_ HB hx312_1
               have HR312_0 := Aside0.mk hi312_0
               have HC312_0 := Aside0.mk hl312_0
               clear hi312_0 hl312_0
               have HR312_1 := Aside0.mk hi312_1
               have HC312_1 := Aside0.mk hl312_1
               clear hi312_1 hl312_1
               replace p312 := eq_true p312
               replace q312 := eq_true q312
               have ea_ := Option.some.inj (hx311_0.symm.trans hx312_0)
               injection ea_ with ea_ en_ ec_
               subst ea_
               subst ec_
               clear en_
               have ea_ := Option.some.inj (hx311_1.symm.trans hx312_1)
               injection ea_ with ea_ en_ ec_
               subst ea_
               subst ec_
               clear en_
               go_wp2
               repeat (go_quiet (fail); try go_wp2)
               go_roundg k4
               case measure => have := HK1.out; have := HJ3.out; have := HJ10.out; have := HK4.out; omega
               case rel => exact ⟨(wrap64 ((wrap64 (x3_4 + (((rd_T54 ((rd_T48 l0_1 x4_1).f6) x7_4).f0).length : Int))) + (((rd_T54 ((rd_T48 l0_1 x4_1).f6) x7_4).f1).length : Int))), (wrap64 (x7_4 + 1)), (by first | rfl | (simp; done) | (simp [*]; done)), (by first | rfl | (simp; done) | (simp [*]; done)), H', ⟨by have := HK1.out; have := HJ3.out; have := HJ10.out; have := HK4.out; omega⟩, ⟨gx_ BK306⟩, ⟨gx_ BK308⟩, ⟨hf_⟩⟩
              ·rw [if_neg c27] at H
               exact absurd H (by simp)
             ·rw [if_neg c26] at H
              have c26b0 : decide (x3_4 < 400) = false := decide_eq_false c26
              clear c26
              have H' := Aside0.mk H
              clear H
              have hnb30 := NB308_306.out
              have hnc30 := NB306_308.out
              obtain ⟨hcz31_0, hcz31_1, hcz31_2, hcz31_3, hcz31_4, hcz31_5, hcz31_6, hfz31_0, hfz31_1, hfz31_2, hfz31_3, hfz31_4, hfz31_5, hfz31_6⟩ := bs7_ BK308
              go_wp2
              repeat (go_quiet (fail); try go_wp2)
              go_roundg k4
              case measure => have := HK1.out; have := HJ3.out; have := HJ10.out; have := HK4.out; omega
              case rel => exact ⟨(x3_4), (wrap64 (x4_1 + 1)), (by first | rfl | (simp; done) | (simp [*]; done)), (by first | rfl | (simp; done) | (simp [*]; done)), H', ⟨by have := HK1.out; have := HJ3.out; have := HJ10.out; have := HK4.out; omega⟩, ⟨gx_ BK306⟩, ⟨hf_⟩⟩
            ·rw [if_neg c25] at H
             have c25b0 : decide (x7_4 < (((rd_T48 l0_1 x4_1).f6).length : Int)) = false := decide_eq_false c25
             clear c25
             have H' := Aside0.mk H
             clear H
             have hnb32 := NB308_306.out
             have hnc32 := NB306_308.out
             obtain ⟨hcz33_0, hcz33_1, hcz33_2, hcz33_3, hcz33_4, hcz33_5, hcz33_6, hfz33_0, hfz33_1, hfz33_2, hfz33_3, hfz33_4, hfz33_5, hfz33_6⟩ := bs7_ BK308
             go_wp2
             repeat (go_quiet (fail); try go_wp2)
             go_roundg k4
             case measure => have := HK1.out; have := HJ3.out; have := HJ10.out; have := HK4.out; omega
             case rel => exact ⟨(x3_4), (wrap64 (x4_1 + 1)), (by first | rfl | (simp; done) | (simp [*]; done)), (by first | rfl | (simp; done) | (simp [*]; done)), H', ⟨by have := HK1.out; have := HJ3.out; have := HJ10.out; have := HK4.out; omega⟩, ⟨gx_ BK306⟩, ⟨hf_⟩⟩
       ·rw [if_neg c10] at H
        exact absurd H (by simp)
      ·rw [if_neg c9] at H
       exact absurd H (by simp)
     ·replace c8 := Bool.eq_false_iff.mpr c8
      subst c8
      have H1 : (some (decide (x3_1 ≥ 400))) = some r := by rw [if_neg (show ¬ (false = true) by decide)] at H; exact H
      clear H
      have H := H1
      clear H1
      obtain rfl := Option.some.inj H
      go_wp2
      repeat (go_quiet (fail); try go_wp2)
      go_ret
      exact ⟨er_, hf_⟩
end Go.Proofs.Ytaiglhfmmdajdaa.Pm
end
section
namespace Go.Proofs.Ytaiglhfmmdajdaa.Pm
open Go.RowKit Go.Proofs.YtaiglhfmmdajdaaW.PrintWords Go.Proofs.YtaiglhfmmdajdaaW.PrintLast Go.Proofs.YtaiglhfmmdajdaaW.PrintMore
attribute [local go_sem] max2_int min2_int max_two min_two max_three min_three max_four min_four   -- for this text's walks alone
set_option linter.unusedVariables false
set_option linter.unusedSimpArgs false
def sentryref1_first.f (a0 : Int) : Option (Bool) := if a0 ≥ 97 then (if a0 ≤ 122 then (some true) else (if a0 ≥ 65 then (if a0 ≤ 90 then (some true) else (some (a0 == 95))) else (some (a0 == 95)))) else (if a0 ≥ 65 then (if a0 ≤ 90 then (some true) else (some (a0 == 95))) else (some (a0 == 95)))
set_option maxHeartbeats 8000000 in
set_option maxRecDepth 100000 in
theorem sentryref1_first.calls (a0 : Int) (r : Bool) (w : World) (h : sentryref1_first.f a0 = some r) :
  Calls Try.prog 56 #[.int .u8 a0] w fun e w' => e = .returned (.bool r) ∧ Drawn0 w w' := by
 have H : (if a0 ≥ 97 then (if a0 ≤ 122 then (some true) else (if a0 ≥ 65 then (if a0 ≤ 90 then (some true) else (some (a0 == 95))) else (some (a0 == 95)))) else (if a0 ≥ 65 then (if a0 ≤ 90 then (some true) else (some (a0 == 95))) else (some (a0 == 95)))) = some r := h
 clear h
 by_cases c2 : a0 ≥ 97
 ·rw [if_pos c2] at H
  have c2b0 : decide (97 ≤ a0) = true := decide_eq_true c2
  clear c2
  by_cases c3 : a0 ≤ 122
  ·rw [if_pos c3] at H
   have c3b0 : decide (a0 ≤ 122) = true := decide_eq_true c3
   clear c3
   obtain rfl := Option.some.inj H
   go_enter Try.func56, Try.ntmps56
   go_wp2
   go_ret
   exact ⟨by first | rfl | (simp; done) | (simp [*]; done), by repeat (first | exact Drawn0.refl _ | apply Drawn0.step)⟩
  ·rw [if_neg c3] at H
   have c3b0 : decide (a0 ≤ 122) = false := decide_eq_false c3
   clear c3
   by_cases c4 : a0 ≥ 65
   ·rw [if_pos c4] at H
    have c4b0 : decide (65 ≤ a0) = true := decide_eq_true c4
    clear c4
    by_cases c5 : a0 ≤ 90
    ·rw [if_pos c5] at H
     have c5b0 : decide (a0 ≤ 90) = true := decide_eq_true c5
     clear c5
     obtain rfl := Option.some.inj H
     go_enter Try.func56, Try.ntmps56
     go_wp2
     go_ret
     exact ⟨by first | rfl | (simp; done) | (simp [*]; done), by repeat (first | exact Drawn0.refl _ | apply Drawn0.step)⟩
    ·rw [if_neg c5] at H
     have c5b0 : decide (a0 ≤ 90) = false := decide_eq_false c5
     clear c5
     obtain rfl := Option.some.inj H
     go_enter Try.func56, Try.ntmps56
     go_wp2
     go_ret
     exact ⟨by first | rfl | (simp; done) | (simp [*]; done), by repeat (first | exact Drawn0.refl _ | apply Drawn0.step)⟩
   ·rw [if_neg c4] at H
    have c4b0 : decide (65 ≤ a0) = false := decide_eq_false c4
    clear c4
    obtain rfl := Option.some.inj H
    go_enter Try.func56, Try.ntmps56
    go_wp2
    go_ret
    exact ⟨by first | rfl | (simp; done) | (simp [*]; done), by repeat (first | exact Drawn0.refl _ | apply Drawn0.step)⟩
 ·rw [if_neg c2] at H
  have c2b0 : decide (97 ≤ a0) = false := decide_eq_false c2
  clear c2
  by_cases c6 : a0 ≥ 65
  ·rw [if_pos c6] at H
   have c6b0 : decide (65 ≤ a0) = true := decide_eq_true c6
   clear c6
   by_cases c7 : a0 ≤ 90
   ·rw [if_pos c7] at H
    have c7b0 : decide (a0 ≤ 90) = true := decide_eq_true c7
    clear c7
    obtain rfl := Option.some.inj H
    go_enter Try.func56, Try.ntmps56
    go_wp2
    go_ret
    exact ⟨by first | rfl | (simp; done) | (simp [*]; done), by repeat (first | exact Drawn0.refl _ | apply Drawn0.step)⟩
   ·rw [if_neg c7] at H
    have c7b0 : decide (a0 ≤ 90) = false := decide_eq_false c7
    clear c7
    obtain rfl := Option.some.inj H
    go_enter Try.func56, Try.ntmps56
    go_wp2
    go_ret
    exact ⟨by first | rfl | (simp; done) | (simp [*]; done), by repeat (first | exact Drawn0.refl _ | apply Drawn0.step)⟩
  ·rw [if_neg c6] at H
   have c6b0 : decide (65 ≤ a0) = false := decide_eq_false c6
   clear c6
   obtain rfl := Option.some.inj H
   go_enter Try.func56, Try.ntmps56
   go_wp2
   go_ret
   exact ⟨by first | rfl | (simp; done) | (simp [*]; done), by repeat (first | exact Drawn0.refl _ | apply Drawn0.step)⟩
end Go.Proofs.Ytaiglhfmmdajdaa.Pm
end
section
namespace Go.Proofs.Ytaiglhfmmdajdaa.Pm
open Go.RowKit Go.Proofs.YtaiglhfmmdajdaaW.PrintWords Go.Proofs.YtaiglhfmmdajdaaW.PrintLast Go.Proofs.YtaiglhfmmdajdaaW.PrintMore
attribute [local go_sem] max2_int min2_int max_two min_two max_three min_three max_four min_four   -- for this text's walks alone
set_option linter.unusedVariables false
set_option linter.unusedSimpArgs false
def sentryref1_Byte.f (a0 : Int) : Option (Bool) := (sentryref1_first.f a0).bind fun t101 => (if t101 = true then (some true) else (if a0 ≥ 48 then (if a0 ≤ 57 then (some true) else (if a0 = 45 then (some true) else (some (a0 == 46)))) else (if a0 = 45 then (some true) else (some (a0 == 46)))))
set_option maxHeartbeats 8000000 in
set_option maxRecDepth 100000 in
theorem sentryref1_Byte.calls (a0 : Int) (r : Bool) (w : World) (h : sentryref1_Byte.f a0 = some r) :
  Calls Try.prog 57 #[.int .u8 a0] w fun e w' => e = .returned (.bool r) ∧ Drawn0 w w' := by
 have H : ((sentryref1_first.f a0).bind fun t101 => (if t101 = true then (some true) else (if a0 ≥ 48 then (if a0 ≤ 57 then (some true) else (if a0 = 45 then (some true) else (some (a0 == 46)))) else (if a0 = 45 then (some true) else (some (a0 == 46)))))) = some r := h
 clear h
 replace H := Option.bind_eq_some_iff.mp H
 obtain ⟨t101, A20, H⟩ := H
 replace H : (if t101 = true then (some true) else (if a0 ≥ 48 then (if a0 ≤ 57 then (some true) else (if a0 = 45 then (some true) else (some (a0 == 46)))) else (if a0 = 45 then (some true) else (some (a0 == 46))))) = some r := H
 have A2 := Aside0.mk A20
 clear A20
 by_cases c3 : t101 = true
 ·subst c3
  have H1 : (some true) = some r := by rw [if_pos rfl] at H; exact H
  clear H
  have H := H1
  clear H1
  obtain rfl := Option.some.inj H
  go_enter Try.func57, Try.ntmps57
  go_wp2_with (first | ((with_reducible refine gate_callee (f := 56) rfl ?_); refine gl_ (some 4) Try.func56 #[.int .u8 a0] ?_; (with_reducible refine (sentryref1_first.calls a0 true _ A2.out).mono ?_); rintro e w' ⟨rfl, ⟨nd, rfl⟩⟩; refine ⟨_, rfl, ?_⟩))
  go_ret
  exact ⟨by first | rfl | (simp; done) | (simp [*]; done), by repeat (first | exact Drawn0.refl _ | apply Drawn0.step)⟩
 ·replace c3 := Bool.eq_false_iff.mpr c3
  subst c3
  have H1 : (if a0 ≥ 48 then (if a0 ≤ 57 then (some true) else (if a0 = 45 then (some true) else (some (a0 == 46)))) else (if a0 = 45 then (some true) else (some (a0 == 46)))) = some r := by rw [if_neg (show ¬ (false = true) by decide)] at H; exact H
  clear H
  have H := H1
  clear H1
  by_cases c4 : a0 ≥ 48
  ·rw [if_pos c4] at H
   have c4b0 : decide (48 ≤ a0) = true := decide_eq_true c4
   clear c4
   by_cases c5 : a0 ≤ 57
   ·rw [if_pos c5] at H
    have c5b0 : decide (a0 ≤ 57) = true := decide_eq_true c5
    clear c5
    obtain rfl := Option.some.inj H
    go_enter Try.func57, Try.ntmps57
    go_wp2_with (first | ((with_reducible refine gate_callee (f := 56) rfl ?_); refine gl_ (some 4) Try.func56 #[.int .u8 a0] ?_; (with_reducible refine (sentryref1_first.calls a0 false _ A2.out).mono ?_); rintro e w' ⟨rfl, ⟨nd, rfl⟩⟩; refine ⟨_, rfl, ?_⟩))
    go_ret
    exact ⟨by first | rfl | (simp; done) | (simp [*]; done), by repeat (first | exact Drawn0.refl _ | apply Drawn0.step)⟩
   ·rw [if_neg c5] at H
    have c5b0 : decide (a0 ≤ 57) = false := decide_eq_false c5
    clear c5
    by_cases c6 : a0 = 45
    ·rw [if_pos c6] at H
     have c6b0 : (a0 == 45) = true := beq_iff_eq.mpr c6
     have c6b1 : (a0 != 45) = false := bne_eq_false_iff_eq.mpr c6
     clear c6
     obtain rfl := Option.some.inj H
     go_enter Try.func57, Try.ntmps57
     go_wp2_with (first | ((with_reducible refine gate_callee (f := 56) rfl ?_); refine gl_ (some 4) Try.func56 #[.int .u8 a0] ?_; (with_reducible refine (sentryref1_first.calls a0 false _ A2.out).mono ?_); rintro e w' ⟨rfl, ⟨nd, rfl⟩⟩; refine ⟨_, rfl, ?_⟩))
     go_ret
     exact ⟨by first | rfl | (simp; done) | (simp [*]; done), by repeat (first | exact Drawn0.refl _ | apply Drawn0.step)⟩
    ·rw [if_neg c6] at H
     have c6b0 : (a0 == 45) = false := beq_eq_false_iff_ne.mpr c6
     have c6b1 : (a0 != 45) = true := bne_iff_ne.mpr c6
     obtain rfl := Option.some.inj H
     go_enter Try.func57, Try.ntmps57
     go_wp2_with (first | ((with_reducible refine gate_callee (f := 56) rfl ?_); refine gl_ (some 4) Try.func56 #[.int .u8 a0] ?_; (with_reducible refine (sentryref1_first.calls a0 false _ A2.out).mono ?_); rintro e w' ⟨rfl, ⟨nd, rfl⟩⟩; refine ⟨_, rfl, ?_⟩))
     go_ret
     exact ⟨by first | rfl | (simp; done) | (simp [*]; done), by repeat (first | exact Drawn0.refl _ | apply Drawn0.step)⟩
  ·rw [if_neg c4] at H
   have c4b0 : decide (48 ≤ a0) = false := decide_eq_false c4
   clear c4
   by_cases c7 : a0 = 45
   ·rw [if_pos c7] at H
    have c7b0 : (a0 == 45) = true := beq_iff_eq.mpr c7
    have c7b1 : (a0 != 45) = false := bne_eq_false_iff_eq.mpr c7
    clear c7
    obtain rfl := Option.some.inj H
    go_enter Try.func57, Try.ntmps57
    go_wp2_with (first | ((with_reducible refine gate_callee (f := 56) rfl ?_); refine gl_ (some 4) Try.func56 #[.int .u8 a0] ?_; (with_reducible refine (sentryref1_first.calls a0 false _ A2.out).mono ?_); rintro e w' ⟨rfl, ⟨nd, rfl⟩⟩; refine ⟨_, rfl, ?_⟩))
    go_ret
    exact ⟨by first | rfl | (simp; done) | (simp [*]; done), by repeat (first | exact Drawn0.refl _ | apply Drawn0.step)⟩
   ·rw [if_neg c7] at H
    have c7b0 : (a0 == 45) = false := beq_eq_false_iff_ne.mpr c7
    have c7b1 : (a0 != 45) = true := bne_iff_ne.mpr c7
    obtain rfl := Option.some.inj H
    go_enter Try.func57, Try.ntmps57
    go_wp2_with (first | ((with_reducible refine gate_callee (f := 56) rfl ?_); refine gl_ (some 4) Try.func56 #[.int .u8 a0] ?_; (with_reducible refine (sentryref1_first.calls a0 false _ A2.out).mono ?_); rintro e w' ⟨rfl, ⟨nd, rfl⟩⟩; refine ⟨_, rfl, ?_⟩))
    go_ret
    exact ⟨by first | rfl | (simp; done) | (simp [*]; done), by repeat (first | exact Drawn0.refl _ | apply Drawn0.step)⟩
end Go.Proofs.Ytaiglhfmmdajdaa.Pm
end
section
namespace Go.Proofs.Ytaiglhfmmdajdaa.Pm
open Go.RowKit Go.Proofs.YtaiglhfmmdajdaaW.PrintWords Go.Proofs.YtaiglhfmmdajdaaW.PrintLast Go.Proofs.YtaiglhfmmdajdaaW.PrintMore
attribute [local go_sem] max2_int min2_int max_two min_two max_three min_three max_four min_four   -- for this text's walks alone
set_option linter.unusedVariables false
set_option linter.unusedSimpArgs false
mutual
def sentryref1_Is.j0 : Nat → ByteArray → Bool → Option (Bool)
 | 0, _, _ => none
 | k + 1, x0, x17 => if x17 = true then (some false) else (sentryref1_Is.l0 k x0 0)
def sentryref1_Is.l0 : Nat → ByteArray → Int → Option (Bool)
 | 0, _, _ => none
 | k + 1, x0, x3 => if x3 < (x0.size : Int) then (if 0 ≤ x3 then ((sentryref1_Byte.f (bt x0 x3)).bind fun t103 => (if t103 = true then (sentryref1_Is.l0 k x0 (wrap64 (x3 + 1))) else (some false))) else (none)) else (some true)
end
def sentryref1_Is.f (k : Nat) (a0 : ByteArray) : Option (Bool) := if (a0.size : Int) < 1 then (sentryref1_Is.j0 k a0 true) else (if (a0.size : Int) > 12 then (sentryref1_Is.j0 k a0 true) else (if 0 < (a0.size : Int) then ((sentryref1_first.f (bt a0 0)).bind fun t102 => (sentryref1_Is.j0 k a0 (!t102))) else (none)))
theorem sentryref1_Is.mono_l : ∀ k, (∀ y0 y1, LeO (sentryref1_Is.j0 k y0 y1) (sentryref1_Is.j0 (k + 1) y0 y1)) ∧ (∀ y0 y1, LeO (sentryref1_Is.l0 k y0 y1) (sentryref1_Is.l0 (k + 1) y0 y1))
 | 0 => ⟨fun _ _ r h => by simp [sentryref1_Is.j0] at h, fun _ _ r h => by simp [sentryref1_Is.l0] at h⟩
 | k + 1 => by
  obtain ⟨ih0, ih1⟩ := sentryref1_Is.mono_l k
  refine ⟨?_, ?_⟩
  intro y0 y1
  unfold sentryref1_Is.j0
  rotate_left
  intro y0 y1
  unfold sentryref1_Is.l0
  rotate_left
  all_goals repeat' first
   | (with_reducible exact ih0 _ _)
   | (with_reducible exact ih1 _ _)
   | (with_reducible exact LeO.refl _)
   | (with_reducible exact LeO.none _)
   | (with_reducible refine LeO.ite ?_ ?_)
   | (with_reducible refine LeO.bind ?_ (fun _ => ?_))
   | exact ih0 _ _
   | exact ih1 _ _
   | exact LeO.none _
   | refine LeO.ite ?_ ?_
   | refine LeO.bind ?_ (fun _ => ?_)
theorem sentryref1_Is.mono : ∀ a0 k, LeO (sentryref1_Is.f k a0) (sentryref1_Is.f (k + 1) a0) := by
 intro a0 k
 obtain ⟨ih0, ih1⟩ := sentryref1_Is.mono_l k
 unfold sentryref1_Is.f
 repeat' first
   | (with_reducible exact ih0 _ _)
   | (with_reducible exact ih1 _ _)
   | (with_reducible exact LeO.refl _)
   | (with_reducible exact LeO.none _)
   | (with_reducible refine LeO.ite ?_ ?_)
   | (with_reducible refine LeO.bind ?_ (fun _ => ?_))
   | exact ih0 _ _
   | exact ih1 _ _
   | exact LeO.none _
   | refine LeO.ite ?_ ?_
   | refine LeO.bind ?_ (fun _ => ?_)
set_option maxHeartbeats 8000000 in
set_option maxRecDepth 100000 in
theorem sentryref1_Is.calls (k : Nat) (a0 : ByteArray) (r : Bool) (w : World) (h : sentryref1_Is.f k a0 = some r) :
  Calls Try.prog 28 #[.string a0] w fun e w' => e = .returned (.bool r) ∧ Drawn0 w w' := by
 have H : (if (a0.size : Int) < 1 then (sentryref1_Is.j0 k a0 true) else (if (a0.size : Int) > 12 then (sentryref1_Is.j0 k a0 true) else (if 0 < (a0.size : Int) then ((sentryref1_first.f (bt a0 0)).bind fun t102 => (sentryref1_Is.j0 k a0 (!t102))) else (none)))) = some r := h
 clear h
 have HC2 := Aside0.mk H
 clear H
 go_enter Try.func28, Try.ntmps28
 go_upto_region 1 with (fail)
 go_cut [17] (fun v17 wc => ∃ (kq : Nat) (x17_1 : Bool), v17 = .bool x17_1 ∧ Aside0 (sentryref1_Is.j0 kq a0 x17_1 = some r) ∧ Aside0 (kq ≤ k) ∧ Drawn0 w wc)
 case first =>
  have H := HC2.out
  clear HC2
  by_cases c3 : (a0.size : Int) < 1
  ·rw [if_pos c3] at H
   have c3b0 : decide ((a0.size : Int) < 1) = true := decide_eq_true c3
   have c3b1 : decide (a0.size < 1) = true := decide_eq_true (by omega)
   clear c3
   (first | rw [c3b0] | (simp only [i64_w, i32_w]; rw [c3b0]) | skip)
   have H' := Aside0.mk H
   clear H
   go_wp2
   go_meet
   case rel => exact ⟨_, (true), (by first | rfl | (simp; done) | (simp [*]; done)), H', ⟨by first | omega | exact Nat.le_refl _⟩, by repeat (first | exact Drawn0.refl _ | apply Drawn0.step)⟩
  ·rw [if_neg c3] at H
   have c3b0 : decide ((a0.size : Int) < 1) = false := decide_eq_false c3
   have c3b1 : decide (a0.size < 1) = false := decide_eq_false (by omega)
   clear c3
   (first | rw [c3b0] | (simp only [i64_w, i32_w]; rw [c3b0]) | skip)
   by_cases c4 : (a0.size : Int) > 12
   ·rw [if_pos c4] at H
    have c4b0 : decide (12 < (a0.size : Int)) = true := decide_eq_true c4
    have c4b1 : decide (12 < a0.size) = true := decide_eq_true (by omega)
    clear c4
    have H' := Aside0.mk H
    clear H
    go_wp2
    go_meet
    case rel => exact ⟨_, (true), (by first | rfl | (simp; done) | (simp [*]; done)), H', ⟨by first | omega | exact Nat.le_refl _⟩, by repeat (first | exact Drawn0.refl _ | apply Drawn0.step)⟩
   ·rw [if_neg c4] at H
    have c4b0 : decide (12 < (a0.size : Int)) = false := decide_eq_false c4
    have c4b1 : decide (12 < a0.size) = false := decide_eq_false (by omega)
    clear c4
    by_cases c5 : 0 < (a0.size : Int)
    ·rw [if_pos c5] at H
     have c5b0 : decide (0 < (a0.size : Int)) = true := decide_eq_true c5
     have c5b1 : decide (0 < a0.size) = true := decide_eq_true (by omega)
     clear c5
     replace H := Option.bind_eq_some_iff.mp H
     obtain ⟨t102, A70, H⟩ := H
     replace H : (sentryref1_Is.j0 k a0 (!t102)) = some r := H
     have A7 := Aside0.mk A70
     clear A70
     have H' := Aside0.mk H
     clear H
     have p6 : 0 ≤ (0 : Int) := (by omega)
     have q6 : 0 < a0.size := (by have : (0 : Int) < (a0.size : Int) := od_; omega)
     have hx6 : ∀ h : 0 < a0.size, ((a0[0]'h).toNat : Int) = bt a0 0 := bt_at a0 0
     clear p6
     have qi6 : (0 < (a0.size : Int)) = True := eq_true (od_)
     replace q6 := eq_true q6
     go_wp2_with (first | (go_at_call 56; (with_reducible refine (sentryref1_first.calls (bt a0 0) t102 _ A7.out).mono ?_); rintro e w' ⟨rfl, ⟨nd, rfl⟩⟩))
     go_meet
     case rel => exact ⟨_, (!t102), (by first | rfl | (simp; done) | (simp [*]; done)), H', ⟨by first | omega | exact Nat.le_refl _⟩, by repeat (first | exact Drawn0.refl _ | apply Drawn0.step)⟩
    ·rw [if_neg c5] at H
     exact absurd H (by simp)
 case rest =>
  clear HC2
  (try clear c2); (try clear p2); (try clear c3); (try clear c3b0); (try clear c3b1); (try clear c4); (try clear c4b0); (try clear c4b1); (try clear c5); (try clear c5b0); (try clear c5b1); (try clear p6); (try clear q6); (try clear hx6); (try clear qi6); (try clear p6); (try clear q6)
  obtain ⟨kq, x17_1, rfl, HA, HJ1, ⟨mc1, rfl⟩⟩ := hcut
  cases kq with
  | zero => exact absurd HA.out (by simp [sentryref1_Is.j0])
  | succ kj1 =>
   have H := HA.out
   clear HA
   simp only [sentryref1_Is.j0] at H
   by_cases c8 : x17_1 = true
   ·subst c8
    have H1 : (some false) = some r := by rw [if_pos rfl] at H; exact H
    clear H
    have H := H1
    clear H1
    obtain rfl := Option.some.inj H
    go_wp2
    go_ret
    exact ⟨by first | rfl | (simp; done) | (simp [*]; done), by repeat (first | exact Drawn0.refl _ | apply Drawn0.step)⟩
   ·replace c8 := Bool.eq_false_iff.mpr c8
    subst c8
    have H1 : (sentryref1_Is.l0 kj1 a0 0) = some r := by rw [if_neg (show ¬ (false = true) by decide)] at H; exact H
    clear H
    have H := H1
    clear H1
    have H' := Aside0.mk H
    clear H
    go_wp2
    go_loopg [3] kj1 (fun kq v3 w' => ∃ (x3_2 : Int), v3 = .int .i64 x3_2 ∧ Aside0 (sentryref1_Is.l0 kq a0 x3_2 = some r) ∧ Aside0 (kq ≤ kj1) ∧ Drawn0 w w')
    case atStart => exact ⟨(0), (by first | rfl | (simp; done) | (simp [*]; done)), H', ⟨Nat.le_refl _⟩, by repeat (first | exact Drawn0.refl _ | apply Drawn0.step)⟩
    case round =>
     clear H'
     (try clear c1); (try clear c2); (try clear p2); (try clear c3); (try clear c3b0); (try clear c3b1); (try clear c4); (try clear c4b0); (try clear c4b1); (try clear c5); (try clear c5b0); (try clear c5b1); (try clear p6); (try clear q6); (try clear hx6); (try clear qi6); (try clear c8); (try clear p2); (try clear p6); (try clear q6)
     obtain ⟨x3_2, rfl, HA, HK2, ⟨m2, rfl⟩⟩ := hrel
     cases gk with
     | zero => exact absurd HA.out (by simp [sentryref1_Is.l0])
     | succ k2 =>
      have H := HA.out
      clear HA
      simp only [sentryref1_Is.l0] at H
      by_cases c9 : x3_2 < (a0.size : Int)
      ·rw [if_pos c9] at H
       have c9b0 : decide (x3_2 < (a0.size : Int)) = true := decide_eq_true c9
       clear c9
       by_cases c10 : 0 ≤ x3_2
       ·rw [if_pos c10] at H
        have c10b0 : decide (0 ≤ x3_2) = true := decide_eq_true c10
        clear c10
        replace H := Option.bind_eq_some_iff.mp H
        obtain ⟨t103, A120, H⟩ := H
        replace H : (if t103 = true then (sentryref1_Is.l0 k2 a0 (wrap64 (x3_2 + 1))) else (some false)) = some r := H
        have A12 := Aside0.mk A120
        clear A120
        by_cases c13 : t103 = true
        ·subst c13
         have H1 : (sentryref1_Is.l0 k2 a0 (wrap64 (x3_2 + 1))) = some r := by rw [if_pos rfl] at H; exact H
         clear H
         have H := H1
         clear H1
         have H' := Aside0.mk H
         clear H
         have p11 : 0 ≤ (x3_2 : Int) := od_
         have q11 : x3_2 < (a0.size : Int) := od_
         have hx11 := bt_at a0 x3_2
         replace p11 := eq_true p11
         replace q11 := eq_true q11
         go_wp2_with (first | ((with_reducible refine gate_callee (f := 57) rfl ?_); refine gl_ (some 27) Try.func57 #[.int .u8 (bt a0 x3_2)] ?_; (with_reducible refine (sentryref1_Byte.calls (bt a0 x3_2) true _ A12.out).mono ?_); rintro e w' ⟨rfl, ⟨nd, rfl⟩⟩; refine ⟨_, rfl, ?_⟩))
         go_roundg k2
         case measure => have := HJ1.out; have := HK2.out; omega
         case rel => exact ⟨(wrap64 (x3_2 + 1)), (by first | rfl | (simp; done) | (simp [*]; done)), H', ⟨by have := HJ1.out; have := HK2.out; omega⟩, by repeat (first | exact Drawn0.refl _ | apply Drawn0.step)⟩
        ·replace c13 := Bool.eq_false_iff.mpr c13
         subst c13
         have H1 : (some false) = some r := by rw [if_neg (show ¬ (false = true) by decide)] at H; exact H
         clear H
         have H := H1
         clear H1
         obtain rfl := Option.some.inj H
         have p11 : 0 ≤ (x3_2 : Int) := od_
         have q11 : x3_2 < (a0.size : Int) := od_
         have hx11 := bt_at a0 x3_2
         replace p11 := eq_true p11
         replace q11 := eq_true q11
         go_wp2_with (first | ((with_reducible refine gate_callee (f := 57) rfl ?_); refine gl_ (some 27) Try.func57 #[.int .u8 (bt a0 x3_2)] ?_; (with_reducible refine (sentryref1_Byte.calls (bt a0 x3_2) false _ A12.out).mono ?_); rintro e w' ⟨rfl, ⟨nd, rfl⟩⟩; refine ⟨_, rfl, ?_⟩))
         go_ret
         exact ⟨by first | rfl | (simp; done) | (simp [*]; done), by repeat (first | exact Drawn0.refl _ | apply Drawn0.step)⟩
       ·rw [if_neg c10] at H
        exact absurd H (by simp)
      ·rw [if_neg c9] at H
       have c9b0 : decide (x3_2 < (a0.size : Int)) = false := decide_eq_false c9
       clear c9
       obtain rfl := Option.some.inj H
       go_wp2
       go_ret
       exact ⟨by first | rfl | (simp; done) | (simp [*]; done), by repeat (first | exact Drawn0.refl _ | apply Drawn0.step)⟩
end Go.Proofs.Ytaiglhfmmdajdaa.Pm
end
section
namespace Go.Proofs.Ytaiglhfmmdajdaa.Pm
open Go.RowKit Go.Proofs.YtaiglhfmmdajdaaW.PrintWords Go.Proofs.YtaiglhfmmdajdaaW.PrintLast Go.Proofs.YtaiglhfmmdajdaaW.PrintMore
attribute [local go_sem] max2_int min2_int max_two min_two max_three min_three max_four min_four   -- for this text's walks alone
set_option linter.unusedVariables false
set_option linter.unusedSimpArgs false
def sentryref4_File.l0 : Nat → List ByteArray → ByteArray → Int → Option (Bool)
 | 0, _, _, _ => none
 | k + 1, x0, x1, x5 => if x5 < (x0.length : Int) then (if 0 ≤ x5 then (if (rdOf ByteArray.empty x0 x5).toList = x1.toList then (some true) else (sentryref4_File.l0 k x0 x1 (wrap64 (x5 + 1)))) else (none)) else (some false)
def sentryref4_File.f (k : Nat) (l0 : List ByteArray) (a1 : ByteArray) : Option (Bool) := sentryref4_File.l0 k l0 a1 0
theorem sentryref4_File.mono_l : ∀ k, (∀ y0 y1 y2, LeO (sentryref4_File.l0 k y0 y1 y2) (sentryref4_File.l0 (k + 1) y0 y1 y2))
 | 0 => fun _ _ _ r h => by simp [sentryref4_File.l0] at h
 | k + 1 => by
  have ih0 := sentryref4_File.mono_l k
  ·intro y0 y1 y2
   unfold sentryref4_File.l0
   repeat' first
   | (with_reducible exact ih0 _ _ _)
   | (with_reducible exact LeO.refl _)
   | (with_reducible exact LeO.none _)
   | (with_reducible refine LeO.ite ?_ ?_)
   | (with_reducible refine LeO.bind ?_ (fun _ => ?_))
   | exact ih0 _ _ _
   | exact LeO.none _
   | refine LeO.ite ?_ ?_
   | refine LeO.bind ?_ (fun _ => ?_)
theorem sentryref4_File.mono : ∀ a0 a1 k, LeO (sentryref4_File.f k a0 a1) (sentryref4_File.f (k + 1) a0 a1) := by
 intro a0 a1 k
 have ih0 := sentryref4_File.mono_l k
 unfold sentryref4_File.f
 repeat' first
   | (with_reducible exact ih0 _ _ _)
   | (with_reducible exact LeO.refl _)
   | (with_reducible exact LeO.none _)
   | (with_reducible refine LeO.ite ?_ ?_)
   | (with_reducible refine LeO.bind ?_ (fun _ => ?_))
   | exact ih0 _ _ _
   | exact LeO.none _
   | refine LeO.ite ?_ ?_
   | refine LeO.bind ?_ (fun _ => ?_)
set_option maxHeartbeats 8000000 in
set_option maxRecDepth 100000 in
theorem sentryref4_File.calls (k : Nat) (A0 : Option Addr) (c0 : Nat) (l0 : List ByteArray) (a1 : ByteArray) (r : Bool) (w : World) (hr0 : Kd.C Kd.string w A0 l0.length l0) (hc0 : l0.length ≤ c0) (h : sentryref4_File.f k l0 a1 = some r) :
  Calls Try.prog 29 #[.slice A0 l0.length c0, .string a1] w fun e w' => e = .returned (.bool r) ∧ Drawn0 w w' := by
 have HR0 := Aside0.mk hr0
 have HC0 := Aside0.mk hc0
 clear hr0 hc0
 have H : (sentryref4_File.l0 k l0 a1 0) = some r := h
 clear h
 have H' := Aside0.mk H
 clear H
 go_enter Try.func29, Try.ntmps29
 go_wp2
 go_loopg [5] k (fun kq v5 w' => ∃ (x5_1 : Int), v5 = .int .i64 x5_1 ∧ Aside0 (sentryref4_File.l0 kq l0 a1 x5_1 = some r) ∧ Aside0 (kq ≤ k) ∧ Drawn0 w w')
 case atStart => exact ⟨(0), (by first | rfl | (simp; done) | (simp [*]; done)), H', ⟨Nat.le_refl _⟩, by repeat (first | exact Drawn0.refl _ | apply Drawn0.step)⟩
 case round =>
  clear H'
  (try clear c2); (try clear p2)
  obtain ⟨x5_1, rfl, HA, HK1, ⟨m1, rfl⟩⟩ := hrel
  cases gk with
  | zero => exact absurd HA.out (by simp [sentryref4_File.l0])
  | succ k1 =>
   have H := HA.out
   clear HA
   simp only [sentryref4_File.l0] at H
   by_cases c3 : x5_1 < (l0.length : Int)
   ·rw [if_pos c3] at H
    have c3b0 : decide (x5_1 < (l0.length : Int)) = true := decide_eq_true c3
    clear c3
    by_cases c4 : 0 ≤ x5_1
    ·rw [if_pos c4] at H
     have c4b0 : decide (0 ≤ x5_1) = true := decide_eq_true c4
     clear c4
     by_cases c5 : (rdOf ByteArray.empty l0 x5_1).toList = a1.toList
     ·rw [if_pos c5] at H
      have c5b0 : ((rdOf ByteArray.empty l0 x5_1).toList == a1.toList) = true := beq_iff_eq.mpr c5
      have c5b1 : ((rdOf ByteArray.empty l0 x5_1).toList != a1.toList) = false := bne_eq_false_iff_eq.mpr c5
      clear c5
      obtain rfl := Option.some.inj H
      have p104 : 0 ≤ (x5_1 : Int) := od_
      have q104 : x5_1 < (l0.length : Int) := od_
      obtain ⟨ad104, e104, hx104_0⟩ := Kd.at_string HR0.out x5_1 p104 q104
      cases e104
      replace p104 := eq_true p104
      replace q104 := eq_true q104
      go_wp2
      go_ret
      exact ⟨by first | rfl | (simp; done) | (simp [*]; done), by repeat (first | exact Drawn0.refl _ | apply Drawn0.step)⟩
     ·rw [if_neg c5] at H
      have c5b0 : ((rdOf ByteArray.empty l0 x5_1).toList == a1.toList) = false := beq_eq_false_iff_ne.mpr c5
      have c5b1 : ((rdOf ByteArray.empty l0 x5_1).toList != a1.toList) = true := bne_iff_ne.mpr c5
      have H' := Aside0.mk H
      clear H
      have p104 : 0 ≤ (x5_1 : Int) := od_
      have q104 : x5_1 < (l0.length : Int) := od_
      obtain ⟨ad104, e104, hx104_0⟩ := Kd.at_string HR0.out x5_1 p104 q104
      cases e104
      replace p104 := eq_true p104
      replace q104 := eq_true q104
      go_wp2
      go_roundg k1
      case measure => have := HK1.out; omega
      case rel => exact ⟨(wrap64 (x5_1 + 1)), (by first | rfl | (simp; done) | (simp [*]; done)), H', ⟨by have := HK1.out; omega⟩, by repeat (first | exact Drawn0.refl _ | apply Drawn0.step)⟩
    ·rw [if_neg c4] at H
     exact absurd H (by simp)
   ·rw [if_neg c3] at H
    have c3b0 : decide (x5_1 < (l0.length : Int)) = false := decide_eq_false c3
    clear c3
    obtain rfl := Option.some.inj H
    go_wp2
    go_ret
    exact ⟨by first | rfl | (simp; done) | (simp [*]; done), by repeat (first | exact Drawn0.refl _ | apply Drawn0.step)⟩
end Go.Proofs.Ytaiglhfmmdajdaa.Pm
end
section
namespace Go.Proofs.Ytaiglhfmmdajdaa.Pm
open Go.RowKit Go.Proofs.YtaiglhfmmdajdaaW.PrintWords Go.Proofs.YtaiglhfmmdajdaaW.PrintLast Go.Proofs.YtaiglhfmmdajdaaW.PrintMore
attribute [local go_sem] max2_int min2_int max_two min_two max_three min_three max_four min_four   -- for this text's walks alone
set_option linter.unusedVariables false
set_option linter.unusedSimpArgs false
def sentryref4_Place.l0 : Nat → ByteArray → Int → List ByteArray → List (S48) → Option (Int)
 | 0, _, _, _, _ => none
 | k + 1, x1, x5, x106000, x106001 => if x5 < (x106001.length : Int) then (if 0 ≤ x5 then (if ((rd_T48 x106001 x5).f0).toList = x1.toList then (some x5) else (sentryref4_Place.l0 k x1 (wrap64 (x5 + 1)) x106000 x106001)) else (none)) else (some (-1))
def sentryref4_Place.f (k : Nat) (l0_0 : List ByteArray) (l0_1 : List (S48)) (a1 : ByteArray) : Option (Int) := sentryref4_Place.l0 k a1 0 l0_0 l0_1
theorem sentryref4_Place.mono_l : ∀ k, (∀ y0 y1 y2 y3, LeO (sentryref4_Place.l0 k y0 y1 y2 y3) (sentryref4_Place.l0 (k + 1) y0 y1 y2 y3))
 | 0 => fun _ _ _ _ r h => by simp [sentryref4_Place.l0] at h
 | k + 1 => by
  have ih0 := sentryref4_Place.mono_l k
  ·intro y0 y1 y2 y3
   unfold sentryref4_Place.l0
   repeat' first
   | (with_reducible exact ih0 _ _ _ _)
   | (with_reducible exact LeO.refl _)
   | (with_reducible exact LeO.none _)
   | (with_reducible refine LeO.ite ?_ ?_)
   | (with_reducible refine LeO.bind ?_ (fun _ => ?_))
   | exact ih0 _ _ _ _
   | exact LeO.none _
   | refine LeO.ite ?_ ?_
   | refine LeO.bind ?_ (fun _ => ?_)
theorem sentryref4_Place.mono : ∀ a0 a1 a2 k, LeO (sentryref4_Place.f k a0 a1 a2) (sentryref4_Place.f (k + 1) a0 a1 a2) := by
 intro a0 a1 a2 k
 have ih0 := sentryref4_Place.mono_l k
 unfold sentryref4_Place.f
 repeat' first
   | (with_reducible exact ih0 _ _ _ _)
   | (with_reducible exact LeO.refl _)
   | (with_reducible exact LeO.none _)
   | (with_reducible refine LeO.ite ?_ ?_)
   | (with_reducible refine LeO.bind ?_ (fun _ => ?_))
   | exact ih0 _ _ _ _
   | exact LeO.none _
   | refine LeO.ite ?_ ?_
   | refine LeO.bind ?_ (fun _ => ?_)
set_option maxHeartbeats 8000000 in
set_option maxRecDepth 100000 in
theorem sentryref4_Place.calls (k : Nat) (A0_0 : Option Addr) (c0_0 : Nat) (l0_0 : List ByteArray) (A0_1 : Option Addr) (c0_1 : Nat) (l0_1 : List (S48)) (a1 : ByteArray) (r : Int) (w : World) (hr0_0 : Kd.C Kd.string w A0_0 l0_0.length l0_0) (hc0_0 : l0_0.length ≤ c0_0) (hr0_1 : Kd.C k48 w A0_1 l0_1.length l0_1) (hc0_1 : l0_1.length ≤ c0_1) (h : sentryref4_Place.f k l0_0 l0_1 a1 = some r) :
  Calls Try.prog 54 #[.agg #[.slice A0_0 l0_0.length c0_0, .slice A0_1 l0_1.length c0_1], .string a1] w fun e w' => e = .returned (.int .i64 r) ∧ Below w.heap.size w w' := by
 have hu25 := Try.underlying25
 have HR0_0 := Aside0.mk hr0_0
 have HC0_0 := Aside0.mk hc0_0
 clear hr0_0 hc0_0
 have HR0_1 := Aside0.mk hr0_1
 have HC0_1 := Aside0.mk hc0_1
 clear hr0_1 hc0_1
 have HB := Aside0.mk (Below.refl w.heap.size w)
 have H : (sentryref4_Place.l0 k a1 0 l0_0 l0_1) = some r := h
 clear h
 have H' := Aside0.mk H
 clear H
 go_enter Try.func54, Try.ntmps54
 go_wp2_with (first | ((with_reducible refine gate_dst (N := 2) rfl ?_); refine box_event ?hg (N := 2) ?hd (cs := #[.slice A0_0 l0_0.length c0_0, .slice A0_1 l0_1.length c0_1]) (t := 25) ?hr ?_; (case hd => rfl); (case hg => rfl); (case hr => first | (go_simp; done) | (go_simp; rfl)); intro gb105 hg w3 hbox hb; have n0_ := hb_ HB hb; have n1_ := Aside0.mk (hbox); have n2_ := Aside0.mk ((by rw [hg]; exact (below_size (by repeat (first | (with_reducible first | exact HB.out | apply below_alloc | apply pw_below_drewN | apply below_drew1) | exact HB.out))) : w.heap.size ≤ gb105)); have n3_ := Aside0.mk ((by rw [hg]; exact (below_size (by repeat (first | (with_reducible first | exact HB.out | apply below_alloc | apply pw_below_drewN | apply below_drew1) | exact HB.out))) : w.heap.size ≤ gb105)); clear HB; have HB := n0_; have BK105 := n1_; have GW105 := n2_; have GE105 := n3_; clear n0_ n1_ n2_ n3_; clear hb hbox hg))
 go_loopg [5] k (fun kq v5 w' => ∃ (x5_1 : Int), v5 = .int .i64 x5_1 ∧ Aside0 (sentryref4_Place.l0 kq a1 x5_1 l0_0 l0_1 = some r) ∧ Aside0 (kq ≤ k) ∧ Aside0 (w'.heap[gb105]? = some (.cells #[(.slice A0_0 l0_0.length c0_0), (.slice A0_1 l0_1.length c0_1)] 25 (0, 0))) ∧ Aside0 (Below w.heap.size w w'))
 case atStart => exact ⟨(0), (by first | rfl | (simp; done) | (simp [*]; done)), H', ⟨Nat.le_refl _⟩, ⟨gx_ BK105⟩, ⟨hf_⟩⟩
 case round =>
  clear H'
  try clear p2
  obtain ⟨x5_1, rfl, HA, HK1, BK105, HB⟩ := hrel
  cases gk with
  | zero => exact absurd HA.out (by simp [sentryref4_Place.l0])
  | succ k1 =>
   have H := HA.out
   clear HA
   simp only [sentryref4_Place.l0] at H
   by_cases c4 : x5_1 < (l0_1.length : Int)
   ·rw [if_pos c4] at H
    have c4b0 : decide (x5_1 < (l0_1.length : Int)) = true := decide_eq_true c4
    clear c4
    by_cases c5 : 0 ≤ x5_1
    ·rw [if_pos c5] at H
     have c5b0 : decide (0 ≤ x5_1) = true := decide_eq_true c5
     clear c5
     by_cases c6 : ((rd_T48 l0_1 x5_1).f0).toList = a1.toList
     ·rw [if_pos c6] at H
      have c6b0 : (((rd_T48 l0_1 x5_1).f0).toList == a1.toList) = true := beq_iff_eq.mpr c6
      have c6b1 : (((rd_T48 l0_1 x5_1).f0).toList != a1.toList) = false := bne_eq_false_iff_eq.mpr c6
      clear c6
      obtain rfl := Option.some.inj H
      obtain ⟨hcz7_0, hcz7_1, hfz7_0, hfz7_1⟩ := bs2_ BK105
      have p106 : 0 ≤ (x5_1 : Int) := od_
      have q106 : x5_1 < (l0_1.length : Int) := od_
      obtain ⟨ad106, A106_5, c106_5, A106_6, c106_6, e106, hx106_0, hx106_1, hx106_2, hx106_3, hx106_4, hx106_5, hx106_6, hl106_5, hi106_5, hl106_6, hi106_6⟩ := at_T48 HR0_1.out x5_1 p106 q106
      cases e106
      replace hx106_0 := rr_ HB hx106_0
      replace hx106_1 := rr_ HB hx106_1
      replace hx106_2 := rr_ HB hx106_2
      replace hx106_3 := rr_ HB hx106_3
      replace hx106_4 := rr_ HB hx106_4
      replace hx106_5 := rr_ HB hx106_5
      replace hx106_6 := rr_ HB hx106_6
      have HR106_5 := Aside0.mk hi106_5
      have HC106_5 := Aside0.mk hl106_5
      clear hi106_5 hl106_5
      have HR106_6 := Aside0.mk hi106_6
      have HC106_6 := Aside0.mk hl106_6
      clear hi106_6 hl106_6
      replace p106 := eq_true p106
      replace q106 := eq_true q106
      go_wp2
      go_ret
      exact ⟨er_, hf_⟩
     ·rw [if_neg c6] at H
      have c6b0 : (((rd_T48 l0_1 x5_1).f0).toList == a1.toList) = false := beq_eq_false_iff_ne.mpr c6
      have c6b1 : (((rd_T48 l0_1 x5_1).f0).toList != a1.toList) = true := bne_iff_ne.mpr c6
      have H' := Aside0.mk H
      clear H
      obtain ⟨hcz8_0, hcz8_1, hfz8_0, hfz8_1⟩ := bs2_ BK105
      have p106 : 0 ≤ (x5_1 : Int) := od_
      have q106 : x5_1 < (l0_1.length : Int) := od_
      obtain ⟨ad106, A106_5, c106_5, A106_6, c106_6, e106, hx106_0, hx106_1, hx106_2, hx106_3, hx106_4, hx106_5, hx106_6, hl106_5, hi106_5, hl106_6, hi106_6⟩ := at_T48 HR0_1.out x5_1 p106 q106
      cases e106
      replace hx106_0 := rr_ HB hx106_0
      replace hx106_1 := rr_ HB hx106_1
      replace hx106_2 := rr_ HB hx106_2
      replace hx106_3 := rr_ HB hx106_3
      replace hx106_4 := rr_ HB hx106_4
      replace hx106_5 := rr_ HB hx106_5
      replace hx106_6 := rr_ HB hx106_6
      have HR106_5 := Aside0.mk hi106_5
      have HC106_5 := Aside0.mk hl106_5
      clear hi106_5 hl106_5
      have HR106_6 := Aside0.mk hi106_6
      have HC106_6 := Aside0.mk hl106_6
      clear hi106_6 hl106_6
      replace p106 := eq_true p106
      replace q106 := eq_true q106
      go_wp2
      go_roundg k1
      case measure => have := HK1.out; omega
      case rel => exact ⟨(wrap64 (x5_1 + 1)), (by first | rfl | (simp; done) | (simp [*]; done)), H', ⟨by have := HK1.out; omega⟩, ⟨gx_ BK105⟩, ⟨hf_⟩⟩
    ·rw [if_neg c5] at H
     exact absurd H (by simp)
   ·rw [if_neg c4] at H
    have c4b0 : decide (x5_1 < (l0_1.length : Int)) = false := decide_eq_false c4
    clear c4
    obtain rfl := Option.some.inj H
    obtain ⟨hcz9_0, hcz9_1, hfz9_0, hfz9_1⟩ := bs2_ BK105
    go_wp2
    go_ret
    exact ⟨er_, hf_⟩
end Go.Proofs.Ytaiglhfmmdajdaa.Pm
end
section
namespace Go.Proofs.Ytaiglhfmmdajdaa.Pm
open Go.RowKit Go.Proofs.YtaiglhfmmdajdaaW.PrintWords Go.Proofs.YtaiglhfmmdajdaaW.PrintLast Go.Proofs.YtaiglhfmmdajdaaW.PrintMore
attribute [local go_sem] max2_int min2_int max_two min_two max_three min_three max_four min_four   -- for this text's walks alone
set_option linter.unusedVariables false
set_option linter.unusedSimpArgs false
def sentryref4_Depth.l0 : Nat → Int → Int → List ByteArray → List (S48) → Option (Int)
 | 0, _, _, _, _ => none
 | k + 1, x1, x5, x112000, x112001 => if x1 > 0 then (if x5 ≤ (x112001.length : Int) then (if 0 ≤ x1 then (if x1 < (x112001.length : Int) then ((sentryref4_Place.f k x112000 x112001 ((rd_T48 x112001 x1).f2)).bind fun t113 => (sentryref4_Depth.l0 k t113 (wrap64 (x5 + 1)) x112000 x112001)) else (none)) else (none)) else (if x1 < 0 then (some (-1)) else (if x5 > (x112001.length : Int) then (some (-1)) else (some x5)))) else (if x1 < 0 then (some (-1)) else (if x5 > (x112001.length : Int) then (some (-1)) else (some x5)))
def sentryref4_Depth.f (k : Nat) (l0_0 : List ByteArray) (l0_1 : List (S48)) (a1 : Int) : Option (Int) := sentryref4_Depth.l0 k a1 0 l0_0 l0_1
theorem sentryref4_Depth.mono_l : ∀ k, (∀ y0 y1 y2 y3, LeO (sentryref4_Depth.l0 k y0 y1 y2 y3) (sentryref4_Depth.l0 (k + 1) y0 y1 y2 y3))
 | 0 => fun _ _ _ _ r h => by simp [sentryref4_Depth.l0] at h
 | k + 1 => by
  have ih0 := sentryref4_Depth.mono_l k
  ·intro y0 y1 y2 y3
   unfold sentryref4_Depth.l0
   repeat' first
   | (with_reducible exact ih0 _ _ _ _)
   | (with_reducible exact sentryref4_Place.mono _ _ _ _)
   | (with_reducible exact LeO.refl _)
   | (with_reducible exact LeO.none _)
   | (with_reducible refine LeO.ite ?_ ?_)
   | (with_reducible refine LeO.bind ?_ (fun _ => ?_))
   | exact ih0 _ _ _ _
   | exact sentryref4_Place.mono _ _ _ _
   | exact LeO.none _
   | refine LeO.ite ?_ ?_
   | refine LeO.bind ?_ (fun _ => ?_)
theorem sentryref4_Depth.mono : ∀ a0 a1 a2 k, LeO (sentryref4_Depth.f k a0 a1 a2) (sentryref4_Depth.f (k + 1) a0 a1 a2) := by
 intro a0 a1 a2 k
 have ih0 := sentryref4_Depth.mono_l k
 unfold sentryref4_Depth.f
 repeat' first
   | (with_reducible exact ih0 _ _ _ _)
   | (with_reducible exact sentryref4_Place.mono _ _ _ _)
   | (with_reducible exact LeO.refl _)
   | (with_reducible exact LeO.none _)
   | (with_reducible refine LeO.ite ?_ ?_)
   | (with_reducible refine LeO.bind ?_ (fun _ => ?_))
   | exact ih0 _ _ _ _
   | exact sentryref4_Place.mono _ _ _ _
   | exact LeO.none _
   | refine LeO.ite ?_ ?_
   | refine LeO.bind ?_ (fun _ => ?_)
def sentryref4_Depth.T3 : Bool × List (List Nat × List Nat) := (true, [([], []), ([], []), ([1], [1]), ([], []), ([2, 3], [2, 3]), ([4], [4]), ([5], [5]), ([0, 6], [0, 6]), ([7, 7, 0, 1, 2, 3, 4, 5, 6, 7], [3, 7])])
def sentryref4_Depth.B3 : List Nat := [0, 0, 2, 0, 14, 30, 62, 127, 255]
theorem sentryref4_Depth.tab3 : rtab .any (opsOf Try.f59 3) = sentryref4_Depth.T3 := by kernel_rfl
theorem sentryref4_Depth.bits3 : waitsOk sentryref4_Depth.T3.2 sentryref4_Depth.B3 = true := by kernel_rfl
set_option maxHeartbeats 8000000 in
set_option maxRecDepth 100000 in
theorem sentryref4_Depth.calls (k : Nat) (A0_0 : Option Addr) (c0_0 : Nat) (l0_0 : List ByteArray) (A0_1 : Option Addr) (c0_1 : Nat) (l0_1 : List (S48)) (a1 : Int) (r : Int) (w : World) (hr0_0 : Kd.C Kd.string w A0_0 l0_0.length l0_0) (hc0_0 : l0_0.length ≤ c0_0) (hr0_1 : Kd.C k48 w A0_1 l0_1.length l0_1) (hc0_1 : l0_1.length ≤ c0_1) (h : sentryref4_Depth.f k l0_0 l0_1 a1 = some r) :
  Calls Try.prog 59 #[.agg #[.slice A0_0 l0_0.length c0_0, .slice A0_1 l0_1.length c0_1], .int .i64 a1] w fun e w' => e = .returned (.int .i64 r) ∧ Below w.heap.size w w' := by
 have hu25 := Try.underlying25
 have HR0_0 := Aside0.mk hr0_0
 have HC0_0 := Aside0.mk hc0_0
 clear hr0_0 hc0_0
 have HR0_1 := Aside0.mk hr0_1
 have HC0_1 := Aside0.mk hc0_1
 clear hr0_1 hc0_1
 have HB := Aside0.mk (Below.refl w.heap.size w)
 have H : (sentryref4_Depth.l0 k a1 0 l0_0 l0_1) = some r := h
 clear h
 have H' := Aside0.mk H
 clear H
 go_enter Try.func59, Try.ntmps59
 go_wp2_with (first | ((with_reducible refine gate_dst (N := 2) rfl ?_); (try (refine gate_guard (by rfl) ?_; dsimp only)); refine box_event ?hg (N := 2) ?hd (cs := #[.slice A0_0 l0_0.length c0_0, .slice A0_1 l0_1.length c0_1]) (t := 25) ?hr ?_; (case hd => rfl); (case hg => rfl); (case hr => first | (go_simp; done) | (go_simp; rfl)); intro gb111 hg w3 hbox hb; have n0_ := hb_ HB hb; have n1_ := Aside0.mk (hbox); have n2_ := Aside0.mk ((by rw [hg]; exact (below_size (by repeat (first | (with_reducible first | exact HB.out | apply below_alloc | apply pw_below_drewN | apply below_drew1) | exact HB.out))) : w.heap.size ≤ gb111)); have n3_ := Aside0.mk ((by rw [hg]; exact (below_size (by repeat (first | (with_reducible first | exact HB.out | apply below_alloc | apply pw_below_drewN | apply below_drew1) | exact HB.out))) : w.heap.size ≤ gb111)); clear HB; have HB := n0_; have BK111 := n1_; have GW111 := n2_; have GE111 := n3_; clear n0_ n1_ n2_ n3_; clear hb hbox hg))
 go_loopg [1, 5] k (fun kq v1 v5 w' => ∃ (x1_1 : Int) (x5_1 : Int), v1 = .int .i64 x1_1 ∧ v5 = .int .i64 x5_1 ∧ Aside0 (sentryref4_Depth.l0 kq x1_1 x5_1 l0_0 l0_1 = some r) ∧ Aside0 (kq ≤ k) ∧ Aside0 (w'.heap[gb111]? = some (.cells #[(.slice A0_0 l0_0.length c0_0), (.slice A0_1 l0_1.length c0_1)] 25 (0, 0))) ∧ Aside0 (Below w.heap.size w w'))
 case atStart => exact ⟨(a1), (0), (by first | rfl | (simp; done) | (simp [*]; done)), (by first | rfl | (simp; done) | (simp [*]; done)), H', ⟨Nat.le_refl _⟩, ⟨gx_ BK111⟩, ⟨hf_⟩⟩
 case round =>
  clear H'
  try clear p2
  obtain ⟨x1_1, x5_1, rfl, rfl, HA, HK1, BK111, HB⟩ := hrel
  cases gk with
  | zero => exact absurd HA.out (by simp [sentryref4_Depth.l0])
  | succ k1 =>
   have H := HA.out
   clear HA
   simp only [sentryref4_Depth.l0] at H
   by_cases c4 : x1_1 > 0
   ·rw [if_pos c4] at H
    have c4b0 : decide (0 < x1_1) = true := decide_eq_true c4
    clear c4
    by_cases c5 : x5_1 ≤ (l0_1.length : Int)
    ·rw [if_pos c5] at H
     have c5b0 : decide (x5_1 ≤ (l0_1.length : Int)) = true := decide_eq_true c5
     clear c5
     by_cases c6 : 0 ≤ x1_1
     ·rw [if_pos c6] at H
      have c6b0 : decide (0 ≤ x1_1) = true := decide_eq_true c6
      clear c6
      by_cases c7 : x1_1 < (l0_1.length : Int)
      ·rw [if_pos c7] at H
       have c7b0 : decide (x1_1 < (l0_1.length : Int)) = true := decide_eq_true c7
       clear c7
       replace H := Option.bind_eq_some_iff.mp H
       obtain ⟨t113, A80, H⟩ := H
       replace H : (sentryref4_Depth.l0 k1 t113 (wrap64 (x5_1 + 1)) l0_0 l0_1) = some r := H
       have A8 := Aside0.mk A80
       clear A80
       have H' := Aside0.mk H
       clear H
       obtain ⟨hcz9_0, hcz9_1, hfz9_0, hfz9_1⟩ := bs2_ BK111
       try go_wp2
       replace BK111 := Aside0.mk (blk_drew BK111.out)
       replace HB := Aside0.mk (below_drew1 HB.out)
       have p112 : 0 ≤ (x1_1 : Int) := od_
       have q112 : x1_1 < (l0_1.length : Int) := od_
       obtain ⟨ad112, A112_5, c112_5, A112_6, c112_6, e112, hx112_0, hx112_1, hx112_2, hx112_3, hx112_4, hx112_5, hx112_6, hl112_5, hi112_5, hl112_6, hi112_6⟩ := at_T48 HR0_1.out x1_1 p112 q112
       have hw112_6 := hx112_6
       have hw112_5 := hx112_5
       have hw112_4 := hx112_4
       have hw112_3 := hx112_3
       have hw112_2 := hx112_2
       have hw112_1 := hx112_1
       have hw112_0 := hx112_0
       cases e112
       replace hx112_0 := rr_ HB hx112_0
       replace hx112_1 := rr_ HB hx112_1
       replace hx112_2 := rr_ HB hx112_2
       replace hx112_3 := rr_ HB hx112_3
       replace hx112_4 := rr_ HB hx112_4
       replace hx112_5 := rr_ HB hx112_5
       replace hx112_6 := rr_ HB hx112_6
       have HR112_5 := Aside0.mk hi112_5
       have HC112_5 := Aside0.mk hl112_5
       clear hi112_5 hl112_5
       have HR112_6 := Aside0.mk hi112_6
       have HC112_6 := Aside0.mk hl112_6
       clear hi112_6 hl112_6
       replace p112 := eq_true p112
       replace q112 := eq_true q112
       refine start_ (n := 9) (S := fun w' => w'.cell? ⟨gb111, 0, none⟩ = some (.slice A0_0 l0_0.length c0_0) ∧ w'.cell? ⟨gb111, 1, none⟩ = some (.slice (some ad112) l0_1.length c0_1) ∧ w'.cell? (ad112.add ((x1_1).toNat * 7)) = some (.string ((rd_T48 l0_1 x1_1).f0)) ∧ w'.cell? ⟨(ad112.add ((x1_1).toNat * 7)).block, (ad112.add ((x1_1).toNat * 7)).off + 1, none⟩ = some (.int .i64 ((rd_T48 l0_1 x1_1).f1)) ∧ w'.cell? ⟨(ad112.add ((x1_1).toNat * 7)).block, (ad112.add ((x1_1).toNat * 7)).off + 2, none⟩ = some (.string ((rd_T48 l0_1 x1_1).f2)) ∧ w'.cell? ⟨(ad112.add ((x1_1).toNat * 7)).block, (ad112.add ((x1_1).toNat * 7)).off + 3, none⟩ = some (.bool ((rd_T48 l0_1 x1_1).f3)) ∧ w'.cell? ⟨(ad112.add ((x1_1).toNat * 7)).block, (ad112.add ((x1_1).toNat * 7)).off + 4, none⟩ = some (.int .i64 ((rd_T48 l0_1 x1_1).f4)) ∧ w'.cell? ⟨(ad112.add ((x1_1).toNat * 7)).block, (ad112.add ((x1_1).toNat * 7)).off + 5, none⟩ = some (.slice A112_5 ((rd_T48 l0_1 x1_1).f5).length c112_5) ∧ w'.cell? ⟨(ad112.add ((x1_1).toNat * 7)).block, (ad112.add ((x1_1).toNat * 7)).off + 6, none⟩ = some (.slice A112_6 ((rd_T48 l0_1 x1_1).f6).length c112_6)) (ds := []) #[false, false, false, false, false, false, false, false, false] (by kernel_rfl) rfl rfl ⟨(bk0_ BK111 :), (bk1_ BK111 :), (rr_ HB hw112_0 :), (rr_ HB hw112_1 :), (rr_ HB hw112_2 :), (rr_ HB hw112_3 :), (rr_ HB hw112_4 :), (rr_ HB hw112_5 :), (rr_ HB hw112_6 :)⟩ (fun hHeld => ?_); refine with_tabW sentryref4_Depth.tab3 sentryref4_Depth.bits3 (fun HT_ HW_ => ?_)
       generalize wr.drew = w10 at BK111 HB HR112_5 HR112_6 hx112_0 hx112_1 hx112_2 hx112_3 hx112_4 hx112_5 hx112_6 hHeld ⊢
       refine pz_ 1 (some 16) (bits_ 9 2) HT_.out ?_
       refine pz_ 3 (some 18) (bits_ 9 10) HT_.out ?_
       refine tz_ 0 (some 15) (bits_ 9 11) HT_.out HW_.out hHeld ?_ (hy := by rintro w' ⟨s0, s1, s2, s3, s4, s5, s6, s7, s8⟩; go_simp; with_reducible rfl)
       refine tz_ 2 (some 17) (bits_ 9 15) HT_.out HW_.out hHeld ?_ (hy := by rintro w' ⟨s0, s1, s2, s3, s4, s5, s6, s7, s8⟩; go_simp; with_reducible rfl)
       refine pz_ 4 (some 19) (bits_ 9 31) HT_.out ?_
       refine pz_ 5 (some 20) (bits_ 9 63) HT_.out ?_
       refine tz_ 6 (some 21) (bits_ 9 127) HT_.out HW_.out hHeld ?_ (hy := by rintro w' ⟨s0, s1, s2, s3, s4, s5, s6, s7, s8⟩; go_simp; with_reducible rfl)
       refine oz_ 7 (some 22) (bits_ 9 255) HT_.out (fun K hK => ?_)
       refine go_s_ Try.func54 #[.agg #[.slice A0_0 l0_0.length c0_0, .slice (some ad112) l0_1.length c0_1], .string ((rd_T48 l0_1 x1_1).f2)] ?_
       with_reducible refine (sentryref4_Place.calls k1 _ _ l0_0 _ _ l0_1 ((rd_T48 l0_1 x1_1).f2) t113 _ ?side1 ?side2 ?side3 ?side4 A8.out).mono ?_
       (case side1 => exact kc_ HR0_0 HB)
       (case side2 => exact HC0_0.out)
       (case side3 => exact kc_ HR0_1 HB)
       (case side4 => exact HC0_1.out)
       rintro e w11 ⟨rfl, hb⟩
       refine ⟨_, rfl, ?_⟩
       replace BK111 := bb_ BK111 hb
       replace HB := hb_ HB hb
       (try clear hb); (try clear hb2); (try clear hk); (try clear hi)
       refine hK.out _ _ ⟨(bk0_ BK111 :), (bk1_ BK111 :), (rr_ HB hw112_0 :), (rr_ HB hw112_1 :), (rr_ HB hw112_2 :), (rr_ HB hw112_3 :), (rr_ HB hw112_4 :), (rr_ HB hw112_5 :), (rr_ HB hw112_6 :)⟩ (fun hHeld => ?_)
       clear hK K
       refine nz_ (some 22) ?_
       refine pz_ 8 (some 1) (bits_ 9 511) HT_.out ?_
       refine done_ (done_of HT_.out (by kernel_rfl)) ?_
       try go_wp2
       go_roundg k1
       case measure => have := HK1.out; omega
       case rel => exact ⟨(t113), (wrap64 (x5_1 + 1)), (by first | rfl | (simp; done) | (simp [*]; done)), (by first | rfl | (simp; done) | (simp [*]; done)), H', ⟨by have := HK1.out; omega⟩, ⟨gx_ BK111⟩, ⟨hf_⟩⟩
      ·rw [if_neg c7] at H
       exact absurd H (by simp)
     ·rw [if_neg c6] at H
      exact absurd H (by simp)
    ·rw [if_neg c5] at H
     have c5b0 : decide (x5_1 ≤ (l0_1.length : Int)) = false := decide_eq_false c5
     clear c5
     by_cases c12 : x1_1 < 0
     ·rw [if_pos c12] at H
      have c12b0 : decide (x1_1 < 0) = true := decide_eq_true c12
      clear c12
      obtain rfl := Option.some.inj H
      obtain ⟨hcz13_0, hcz13_1, hfz13_0, hfz13_1⟩ := bs2_ BK111
      go_wp2
      go_ret
      exact ⟨er_, hf_⟩
     ·rw [if_neg c12] at H
      have c12b0 : decide (x1_1 < 0) = false := decide_eq_false c12
      clear c12
      by_cases c14 : x5_1 > (l0_1.length : Int)
      ·rw [if_pos c14] at H
       have c14b0 : decide ((l0_1.length : Int) < x5_1) = true := decide_eq_true c14
       clear c14
       obtain rfl := Option.some.inj H
       obtain ⟨hcz15_0, hcz15_1, hfz15_0, hfz15_1⟩ := bs2_ BK111
       go_wp2
       go_ret
       exact ⟨er_, hf_⟩
      ·rw [if_neg c14] at H
       have c14b0 : decide ((l0_1.length : Int) < x5_1) = false := decide_eq_false c14
       clear c14
       obtain rfl := Option.some.inj H
       obtain ⟨hcz16_0, hcz16_1, hfz16_0, hfz16_1⟩ := bs2_ BK111
       go_wp2
       go_ret
       exact ⟨er_, hf_⟩
   ·rw [if_neg c4] at H
    have c4b0 : decide (0 < x1_1) = false := decide_eq_false c4
    clear c4
    by_cases c17 : x1_1 < 0
    ·rw [if_pos c17] at H
     have c17b0 : decide (x1_1 < 0) = true := decide_eq_true c17
     clear c17
     obtain rfl := Option.some.inj H
     go_wp2
     go_ret
     exact ⟨er_, hf_⟩
    ·rw [if_neg c17] at H
     have c17b0 : decide (x1_1 < 0) = false := decide_eq_false c17
     clear c17
     by_cases c18 : x5_1 > (l0_1.length : Int)
     ·rw [if_pos c18] at H
      have c18b0 : decide ((l0_1.length : Int) < x5_1) = true := decide_eq_true c18
      clear c18
      obtain rfl := Option.some.inj H
      obtain ⟨hcz19_0, hcz19_1, hfz19_0, hfz19_1⟩ := bs2_ BK111
      go_wp2
      go_ret
      exact ⟨er_, hf_⟩
     ·rw [if_neg c18] at H
      have c18b0 : decide ((l0_1.length : Int) < x5_1) = false := decide_eq_false c18
      clear c18
      obtain rfl := Option.some.inj H
      obtain ⟨hcz20_0, hcz20_1, hfz20_0, hfz20_1⟩ := bs2_ BK111
      go_wp2
      go_ret
      exact ⟨er_, hf_⟩
end Go.Proofs.Ytaiglhfmmdajdaa.Pm
end
section
namespace Go.Proofs.Ytaiglhfmmdajdaa.Pm
open Go.RowKit Go.Proofs.YtaiglhfmmdajdaaW.PrintWords Go.Proofs.YtaiglhfmmdajdaaW.PrintLast Go.Proofs.YtaiglhfmmdajdaaW.PrintMore
attribute [local go_sem] max2_int min2_int max_two min_two max_three min_three max_four min_four   -- for this text's walks alone
set_option linter.unusedVariables false
set_option linter.unusedSimpArgs false
mutual
def sentryref4_within.l0 : Nat → Int → ByteArray → Int → List ByteArray → List (S48) → Option (Bool)
 | 0, _, _, _, _, _ => none
 | k + 1, x1, x2, x7, x108000, x108001 => if x1 ≥ 0 then (sentryref4_within.j1 k x1 x2 x7 (decide (x7 ≤ (x108001.length : Int))) x108000 x108001) else (sentryref4_within.j1 k x1 x2 x7 false x108000 x108001)
def sentryref4_within.j1 : Nat → Int → ByteArray → Int → Bool → List ByteArray → List (S48) → Option (Bool)
 | 0, _, _, _, _, _, _ => none
 | k + 1, x1, x2, x7, x16, x108000, x108001 => if x16 = true then (if 0 ≤ x1 then (if x1 < (x108001.length : Int) then (if ((rd_T48 x108001 x1).f0).toList = x2.toList then (some true) else ((sentryref4_Place.f k x108000 x108001 ((rd_T48 x108001 x1).f2)).bind fun t110 => (sentryref4_within.l0 k t110 x2 (wrap64 (x7 + 1)) x108000 x108001))) else (none)) else (none)) else (some false)
end
def sentryref4_within.f (k : Nat) (l0_0 : List ByteArray) (l0_1 : List (S48)) (a1 : Int) (a2 : ByteArray) : Option (Bool) := sentryref4_within.l0 k a1 a2 0 l0_0 l0_1
theorem sentryref4_within.mono_l : ∀ k, (∀ y0 y1 y2 y3 y4, LeO (sentryref4_within.l0 k y0 y1 y2 y3 y4) (sentryref4_within.l0 (k + 1) y0 y1 y2 y3 y4)) ∧ (∀ y0 y1 y2 y3 y4 y5, LeO (sentryref4_within.j1 k y0 y1 y2 y3 y4 y5) (sentryref4_within.j1 (k + 1) y0 y1 y2 y3 y4 y5))
 | 0 => ⟨fun _ _ _ _ _ r h => by simp [sentryref4_within.l0] at h, fun _ _ _ _ _ _ r h => by simp [sentryref4_within.j1] at h⟩
 | k + 1 => by
  obtain ⟨ih0, ih1⟩ := sentryref4_within.mono_l k
  refine ⟨?_, ?_⟩
  intro y0 y1 y2 y3 y4
  unfold sentryref4_within.l0
  rotate_left
  intro y0 y1 y2 y3 y4 y5
  unfold sentryref4_within.j1
  rotate_left
  all_goals repeat' first
   | (with_reducible exact ih0 _ _ _ _ _)
   | (with_reducible exact ih1 _ _ _ _ _ _)
   | (with_reducible exact sentryref4_Place.mono _ _ _ _)
   | (with_reducible exact LeO.refl _)
   | (with_reducible exact LeO.none _)
   | (with_reducible refine LeO.ite ?_ ?_)
   | (with_reducible refine LeO.bind ?_ (fun _ => ?_))
   | exact ih0 _ _ _ _ _
   | exact ih1 _ _ _ _ _ _
   | exact sentryref4_Place.mono _ _ _ _
   | exact LeO.none _
   | refine LeO.ite ?_ ?_
   | refine LeO.bind ?_ (fun _ => ?_)
theorem sentryref4_within.mono : ∀ a0 a1 a2 a3 k, LeO (sentryref4_within.f k a0 a1 a2 a3) (sentryref4_within.f (k + 1) a0 a1 a2 a3) := by
 intro a0 a1 a2 a3 k
 obtain ⟨ih0, ih1⟩ := sentryref4_within.mono_l k
 unfold sentryref4_within.f
 repeat' first
   | (with_reducible exact ih0 _ _ _ _ _)
   | (with_reducible exact ih1 _ _ _ _ _ _)
   | (with_reducible exact sentryref4_Place.mono _ _ _ _)
   | (with_reducible exact LeO.refl _)
   | (with_reducible exact LeO.none _)
   | (with_reducible refine LeO.ite ?_ ?_)
   | (with_reducible refine LeO.bind ?_ (fun _ => ?_))
   | exact ih0 _ _ _ _ _
   | exact ih1 _ _ _ _ _ _
   | exact sentryref4_Place.mono _ _ _ _
   | exact LeO.none _
   | refine LeO.ite ?_ ?_
   | refine LeO.bind ?_ (fun _ => ?_)
def sentryref4_within.T6 : Bool × List (List Nat × List Nat) := (true, [([], []), ([], []), ([1], [1]), ([], []), ([2, 3], [2, 3]), ([4], [4]), ([5], [5]), ([0, 6], [0, 6]), ([7, 7, 0, 1, 2, 3, 4, 5, 6, 7], [3, 7])])
def sentryref4_within.B6 : List Nat := [0, 0, 2, 0, 14, 30, 62, 127, 255]
theorem sentryref4_within.tab6 : rtab .any (opsOf Try.f58 6) = sentryref4_within.T6 := by kernel_rfl
theorem sentryref4_within.bits6 : waitsOk sentryref4_within.T6.2 sentryref4_within.B6 = true := by kernel_rfl
set_option maxHeartbeats 8000000 in
set_option maxRecDepth 100000 in
theorem sentryref4_within.calls (k : Nat) (A0_0 : Option Addr) (c0_0 : Nat) (l0_0 : List ByteArray) (A0_1 : Option Addr) (c0_1 : Nat) (l0_1 : List (S48)) (a1 : Int) (a2 : ByteArray) (r : Bool) (w : World) (hr0_0 : Kd.C Kd.string w A0_0 l0_0.length l0_0) (hc0_0 : l0_0.length ≤ c0_0) (hr0_1 : Kd.C k48 w A0_1 l0_1.length l0_1) (hc0_1 : l0_1.length ≤ c0_1) (h : sentryref4_within.f k l0_0 l0_1 a1 a2 = some r) :
  Calls Try.prog 58 #[.agg #[.slice A0_0 l0_0.length c0_0, .slice A0_1 l0_1.length c0_1], .int .i64 a1, .string a2] w fun e w' => e = .returned (.bool r) ∧ Below w.heap.size w w' := by
 have hu25 := Try.underlying25
 have HR0_0 := Aside0.mk hr0_0
 have HC0_0 := Aside0.mk hc0_0
 clear hr0_0 hc0_0
 have HR0_1 := Aside0.mk hr0_1
 have HC0_1 := Aside0.mk hc0_1
 clear hr0_1 hc0_1
 have HB := Aside0.mk (Below.refl w.heap.size w)
 have H : (sentryref4_within.l0 k a1 a2 0 l0_0 l0_1) = some r := h
 clear h
 have H' := Aside0.mk H
 clear H
 go_enter Try.func58, Try.ntmps58
 go_wp2_with (first | ((with_reducible refine gate_dst (N := 3) rfl ?_); (try (refine gate_guard (by rfl) ?_; dsimp only)); refine box_event ?hg (N := 3) ?hd (cs := #[.slice A0_0 l0_0.length c0_0, .slice A0_1 l0_1.length c0_1]) (t := 25) ?hr ?_; (case hd => rfl); (case hg => rfl); (case hr => first | (go_simp; done) | (go_simp; rfl)); intro gb107 hg w4 hbox hb; have n0_ := hb_ HB hb; have n1_ := Aside0.mk (hbox); have n2_ := Aside0.mk ((by rw [hg]; exact (below_size (by repeat (first | (with_reducible first | exact HB.out | apply below_alloc | apply pw_below_drewN | apply below_drew1) | exact HB.out))) : w.heap.size ≤ gb107)); have n3_ := Aside0.mk ((by rw [hg]; exact (below_size (by repeat (first | (with_reducible first | exact HB.out | apply below_alloc | apply pw_below_drewN | apply below_drew1) | exact HB.out))) : w.heap.size ≤ gb107)); clear HB; have HB := n0_; have BK107 := n1_; have GW107 := n2_; have GE107 := n3_; clear n0_ n1_ n2_ n3_; clear hb hbox hg))
 go_loopg [1, 7] k (fun kq v1 v7 w' => ∃ (x1_1 : Int) (x7_1 : Int), v1 = .int .i64 x1_1 ∧ v7 = .int .i64 x7_1 ∧ Aside0 (sentryref4_within.l0 kq x1_1 a2 x7_1 l0_0 l0_1 = some r) ∧ Aside0 (kq ≤ k) ∧ Aside0 (w'.heap[gb107]? = some (.cells #[(.slice A0_0 l0_0.length c0_0), (.slice A0_1 l0_1.length c0_1)] 25 (0, 0))) ∧ Aside0 (Below w.heap.size w w'))
 case atStart => exact ⟨(a1), (0), (by first | rfl | (simp; done) | (simp [*]; done)), (by first | rfl | (simp; done) | (simp [*]; done)), H', ⟨Nat.le_refl _⟩, ⟨gx_ BK107⟩, ⟨hf_⟩⟩
 case round =>
  clear H'
  try clear p2
  obtain ⟨x1_1, x7_1, rfl, rfl, HA, HK1, BK107, HB⟩ := hrel
  cases gk with
  | zero => exact absurd HA.out (by simp [sentryref4_within.l0])
  | succ k1 =>
   have H := HA.out
   clear HA
   simp only [sentryref4_within.l0] at H
   have HC5 := Aside0.mk H
   clear H
   go_upto_region 2 with (fail)
   go_cut [16] (fun v16 wc => ∃ (kq : Nat) (x16_4 : Bool), v16 = .bool x16_4 ∧ Aside0 (sentryref4_within.j1 kq x1_1 a2 x7_1 x16_4 l0_0 l0_1 = some r) ∧ Aside0 (kq ≤ k1) ∧ Aside0 (wc.heap[gb107]? = some (.cells #[(.slice A0_0 l0_0.length c0_0), (.slice A0_1 l0_1.length c0_1)] 25 (0, 0))) ∧ Aside0 (Below w.heap.size w wc))
   case first =>
    have H := HC5.out
    clear HC5
    by_cases c6 : x1_1 ≥ 0
    ·rw [if_pos c6] at H
     have c6b0 : decide (0 ≤ x1_1) = true := decide_eq_true c6
     clear c6
     (first | rw [c6b0] | (simp only [i64_w, i32_w]; rw [c6b0]) | skip)
     have H' := Aside0.mk H
     clear H
     obtain ⟨hcz7_0, hcz7_1, hfz7_0, hfz7_1⟩ := bs2_ BK107
     go_wp2
     go_meet
     case rel => exact ⟨_, (decide (x7_1 ≤ (l0_1.length : Int))), (by first | rfl | (simp; done) | (simp [*]; done)), H', ⟨by have := HK1.out; first | omega | exact Nat.le_refl _⟩, ⟨gx_ BK107⟩, ⟨hf_⟩⟩
    ·rw [if_neg c6] at H
     have c6b0 : decide (0 ≤ x1_1) = false := decide_eq_false c6
     clear c6
     (first | rw [c6b0] | (simp only [i64_w, i32_w]; rw [c6b0]) | skip)
     have H' := Aside0.mk H
     clear H
     go_wp2
     go_meet
     case rel => exact ⟨_, (false), (by first | rfl | (simp; done) | (simp [*]; done)), H', ⟨by have := HK1.out; first | omega | exact Nat.le_refl _⟩, ⟨gx_ BK107⟩, ⟨hf_⟩⟩
   case rest =>
    clear HC5
    (try clear p2); (try clear c5); (try clear c6); (try clear c6b0); (try clear hcz7_0); (try clear hcz7_1); (try clear hfz7_0); (try clear hfz7_1); (try clear p2)
    obtain ⟨kq, x16_4, rfl, HA, HJ4, BK107, HB⟩ := hcut
    cases kq with
    | zero => exact absurd HA.out (by simp [sentryref4_within.j1])
    | succ kj4 =>
     have H := HA.out
     clear HA
     simp only [sentryref4_within.j1] at H
     by_cases c8 : x16_4 = true
     ·subst c8
      have H1 : (if 0 ≤ x1_1 then (if x1_1 < (l0_1.length : Int) then (if ((rd_T48 l0_1 x1_1).f0).toList = a2.toList then (some true) else ((sentryref4_Place.f kj4 l0_0 l0_1 ((rd_T48 l0_1 x1_1).f2)).bind fun t110 => (sentryref4_within.l0 kj4 t110 a2 (wrap64 (x7_1 + 1)) l0_0 l0_1))) else (none)) else (none)) = some r := by rw [if_pos rfl] at H; exact H
      clear H
      have H := H1
      clear H1
      by_cases c9 : 0 ≤ x1_1
      ·rw [if_pos c9] at H
       have c9b0 : decide (0 ≤ x1_1) = true := decide_eq_true c9
       clear c9
       by_cases c10 : x1_1 < (l0_1.length : Int)
       ·rw [if_pos c10] at H
        have c10b0 : decide (x1_1 < (l0_1.length : Int)) = true := decide_eq_true c10
        clear c10
        by_cases c11 : ((rd_T48 l0_1 x1_1).f0).toList = a2.toList
        ·rw [if_pos c11] at H
         have c11b0 : (((rd_T48 l0_1 x1_1).f0).toList == a2.toList) = true := beq_iff_eq.mpr c11
         have c11b1 : (((rd_T48 l0_1 x1_1).f0).toList != a2.toList) = false := bne_eq_false_iff_eq.mpr c11
         clear c11
         obtain rfl := Option.some.inj H
         obtain ⟨hcz12_0, hcz12_1, hfz12_0, hfz12_1⟩ := bs2_ BK107
         have p108 : 0 ≤ (x1_1 : Int) := od_
         have q108 : x1_1 < (l0_1.length : Int) := od_
         obtain ⟨ad108, A108_5, c108_5, A108_6, c108_6, e108, hx108_0, hx108_1, hx108_2, hx108_3, hx108_4, hx108_5, hx108_6, hl108_5, hi108_5, hl108_6, hi108_6⟩ := at_T48 HR0_1.out x1_1 p108 q108
         cases e108
         replace hx108_0 := rr_ HB hx108_0
         replace hx108_1 := rr_ HB hx108_1
         replace hx108_2 := rr_ HB hx108_2
         replace hx108_3 := rr_ HB hx108_3
         replace hx108_4 := rr_ HB hx108_4
         replace hx108_5 := rr_ HB hx108_5
         replace hx108_6 := rr_ HB hx108_6
         have HR108_5 := Aside0.mk hi108_5
         have HC108_5 := Aside0.mk hl108_5
         clear hi108_5 hl108_5
         have HR108_6 := Aside0.mk hi108_6
         have HC108_6 := Aside0.mk hl108_6
         clear hi108_6 hl108_6
         replace p108 := eq_true p108
         replace q108 := eq_true q108
         go_wp2
         go_ret
         exact ⟨er_, hf_⟩
        ·rw [if_neg c11] at H
         have c11b0 : (((rd_T48 l0_1 x1_1).f0).toList == a2.toList) = false := beq_eq_false_iff_ne.mpr c11
         have c11b1 : (((rd_T48 l0_1 x1_1).f0).toList != a2.toList) = true := bne_iff_ne.mpr c11
         replace H := Option.bind_eq_some_iff.mp H
         obtain ⟨t110, A130, H⟩ := H
         replace H : (sentryref4_within.l0 kj4 t110 a2 (wrap64 (x7_1 + 1)) l0_0 l0_1) = some r := H
         have A13 := Aside0.mk A130
         clear A130
         have H' := Aside0.mk H
         clear H
         obtain ⟨hcz14_0, hcz14_1, hfz14_0, hfz14_1⟩ := bs2_ BK107
         have p108 : 0 ≤ (x1_1 : Int) := od_
         have q108 : x1_1 < (l0_1.length : Int) := od_
         obtain ⟨ad108, A108_5, c108_5, A108_6, c108_6, e108, hx108_0, hx108_1, hx108_2, hx108_3, hx108_4, hx108_5, hx108_6, hl108_5, hi108_5, hl108_6, hi108_6⟩ := at_T48 HR0_1.out x1_1 p108 q108
         cases e108
         replace hx108_0 := rr_ HB hx108_0
         replace hx108_1 := rr_ HB hx108_1
         replace hx108_2 := rr_ HB hx108_2
         replace hx108_3 := rr_ HB hx108_3
         replace hx108_4 := rr_ HB hx108_4
         replace hx108_5 := rr_ HB hx108_5
         replace hx108_6 := rr_ HB hx108_6
         have HR108_5 := Aside0.mk hi108_5
         have HC108_5 := Aside0.mk hl108_5
         clear hi108_5 hl108_5
         have HR108_6 := Aside0.mk hi108_6
         have HC108_6 := Aside0.mk hl108_6
         clear hi108_6 hl108_6
         replace p108 := eq_true p108
         replace q108 := eq_true q108
         try go_wp2
         replace BK107 := Aside0.mk (blk_drew BK107.out)
         replace HB := Aside0.mk (below_drew1 HB.out)
         have p109 : 0 ≤ (x1_1 : Int) := od_
         have q109 : x1_1 < (l0_1.length : Int) := od_
         obtain ⟨ad109, A109_5, c109_5, A109_6, c109_6, e109, hx109_0, hx109_1, hx109_2, hx109_3, hx109_4, hx109_5, hx109_6, hl109_5, hi109_5, hl109_6, hi109_6⟩ := at_T48 HR0_1.out x1_1 p109 q109
         have hw109_6 := hx109_6
         have hw109_5 := hx109_5
         have hw109_4 := hx109_4
         have hw109_3 := hx109_3
         have hw109_2 := hx109_2
         have hw109_1 := hx109_1
         have hw109_0 := hx109_0
         obtain rfl : ad108 = ad109 := (by injection e109)
         replace hx109_0 := rr_ HB hx109_0
         replace hx109_1 := rr_ HB hx109_1
         replace hx109_2 := rr_ HB hx109_2
         replace hx109_3 := rr_ HB hx109_3
         replace hx109_4 := rr_ HB hx109_4
         replace hx109_5 := rr_ HB hx109_5
         replace hx109_6 := rr_ HB hx109_6
         have HR109_5 := Aside0.mk hi109_5
         have HC109_5 := Aside0.mk hl109_5
         clear hi109_5 hl109_5
         have HR109_6 := Aside0.mk hi109_6
         have HC109_6 := Aside0.mk hl109_6
         clear hi109_6 hl109_6
         replace p109 := eq_true p109
         replace q109 := eq_true q109
         refine start_ (n := 9) (S := fun w' => w'.cell? ⟨gb107, 0, none⟩ = some (.slice A0_0 l0_0.length c0_0) ∧ w'.cell? ⟨gb107, 1, none⟩ = some (.slice (some ad108) l0_1.length c0_1) ∧ w'.cell? (ad108.add ((x1_1).toNat * 7)) = some (.string ((rd_T48 l0_1 x1_1).f0)) ∧ w'.cell? ⟨(ad108.add ((x1_1).toNat * 7)).block, (ad108.add ((x1_1).toNat * 7)).off + 1, none⟩ = some (.int .i64 ((rd_T48 l0_1 x1_1).f1)) ∧ w'.cell? ⟨(ad108.add ((x1_1).toNat * 7)).block, (ad108.add ((x1_1).toNat * 7)).off + 2, none⟩ = some (.string ((rd_T48 l0_1 x1_1).f2)) ∧ w'.cell? ⟨(ad108.add ((x1_1).toNat * 7)).block, (ad108.add ((x1_1).toNat * 7)).off + 3, none⟩ = some (.bool ((rd_T48 l0_1 x1_1).f3)) ∧ w'.cell? ⟨(ad108.add ((x1_1).toNat * 7)).block, (ad108.add ((x1_1).toNat * 7)).off + 4, none⟩ = some (.int .i64 ((rd_T48 l0_1 x1_1).f4)) ∧ w'.cell? ⟨(ad108.add ((x1_1).toNat * 7)).block, (ad108.add ((x1_1).toNat * 7)).off + 5, none⟩ = some (.slice A109_5 ((rd_T48 l0_1 x1_1).f5).length c109_5) ∧ w'.cell? ⟨(ad108.add ((x1_1).toNat * 7)).block, (ad108.add ((x1_1).toNat * 7)).off + 6, none⟩ = some (.slice A109_6 ((rd_T48 l0_1 x1_1).f6).length c109_6)) (ds := []) #[false, false, false, false, false, false, false, false, false] (by kernel_rfl) rfl rfl ⟨(bk0_ BK107 :), (bk1_ BK107 :), (rr_ HB hw109_0 :), (rr_ HB hw109_1 :), (rr_ HB hw109_2 :), (rr_ HB hw109_3 :), (rr_ HB hw109_4 :), (rr_ HB hw109_5 :), (rr_ HB hw109_6 :)⟩ (fun hHeld => ?_); refine with_tabW sentryref4_within.tab6 sentryref4_within.bits6 (fun HT_ HW_ => ?_)
         generalize wc.drew = w15 at BK107 HB HR109_5 HR109_6 hx109_0 hx109_1 hx109_2 hx109_3 hx109_4 hx109_5 hx109_6 hHeld ⊢
         refine pz_ 1 (some 28) (bits_ 9 2) HT_.out ?_
         refine pz_ 3 (some 30) (bits_ 9 10) HT_.out ?_
         refine tz_ 0 (some 27) (bits_ 9 11) HT_.out HW_.out hHeld ?_ (hy := by rintro w' ⟨s0, s1, s2, s3, s4, s5, s6, s7, s8⟩; go_simp; with_reducible rfl)
         refine tz_ 2 (some 29) (bits_ 9 15) HT_.out HW_.out hHeld ?_ (hy := by rintro w' ⟨s0, s1, s2, s3, s4, s5, s6, s7, s8⟩; go_simp; with_reducible rfl)
         refine pz_ 4 (some 31) (bits_ 9 31) HT_.out ?_
         refine pz_ 5 (some 32) (bits_ 9 63) HT_.out ?_
         refine tz_ 6 (some 33) (bits_ 9 127) HT_.out HW_.out hHeld ?_ (hy := by rintro w' ⟨s0, s1, s2, s3, s4, s5, s6, s7, s8⟩; go_simp; with_reducible rfl)
         refine oz_ 7 (some 34) (bits_ 9 255) HT_.out (fun K hK => ?_)
         refine go_s_ Try.func54 #[.agg #[.slice A0_0 l0_0.length c0_0, .slice (some ad108) l0_1.length c0_1], .string ((rd_T48 l0_1 x1_1).f2)] ?_
         with_reducible refine (sentryref4_Place.calls kj4 _ _ l0_0 _ _ l0_1 ((rd_T48 l0_1 x1_1).f2) t110 _ ?side1 ?side2 ?side3 ?side4 A13.out).mono ?_
         (case side1 => exact kc_ HR0_0 HB)
         (case side2 => exact HC0_0.out)
         (case side3 => exact kc_ HR0_1 HB)
         (case side4 => exact HC0_1.out)
         rintro e w16 ⟨rfl, hb⟩
         refine ⟨_, rfl, ?_⟩
         replace BK107 := bb_ BK107 hb
         replace HB := hb_ HB hb
         (try clear hb); (try clear hb2); (try clear hk); (try clear hi)
         refine hK.out _ _ ⟨(bk0_ BK107 :), (bk1_ BK107 :), (rr_ HB hw109_0 :), (rr_ HB hw109_1 :), (rr_ HB hw109_2 :), (rr_ HB hw109_3 :), (rr_ HB hw109_4 :), (rr_ HB hw109_5 :), (rr_ HB hw109_6 :)⟩ (fun hHeld => ?_)
         clear hK K
         refine nz_ (some 34) ?_
         refine pz_ 8 (some 1) (bits_ 9 511) HT_.out ?_
         refine done_ (done_of HT_.out (by kernel_rfl)) ?_
         try go_wp2
         go_roundg kj4
         case measure => have := HK1.out; have := HJ4.out; omega
         case rel => exact ⟨(t110), (wrap64 (x7_1 + 1)), (by first | rfl | (simp; done) | (simp [*]; done)), (by first | rfl | (simp; done) | (simp [*]; done)), H', ⟨by have := HK1.out; have := HJ4.out; omega⟩, ⟨gx_ BK107⟩, ⟨hf_⟩⟩
       ·rw [if_neg c10] at H
        exact absurd H (by simp)
      ·rw [if_neg c9] at H
       exact absurd H (by simp)
     ·replace c8 := Bool.eq_false_iff.mpr c8
      subst c8
      have H1 : (some false) = some r := by rw [if_neg (show ¬ (false = true) by decide)] at H; exact H
      clear H
      have H := H1
      clear H1
      obtain rfl := Option.some.inj H
      go_wp2
      go_ret
      exact ⟨er_, hf_⟩
end Go.Proofs.Ytaiglhfmmdajdaa.Pm
end
section
namespace Go.Proofs.Ytaiglhfmmdajdaa.Pm
open Go.RowKit Go.Proofs.YtaiglhfmmdajdaaW.PrintWords Go.Proofs.YtaiglhfmmdajdaaW.PrintLast Go.Proofs.YtaiglhfmmdajdaaW.PrintMore
attribute [local go_sem] max2_int min2_int max_two min_two max_three min_three max_four min_four   -- for this text's walks alone
set_option linter.unusedVariables false
set_option linter.unusedSimpArgs false
mutual
def sentryref4_item.j0 : Nat → Int → Bool → List ByteArray → List (S48) → ByteArray → Int → ByteArray → Bool → Int → List (S54) → List (S54) → Option (Bool)
 | 0, _, _, _, _, _, _, _, _, _, _, _ => none
 | k + 1, x1, x34, x115000, x115001, x117000, x117001, x117002, x117003, x117004, x117005, x117006 => if x34 = true then (some false) else (if x117001 = 5 then (if x117004 ≥ 1 then (sentryref4_item.j1 k x1 (decide (x117004 ≤ 100)) x115000 x115001 x117000 x117001 x117002 x117003 x117004 x117005 x117006) else (sentryref4_item.j1 k x1 false x115000 x115001 x117000 x117001 x117002 x117003 x117004 x117005 x117006)) else (sentryref4_item.j1 k x1 (x117004 == 0) x115000 x115001 x117000 x117001 x117002 x117003 x117004 x117005 x117006))
def sentryref4_item.j1 : Nat → Int → Bool → List ByteArray → List (S48) → ByteArray → Int → ByteArray → Bool → Int → List (S54) → List (S54) → Option (Bool)
 | 0, _, _, _, _, _, _, _, _, _, _, _ => none
 | k + 1, x1, x6, x115000, x115001, x117000, x117001, x117002, x117003, x117004, x117005, x117006 => if x6 = true then (if x117001 ≥ 4 then (if x117003 = true then (sentryref4_item.j2 k x1 true x115000 x115001 x117000 x117001 x117002 x117003 x117004 x117005 x117006) else (sentryref4_item.j2 k x1 (decide ((x117005.length : Int) > 0)) x115000 x115001 x117000 x117001 x117002 x117003 x117004 x117005 x117006)) else (sentryref4_item.j2 k x1 false x115000 x115001 x117000 x117001 x117002 x117003 x117004 x117005 x117006)) else (sentryref4_item.j2 k x1 true x115000 x115001 x117000 x117001 x117002 x117003 x117004 x117005 x117006)
def sentryref4_item.j2 : Nat → Int → Bool → List ByteArray → List (S48) → ByteArray → Int → ByteArray → Bool → Int → List (S54) → List (S54) → Option (Bool)
 | 0, _, _, _, _, _, _, _, _, _, _, _ => none
 | k + 1, x1, x65, x115000, x115001, x117000, x117001, x117002, x117003, x117004, x117005, x117006 => if x65 = true then (some false) else (if x1 = 0 then (if x117001 = 1 then (if x117002.toList = ([] : List UInt8) then (if x117003 = true then (some false) else (if (x117005.length : Int) = 0 then (some ((x117006.length : Int) == 0)) else (some false))) else (some false)) else (some false)) else ((sentryref4_Place.f k x115000 x115001 x117002).bind fun t119 => (if x117002.toList = ([] : List UInt8) then (some false) else (if t119 ≥ 0 then (if t119 < x1 then (if 0 ≤ t119 then (if t119 < (x115001.length : Int) then (if ((rd_T48 x115001 t119).f1) = 1 then ((sentryref4_within.f k x115000 x115001 (wrap64 (x1 - 1)) x117002).bind fun t121 => (if t121 = true then ((sentryref4_Depth.f k x115000 x115001 x1).bind fun t122 => (if t122 ≥ 1 then ((sentryref4_Depth.f k x115000 x115001 x1).bind fun t123 => (some (decide (t123 ≤ 5)))) else (some false))) else (some false))) else (some false)) else (none)) else (none)) else (some false)) else (some false)))))
end
def sentryref4_item.f (k : Nat) (l0_0 : List ByteArray) (l0_1 : List (S48)) (a1 : Int) : Option (Bool) := if 0 ≤ a1 then (if a1 < (l0_1.length : Int) then ((sentryref1_Is.f k ((rd_T48 l0_1 a1).f0)).bind fun t117 => (if t117 = true then ((sentryref4_Place.f k l0_0 l0_1 ((rd_T48 l0_1 a1).f0)).bind fun t118 => (if t118 = a1 then (if ((rd_T48 l0_1 a1).f1) < 1 then (sentryref4_item.j0 k a1 true l0_0 l0_1 ((rd_T48 l0_1 a1).f0) ((rd_T48 l0_1 a1).f1) ((rd_T48 l0_1 a1).f2) ((rd_T48 l0_1 a1).f3) ((rd_T48 l0_1 a1).f4) ((rd_T48 l0_1 a1).f5) ((rd_T48 l0_1 a1).f6)) else (sentryref4_item.j0 k a1 (decide (((rd_T48 l0_1 a1).f1) > 5)) l0_0 l0_1 ((rd_T48 l0_1 a1).f0) ((rd_T48 l0_1 a1).f1) ((rd_T48 l0_1 a1).f2) ((rd_T48 l0_1 a1).f3) ((rd_T48 l0_1 a1).f4) ((rd_T48 l0_1 a1).f5) ((rd_T48 l0_1 a1).f6))) else (sentryref4_item.j0 k a1 true l0_0 l0_1 ((rd_T48 l0_1 a1).f0) ((rd_T48 l0_1 a1).f1) ((rd_T48 l0_1 a1).f2) ((rd_T48 l0_1 a1).f3) ((rd_T48 l0_1 a1).f4) ((rd_T48 l0_1 a1).f5) ((rd_T48 l0_1 a1).f6)))) else (sentryref4_item.j0 k a1 true l0_0 l0_1 ((rd_T48 l0_1 a1).f0) ((rd_T48 l0_1 a1).f1) ((rd_T48 l0_1 a1).f2) ((rd_T48 l0_1 a1).f3) ((rd_T48 l0_1 a1).f4) ((rd_T48 l0_1 a1).f5) ((rd_T48 l0_1 a1).f6)))) else (none)) else (none)
theorem sentryref4_item.mono_l : ∀ k, (∀ y0 y1 y2 y3 y4 y5 y6 y7 y8 y9 y10, LeO (sentryref4_item.j0 k y0 y1 y2 y3 y4 y5 y6 y7 y8 y9 y10) (sentryref4_item.j0 (k + 1) y0 y1 y2 y3 y4 y5 y6 y7 y8 y9 y10)) ∧ (∀ y0 y1 y2 y3 y4 y5 y6 y7 y8 y9 y10, LeO (sentryref4_item.j1 k y0 y1 y2 y3 y4 y5 y6 y7 y8 y9 y10) (sentryref4_item.j1 (k + 1) y0 y1 y2 y3 y4 y5 y6 y7 y8 y9 y10)) ∧ (∀ y0 y1 y2 y3 y4 y5 y6 y7 y8 y9 y10, LeO (sentryref4_item.j2 k y0 y1 y2 y3 y4 y5 y6 y7 y8 y9 y10) (sentryref4_item.j2 (k + 1) y0 y1 y2 y3 y4 y5 y6 y7 y8 y9 y10))
 | 0 => ⟨fun _ _ _ _ _ _ _ _ _ _ _ r h => by simp [sentryref4_item.j0] at h, fun _ _ _ _ _ _ _ _ _ _ _ r h => by simp [sentryref4_item.j1] at h, fun _ _ _ _ _ _ _ _ _ _ _ r h => by simp [sentryref4_item.j2] at h⟩
 | k + 1 => by
  obtain ⟨ih0, ih1, ih2⟩ := sentryref4_item.mono_l k
  refine ⟨?_, ?_, ?_⟩
  intro y0 y1 y2 y3 y4 y5 y6 y7 y8 y9 y10
  unfold sentryref4_item.j0
  rotate_left
  intro y0 y1 y2 y3 y4 y5 y6 y7 y8 y9 y10
  unfold sentryref4_item.j1
  rotate_left
  intro y0 y1 y2 y3 y4 y5 y6 y7 y8 y9 y10
  unfold sentryref4_item.j2
  rotate_left
  all_goals repeat' first
   | (with_reducible exact ih0 _ _ _ _ _ _ _ _ _ _ _)
   | (with_reducible exact ih1 _ _ _ _ _ _ _ _ _ _ _)
   | (with_reducible exact ih2 _ _ _ _ _ _ _ _ _ _ _)
   | (with_reducible exact sentryref1_Is.mono _ _)
   | (with_reducible exact sentryref4_Depth.mono _ _ _ _)
   | (with_reducible exact sentryref4_Place.mono _ _ _ _)
   | (with_reducible exact sentryref4_within.mono _ _ _ _ _)
   | (with_reducible exact LeO.refl _)
   | (with_reducible exact LeO.none _)
   | (with_reducible refine LeO.ite ?_ ?_)
   | (with_reducible refine LeO.bind ?_ (fun _ => ?_))
   | exact ih0 _ _ _ _ _ _ _ _ _ _ _
   | exact ih1 _ _ _ _ _ _ _ _ _ _ _
   | exact ih2 _ _ _ _ _ _ _ _ _ _ _
   | exact sentryref1_Is.mono _ _
   | exact sentryref4_Depth.mono _ _ _ _
   | exact sentryref4_Place.mono _ _ _ _
   | exact sentryref4_within.mono _ _ _ _ _
   | exact LeO.none _
   | refine LeO.ite ?_ ?_
   | refine LeO.bind ?_ (fun _ => ?_)
theorem sentryref4_item.mono : ∀ a0 a1 a2 k, LeO (sentryref4_item.f k a0 a1 a2) (sentryref4_item.f (k + 1) a0 a1 a2) := by
 intro a0 a1 a2 k
 obtain ⟨ih0, ih1, ih2⟩ := sentryref4_item.mono_l k
 unfold sentryref4_item.f
 repeat' first
   | (with_reducible exact ih0 _ _ _ _ _ _ _ _ _ _ _)
   | (with_reducible exact ih1 _ _ _ _ _ _ _ _ _ _ _)
   | (with_reducible exact ih2 _ _ _ _ _ _ _ _ _ _ _)
   | (with_reducible exact sentryref1_Is.mono _ _)
   | (with_reducible exact sentryref4_Depth.mono _ _ _ _)
   | (with_reducible exact sentryref4_Place.mono _ _ _ _)
   | (with_reducible exact sentryref4_within.mono _ _ _ _ _)
   | (with_reducible exact LeO.refl _)
   | (with_reducible exact LeO.none _)
   | (with_reducible refine LeO.ite ?_ ?_)
   | (with_reducible refine LeO.bind ?_ (fun _ => ?_))
   | exact ih0 _ _ _ _ _ _ _ _ _ _ _
   | exact ih1 _ _ _ _ _ _ _ _ _ _ _
   | exact ih2 _ _ _ _ _ _ _ _ _ _ _
   | exact sentryref1_Is.mono _ _
   | exact sentryref4_Depth.mono _ _ _ _
   | exact sentryref4_Place.mono _ _ _ _
   | exact sentryref4_within.mono _ _ _ _ _
   | exact LeO.none _
   | refine LeO.ite ?_ ?_
   | refine LeO.bind ?_ (fun _ => ?_)
set_option maxHeartbeats 8000000 in
set_option maxRecDepth 100000 in
theorem sentryref4_item.calls (k : Nat) (A0_0 : Option Addr) (c0_0 : Nat) (l0_0 : List ByteArray) (A0_1 : Option Addr) (c0_1 : Nat) (l0_1 : List (S48)) (a1 : Int) (r : Bool) (w : World) (hr0_0 : Kd.C Kd.string w A0_0 l0_0.length l0_0) (hc0_0 : l0_0.length ≤ c0_0) (hr0_1 : Kd.C k48 w A0_1 l0_1.length l0_1) (hc0_1 : l0_1.length ≤ c0_1) (h : sentryref4_item.f k l0_0 l0_1 a1 = some r) :
  Calls Try.prog 30 #[.agg #[.slice A0_0 l0_0.length c0_0, .slice A0_1 l0_1.length c0_1], .int .i64 a1] w fun e w' => e = .returned (.bool r) ∧ Below w.heap.size w w' := by
 have hu25 := Try.underlying25
 have hu48 := Try.underlying48
 have HR0_0 := Aside0.mk hr0_0
 have HC0_0 := Aside0.mk hc0_0
 clear hr0_0 hc0_0
 have HR0_1 := Aside0.mk hr0_1
 have HC0_1 := Aside0.mk hc0_1
 clear hr0_1 hc0_1
 have HB := Aside0.mk (Below.refl w.heap.size w)
 have H : (if 0 ≤ a1 then (if a1 < (l0_1.length : Int) then ((sentryref1_Is.f k ((rd_T48 l0_1 a1).f0)).bind fun t117 => (if t117 = true then ((sentryref4_Place.f k l0_0 l0_1 ((rd_T48 l0_1 a1).f0)).bind fun t118 => (if t118 = a1 then (if ((rd_T48 l0_1 a1).f1) < 1 then (sentryref4_item.j0 k a1 true l0_0 l0_1 ((rd_T48 l0_1 a1).f0) ((rd_T48 l0_1 a1).f1) ((rd_T48 l0_1 a1).f2) ((rd_T48 l0_1 a1).f3) ((rd_T48 l0_1 a1).f4) ((rd_T48 l0_1 a1).f5) ((rd_T48 l0_1 a1).f6)) else (sentryref4_item.j0 k a1 (decide (((rd_T48 l0_1 a1).f1) > 5)) l0_0 l0_1 ((rd_T48 l0_1 a1).f0) ((rd_T48 l0_1 a1).f1) ((rd_T48 l0_1 a1).f2) ((rd_T48 l0_1 a1).f3) ((rd_T48 l0_1 a1).f4) ((rd_T48 l0_1 a1).f5) ((rd_T48 l0_1 a1).f6))) else (sentryref4_item.j0 k a1 true l0_0 l0_1 ((rd_T48 l0_1 a1).f0) ((rd_T48 l0_1 a1).f1) ((rd_T48 l0_1 a1).f2) ((rd_T48 l0_1 a1).f3) ((rd_T48 l0_1 a1).f4) ((rd_T48 l0_1 a1).f5) ((rd_T48 l0_1 a1).f6)))) else (sentryref4_item.j0 k a1 true l0_0 l0_1 ((rd_T48 l0_1 a1).f0) ((rd_T48 l0_1 a1).f1) ((rd_T48 l0_1 a1).f2) ((rd_T48 l0_1 a1).f3) ((rd_T48 l0_1 a1).f4) ((rd_T48 l0_1 a1).f5) ((rd_T48 l0_1 a1).f6)))) else (none)) else (none)) = some r := h
 clear h
 by_cases c3 : 0 ≤ a1
 ·rw [if_pos c3] at H
  have c3b0 : decide (0 ≤ a1) = true := decide_eq_true c3
  clear c3
  by_cases c4 : a1 < (l0_1.length : Int)
  ·rw [if_pos c4] at H
   have c4b0 : decide (a1 < (l0_1.length : Int)) = true := decide_eq_true c4
   clear c4
   have HC5 := Aside0.mk H
   clear H
   go_enter Try.func30, Try.ntmps30
   go_upto_region 2 with (first | ((with_reducible refine gate_dst (N := 2) rfl ?_); (try (refine gate_guard (by rfl) ?_; dsimp only)); refine box_event ?hg (N := 2) ?hd (cs := #[.slice A0_0 l0_0.length c0_0, .slice A0_1 l0_1.length c0_1]) (t := 25) ?hr ?_; (case hd => rfl); (case hg => rfl); (case hr => first | (go_simp; done) | (go_simp; rfl)); intro gb114 hg w6 hbox hb; have n0_ := hb_ HB hb; have n1_ := Aside0.mk (hbox); have n2_ := Aside0.mk ((by rw [hg]; exact (below_size (by repeat (first | (with_reducible first | exact HB.out | apply below_alloc | apply pw_below_drewN | apply below_drew1) | exact HB.out))) : w.heap.size ≤ gb114)); have n3_ := Aside0.mk ((by rw [hg]; exact (below_size (by repeat (first | (with_reducible first | exact HB.out | apply below_alloc | apply pw_below_drewN | apply below_drew1) | exact HB.out))) : w.heap.size ≤ gb114)); clear HB; have HB := n0_; have BK114 := n1_; have GW114 := n2_; have GE114 := n3_; clear n0_ n1_ n2_ n3_; clear hb hbox hg; obtain ⟨hcz7_0, hcz7_1, hfz7_0, hfz7_1⟩ := bs2_ BK114; have p115 : 0 ≤ (a1 : Int) := od_; have q115 : a1 < (l0_1.length : Int) := od_; obtain ⟨ad115, A115_5, c115_5, A115_6, c115_6, e115, hx115_0, hx115_1, hx115_2, hx115_3, hx115_4, hx115_5, hx115_6, hl115_5, hi115_5, hl115_6, hi115_6⟩ := at_T48 HR0_1.out a1 p115 q115; cases e115; replace hx115_0 := rr_ HB hx115_0; replace hx115_1 := rr_ HB hx115_1; replace hx115_2 := rr_ HB hx115_2; replace hx115_3 := rr_ HB hx115_3; replace hx115_4 := rr_ HB hx115_4; replace hx115_5 := rr_ HB hx115_5; replace hx115_6 := rr_ HB hx115_6; have HR115_5 := Aside0.mk hi115_5; have HC115_5 := Aside0.mk hl115_5; clear hi115_5 hl115_5; have HR115_6 := Aside0.mk hi115_6; have HC115_6 := Aside0.mk hl115_6; clear hi115_6 hl115_6; replace p115 := eq_true p115; replace q115 := eq_true q115) | ((with_reducible refine gate_dst (N := 5) rfl ?_); (try (refine gate_guard (by rfl) ?_; dsimp only)); refine box_event ?hg (N := 5) ?hd (cs := #[.string (⟨#[]⟩ : ByteArray), .int .i64 0, .string (⟨#[]⟩ : ByteArray), .bool false, .int .i64 0, .slice none 0 0, .slice none 0 0]) (t := 48) ?hr ?_; (case hd => rfl); (case hg => rfl); (case hr => first | (go_simp; done) | (go_simp; rfl)); intro gb116 hg w8 hbox hb; have n0_ := bb_ BK114 hb; have n1_ := hb_ HB hb; have n2_ := Aside0.mk (hbox); have n3_ := Aside0.mk ((by rw [hg]; exact (below_size (by repeat (first | (with_reducible first | exact HB.out | apply below_alloc | apply pw_below_drewN | apply below_drew1 | refine below_set ?_ GE114.out) | exact HB.out))) : w.heap.size ≤ gb116)); have n4_ := Aside0.mk ((by rw [hg]; exact (below_size (by repeat (first | (with_reducible first | exact HB.out | apply below_alloc | apply pw_below_drewN | apply below_drew1 | refine below_set ?_ GE114.out) | exact HB.out))) : w.heap.size ≤ gb116)); have n5_ := Aside0.mk ((by rw [hg]; exact Nat.ne_of_lt (blk_lt (g := gb114) (o := .cells #[.slice A0_0 l0_0.length c0_0, .slice (some ad115) l0_1.length c0_1] 25 (0, 0)) (by (with_reducible repeat (first | refine blk_drewN ?_ _ | refine blk_drew ?_ | refine blk_alloc ?_ _)); exact BK114.out)) : gb114 ≠ gb116)); have n6_ := Aside0.mk ((by rw [hg]; exact Nat.ne_of_gt (blk_lt (g := gb114) (o := .cells #[.slice A0_0 l0_0.length c0_0, .slice (some ad115) l0_1.length c0_1] 25 (0, 0)) (by (with_reducible repeat (first | refine blk_drewN ?_ _ | refine blk_drew ?_ | refine blk_alloc ?_ _)); exact BK114.out)) : gb116 ≠ gb114)); clear BK114; clear HB; have BK114 := n0_; have HB := n1_; have BK116 := n2_; have GW116 := n3_; have GE116 := n4_; have NB114_116 := n5_; have NB116_114 := n6_; clear n0_ n1_ n2_ n3_ n4_ n5_ n6_; clear hb hbox hg; have hnb9 := NB116_114.out; have hnc9 := NB114_116.out; obtain ⟨hcz10_0, hcz10_1, hcz10_2, hcz10_3, hcz10_4, hcz10_5, hcz10_6, hfz10_0, hfz10_1, hfz10_2, hfz10_3, hfz10_4, hfz10_5, hfz10_6⟩ := bs7_ BK116))
   (try simp only [Act.put, List.setIfInBounds_toArray, List.set_cons_zero, List.set_cons_succ])
   go_cut [34] (fun v34 wc => ∃ (kq : Nat) (x34_4 : Bool), v34 = .bool x34_4 ∧ Aside0 (sentryref4_item.j0 kq a1 x34_4 l0_0 l0_1 ((rd_T48 l0_1 a1).f0) ((rd_T48 l0_1 a1).f1) ((rd_T48 l0_1 a1).f2) ((rd_T48 l0_1 a1).f3) ((rd_T48 l0_1 a1).f4) ((rd_T48 l0_1 a1).f5) ((rd_T48 l0_1 a1).f6) = some r) ∧ Aside0 (kq ≤ k) ∧ Aside0 (wc.heap[gb114]? = some (.cells #[(.slice A0_0 l0_0.length c0_0), (.slice (some ad115) l0_1.length c0_1)] 25 (0, 0))) ∧ Aside0 (wc.heap[gb116]? = some (.cells #[.string ((rd_T48 l0_1 a1).f0), .int .i64 ((rd_T48 l0_1 a1).f1), .string ((rd_T48 l0_1 a1).f2), .bool ((rd_T48 l0_1 a1).f3), .int .i64 ((rd_T48 l0_1 a1).f4), (.slice A115_5 ((rd_T48 l0_1 a1).f5).length c115_5), (.slice A115_6 ((rd_T48 l0_1 a1).f6).length c115_6)] 48 (0, 0))) ∧ Aside0 (Below w.heap.size w wc))
   case first =>
    have H := HC5.out
    clear HC5
    replace H := Option.bind_eq_some_iff.mp H
    obtain ⟨t117, A110, H⟩ := H
    replace H : (if t117 = true then ((sentryref4_Place.f k l0_0 l0_1 ((rd_T48 l0_1 a1).f0)).bind fun t118 => (if t118 = a1 then (if ((rd_T48 l0_1 a1).f1) < 1 then (sentryref4_item.j0 k a1 true l0_0 l0_1 ((rd_T48 l0_1 a1).f0) ((rd_T48 l0_1 a1).f1) ((rd_T48 l0_1 a1).f2) ((rd_T48 l0_1 a1).f3) ((rd_T48 l0_1 a1).f4) ((rd_T48 l0_1 a1).f5) ((rd_T48 l0_1 a1).f6)) else (sentryref4_item.j0 k a1 (decide (((rd_T48 l0_1 a1).f1) > 5)) l0_0 l0_1 ((rd_T48 l0_1 a1).f0) ((rd_T48 l0_1 a1).f1) ((rd_T48 l0_1 a1).f2) ((rd_T48 l0_1 a1).f3) ((rd_T48 l0_1 a1).f4) ((rd_T48 l0_1 a1).f5) ((rd_T48 l0_1 a1).f6))) else (sentryref4_item.j0 k a1 true l0_0 l0_1 ((rd_T48 l0_1 a1).f0) ((rd_T48 l0_1 a1).f1) ((rd_T48 l0_1 a1).f2) ((rd_T48 l0_1 a1).f3) ((rd_T48 l0_1 a1).f4) ((rd_T48 l0_1 a1).f5) ((rd_T48 l0_1 a1).f6)))) else (sentryref4_item.j0 k a1 true l0_0 l0_1 ((rd_T48 l0_1 a1).f0) ((rd_T48 l0_1 a1).f1) ((rd_T48 l0_1 a1).f2) ((rd_T48 l0_1 a1).f3) ((rd_T48 l0_1 a1).f4) ((rd_T48 l0_1 a1).f5) ((rd_T48 l0_1 a1).f6))) = some r := H
    have A11 := Aside0.mk A110
    clear A110
    by_cases c12 : t117 = true
    ·subst c12
     have H1 : ((sentryref4_Place.f k l0_0 l0_1 ((rd_T48 l0_1 a1).f0)).bind fun t118 => (if t118 = a1 then (if ((rd_T48 l0_1 a1).f1) < 1 then (sentryref4_item.j0 k a1 true l0_0 l0_1 ((rd_T48 l0_1 a1).f0) ((rd_T48 l0_1 a1).f1) ((rd_T48 l0_1 a1).f2) ((rd_T48 l0_1 a1).f3) ((rd_T48 l0_1 a1).f4) ((rd_T48 l0_1 a1).f5) ((rd_T48 l0_1 a1).f6)) else (sentryref4_item.j0 k a1 (decide (((rd_T48 l0_1 a1).f1) > 5)) l0_0 l0_1 ((rd_T48 l0_1 a1).f0) ((rd_T48 l0_1 a1).f1) ((rd_T48 l0_1 a1).f2) ((rd_T48 l0_1 a1).f3) ((rd_T48 l0_1 a1).f4) ((rd_T48 l0_1 a1).f5) ((rd_T48 l0_1 a1).f6))) else (sentryref4_item.j0 k a1 true l0_0 l0_1 ((rd_T48 l0_1 a1).f0) ((rd_T48 l0_1 a1).f1) ((rd_T48 l0_1 a1).f2) ((rd_T48 l0_1 a1).f3) ((rd_T48 l0_1 a1).f4) ((rd_T48 l0_1 a1).f5) ((rd_T48 l0_1 a1).f6)))) = some r := by rw [if_pos rfl] at H; exact H
     clear H
     have H := H1
     clear H1
     replace H := Option.bind_eq_some_iff.mp H
     obtain ⟨t118, A130, H⟩ := H
     replace H : (if t118 = a1 then (if ((rd_T48 l0_1 a1).f1) < 1 then (sentryref4_item.j0 k a1 true l0_0 l0_1 ((rd_T48 l0_1 a1).f0) ((rd_T48 l0_1 a1).f1) ((rd_T48 l0_1 a1).f2) ((rd_T48 l0_1 a1).f3) ((rd_T48 l0_1 a1).f4) ((rd_T48 l0_1 a1).f5) ((rd_T48 l0_1 a1).f6)) else (sentryref4_item.j0 k a1 (decide (((rd_T48 l0_1 a1).f1) > 5)) l0_0 l0_1 ((rd_T48 l0_1 a1).f0) ((rd_T48 l0_1 a1).f1) ((rd_T48 l0_1 a1).f2) ((rd_T48 l0_1 a1).f3) ((rd_T48 l0_1 a1).f4) ((rd_T48 l0_1 a1).f5) ((rd_T48 l0_1 a1).f6))) else (sentryref4_item.j0 k a1 true l0_0 l0_1 ((rd_T48 l0_1 a1).f0) ((rd_T48 l0_1 a1).f1) ((rd_T48 l0_1 a1).f2) ((rd_T48 l0_1 a1).f3) ((rd_T48 l0_1 a1).f4) ((rd_T48 l0_1 a1).f5) ((rd_T48 l0_1 a1).f6))) = some r := H
     have A13 := Aside0.mk A130
     clear A130
     by_cases c14 : t118 = a1
     ·rw [if_pos c14] at H
      have c14b0 : (t118 == a1) = true := beq_iff_eq.mpr c14
      have c14b1 : (t118 != a1) = false := bne_eq_false_iff_eq.mpr c14
      clear c14
      (first | rw [c14b0] | (simp only [i64_w, i32_w]; rw [c14b0]) | skip)
      by_cases c15 : ((rd_T48 l0_1 a1).f1) < 1
      ·rw [if_pos c15] at H
       have c15b0 : decide (((rd_T48 l0_1 a1).f1) < 1) = true := decide_eq_true c15
       clear c15
       have H' := Aside0.mk H
       clear H
       have hnb16 := NB116_114.out
       have hnc16 := NB114_116.out
       obtain ⟨hcz17_0, hcz17_1, hcz17_2, hcz17_3, hcz17_4, hcz17_5, hcz17_6, hfz17_0, hfz17_1, hfz17_2, hfz17_3, hfz17_4, hfz17_5, hfz17_6⟩ := bs7_ BK116
       go_wp2_with (first | ((with_reducible refine gate_callee (f := 28) rfl ?_); refine gl_ (some 15) Try.func28 #[.string ((rd_T48 l0_1 a1).f0)] ?_; (with_reducible refine (sentryref1_Is.calls k ((rd_T48 l0_1 a1).f0) true _ A11.out).mono ?_); rintro e w' ⟨rfl, ⟨nd, rfl⟩⟩; refine ⟨_, rfl, ?_⟩; obtain ⟨hcz18_0, hcz18_1, hfz18_0, hfz18_1⟩ := bs2_ BK114) | (go_at_call 54; (with_reducible refine (sentryref4_Place.calls k _ _ l0_0 _ _ l0_1 ((rd_T48 l0_1 a1).f0) t118 _ ?side1 ?side2 ?side3 ?side4 A13.out).mono ?_); (case side1 => exact Kd.C_below HR0_0.out (by repeat (first | (with_reducible first | exact HB.out | apply below_alloc | apply pw_below_drewN | apply below_drew1 | refine below_set ?_ GE114.out | refine below_set ?_ GE116.out) | exact HB.out))); (case side2 => exact HC0_0.out); (case side3 => exact Kd.C_below HR0_1.out (by repeat (first | (with_reducible first | exact HB.out | apply below_alloc | apply pw_below_drewN | apply below_drew1 | refine below_set ?_ GE114.out | refine below_set ?_ GE116.out) | exact HB.out))); (case side4 => exact HC0_1.out); rintro e w19 ⟨rfl, hb⟩; have n0_ := Aside0.mk (blk_below (g := gb114) (o := .cells #[.slice A0_0 l0_0.length c0_0, .slice (some ad115) l0_1.length c0_1] 25 (0, 0)) (by (with_reducible repeat (first | refine blk_drewN ?_ _ | refine blk_drew ?_ | refine blk_alloc ?_ _)); refine blk_far ?_ NB114_116.out _; (with_reducible repeat (first | refine blk_drewN ?_ _ | refine blk_drew ?_ | refine blk_alloc ?_ _)); refine blk_far ?_ NB114_116.out _; (with_reducible repeat (first | refine blk_drewN ?_ _ | refine blk_drew ?_ | refine blk_alloc ?_ _)); refine blk_far ?_ NB114_116.out _; (with_reducible repeat (first | refine blk_drewN ?_ _ | refine blk_drew ?_ | refine blk_alloc ?_ _)); refine blk_far ?_ NB114_116.out _; (with_reducible repeat (first | refine blk_drewN ?_ _ | refine blk_drew ?_ | refine blk_alloc ?_ _)); refine blk_far ?_ NB114_116.out _; (with_reducible repeat (first | refine blk_drewN ?_ _ | refine blk_drew ?_ | refine blk_alloc ?_ _)); refine blk_far ?_ NB114_116.out _; (with_reducible repeat (first | refine blk_drewN ?_ _ | refine blk_drew ?_ | refine blk_alloc ?_ _)); refine blk_far ?_ NB114_116.out _; (with_reducible repeat (first | refine blk_drewN ?_ _ | refine blk_drew ?_ | refine blk_alloc ?_ _)); exact BK114.out) hb); have n1_ := Aside0.mk (blk_below (g := gb116) (o := .cells #[.string ((rd_T48 l0_1 a1).f0), .int .i64 ((rd_T48 l0_1 a1).f1), .string ((rd_T48 l0_1 a1).f2), .bool ((rd_T48 l0_1 a1).f3), .int .i64 ((rd_T48 l0_1 a1).f4), .slice A115_5 ((rd_T48 l0_1 a1).f5).length c115_5, .slice A115_6 ((rd_T48 l0_1 a1).f6).length c115_6] 48 (0, 0)) (by (with_reducible repeat (first | refine blk_drewN ?_ _ | refine blk_drew ?_ | refine blk_alloc ?_ _)); refine blk_put (cs := #[.string ((rd_T48 l0_1 a1).f0), .int .i64 ((rd_T48 l0_1 a1).f1), .string ((rd_T48 l0_1 a1).f2), .bool ((rd_T48 l0_1 a1).f3), .int .i64 ((rd_T48 l0_1 a1).f4), .slice A115_5 ((rd_T48 l0_1 a1).f5).length c115_5, .slice none 0 0]) ?_ 6 _ rfl; (with_reducible repeat (first | refine blk_drewN ?_ _ | refine blk_drew ?_ | refine blk_alloc ?_ _)); refine blk_put (cs := #[.string ((rd_T48 l0_1 a1).f0), .int .i64 ((rd_T48 l0_1 a1).f1), .string ((rd_T48 l0_1 a1).f2), .bool ((rd_T48 l0_1 a1).f3), .int .i64 ((rd_T48 l0_1 a1).f4), .slice none 0 0, .slice none 0 0]) ?_ 5 _ rfl; (with_reducible repeat (first | refine blk_drewN ?_ _ | refine blk_drew ?_ | refine blk_alloc ?_ _)); refine blk_put (cs := #[.string ((rd_T48 l0_1 a1).f0), .int .i64 ((rd_T48 l0_1 a1).f1), .string ((rd_T48 l0_1 a1).f2), .bool ((rd_T48 l0_1 a1).f3), .int .i64 0, .slice none 0 0, .slice none 0 0]) ?_ 4 _ rfl; (with_reducible repeat (first | refine blk_drewN ?_ _ | refine blk_drew ?_ | refine blk_alloc ?_ _)); refine blk_put (cs := #[.string ((rd_T48 l0_1 a1).f0), .int .i64 ((rd_T48 l0_1 a1).f1), .string ((rd_T48 l0_1 a1).f2), .bool false, .int .i64 0, .slice none 0 0, .slice none 0 0]) ?_ 3 _ rfl; (with_reducible repeat (first | refine blk_drewN ?_ _ | refine blk_drew ?_ | refine blk_alloc ?_ _)); refine blk_put (cs := #[.string ((rd_T48 l0_1 a1).f0), .int .i64 ((rd_T48 l0_1 a1).f1), .string (⟨#[]⟩ : ByteArray), .bool false, .int .i64 0, .slice none 0 0, .slice none 0 0]) ?_ 2 _ rfl; (with_reducible repeat (first | refine blk_drewN ?_ _ | refine blk_drew ?_ | refine blk_alloc ?_ _)); refine blk_put (cs := #[.string ((rd_T48 l0_1 a1).f0), .int .i64 0, .string (⟨#[]⟩ : ByteArray), .bool false, .int .i64 0, .slice none 0 0, .slice none 0 0]) ?_ 1 _ rfl; (with_reducible repeat (first | refine blk_drewN ?_ _ | refine blk_drew ?_ | refine blk_alloc ?_ _)); refine blk_put (cs := #[.string (⟨#[]⟩ : ByteArray), .int .i64 0, .string (⟨#[]⟩ : ByteArray), .bool false, .int .i64 0, .slice none 0 0, .slice none 0 0]) ?_ 0 _ rfl; (with_reducible repeat (first | refine blk_drewN ?_ _ | refine blk_drew ?_ | refine blk_alloc ?_ _)); exact BK116.out) hb); have n2_ := hb_ HB hb; clear BK114; clear BK116; clear HB; have BK114 := n0_; have BK116 := n1_; have HB := n2_; clear n0_ n1_ n2_; (try clear hb); (try clear hb2); (try clear hk); (try clear hi); obtain ⟨hcz20_0, hcz20_1, hcz20_2, hcz20_3, hcz20_4, hcz20_5, hcz20_6, hfz20_0, hfz20_1, hfz20_2, hfz20_3, hfz20_4, hfz20_5, hfz20_6⟩ := bs7_ BK116))
       go_meet
       case rel => exact ⟨_, (true), (by first | rfl | (simp; done) | (simp [*]; done)), H', ⟨by first | omega | exact Nat.le_refl _⟩, ⟨gx_ BK114⟩, ⟨gx_ BK116⟩, ⟨hf_⟩⟩
      ·rw [if_neg c15] at H
       have c15b0 : decide (((rd_T48 l0_1 a1).f1) < 1) = false := decide_eq_false c15
       clear c15
       have H' := Aside0.mk H
       clear H
       have hnb21 := NB116_114.out
       have hnc21 := NB114_116.out
       obtain ⟨hcz22_0, hcz22_1, hcz22_2, hcz22_3, hcz22_4, hcz22_5, hcz22_6, hfz22_0, hfz22_1, hfz22_2, hfz22_3, hfz22_4, hfz22_5, hfz22_6⟩ := bs7_ BK116
       go_wp2_with (first | ((with_reducible refine gate_callee (f := 28) rfl ?_); refine gl_ (some 15) Try.func28 #[.string ((rd_T48 l0_1 a1).f0)] ?_; (with_reducible refine (sentryref1_Is.calls k ((rd_T48 l0_1 a1).f0) true _ A11.out).mono ?_); rintro e w' ⟨rfl, ⟨nd, rfl⟩⟩; refine ⟨_, rfl, ?_⟩; obtain ⟨hcz23_0, hcz23_1, hfz23_0, hfz23_1⟩ := bs2_ BK114) | (go_at_call 54; (with_reducible refine (sentryref4_Place.calls k _ _ l0_0 _ _ l0_1 ((rd_T48 l0_1 a1).f0) t118 _ ?side1 ?side2 ?side3 ?side4 A13.out).mono ?_); (case side1 => exact Kd.C_below HR0_0.out (by repeat (first | (with_reducible first | exact HB.out | apply below_alloc | apply pw_below_drewN | apply below_drew1 | refine below_set ?_ GE114.out | refine below_set ?_ GE116.out) | exact HB.out))); (case side2 => exact HC0_0.out); (case side3 => exact Kd.C_below HR0_1.out (by repeat (first | (with_reducible first | exact HB.out | apply below_alloc | apply pw_below_drewN | apply below_drew1 | refine below_set ?_ GE114.out | refine below_set ?_ GE116.out) | exact HB.out))); (case side4 => exact HC0_1.out); rintro e w24 ⟨rfl, hb⟩; have n0_ := Aside0.mk (blk_below (g := gb114) (o := .cells #[.slice A0_0 l0_0.length c0_0, .slice (some ad115) l0_1.length c0_1] 25 (0, 0)) (by (with_reducible repeat (first | refine blk_drewN ?_ _ | refine blk_drew ?_ | refine blk_alloc ?_ _)); refine blk_far ?_ NB114_116.out _; (with_reducible repeat (first | refine blk_drewN ?_ _ | refine blk_drew ?_ | refine blk_alloc ?_ _)); refine blk_far ?_ NB114_116.out _; (with_reducible repeat (first | refine blk_drewN ?_ _ | refine blk_drew ?_ | refine blk_alloc ?_ _)); refine blk_far ?_ NB114_116.out _; (with_reducible repeat (first | refine blk_drewN ?_ _ | refine blk_drew ?_ | refine blk_alloc ?_ _)); refine blk_far ?_ NB114_116.out _; (with_reducible repeat (first | refine blk_drewN ?_ _ | refine blk_drew ?_ | refine blk_alloc ?_ _)); refine blk_far ?_ NB114_116.out _; (with_reducible repeat (first | refine blk_drewN ?_ _ | refine blk_drew ?_ | refine blk_alloc ?_ _)); refine blk_far ?_ NB114_116.out _; (with_reducible repeat (first | refine blk_drewN ?_ _ | refine blk_drew ?_ | refine blk_alloc ?_ _)); refine blk_far ?_ NB114_116.out _; (with_reducible repeat (first | refine blk_drewN ?_ _ | refine blk_drew ?_ | refine blk_alloc ?_ _)); exact BK114.out) hb); have n1_ := Aside0.mk (blk_below (g := gb116) (o := .cells #[.string ((rd_T48 l0_1 a1).f0), .int .i64 ((rd_T48 l0_1 a1).f1), .string ((rd_T48 l0_1 a1).f2), .bool ((rd_T48 l0_1 a1).f3), .int .i64 ((rd_T48 l0_1 a1).f4), .slice A115_5 ((rd_T48 l0_1 a1).f5).length c115_5, .slice A115_6 ((rd_T48 l0_1 a1).f6).length c115_6] 48 (0, 0)) (by (with_reducible repeat (first | refine blk_drewN ?_ _ | refine blk_drew ?_ | refine blk_alloc ?_ _)); refine blk_put (cs := #[.string ((rd_T48 l0_1 a1).f0), .int .i64 ((rd_T48 l0_1 a1).f1), .string ((rd_T48 l0_1 a1).f2), .bool ((rd_T48 l0_1 a1).f3), .int .i64 ((rd_T48 l0_1 a1).f4), .slice A115_5 ((rd_T48 l0_1 a1).f5).length c115_5, .slice none 0 0]) ?_ 6 _ rfl; (with_reducible repeat (first | refine blk_drewN ?_ _ | refine blk_drew ?_ | refine blk_alloc ?_ _)); refine blk_put (cs := #[.string ((rd_T48 l0_1 a1).f0), .int .i64 ((rd_T48 l0_1 a1).f1), .string ((rd_T48 l0_1 a1).f2), .bool ((rd_T48 l0_1 a1).f3), .int .i64 ((rd_T48 l0_1 a1).f4), .slice none 0 0, .slice none 0 0]) ?_ 5 _ rfl; (with_reducible repeat (first | refine blk_drewN ?_ _ | refine blk_drew ?_ | refine blk_alloc ?_ _)); refine blk_put (cs := #[.string ((rd_T48 l0_1 a1).f0), .int .i64 ((rd_T48 l0_1 a1).f1), .string ((rd_T48 l0_1 a1).f2), .bool ((rd_T48 l0_1 a1).f3), .int .i64 0, .slice none 0 0, .slice none 0 0]) ?_ 4 _ rfl; (with_reducible repeat (first | refine blk_drewN ?_ _ | refine blk_drew ?_ | refine blk_alloc ?_ _)); refine blk_put (cs := #[.string ((rd_T48 l0_1 a1).f0), .int .i64 ((rd_T48 l0_1 a1).f1), .string ((rd_T48 l0_1 a1).f2), .bool false, .int .i64 0, .slice none 0 0, .slice none 0 0]) ?_ 3 _ rfl; (with_reducible repeat (first | refine blk_drewN ?_ _ | refine blk_drew ?_ | refine blk_alloc ?_ _)); refine blk_put (cs := #[.string ((rd_T48 l0_1 a1).f0), .int .i64 ((rd_T48 l0_1 a1).f1), .string (⟨#[]⟩ : ByteArray), .bool false, .int .i64 0, .slice none 0 0, .slice none 0 0]) ?_ 2 _ rfl; (with_reducible repeat (first | refine blk_drewN ?_ _ | refine blk_drew ?_ | refine blk_alloc ?_ _)); refine blk_put (cs := #[.string ((rd_T48 l0_1 a1).f0), .int .i64 0, .string (⟨#[]⟩ : ByteArray), .bool false, .int .i64 0, .slice none 0 0, .slice none 0 0]) ?_ 1 _ rfl; (with_reducible repeat (first | refine blk_drewN ?_ _ | refine blk_drew ?_ | refine blk_alloc ?_ _)); refine blk_put (cs := #[.string (⟨#[]⟩ : ByteArray), .int .i64 0, .string (⟨#[]⟩ : ByteArray), .bool false, .int .i64 0, .slice none 0 0, .slice none 0 0]) ?_ 0 _ rfl; (with_reducible repeat (first | refine blk_drewN ?_ _ | refine blk_drew ?_ | refine blk_alloc ?_ _)); exact BK116.out) hb); have n2_ := hb_ HB hb; clear BK114; clear BK116; clear HB; have BK114 := n0_; have BK116 := n1_; have HB := n2_; clear n0_ n1_ n2_; (try clear hb); (try clear hb2); (try clear hk); (try clear hi); obtain ⟨hcz25_0, hcz25_1, hcz25_2, hcz25_3, hcz25_4, hcz25_5, hcz25_6, hfz25_0, hfz25_1, hfz25_2, hfz25_3, hfz25_4, hfz25_5, hfz25_6⟩ := bs7_ BK116))
       go_meet
       case rel => exact ⟨_, (decide (((rd_T48 l0_1 a1).f1) > 5)), (by first | rfl | (simp; done) | (simp [*]; done)), H', ⟨by first | omega | exact Nat.le_refl _⟩, ⟨gx_ BK114⟩, ⟨gx_ BK116⟩, ⟨hf_⟩⟩
     ·rw [if_neg c14] at H
      have c14b0 : (t118 == a1) = false := beq_eq_false_iff_ne.mpr c14
      have c14b1 : (t118 != a1) = true := bne_iff_ne.mpr c14
      (first | rw [c14b0] | (simp only [i64_w, i32_w]; rw [c14b0]) | skip)
      have H' := Aside0.mk H
      clear H
      have hnb26 := NB116_114.out
      have hnc26 := NB114_116.out
      obtain ⟨hcz27_0, hcz27_1, hcz27_2, hcz27_3, hcz27_4, hcz27_5, hcz27_6, hfz27_0, hfz27_1, hfz27_2, hfz27_3, hfz27_4, hfz27_5, hfz27_6⟩ := bs7_ BK116
      go_wp2_with (first | ((with_reducible refine gate_callee (f := 28) rfl ?_); refine gl_ (some 15) Try.func28 #[.string ((rd_T48 l0_1 a1).f0)] ?_; (with_reducible refine (sentryref1_Is.calls k ((rd_T48 l0_1 a1).f0) true _ A11.out).mono ?_); rintro e w' ⟨rfl, ⟨nd, rfl⟩⟩; refine ⟨_, rfl, ?_⟩; obtain ⟨hcz28_0, hcz28_1, hfz28_0, hfz28_1⟩ := bs2_ BK114) | (go_at_call 54; (with_reducible refine (sentryref4_Place.calls k _ _ l0_0 _ _ l0_1 ((rd_T48 l0_1 a1).f0) t118 _ ?side1 ?side2 ?side3 ?side4 A13.out).mono ?_); (case side1 => exact Kd.C_below HR0_0.out (by repeat (first | (with_reducible first | exact HB.out | apply below_alloc | apply pw_below_drewN | apply below_drew1 | refine below_set ?_ GE114.out | refine below_set ?_ GE116.out) | exact HB.out))); (case side2 => exact HC0_0.out); (case side3 => exact Kd.C_below HR0_1.out (by repeat (first | (with_reducible first | exact HB.out | apply below_alloc | apply pw_below_drewN | apply below_drew1 | refine below_set ?_ GE114.out | refine below_set ?_ GE116.out) | exact HB.out))); (case side4 => exact HC0_1.out); rintro e w29 ⟨rfl, hb⟩; have n0_ := Aside0.mk (blk_below (g := gb114) (o := .cells #[.slice A0_0 l0_0.length c0_0, .slice (some ad115) l0_1.length c0_1] 25 (0, 0)) (by (with_reducible repeat (first | refine blk_drewN ?_ _ | refine blk_drew ?_ | refine blk_alloc ?_ _)); refine blk_far ?_ NB114_116.out _; (with_reducible repeat (first | refine blk_drewN ?_ _ | refine blk_drew ?_ | refine blk_alloc ?_ _)); refine blk_far ?_ NB114_116.out _; (with_reducible repeat (first | refine blk_drewN ?_ _ | refine blk_drew ?_ | refine blk_alloc ?_ _)); refine blk_far ?_ NB114_116.out _; (with_reducible repeat (first | refine blk_drewN ?_ _ | refine blk_drew ?_ | refine blk_alloc ?_ _)); refine blk_far ?_ NB114_116.out _; (with_reducible repeat (first | refine blk_drewN ?_ _ | refine blk_drew ?_ | refine blk_alloc ?_ _)); refine blk_far ?_ NB114_116.out _; (with_reducible repeat (first | refine blk_drewN ?_ _ | refine blk_drew ?_ | refine blk_alloc ?_ _)); refine blk_far ?_ NB114_116.out _; (with_reducible repeat (first | refine blk_drewN ?_ _ | refine blk_drew ?_ | refine blk_alloc ?_ _)); refine blk_far ?_ NB114_116.out _; (with_reducible repeat (first | refine blk_drewN ?_ _ | refine blk_drew ?_ | refine blk_alloc ?_ _)); exact BK114.out) hb); have n1_ := Aside0.mk (blk_below (g := gb116) (o := .cells #[.string ((rd_T48 l0_1 a1).f0), .int .i64 ((rd_T48 l0_1 a1).f1), .string ((rd_T48 l0_1 a1).f2), .bool ((rd_T48 l0_1 a1).f3), .int .i64 ((rd_T48 l0_1 a1).f4), .slice A115_5 ((rd_T48 l0_1 a1).f5).length c115_5, .slice A115_6 ((rd_T48 l0_1 a1).f6).length c115_6] 48 (0, 0)) (by (with_reducible repeat (first | refine blk_drewN ?_ _ | refine blk_drew ?_ | refine blk_alloc ?_ _)); refine blk_put (cs := #[.string ((rd_T48 l0_1 a1).f0), .int .i64 ((rd_T48 l0_1 a1).f1), .string ((rd_T48 l0_1 a1).f2), .bool ((rd_T48 l0_1 a1).f3), .int .i64 ((rd_T48 l0_1 a1).f4), .slice A115_5 ((rd_T48 l0_1 a1).f5).length c115_5, .slice none 0 0]) ?_ 6 _ rfl; (with_reducible repeat (first | refine blk_drewN ?_ _ | refine blk_drew ?_ | refine blk_alloc ?_ _)); refine blk_put (cs := #[.string ((rd_T48 l0_1 a1).f0), .int .i64 ((rd_T48 l0_1 a1).f1), .string ((rd_T48 l0_1 a1).f2), .bool ((rd_T48 l0_1 a1).f3), .int .i64 ((rd_T48 l0_1 a1).f4), .slice none 0 0, .slice none 0 0]) ?_ 5 _ rfl; (with_reducible repeat (first | refine blk_drewN ?_ _ | refine blk_drew ?_ | refine blk_alloc ?_ _)); refine blk_put (cs := #[.string ((rd_T48 l0_1 a1).f0), .int .i64 ((rd_T48 l0_1 a1).f1), .string ((rd_T48 l0_1 a1).f2), .bool ((rd_T48 l0_1 a1).f3), .int .i64 0, .slice none 0 0, .slice none 0 0]) ?_ 4 _ rfl; (with_reducible repeat (first | refine blk_drewN ?_ _ | refine blk_drew ?_ | refine blk_alloc ?_ _)); refine blk_put (cs := #[.string ((rd_T48 l0_1 a1).f0), .int .i64 ((rd_T48 l0_1 a1).f1), .string ((rd_T48 l0_1 a1).f2), .bool false, .int .i64 0, .slice none 0 0, .slice none 0 0]) ?_ 3 _ rfl; (with_reducible repeat (first | refine blk_drewN ?_ _ | refine blk_drew ?_ | refine blk_alloc ?_ _)); refine blk_put (cs := #[.string ((rd_T48 l0_1 a1).f0), .int .i64 ((rd_T48 l0_1 a1).f1), .string (⟨#[]⟩ : ByteArray), .bool false, .int .i64 0, .slice none 0 0, .slice none 0 0]) ?_ 2 _ rfl; (with_reducible repeat (first | refine blk_drewN ?_ _ | refine blk_drew ?_ | refine blk_alloc ?_ _)); refine blk_put (cs := #[.string ((rd_T48 l0_1 a1).f0), .int .i64 0, .string (⟨#[]⟩ : ByteArray), .bool false, .int .i64 0, .slice none 0 0, .slice none 0 0]) ?_ 1 _ rfl; (with_reducible repeat (first | refine blk_drewN ?_ _ | refine blk_drew ?_ | refine blk_alloc ?_ _)); refine blk_put (cs := #[.string (⟨#[]⟩ : ByteArray), .int .i64 0, .string (⟨#[]⟩ : ByteArray), .bool false, .int .i64 0, .slice none 0 0, .slice none 0 0]) ?_ 0 _ rfl; (with_reducible repeat (first | refine blk_drewN ?_ _ | refine blk_drew ?_ | refine blk_alloc ?_ _)); exact BK116.out) hb); have n2_ := hb_ HB hb; clear BK114; clear BK116; clear HB; have BK114 := n0_; have BK116 := n1_; have HB := n2_; clear n0_ n1_ n2_; (try clear hb); (try clear hb2); (try clear hk); (try clear hi)))
      go_meet
      case rel => exact ⟨_, (true), (by first | rfl | (simp; done) | (simp [*]; done)), H', ⟨by first | omega | exact Nat.le_refl _⟩, ⟨gx_ BK114⟩, ⟨gx_ BK116⟩, ⟨hf_⟩⟩
    ·replace c12 := Bool.eq_false_iff.mpr c12
     subst c12
     have H1 : (sentryref4_item.j0 k a1 true l0_0 l0_1 ((rd_T48 l0_1 a1).f0) ((rd_T48 l0_1 a1).f1) ((rd_T48 l0_1 a1).f2) ((rd_T48 l0_1 a1).f3) ((rd_T48 l0_1 a1).f4) ((rd_T48 l0_1 a1).f5) ((rd_T48 l0_1 a1).f6)) = some r := by rw [if_neg (show ¬ (false = true) by decide)] at H; exact H
     clear H
     have H := H1
     clear H1
     have H' := Aside0.mk H
     clear H
     have hnb30 := NB116_114.out
     have hnc30 := NB114_116.out
     obtain ⟨hcz31_0, hcz31_1, hcz31_2, hcz31_3, hcz31_4, hcz31_5, hcz31_6, hfz31_0, hfz31_1, hfz31_2, hfz31_3, hfz31_4, hfz31_5, hfz31_6⟩ := bs7_ BK116
     go_wp2_with (first | ((with_reducible refine gate_callee (f := 28) rfl ?_); refine gl_ (some 15) Try.func28 #[.string ((rd_T48 l0_1 a1).f0)] ?_; (with_reducible refine (sentryref1_Is.calls k ((rd_T48 l0_1 a1).f0) false _ A11.out).mono ?_); rintro e w' ⟨rfl, ⟨nd, rfl⟩⟩; refine ⟨_, rfl, ?_⟩))
     go_meet
     case rel => exact ⟨_, (true), (by first | rfl | (simp; done) | (simp [*]; done)), H', ⟨by first | omega | exact Nat.le_refl _⟩, ⟨by (with_reducible repeat (first | refine blk_drewN ?_ _ | refine blk_drew ?_ | refine blk_alloc ?_ _)); refine blk_far ?_ NB114_116.out _; (with_reducible repeat (first | refine blk_drewN ?_ _ | refine blk_drew ?_ | refine blk_alloc ?_ _)); refine blk_far ?_ NB114_116.out _; (with_reducible repeat (first | refine blk_drewN ?_ _ | refine blk_drew ?_ | refine blk_alloc ?_ _)); refine blk_far ?_ NB114_116.out _; (with_reducible repeat (first | refine blk_drewN ?_ _ | refine blk_drew ?_ | refine blk_alloc ?_ _)); refine blk_far ?_ NB114_116.out _; (with_reducible repeat (first | refine blk_drewN ?_ _ | refine blk_drew ?_ | refine blk_alloc ?_ _)); refine blk_far ?_ NB114_116.out _; (with_reducible repeat (first | refine blk_drewN ?_ _ | refine blk_drew ?_ | refine blk_alloc ?_ _)); refine blk_far ?_ NB114_116.out _; (with_reducible repeat (first | refine blk_drewN ?_ _ | refine blk_drew ?_ | refine blk_alloc ?_ _)); refine blk_far ?_ NB114_116.out _; (with_reducible repeat (first | refine blk_drewN ?_ _ | refine blk_drew ?_ | refine blk_alloc ?_ _)); exact BK114.out⟩, ⟨by (with_reducible repeat (first | refine blk_drewN ?_ _ | refine blk_drew ?_ | refine blk_alloc ?_ _)); refine blk_put (cs := #[.string ((rd_T48 l0_1 a1).f0), .int .i64 ((rd_T48 l0_1 a1).f1), .string ((rd_T48 l0_1 a1).f2), .bool ((rd_T48 l0_1 a1).f3), .int .i64 ((rd_T48 l0_1 a1).f4), .slice A115_5 ((rd_T48 l0_1 a1).f5).length c115_5, .slice none 0 0]) ?_ 6 _ rfl; (with_reducible repeat (first | refine blk_drewN ?_ _ | refine blk_drew ?_ | refine blk_alloc ?_ _)); refine blk_put (cs := #[.string ((rd_T48 l0_1 a1).f0), .int .i64 ((rd_T48 l0_1 a1).f1), .string ((rd_T48 l0_1 a1).f2), .bool ((rd_T48 l0_1 a1).f3), .int .i64 ((rd_T48 l0_1 a1).f4), .slice none 0 0, .slice none 0 0]) ?_ 5 _ rfl; (with_reducible repeat (first | refine blk_drewN ?_ _ | refine blk_drew ?_ | refine blk_alloc ?_ _)); refine blk_put (cs := #[.string ((rd_T48 l0_1 a1).f0), .int .i64 ((rd_T48 l0_1 a1).f1), .string ((rd_T48 l0_1 a1).f2), .bool ((rd_T48 l0_1 a1).f3), .int .i64 0, .slice none 0 0, .slice none 0 0]) ?_ 4 _ rfl; (with_reducible repeat (first | refine blk_drewN ?_ _ | refine blk_drew ?_ | refine blk_alloc ?_ _)); refine blk_put (cs := #[.string ((rd_T48 l0_1 a1).f0), .int .i64 ((rd_T48 l0_1 a1).f1), .string ((rd_T48 l0_1 a1).f2), .bool false, .int .i64 0, .slice none 0 0, .slice none 0 0]) ?_ 3 _ rfl; (with_reducible repeat (first | refine blk_drewN ?_ _ | refine blk_drew ?_ | refine blk_alloc ?_ _)); refine blk_put (cs := #[.string ((rd_T48 l0_1 a1).f0), .int .i64 ((rd_T48 l0_1 a1).f1), .string (⟨#[]⟩ : ByteArray), .bool false, .int .i64 0, .slice none 0 0, .slice none 0 0]) ?_ 2 _ rfl; (with_reducible repeat (first | refine blk_drewN ?_ _ | refine blk_drew ?_ | refine blk_alloc ?_ _)); refine blk_put (cs := #[.string ((rd_T48 l0_1 a1).f0), .int .i64 0, .string (⟨#[]⟩ : ByteArray), .bool false, .int .i64 0, .slice none 0 0, .slice none 0 0]) ?_ 1 _ rfl; (with_reducible repeat (first | refine blk_drewN ?_ _ | refine blk_drew ?_ | refine blk_alloc ?_ _)); refine blk_put (cs := #[.string (⟨#[]⟩ : ByteArray), .int .i64 0, .string (⟨#[]⟩ : ByteArray), .bool false, .int .i64 0, .slice none 0 0, .slice none 0 0]) ?_ 0 _ rfl; (with_reducible repeat (first | refine blk_drewN ?_ _ | refine blk_drew ?_ | refine blk_alloc ?_ _)); exact BK116.out⟩, ⟨hf_⟩⟩
   case rest =>
    clear HC5
    (try clear c1); (try clear p1); (try clear q1); (try clear hx1); (try clear c2); (try clear p2); (try clear c3); (try clear c3b0); (try clear c4); (try clear c4b0); (try clear c9); (try clear c11); (try clear p11); (try clear q11); (try clear hx11); (try clear c12); (try clear c14); (try clear c14b0); (try clear c14b1); (try clear c15); (try clear c15b0); (try clear c16); (try clear c21); (try clear c26); (try clear c28); (try clear c30); (try clear hcz10_0); (try clear hcz10_1); (try clear hcz10_2); (try clear hcz10_3); (try clear hcz10_4); (try clear hcz10_5); (try clear hcz10_6); (try clear hcz17_0); (try clear hcz17_1); (try clear hcz17_2); (try clear hcz17_3); (try clear hcz17_4); (try clear hcz17_5); (try clear hcz17_6); (try clear hcz18_0); (try clear hcz18_1); (try clear hcz20_0); (try clear hcz20_1); (try clear hcz20_2); (try clear hcz20_3); (try clear hcz20_4); (try clear hcz20_5); (try clear hcz20_6); (try clear hcz22_0); (try clear hcz22_1); (try clear hcz22_2); (try clear hcz22_3); (try clear hcz22_4); (try clear hcz22_5); (try clear hcz22_6); (try clear hcz23_0); (try clear hcz23_1); (try clear hcz25_0); (try clear hcz25_1); (try clear hcz25_2); (try clear hcz25_3); (try clear hcz25_4); (try clear hcz25_5); (try clear hcz25_6); (try clear hcz27_0); (try clear hcz27_1); (try clear hcz27_2); (try clear hcz27_3); (try clear hcz27_4); (try clear hcz27_5); (try clear hcz27_6); (try clear hcz28_0); (try clear hcz28_1); (try clear hcz31_0); (try clear hcz31_1); (try clear hcz31_2); (try clear hcz31_3); (try clear hcz31_4); (try clear hcz31_5); (try clear hcz31_6); (try clear hcz7_0); (try clear hcz7_1); (try clear hfz10_0); (try clear hfz10_1); (try clear hfz10_2); (try clear hfz10_3); (try clear hfz10_4); (try clear hfz10_5); (try clear hfz10_6); (try clear hfz17_0); (try clear hfz17_1); (try clear hfz17_2); (try clear hfz17_3); (try clear hfz17_4); (try clear hfz17_5); (try clear hfz17_6); (try clear hfz18_0); (try clear hfz18_1); (try clear hfz20_0); (try clear hfz20_1); (try clear hfz20_2); (try clear hfz20_3); (try clear hfz20_4); (try clear hfz20_5); (try clear hfz20_6); (try clear hfz22_0); (try clear hfz22_1); (try clear hfz22_2); (try clear hfz22_3); (try clear hfz22_4); (try clear hfz22_5); (try clear hfz22_6); (try clear hfz23_0); (try clear hfz23_1); (try clear hfz25_0); (try clear hfz25_1); (try clear hfz25_2); (try clear hfz25_3); (try clear hfz25_4); (try clear hfz25_5); (try clear hfz25_6); (try clear hfz27_0); (try clear hfz27_1); (try clear hfz27_2); (try clear hfz27_3); (try clear hfz27_4); (try clear hfz27_5); (try clear hfz27_6); (try clear hfz28_0); (try clear hfz28_1); (try clear hfz31_0); (try clear hfz31_1); (try clear hfz31_2); (try clear hfz31_3); (try clear hfz31_4); (try clear hfz31_5); (try clear hfz31_6); (try clear hfz7_0); (try clear hfz7_1); (try clear hx115_0); (try clear hx115_1); (try clear hx115_2); (try clear hx115_3); (try clear hx115_4); (try clear hx115_5); (try clear hx115_6); (try clear p115); (try clear q115)
    obtain ⟨kq, x34_4, rfl, HA, HJ4, BK114, BK116, HB⟩ := hcut
    cases kq with
    | zero => exact absurd HA.out (by simp [sentryref4_item.j0])
    | succ kj4 =>
     have H := HA.out
     clear HA
     simp only [sentryref4_item.j0] at H
     by_cases c32 : x34_4 = true
     ·subst c32
      have H1 : (some false) = some r := by rw [if_pos rfl] at H; exact H
      clear H
      have H := H1
      clear H1
      obtain rfl := Option.some.inj H
      go_wp2
      go_ret
      exact ⟨er_, hf_⟩
     ·replace c32 := Bool.eq_false_iff.mpr c32
      subst c32
      have H1 : (if ((rd_T48 l0_1 a1).f1) = 5 then (if ((rd_T48 l0_1 a1).f4) ≥ 1 then (sentryref4_item.j1 kj4 a1 (decide (((rd_T48 l0_1 a1).f4) ≤ 100)) l0_0 l0_1 ((rd_T48 l0_1 a1).f0) ((rd_T48 l0_1 a1).f1) ((rd_T48 l0_1 a1).f2) ((rd_T48 l0_1 a1).f3) ((rd_T48 l0_1 a1).f4) ((rd_T48 l0_1 a1).f5) ((rd_T48 l0_1 a1).f6)) else (sentryref4_item.j1 kj4 a1 false l0_0 l0_1 ((rd_T48 l0_1 a1).f0) ((rd_T48 l0_1 a1).f1) ((rd_T48 l0_1 a1).f2) ((rd_T48 l0_1 a1).f3) ((rd_T48 l0_1 a1).f4) ((rd_T48 l0_1 a1).f5) ((rd_T48 l0_1 a1).f6))) else (sentryref4_item.j1 kj4 a1 (((rd_T48 l0_1 a1).f4) == 0) l0_0 l0_1 ((rd_T48 l0_1 a1).f0) ((rd_T48 l0_1 a1).f1) ((rd_T48 l0_1 a1).f2) ((rd_T48 l0_1 a1).f3) ((rd_T48 l0_1 a1).f4) ((rd_T48 l0_1 a1).f5) ((rd_T48 l0_1 a1).f6))) = some r := by rw [if_neg (show ¬ (false = true) by decide)] at H; exact H
      clear H
      have H := H1
      clear H1
      have HC33 := Aside0.mk H
      clear H
      have hnb34 := NB116_114.out
      have hnc34 := NB114_116.out
      obtain ⟨hcz35_0, hcz35_1, hcz35_2, hcz35_3, hcz35_4, hcz35_5, hcz35_6, hfz35_0, hfz35_1, hfz35_2, hfz35_3, hfz35_4, hfz35_5, hfz35_6⟩ := bs7_ BK116
      go_upto_if 40 with (fail)
      go_cut [6] (fun v6 wc => ∃ (kq : Nat) (x6_32 : Bool), v6 = .bool x6_32 ∧ Aside0 (sentryref4_item.j1 kq a1 x6_32 l0_0 l0_1 ((rd_T48 l0_1 a1).f0) ((rd_T48 l0_1 a1).f1) ((rd_T48 l0_1 a1).f2) ((rd_T48 l0_1 a1).f3) ((rd_T48 l0_1 a1).f4) ((rd_T48 l0_1 a1).f5) ((rd_T48 l0_1 a1).f6) = some r) ∧ Aside0 (kq ≤ kj4) ∧ Aside0 (wc.heap[gb114]? = some (.cells #[(.slice A0_0 l0_0.length c0_0), (.slice (some ad115) l0_1.length c0_1)] 25 (0, 0))) ∧ Aside0 (wc.heap[gb116]? = some (.cells #[.string ((rd_T48 l0_1 a1).f0), .int .i64 ((rd_T48 l0_1 a1).f1), .string ((rd_T48 l0_1 a1).f2), .bool ((rd_T48 l0_1 a1).f3), .int .i64 ((rd_T48 l0_1 a1).f4), (.slice A115_5 ((rd_T48 l0_1 a1).f5).length c115_5), (.slice A115_6 ((rd_T48 l0_1 a1).f6).length c115_6)] 48 (0, 0))) ∧ Aside0 (Below w.heap.size w wc))
      case first =>
       have H := HC33.out
       clear HC33
       by_cases c36 : ((rd_T48 l0_1 a1).f1) = 5
       ·rw [if_pos c36] at H
        have c36b0 : (((rd_T48 l0_1 a1).f1) == 5) = true := beq_iff_eq.mpr c36
        have c36b1 : (((rd_T48 l0_1 a1).f1) != 5) = false := bne_eq_false_iff_eq.mpr c36
        clear c36
        (first | rw [c36b0] | (simp only [i64_w, i32_w]; rw [c36b0]) | skip)
        by_cases c37 : ((rd_T48 l0_1 a1).f4) ≥ 1
        ·rw [if_pos c37] at H
         have c37b0 : decide (1 ≤ ((rd_T48 l0_1 a1).f4)) = true := decide_eq_true c37
         clear c37
         have H' := Aside0.mk H
         clear H
         have hnb38 := NB116_114.out
         have hnc38 := NB114_116.out
         obtain ⟨hcz39_0, hcz39_1, hcz39_2, hcz39_3, hcz39_4, hcz39_5, hcz39_6, hfz39_0, hfz39_1, hfz39_2, hfz39_3, hfz39_4, hfz39_5, hfz39_6⟩ := bs7_ BK116
         go_wp2
         go_meet
         case rel => exact ⟨_, (decide (((rd_T48 l0_1 a1).f4) ≤ 100)), (by first | rfl | (simp; done) | (simp [*]; done)), H', ⟨by have := HJ4.out; first | omega | exact Nat.le_refl _⟩, ⟨gx_ BK114⟩, ⟨gx_ BK116⟩, ⟨hf_⟩⟩
        ·rw [if_neg c37] at H
         have c37b0 : decide (1 ≤ ((rd_T48 l0_1 a1).f4)) = false := decide_eq_false c37
         clear c37
         have H' := Aside0.mk H
         clear H
         have hnb40 := NB116_114.out
         have hnc40 := NB114_116.out
         obtain ⟨hcz41_0, hcz41_1, hcz41_2, hcz41_3, hcz41_4, hcz41_5, hcz41_6, hfz41_0, hfz41_1, hfz41_2, hfz41_3, hfz41_4, hfz41_5, hfz41_6⟩ := bs7_ BK116
         go_wp2
         go_meet
         case rel => exact ⟨_, (false), (by first | rfl | (simp; done) | (simp [*]; done)), H', ⟨by have := HJ4.out; first | omega | exact Nat.le_refl _⟩, ⟨gx_ BK114⟩, ⟨gx_ BK116⟩, ⟨hf_⟩⟩
       ·rw [if_neg c36] at H
        have c36b0 : (((rd_T48 l0_1 a1).f1) == 5) = false := beq_eq_false_iff_ne.mpr c36
        have c36b1 : (((rd_T48 l0_1 a1).f1) != 5) = true := bne_iff_ne.mpr c36
        (first | rw [c36b0] | (simp only [i64_w, i32_w]; rw [c36b0]) | skip)
        have H' := Aside0.mk H
        clear H
        go_wp2
        go_meet
        case rel => exact ⟨_, ((((rd_T48 l0_1 a1).f4) == 0)), (by first | rfl | (simp; done) | (simp [*]; done)), H', ⟨by have := HJ4.out; first | omega | exact Nat.le_refl _⟩, ⟨gx_ BK114⟩, ⟨gx_ BK116⟩, ⟨hf_⟩⟩
      case rest =>
       clear HC33
       (try clear c1); (try clear p1); (try clear q1); (try clear hx1); (try clear c2); (try clear p2); (try clear c3); (try clear c3b0); (try clear c4); (try clear c4b0); (try clear c9); (try clear c11); (try clear p11); (try clear q11); (try clear hx11); (try clear c12); (try clear c14); (try clear c14b0); (try clear c14b1); (try clear c15); (try clear c15b0); (try clear c16); (try clear c21); (try clear c26); (try clear c28); (try clear c30); (try clear c32); (try clear c34); (try clear c36); (try clear c36b0); (try clear c36b1); (try clear c37); (try clear c37b0); (try clear c38); (try clear c40); (try clear hcz10_0); (try clear hcz10_1); (try clear hcz10_2); (try clear hcz10_3); (try clear hcz10_4); (try clear hcz10_5); (try clear hcz10_6); (try clear hcz17_0); (try clear hcz17_1); (try clear hcz17_2); (try clear hcz17_3); (try clear hcz17_4); (try clear hcz17_5); (try clear hcz17_6); (try clear hcz18_0); (try clear hcz18_1); (try clear hcz20_0); (try clear hcz20_1); (try clear hcz20_2); (try clear hcz20_3); (try clear hcz20_4); (try clear hcz20_5); (try clear hcz20_6); (try clear hcz22_0); (try clear hcz22_1); (try clear hcz22_2); (try clear hcz22_3); (try clear hcz22_4); (try clear hcz22_5); (try clear hcz22_6); (try clear hcz23_0); (try clear hcz23_1); (try clear hcz25_0); (try clear hcz25_1); (try clear hcz25_2); (try clear hcz25_3); (try clear hcz25_4); (try clear hcz25_5); (try clear hcz25_6); (try clear hcz27_0); (try clear hcz27_1); (try clear hcz27_2); (try clear hcz27_3); (try clear hcz27_4); (try clear hcz27_5); (try clear hcz27_6); (try clear hcz28_0); (try clear hcz28_1); (try clear hcz31_0); (try clear hcz31_1); (try clear hcz31_2); (try clear hcz31_3); (try clear hcz31_4); (try clear hcz31_5); (try clear hcz31_6); (try clear hcz35_0); (try clear hcz35_1); (try clear hcz35_2); (try clear hcz35_3); (try clear hcz35_4); (try clear hcz35_5); (try clear hcz35_6); (try clear hcz39_0); (try clear hcz39_1); (try clear hcz39_2); (try clear hcz39_3); (try clear hcz39_4); (try clear hcz39_5); (try clear hcz39_6); (try clear hcz41_0); (try clear hcz41_1); (try clear hcz41_2); (try clear hcz41_3); (try clear hcz41_4); (try clear hcz41_5); (try clear hcz41_6); (try clear hcz7_0); (try clear hcz7_1); (try clear hfz10_0); (try clear hfz10_1); (try clear hfz10_2); (try clear hfz10_3); (try clear hfz10_4); (try clear hfz10_5); (try clear hfz10_6); (try clear hfz17_0); (try clear hfz17_1); (try clear hfz17_2); (try clear hfz17_3); (try clear hfz17_4); (try clear hfz17_5); (try clear hfz17_6); (try clear hfz18_0); (try clear hfz18_1); (try clear hfz20_0); (try clear hfz20_1); (try clear hfz20_2); (try clear hfz20_3); (try clear hfz20_4); (try clear hfz20_5); (try clear hfz20_6); (try clear hfz22_0); (try clear hfz22_1); (try clear hfz22_2); (try clear hfz22_3); (try clear hfz22_4); (try clear hfz22_5); (try clear hfz22_6); (try clear hfz23_0); (try clear hfz23_1); (try clear hfz25_0); (try clear hfz25_1); (try clear hfz25_2); (try clear hfz25_3); (try clear hfz25_4); (try clear hfz25_5); (try clear hfz25_6); (try clear hfz27_0); (try clear hfz27_1); (try clear hfz27_2); (try clear hfz27_3); (try clear hfz27_4); (try clear hfz27_5); (try clear hfz27_6); (try clear hfz28_0); (try clear hfz28_1); (try clear hfz31_0); (try clear hfz31_1); (try clear hfz31_2); (try clear hfz31_3); (try clear hfz31_4); (try clear hfz31_5); (try clear hfz31_6); (try clear hfz35_0); (try clear hfz35_1); (try clear hfz35_2); (try clear hfz35_3); (try clear hfz35_4); (try clear hfz35_5); (try clear hfz35_6); (try clear hfz39_0); (try clear hfz39_1); (try clear hfz39_2); (try clear hfz39_3); (try clear hfz39_4); (try clear hfz39_5); (try clear hfz39_6); (try clear hfz41_0); (try clear hfz41_1); (try clear hfz41_2); (try clear hfz41_3); (try clear hfz41_4); (try clear hfz41_5); (try clear hfz41_6); (try clear hfz7_0); (try clear hfz7_1); (try clear hx115_0); (try clear hx115_1); (try clear hx115_2); (try clear hx115_3); (try clear hx115_4); (try clear hx115_5); (try clear hx115_6); (try clear p1); (try clear p11); (try clear p115); (try clear p2); (try clear q1); (try clear q11); (try clear q115)
       obtain ⟨kq, x6_32, rfl, HA, HJ32, BK114, BK116, HB⟩ := hcut
       cases kq with
       | zero => exact absurd HA.out (by simp [sentryref4_item.j1])
       | succ kj32 =>
        have H := HA.out
        clear HA
        simp only [sentryref4_item.j1] at H
        have HC42 := Aside0.mk H
        clear H
        go_upto_region 7 with (fail)
        go_cut [65] (fun v65 wc => ∃ (kq : Nat) (x65_41 : Bool), v65 = .bool x65_41 ∧ Aside0 (sentryref4_item.j2 kq a1 x65_41 l0_0 l0_1 ((rd_T48 l0_1 a1).f0) ((rd_T48 l0_1 a1).f1) ((rd_T48 l0_1 a1).f2) ((rd_T48 l0_1 a1).f3) ((rd_T48 l0_1 a1).f4) ((rd_T48 l0_1 a1).f5) ((rd_T48 l0_1 a1).f6) = some r) ∧ Aside0 (kq ≤ kj32) ∧ Aside0 (wc.heap[gb114]? = some (.cells #[(.slice A0_0 l0_0.length c0_0), (.slice (some ad115) l0_1.length c0_1)] 25 (0, 0))) ∧ Aside0 (wc.heap[gb116]? = some (.cells #[.string ((rd_T48 l0_1 a1).f0), .int .i64 ((rd_T48 l0_1 a1).f1), .string ((rd_T48 l0_1 a1).f2), .bool ((rd_T48 l0_1 a1).f3), .int .i64 ((rd_T48 l0_1 a1).f4), (.slice A115_5 ((rd_T48 l0_1 a1).f5).length c115_5), (.slice A115_6 ((rd_T48 l0_1 a1).f6).length c115_6)] 48 (0, 0))) ∧ Aside0 (Below w.heap.size w wc))
        case first =>
         have H := HC42.out
         clear HC42
         by_cases c43 : x6_32 = true
         ·subst c43
          have H1 : (if ((rd_T48 l0_1 a1).f1) ≥ 4 then (if ((rd_T48 l0_1 a1).f3) = true then (sentryref4_item.j2 kj32 a1 true l0_0 l0_1 ((rd_T48 l0_1 a1).f0) ((rd_T48 l0_1 a1).f1) ((rd_T48 l0_1 a1).f2) ((rd_T48 l0_1 a1).f3) ((rd_T48 l0_1 a1).f4) ((rd_T48 l0_1 a1).f5) ((rd_T48 l0_1 a1).f6)) else (sentryref4_item.j2 kj32 a1 (decide ((((rd_T48 l0_1 a1).f5).length : Int) > 0)) l0_0 l0_1 ((rd_T48 l0_1 a1).f0) ((rd_T48 l0_1 a1).f1) ((rd_T48 l0_1 a1).f2) ((rd_T48 l0_1 a1).f3) ((rd_T48 l0_1 a1).f4) ((rd_T48 l0_1 a1).f5) ((rd_T48 l0_1 a1).f6))) else (sentryref4_item.j2 kj32 a1 false l0_0 l0_1 ((rd_T48 l0_1 a1).f0) ((rd_T48 l0_1 a1).f1) ((rd_T48 l0_1 a1).f2) ((rd_T48 l0_1 a1).f3) ((rd_T48 l0_1 a1).f4) ((rd_T48 l0_1 a1).f5) ((rd_T48 l0_1 a1).f6))) = some r := by rw [if_pos rfl] at H; exact H
          clear H
          have H := H1
          clear H1
          by_cases c44 : ((rd_T48 l0_1 a1).f1) ≥ 4
          ·rw [if_pos c44] at H
           have c44b0 : decide (4 ≤ ((rd_T48 l0_1 a1).f1)) = true := decide_eq_true c44
           clear c44
           (first | rw [c44b0] | (simp only [i64_w, i32_w]; rw [c44b0]) | skip)
           by_cases c45 : ((rd_T48 l0_1 a1).f3) = true
           ·rw [if_pos c45] at H
            have c45b0 : ((rd_T48 l0_1 a1).f3) = true := c45
            clear c45
            have H' := Aside0.mk H
            clear H
            have hnb46 := NB116_114.out
            have hnc46 := NB114_116.out
            obtain ⟨hcz47_0, hcz47_1, hcz47_2, hcz47_3, hcz47_4, hcz47_5, hcz47_6, hfz47_0, hfz47_1, hfz47_2, hfz47_3, hfz47_4, hfz47_5, hfz47_6⟩ := bs7_ BK116
            go_wp2
            go_meet
            case rel => exact ⟨_, (true), (by first | rfl | (simp; done) | (simp [*]; done)), H', ⟨by have := HJ4.out; have := HJ32.out; first | omega | exact Nat.le_refl _⟩, ⟨gx_ BK114⟩, ⟨gx_ BK116⟩, ⟨hf_⟩⟩
           ·rw [if_neg c45] at H
            have c45b0 : ((rd_T48 l0_1 a1).f3) = false := by simpa using c45
            clear c45
            have H' := Aside0.mk H
            clear H
            have hnb48 := NB116_114.out
            have hnc48 := NB114_116.out
            obtain ⟨hcz49_0, hcz49_1, hcz49_2, hcz49_3, hcz49_4, hcz49_5, hcz49_6, hfz49_0, hfz49_1, hfz49_2, hfz49_3, hfz49_4, hfz49_5, hfz49_6⟩ := bs7_ BK116
            go_wp2
            go_meet
            case rel => exact ⟨_, (decide ((((rd_T48 l0_1 a1).f5).length : Int) > 0)), (by first | rfl | (simp; done) | (simp [*]; done)), H', ⟨by have := HJ4.out; have := HJ32.out; first | omega | exact Nat.le_refl _⟩, ⟨gx_ BK114⟩, ⟨gx_ BK116⟩, ⟨hf_⟩⟩
          ·rw [if_neg c44] at H
           have c44b0 : decide (4 ≤ ((rd_T48 l0_1 a1).f1)) = false := decide_eq_false c44
           clear c44
           (first | rw [c44b0] | (simp only [i64_w, i32_w]; rw [c44b0]) | skip)
           have H' := Aside0.mk H
           clear H
           have hnb50 := NB116_114.out
           have hnc50 := NB114_116.out
           obtain ⟨hcz51_0, hcz51_1, hcz51_2, hcz51_3, hcz51_4, hcz51_5, hcz51_6, hfz51_0, hfz51_1, hfz51_2, hfz51_3, hfz51_4, hfz51_5, hfz51_6⟩ := bs7_ BK116
           go_wp2
           go_meet
           case rel => exact ⟨_, (false), (by first | rfl | (simp; done) | (simp [*]; done)), H', ⟨by have := HJ4.out; have := HJ32.out; first | omega | exact Nat.le_refl _⟩, ⟨gx_ BK114⟩, ⟨gx_ BK116⟩, ⟨hf_⟩⟩
         ·replace c43 := Bool.eq_false_iff.mpr c43
          subst c43
          have H1 : (sentryref4_item.j2 kj32 a1 true l0_0 l0_1 ((rd_T48 l0_1 a1).f0) ((rd_T48 l0_1 a1).f1) ((rd_T48 l0_1 a1).f2) ((rd_T48 l0_1 a1).f3) ((rd_T48 l0_1 a1).f4) ((rd_T48 l0_1 a1).f5) ((rd_T48 l0_1 a1).f6)) = some r := by rw [if_neg (show ¬ (false = true) by decide)] at H; exact H
          clear H
          have H := H1
          clear H1
          have H' := Aside0.mk H
          clear H
          go_wp2
          go_meet
          case rel => exact ⟨_, (true), (by first | rfl | (simp; done) | (simp [*]; done)), H', ⟨by have := HJ4.out; have := HJ32.out; first | omega | exact Nat.le_refl _⟩, ⟨gx_ BK114⟩, ⟨gx_ BK116⟩, ⟨hf_⟩⟩
        case rest =>
         clear HC42
         (try clear c1); (try clear p1); (try clear q1); (try clear hx1); (try clear c2); (try clear p2); (try clear c3); (try clear c3b0); (try clear c4); (try clear c4b0); (try clear c5); (try clear c9); (try clear c11); (try clear p11); (try clear q11); (try clear hx11); (try clear c12); (try clear c14); (try clear c14b0); (try clear c14b1); (try clear c15); (try clear c15b0); (try clear c16); (try clear c21); (try clear c26); (try clear c28); (try clear c30); (try clear c32); (try clear c34); (try clear c36); (try clear c36b0); (try clear c36b1); (try clear c37); (try clear c37b0); (try clear c38); (try clear c40); (try clear c43); (try clear c44); (try clear c44b0); (try clear c45); (try clear c45b0); (try clear c46); (try clear c48); (try clear c50); (try clear hcz10_0); (try clear hcz10_1); (try clear hcz10_2); (try clear hcz10_3); (try clear hcz10_4); (try clear hcz10_5); (try clear hcz10_6); (try clear hcz17_0); (try clear hcz17_1); (try clear hcz17_2); (try clear hcz17_3); (try clear hcz17_4); (try clear hcz17_5); (try clear hcz17_6); (try clear hcz18_0); (try clear hcz18_1); (try clear hcz20_0); (try clear hcz20_1); (try clear hcz20_2); (try clear hcz20_3); (try clear hcz20_4); (try clear hcz20_5); (try clear hcz20_6); (try clear hcz22_0); (try clear hcz22_1); (try clear hcz22_2); (try clear hcz22_3); (try clear hcz22_4); (try clear hcz22_5); (try clear hcz22_6); (try clear hcz23_0); (try clear hcz23_1); (try clear hcz25_0); (try clear hcz25_1); (try clear hcz25_2); (try clear hcz25_3); (try clear hcz25_4); (try clear hcz25_5); (try clear hcz25_6); (try clear hcz27_0); (try clear hcz27_1); (try clear hcz27_2); (try clear hcz27_3); (try clear hcz27_4); (try clear hcz27_5); (try clear hcz27_6); (try clear hcz28_0); (try clear hcz28_1); (try clear hcz31_0); (try clear hcz31_1); (try clear hcz31_2); (try clear hcz31_3); (try clear hcz31_4); (try clear hcz31_5); (try clear hcz31_6); (try clear hcz35_0); (try clear hcz35_1); (try clear hcz35_2); (try clear hcz35_3); (try clear hcz35_4); (try clear hcz35_5); (try clear hcz35_6); (try clear hcz39_0); (try clear hcz39_1); (try clear hcz39_2); (try clear hcz39_3); (try clear hcz39_4); (try clear hcz39_5); (try clear hcz39_6); (try clear hcz41_0); (try clear hcz41_1); (try clear hcz41_2); (try clear hcz41_3); (try clear hcz41_4); (try clear hcz41_5); (try clear hcz41_6); (try clear hcz47_0); (try clear hcz47_1); (try clear hcz47_2); (try clear hcz47_3); (try clear hcz47_4); (try clear hcz47_5); (try clear hcz47_6); (try clear hcz49_0); (try clear hcz49_1); (try clear hcz49_2); (try clear hcz49_3); (try clear hcz49_4); (try clear hcz49_5); (try clear hcz49_6); (try clear hcz51_0); (try clear hcz51_1); (try clear hcz51_2); (try clear hcz51_3); (try clear hcz51_4); (try clear hcz51_5); (try clear hcz51_6); (try clear hcz7_0); (try clear hcz7_1); (try clear hfz10_0); (try clear hfz10_1); (try clear hfz10_2); (try clear hfz10_3); (try clear hfz10_4); (try clear hfz10_5); (try clear hfz10_6); (try clear hfz17_0); (try clear hfz17_1); (try clear hfz17_2); (try clear hfz17_3); (try clear hfz17_4); (try clear hfz17_5); (try clear hfz17_6); (try clear hfz18_0); (try clear hfz18_1); (try clear hfz20_0); (try clear hfz20_1); (try clear hfz20_2); (try clear hfz20_3); (try clear hfz20_4); (try clear hfz20_5); (try clear hfz20_6); (try clear hfz22_0); (try clear hfz22_1); (try clear hfz22_2); (try clear hfz22_3); (try clear hfz22_4); (try clear hfz22_5); (try clear hfz22_6); (try clear hfz23_0); (try clear hfz23_1); (try clear hfz25_0); (try clear hfz25_1); (try clear hfz25_2); (try clear hfz25_3); (try clear hfz25_4); (try clear hfz25_5); (try clear hfz25_6); (try clear hfz27_0); (try clear hfz27_1); (try clear hfz27_2); (try clear hfz27_3); (try clear hfz27_4); (try clear hfz27_5); (try clear hfz27_6); (try clear hfz28_0); (try clear hfz28_1); (try clear hfz31_0); (try clear hfz31_1); (try clear hfz31_2); (try clear hfz31_3); (try clear hfz31_4); (try clear hfz31_5); (try clear hfz31_6); (try clear hfz35_0); (try clear hfz35_1); (try clear hfz35_2); (try clear hfz35_3); (try clear hfz35_4); (try clear hfz35_5); (try clear hfz35_6); (try clear hfz39_0); (try clear hfz39_1); (try clear hfz39_2); (try clear hfz39_3); (try clear hfz39_4); (try clear hfz39_5); (try clear hfz39_6); (try clear hfz41_0); (try clear hfz41_1); (try clear hfz41_2); (try clear hfz41_3); (try clear hfz41_4); (try clear hfz41_5); (try clear hfz41_6); (try clear hfz47_0); (try clear hfz47_1); (try clear hfz47_2); (try clear hfz47_3); (try clear hfz47_4); (try clear hfz47_5); (try clear hfz47_6); (try clear hfz49_0); (try clear hfz49_1); (try clear hfz49_2); (try clear hfz49_3); (try clear hfz49_4); (try clear hfz49_5); (try clear hfz49_6); (try clear hfz51_0); (try clear hfz51_1); (try clear hfz51_2); (try clear hfz51_3); (try clear hfz51_4); (try clear hfz51_5); (try clear hfz51_6); (try clear hfz7_0); (try clear hfz7_1); (try clear hx115_0); (try clear hx115_1); (try clear hx115_2); (try clear hx115_3); (try clear hx115_4); (try clear hx115_5); (try clear hx115_6); (try clear p1); (try clear p11); (try clear p115); (try clear p2); (try clear q1); (try clear q11); (try clear q115)
         obtain ⟨kq, x65_41, rfl, HA, HJ41, BK114, BK116, HB⟩ := hcut
         cases kq with
         | zero => exact absurd HA.out (by simp [sentryref4_item.j2])
         | succ kj41 =>
          have H := HA.out
          clear HA
          simp only [sentryref4_item.j2] at H
          by_cases c52 : x65_41 = true
          ·subst c52
           have H1 : (some false) = some r := by rw [if_pos rfl] at H; exact H
           clear H
           have H := H1
           clear H1
           obtain rfl := Option.some.inj H
           go_wp2
           go_ret
           exact ⟨er_, hf_⟩
          ·replace c52 := Bool.eq_false_iff.mpr c52
           subst c52
           have H1 : (if a1 = 0 then (if ((rd_T48 l0_1 a1).f1) = 1 then (if ((rd_T48 l0_1 a1).f2).toList = ([] : List UInt8) then (if ((rd_T48 l0_1 a1).f3) = true then (some false) else (if (((rd_T48 l0_1 a1).f5).length : Int) = 0 then (some ((((rd_T48 l0_1 a1).f6).length : Int) == 0)) else (some false))) else (some false)) else (some false)) else ((sentryref4_Place.f kj41 l0_0 l0_1 ((rd_T48 l0_1 a1).f2)).bind fun t119 => (if ((rd_T48 l0_1 a1).f2).toList = ([] : List UInt8) then (some false) else (if t119 ≥ 0 then (if t119 < a1 then (if 0 ≤ t119 then (if t119 < (l0_1.length : Int) then (if ((rd_T48 l0_1 t119).f1) = 1 then ((sentryref4_within.f kj41 l0_0 l0_1 (wrap64 (a1 - 1)) ((rd_T48 l0_1 a1).f2)).bind fun t121 => (if t121 = true then ((sentryref4_Depth.f kj41 l0_0 l0_1 a1).bind fun t122 => (if t122 ≥ 1 then ((sentryref4_Depth.f kj41 l0_0 l0_1 a1).bind fun t123 => (some (decide (t123 ≤ 5)))) else (some false))) else (some false))) else (some false)) else (none)) else (none)) else (some false)) else (some false))))) = some r := by rw [if_neg (show ¬ (false = true) by decide)] at H; exact H
           clear H
           have H := H1
           clear H1
           by_cases c53 : a1 = 0
           ·rw [if_pos c53] at H
            have c53b0 : (a1 == 0) = true := beq_iff_eq.mpr c53
            have c53b1 : (a1 != 0) = false := bne_eq_false_iff_eq.mpr c53
            clear c53
            by_cases c54 : ((rd_T48 l0_1 a1).f1) = 1
            ·rw [if_pos c54] at H
             have c54b0 : (((rd_T48 l0_1 a1).f1) == 1) = true := beq_iff_eq.mpr c54
             have c54b1 : (((rd_T48 l0_1 a1).f1) != 1) = false := bne_eq_false_iff_eq.mpr c54
             clear c54
             by_cases c55 : ((rd_T48 l0_1 a1).f2).toList = ([] : List UInt8)
             ·rw [if_pos c55] at H
              have c55b0 : (((rd_T48 l0_1 a1).f2).toList == ([] : List UInt8)) = true := beq_iff_eq.mpr c55
              have c55b1 : (((rd_T48 l0_1 a1).f2).toList != ([] : List UInt8)) = false := bne_eq_false_iff_eq.mpr c55
              clear c55
              by_cases c56 : ((rd_T48 l0_1 a1).f3) = true
              ·rw [if_pos c56] at H
               have c56b0 : ((rd_T48 l0_1 a1).f3) = true := c56
               clear c56
               obtain rfl := Option.some.inj H
               have hnb57 := NB116_114.out
               have hnc57 := NB114_116.out
               obtain ⟨hcz58_0, hcz58_1, hcz58_2, hcz58_3, hcz58_4, hcz58_5, hcz58_6, hfz58_0, hfz58_1, hfz58_2, hfz58_3, hfz58_4, hfz58_5, hfz58_6⟩ := bs7_ BK116
               go_wp2
               go_ret
               exact ⟨er_, hf_⟩
              ·rw [if_neg c56] at H
               have c56b0 : ((rd_T48 l0_1 a1).f3) = false := by simpa using c56
               clear c56
               by_cases c59 : (((rd_T48 l0_1 a1).f5).length : Int) = 0
               ·rw [if_pos c59] at H
                have c59b0 : ((((rd_T48 l0_1 a1).f5).length : Int) == 0) = true := beq_iff_eq.mpr c59
                have c59b1 : ((((rd_T48 l0_1 a1).f5).length : Int) != 0) = false := bne_eq_false_iff_eq.mpr c59
                clear c59
                obtain rfl := Option.some.inj H
                have hnb60 := NB116_114.out
                have hnc60 := NB114_116.out
                obtain ⟨hcz61_0, hcz61_1, hcz61_2, hcz61_3, hcz61_4, hcz61_5, hcz61_6, hfz61_0, hfz61_1, hfz61_2, hfz61_3, hfz61_4, hfz61_5, hfz61_6⟩ := bs7_ BK116
                go_wp2
                go_ret
                exact ⟨er_, hf_⟩
               ·rw [if_neg c59] at H
                have c59b0 : ((((rd_T48 l0_1 a1).f5).length : Int) == 0) = false := beq_eq_false_iff_ne.mpr c59
                have c59b1 : ((((rd_T48 l0_1 a1).f5).length : Int) != 0) = true := bne_iff_ne.mpr c59
                have c59b2 : ¬ (((rd_T48 l0_1 a1).f5) = []) := fun h_ => c59 (by rw [h_]; rfl)
                obtain rfl := Option.some.inj H
                have hnb62 := NB116_114.out
                have hnc62 := NB114_116.out
                obtain ⟨hcz63_0, hcz63_1, hcz63_2, hcz63_3, hcz63_4, hcz63_5, hcz63_6, hfz63_0, hfz63_1, hfz63_2, hfz63_3, hfz63_4, hfz63_5, hfz63_6⟩ := bs7_ BK116
                go_wp2
                go_ret
                exact ⟨er_, hf_⟩
             ·rw [if_neg c55] at H
              have c55b0 : (((rd_T48 l0_1 a1).f2).toList == ([] : List UInt8)) = false := beq_eq_false_iff_ne.mpr c55
              have c55b1 : (((rd_T48 l0_1 a1).f2).toList != ([] : List UInt8)) = true := bne_iff_ne.mpr c55
              obtain rfl := Option.some.inj H
              have hnb64 := NB116_114.out
              have hnc64 := NB114_116.out
              obtain ⟨hcz65_0, hcz65_1, hcz65_2, hcz65_3, hcz65_4, hcz65_5, hcz65_6, hfz65_0, hfz65_1, hfz65_2, hfz65_3, hfz65_4, hfz65_5, hfz65_6⟩ := bs7_ BK116
              go_wp2
              go_ret
              exact ⟨er_, hf_⟩
            ·rw [if_neg c54] at H
             have c54b0 : (((rd_T48 l0_1 a1).f1) == 1) = false := beq_eq_false_iff_ne.mpr c54
             have c54b1 : (((rd_T48 l0_1 a1).f1) != 1) = true := bne_iff_ne.mpr c54
             obtain rfl := Option.some.inj H
             have hnb66 := NB116_114.out
             have hnc66 := NB114_116.out
             obtain ⟨hcz67_0, hcz67_1, hcz67_2, hcz67_3, hcz67_4, hcz67_5, hcz67_6, hfz67_0, hfz67_1, hfz67_2, hfz67_3, hfz67_4, hfz67_5, hfz67_6⟩ := bs7_ BK116
             go_wp2
             go_ret
             exact ⟨er_, hf_⟩
           ·rw [if_neg c53] at H
            have c53b0 : (a1 == 0) = false := beq_eq_false_iff_ne.mpr c53
            have c53b1 : (a1 != 0) = true := bne_iff_ne.mpr c53
            replace H := Option.bind_eq_some_iff.mp H
            obtain ⟨t119, A680, H⟩ := H
            replace H : (if ((rd_T48 l0_1 a1).f2).toList = ([] : List UInt8) then (some false) else (if t119 ≥ 0 then (if t119 < a1 then (if 0 ≤ t119 then (if t119 < (l0_1.length : Int) then (if ((rd_T48 l0_1 t119).f1) = 1 then ((sentryref4_within.f kj41 l0_0 l0_1 (wrap64 (a1 - 1)) ((rd_T48 l0_1 a1).f2)).bind fun t121 => (if t121 = true then ((sentryref4_Depth.f kj41 l0_0 l0_1 a1).bind fun t122 => (if t122 ≥ 1 then ((sentryref4_Depth.f kj41 l0_0 l0_1 a1).bind fun t123 => (some (decide (t123 ≤ 5)))) else (some false))) else (some false))) else (some false)) else (none)) else (none)) else (some false)) else (some false))) = some r := H
            have A68 := Aside0.mk A680
            clear A680
            by_cases c69 : ((rd_T48 l0_1 a1).f2).toList = ([] : List UInt8)
            ·rw [if_pos c69] at H
             have c69b0 : (((rd_T48 l0_1 a1).f2).toList == ([] : List UInt8)) = true := beq_iff_eq.mpr c69
             have c69b1 : (((rd_T48 l0_1 a1).f2).toList != ([] : List UInt8)) = false := bne_eq_false_iff_eq.mpr c69
             clear c69
             obtain rfl := Option.some.inj H
             have hnb70 := NB114_116.out
             have hnc70 := NB116_114.out
             obtain ⟨hcz71_0, hcz71_1, hfz71_0, hfz71_1⟩ := bs2_ BK114
             obtain ⟨hcz72_0, hcz72_1, hcz72_2, hcz72_3, hcz72_4, hcz72_5, hcz72_6, hfz72_0, hfz72_1, hfz72_2, hfz72_3, hfz72_4, hfz72_5, hfz72_6⟩ := bs7_ BK116
             go_wp2_with (first | ((with_reducible refine gate_callee (f := 54) rfl ?_); refine gl_ (some 96) Try.func54 #[.agg #[.slice A0_0 l0_0.length c0_0, .slice (some ad115) l0_1.length c0_1], .string ((rd_T48 l0_1 a1).f2)] ?_; (with_reducible refine (sentryref4_Place.calls kj41 _ _ l0_0 _ _ l0_1 ((rd_T48 l0_1 a1).f2) t119 _ ?side1 ?side2 ?side3 ?side4 A68.out).mono ?_); (case side1 => exact kc_ HR0_0 HB); (case side2 => exact HC0_0.out); (case side3 => exact kc_ HR0_1 HB); (case side4 => exact HC0_1.out); rintro e w73 ⟨rfl, hb⟩; refine ⟨_, rfl, ?_⟩; have n0_ := bb_ BK114 hb; have n1_ := bb_ BK116 hb; have n2_ := hb_ HB hb; clear BK114; clear BK116; clear HB; have BK114 := n0_; have BK116 := n1_; have HB := n2_; clear n0_ n1_ n2_; (try clear hb); (try clear hb2); (try clear hk); (try clear hi); obtain ⟨hcz74_0, hcz74_1, hcz74_2, hcz74_3, hcz74_4, hcz74_5, hcz74_6, hfz74_0, hfz74_1, hfz74_2, hfz74_3, hfz74_4, hfz74_5, hfz74_6⟩ := bs7_ BK116))
             go_ret
             exact ⟨er_, hf_⟩
            ·rw [if_neg c69] at H
             have c69b0 : (((rd_T48 l0_1 a1).f2).toList == ([] : List UInt8)) = false := beq_eq_false_iff_ne.mpr c69
             have c69b1 : (((rd_T48 l0_1 a1).f2).toList != ([] : List UInt8)) = true := bne_iff_ne.mpr c69
             by_cases c75 : t119 ≥ 0
             ·rw [if_pos c75] at H
              have c75b0 : decide (0 ≤ t119) = true := decide_eq_true c75
              clear c75
              by_cases c76 : t119 < a1
              ·rw [if_pos c76] at H
               have c76b0 : decide (t119 < a1) = true := decide_eq_true c76
               clear c76
               by_cases c77 : 0 ≤ t119
               ·rw [if_pos c77] at H
                have c77b0 : decide (0 ≤ t119) = true := decide_eq_true c77
                clear c77
                by_cases c78 : t119 < (l0_1.length : Int)
                ·rw [if_pos c78] at H
                 have c78b0 : decide (t119 < (l0_1.length : Int)) = true := decide_eq_true c78
                 clear c78
                 by_cases c79 : ((rd_T48 l0_1 t119).f1) = 1
                 ·rw [if_pos c79] at H
                  have c79b0 : (((rd_T48 l0_1 t119).f1) == 1) = true := beq_iff_eq.mpr c79
                  have c79b1 : (((rd_T48 l0_1 t119).f1) != 1) = false := bne_eq_false_iff_eq.mpr c79
                  clear c79
                  replace H := Option.bind_eq_some_iff.mp H
                  obtain ⟨t121, A800, H⟩ := H
                  replace H : (if t121 = true then ((sentryref4_Depth.f kj41 l0_0 l0_1 a1).bind fun t122 => (if t122 ≥ 1 then ((sentryref4_Depth.f kj41 l0_0 l0_1 a1).bind fun t123 => (some (decide (t123 ≤ 5)))) else (some false))) else (some false)) = some r := H
                  have A80 := Aside0.mk A800
                  clear A800
                  by_cases c81 : t121 = true
                  ·subst c81
                   have H1 : ((sentryref4_Depth.f kj41 l0_0 l0_1 a1).bind fun t122 => (if t122 ≥ 1 then ((sentryref4_Depth.f kj41 l0_0 l0_1 a1).bind fun t123 => (some (decide (t123 ≤ 5)))) else (some false))) = some r := by rw [if_pos rfl] at H; exact H
                   clear H
                   have H := H1
                   clear H1
                   replace H := Option.bind_eq_some_iff.mp H
                   obtain ⟨t122, A820, H⟩ := H
                   replace H : (if t122 ≥ 1 then ((sentryref4_Depth.f kj41 l0_0 l0_1 a1).bind fun t123 => (some (decide (t123 ≤ 5)))) else (some false)) = some r := H
                   have A82 := Aside0.mk A820
                   clear A820
                   by_cases c83 : t122 ≥ 1
                   ·rw [if_pos c83] at H
                    have c83b0 : decide (1 ≤ t122) = true := decide_eq_true c83
                    clear c83
                    replace H := Option.bind_eq_some_iff.mp H
                    obtain ⟨t123, A840, H⟩ := H
                    replace H : (some (decide (t123 ≤ 5))) = some r := H
                    have A84 := Aside0.mk A840
                    clear A840
                    obtain rfl : t122 = t123 := Option.some.inj (A82.out.symm.trans A84.out)
                    obtain rfl := Option.some.inj H
                    have hnb85 := NB114_116.out
                    have hnc85 := NB116_114.out
                    obtain ⟨hcz86_0, hcz86_1, hfz86_0, hfz86_1⟩ := bs2_ BK114
                    obtain ⟨hcz87_0, hcz87_1, hcz87_2, hcz87_3, hcz87_4, hcz87_5, hcz87_6, hfz87_0, hfz87_1, hfz87_2, hfz87_3, hfz87_4, hfz87_5, hfz87_6⟩ := bs7_ BK116
                    go_wp2_with (first | ((with_reducible refine gate_callee (f := 54) rfl ?_); refine gl_ (some 96) Try.func54 #[.agg #[.slice A0_0 l0_0.length c0_0, .slice (some ad115) l0_1.length c0_1], .string ((rd_T48 l0_1 a1).f2)] ?_; (with_reducible refine (sentryref4_Place.calls kj41 _ _ l0_0 _ _ l0_1 ((rd_T48 l0_1 a1).f2) t119 _ ?side1 ?side2 ?side3 ?side4 A68.out).mono ?_); (case side1 => exact kc_ HR0_0 HB); (case side2 => exact HC0_0.out); (case side3 => exact kc_ HR0_1 HB); (case side4 => exact HC0_1.out); rintro e w88 ⟨rfl, hb⟩; refine ⟨_, rfl, ?_⟩; have n0_ := bb_ BK114 hb; have n1_ := bb_ BK116 hb; have n2_ := hb_ HB hb; clear BK114; clear BK116; clear HB; have BK114 := n0_; have BK116 := n1_; have HB := n2_; clear n0_ n1_ n2_; (try clear hb); (try clear hb2); (try clear hk); (try clear hi); obtain ⟨hcz89_0, hcz89_1, hcz89_2, hcz89_3, hcz89_4, hcz89_5, hcz89_6, hfz89_0, hfz89_1, hfz89_2, hfz89_3, hfz89_4, hfz89_5, hfz89_6⟩ := bs7_ BK116; obtain ⟨hcz90_0, hcz90_1, hfz90_0, hfz90_1⟩ := bs2_ BK114; have p120 : 0 ≤ (t119 : Int) := od_; have q120 : t119 < (l0_1.length : Int) := od_; obtain ⟨ad120, A120_5, c120_5, A120_6, c120_6, e120, hx120_0, hx120_1, hx120_2, hx120_3, hx120_4, hx120_5, hx120_6, hl120_5, hi120_5, hl120_6, hi120_6⟩ := at_T48 HR0_1.out t119 p120 q120; obtain rfl : ad115 = ad120 := (by injection e120); replace hx120_0 := rr_ HB hx120_0; replace hx120_1 := rr_ HB hx120_1; replace hx120_2 := rr_ HB hx120_2; replace hx120_3 := rr_ HB hx120_3; replace hx120_4 := rr_ HB hx120_4; replace hx120_5 := rr_ HB hx120_5; replace hx120_6 := rr_ HB hx120_6; have HR120_5 := Aside0.mk hi120_5; have HC120_5 := Aside0.mk hl120_5; clear hi120_5 hl120_5; have HR120_6 := Aside0.mk hi120_6; have HC120_6 := Aside0.mk hl120_6; clear hi120_6 hl120_6; replace p120 := eq_true p120; replace q120 := eq_true q120) | (go_at_call 58; (with_reducible refine (sentryref4_within.calls kj41 _ _ l0_0 _ _ l0_1 (wrap64 (a1 - 1)) ((rd_T48 l0_1 a1).f2) true _ ?side1 ?side2 ?side3 ?side4 A80.out).mono ?_); (case side1 => exact kc_ HR0_0 HB); (case side2 => exact HC0_0.out); (case side3 => exact kc_ HR0_1 HB); (case side4 => exact HC0_1.out); rintro e w91 ⟨rfl, hb⟩; have n0_ := bb_ BK114 hb; have n1_ := bb_ BK116 hb; have n2_ := hb_ HB hb; clear BK114; clear BK116; clear HB; have BK114 := n0_; have BK116 := n1_; have HB := n2_; clear n0_ n1_ n2_; (try clear hb); (try clear hb2); (try clear hk); (try clear hi); obtain ⟨hcz92_0, hcz92_1, hfz92_0, hfz92_1⟩ := bs2_ BK114) | (go_at_call 59; (with_reducible refine (sentryref4_Depth.calls kj41 _ _ l0_0 _ _ l0_1 a1 t122 _ ?side1 ?side2 ?side3 ?side4 A82.out).mono ?_); (case side1 => exact kc_ HR0_0 HB); (case side2 => exact HC0_0.out); (case side3 => exact kc_ HR0_1 HB); (case side4 => exact HC0_1.out); rintro e w93 ⟨rfl, hb⟩; have n0_ := bb_ BK114 hb; have n1_ := bb_ BK116 hb; have n2_ := hb_ HB hb; clear BK114; clear BK116; clear HB; have BK114 := n0_; have BK116 := n1_; have HB := n2_; clear n0_ n1_ n2_; (try clear hb); (try clear hb2); (try clear hk); (try clear hi); obtain ⟨hcz94_0, hcz94_1, hfz94_0, hfz94_1⟩ := bs2_ BK114) | (go_at_call 59; (with_reducible refine (sentryref4_Depth.calls kj41 _ _ l0_0 _ _ l0_1 a1 t123 _ ?side1 ?side2 ?side3 ?side4 A84.out).mono ?_); (case side1 => exact kc_ HR0_0 HB); (case side2 => exact HC0_0.out); (case side3 => exact kc_ HR0_1 HB); (case side4 => exact HC0_1.out); rintro e w95 ⟨rfl, hb⟩; have n0_ := bb_ BK114 hb; have n1_ := bb_ BK116 hb; have n2_ := hb_ HB hb; clear BK114; clear BK116; clear HB; have BK114 := n0_; have BK116 := n1_; have HB := n2_; clear n0_ n1_ n2_; (try clear hb); (try clear hb2); (try clear hk); (try clear hi)))
                    go_ret
                    exact ⟨er_, hf_⟩
                   ·rw [if_neg c83] at H
                    have c83b0 : decide (1 ≤ t122) = false := decide_eq_false c83
                    clear c83
                    obtain rfl := Option.some.inj H
                    have hnb96 := NB114_116.out
                    have hnc96 := NB116_114.out
                    obtain ⟨hcz97_0, hcz97_1, hfz97_0, hfz97_1⟩ := bs2_ BK114
                    obtain ⟨hcz98_0, hcz98_1, hcz98_2, hcz98_3, hcz98_4, hcz98_5, hcz98_6, hfz98_0, hfz98_1, hfz98_2, hfz98_3, hfz98_4, hfz98_5, hfz98_6⟩ := bs7_ BK116
                    go_wp2_with (first | ((with_reducible refine gate_callee (f := 54) rfl ?_); refine gl_ (some 96) Try.func54 #[.agg #[.slice A0_0 l0_0.length c0_0, .slice (some ad115) l0_1.length c0_1], .string ((rd_T48 l0_1 a1).f2)] ?_; (with_reducible refine (sentryref4_Place.calls kj41 _ _ l0_0 _ _ l0_1 ((rd_T48 l0_1 a1).f2) t119 _ ?side1 ?side2 ?side3 ?side4 A68.out).mono ?_); (case side1 => exact kc_ HR0_0 HB); (case side2 => exact HC0_0.out); (case side3 => exact kc_ HR0_1 HB); (case side4 => exact HC0_1.out); rintro e w99 ⟨rfl, hb⟩; refine ⟨_, rfl, ?_⟩; have n0_ := bb_ BK114 hb; have n1_ := bb_ BK116 hb; have n2_ := hb_ HB hb; clear BK114; clear BK116; clear HB; have BK114 := n0_; have BK116 := n1_; have HB := n2_; clear n0_ n1_ n2_; (try clear hb); (try clear hb2); (try clear hk); (try clear hi); obtain ⟨hcz100_0, hcz100_1, hcz100_2, hcz100_3, hcz100_4, hcz100_5, hcz100_6, hfz100_0, hfz100_1, hfz100_2, hfz100_3, hfz100_4, hfz100_5, hfz100_6⟩ := bs7_ BK116; obtain ⟨hcz101_0, hcz101_1, hfz101_0, hfz101_1⟩ := bs2_ BK114; have p120 : 0 ≤ (t119 : Int) := od_; have q120 : t119 < (l0_1.length : Int) := od_; obtain ⟨ad120, A120_5, c120_5, A120_6, c120_6, e120, hx120_0, hx120_1, hx120_2, hx120_3, hx120_4, hx120_5, hx120_6, hl120_5, hi120_5, hl120_6, hi120_6⟩ := at_T48 HR0_1.out t119 p120 q120; obtain rfl : ad115 = ad120 := (by injection e120); replace hx120_0 := rr_ HB hx120_0; replace hx120_1 := rr_ HB hx120_1; replace hx120_2 := rr_ HB hx120_2; replace hx120_3 := rr_ HB hx120_3; replace hx120_4 := rr_ HB hx120_4; replace hx120_5 := rr_ HB hx120_5; replace hx120_6 := rr_ HB hx120_6; have HR120_5 := Aside0.mk hi120_5; have HC120_5 := Aside0.mk hl120_5; clear hi120_5 hl120_5; have HR120_6 := Aside0.mk hi120_6; have HC120_6 := Aside0.mk hl120_6; clear hi120_6 hl120_6; replace p120 := eq_true p120; replace q120 := eq_true q120) | (go_at_call 58; (with_reducible refine (sentryref4_within.calls kj41 _ _ l0_0 _ _ l0_1 (wrap64 (a1 - 1)) ((rd_T48 l0_1 a1).f2) true _ ?side1 ?side2 ?side3 ?side4 A80.out).mono ?_); (case side1 => exact kc_ HR0_0 HB); (case side2 => exact HC0_0.out); (case side3 => exact kc_ HR0_1 HB); (case side4 => exact HC0_1.out); rintro e w102 ⟨rfl, hb⟩; have n0_ := bb_ BK114 hb; have n1_ := bb_ BK116 hb; have n2_ := hb_ HB hb; clear BK114; clear BK116; clear HB; have BK114 := n0_; have BK116 := n1_; have HB := n2_; clear n0_ n1_ n2_; (try clear hb); (try clear hb2); (try clear hk); (try clear hi); obtain ⟨hcz103_0, hcz103_1, hfz103_0, hfz103_1⟩ := bs2_ BK114) | (go_at_call 59; (with_reducible refine (sentryref4_Depth.calls kj41 _ _ l0_0 _ _ l0_1 a1 t122 _ ?side1 ?side2 ?side3 ?side4 A82.out).mono ?_); (case side1 => exact kc_ HR0_0 HB); (case side2 => exact HC0_0.out); (case side3 => exact kc_ HR0_1 HB); (case side4 => exact HC0_1.out); rintro e w104 ⟨rfl, hb⟩; have n0_ := bb_ BK114 hb; have n1_ := bb_ BK116 hb; have n2_ := hb_ HB hb; clear BK114; clear BK116; clear HB; have BK114 := n0_; have BK116 := n1_; have HB := n2_; clear n0_ n1_ n2_; (try clear hb); (try clear hb2); (try clear hk); (try clear hi)))
                    go_ret
                    exact ⟨er_, hf_⟩
                  ·replace c81 := Bool.eq_false_iff.mpr c81
                   subst c81
                   have H1 : (some false) = some r := by rw [if_neg (show ¬ (false = true) by decide)] at H; exact H
                   clear H
                   have H := H1
                   clear H1
                   obtain rfl := Option.some.inj H
                   have hnb105 := NB114_116.out
                   have hnc105 := NB116_114.out
                   obtain ⟨hcz106_0, hcz106_1, hfz106_0, hfz106_1⟩ := bs2_ BK114
                   obtain ⟨hcz107_0, hcz107_1, hcz107_2, hcz107_3, hcz107_4, hcz107_5, hcz107_6, hfz107_0, hfz107_1, hfz107_2, hfz107_3, hfz107_4, hfz107_5, hfz107_6⟩ := bs7_ BK116
                   go_wp2_with (first | ((with_reducible refine gate_callee (f := 54) rfl ?_); refine gl_ (some 96) Try.func54 #[.agg #[.slice A0_0 l0_0.length c0_0, .slice (some ad115) l0_1.length c0_1], .string ((rd_T48 l0_1 a1).f2)] ?_; (with_reducible refine (sentryref4_Place.calls kj41 _ _ l0_0 _ _ l0_1 ((rd_T48 l0_1 a1).f2) t119 _ ?side1 ?side2 ?side3 ?side4 A68.out).mono ?_); (case side1 => exact kc_ HR0_0 HB); (case side2 => exact HC0_0.out); (case side3 => exact kc_ HR0_1 HB); (case side4 => exact HC0_1.out); rintro e w108 ⟨rfl, hb⟩; refine ⟨_, rfl, ?_⟩; have n0_ := bb_ BK114 hb; have n1_ := bb_ BK116 hb; have n2_ := hb_ HB hb; clear BK114; clear BK116; clear HB; have BK114 := n0_; have BK116 := n1_; have HB := n2_; clear n0_ n1_ n2_; (try clear hb); (try clear hb2); (try clear hk); (try clear hi); obtain ⟨hcz109_0, hcz109_1, hcz109_2, hcz109_3, hcz109_4, hcz109_5, hcz109_6, hfz109_0, hfz109_1, hfz109_2, hfz109_3, hfz109_4, hfz109_5, hfz109_6⟩ := bs7_ BK116; obtain ⟨hcz110_0, hcz110_1, hfz110_0, hfz110_1⟩ := bs2_ BK114; have p120 : 0 ≤ (t119 : Int) := od_; have q120 : t119 < (l0_1.length : Int) := od_; obtain ⟨ad120, A120_5, c120_5, A120_6, c120_6, e120, hx120_0, hx120_1, hx120_2, hx120_3, hx120_4, hx120_5, hx120_6, hl120_5, hi120_5, hl120_6, hi120_6⟩ := at_T48 HR0_1.out t119 p120 q120; obtain rfl : ad115 = ad120 := (by injection e120); replace hx120_0 := rr_ HB hx120_0; replace hx120_1 := rr_ HB hx120_1; replace hx120_2 := rr_ HB hx120_2; replace hx120_3 := rr_ HB hx120_3; replace hx120_4 := rr_ HB hx120_4; replace hx120_5 := rr_ HB hx120_5; replace hx120_6 := rr_ HB hx120_6; have HR120_5 := Aside0.mk hi120_5; have HC120_5 := Aside0.mk hl120_5; clear hi120_5 hl120_5; have HR120_6 := Aside0.mk hi120_6; have HC120_6 := Aside0.mk hl120_6; clear hi120_6 hl120_6; replace p120 := eq_true p120; replace q120 := eq_true q120) | (go_at_call 58; (with_reducible refine (sentryref4_within.calls kj41 _ _ l0_0 _ _ l0_1 (wrap64 (a1 - 1)) ((rd_T48 l0_1 a1).f2) false _ ?side1 ?side2 ?side3 ?side4 A80.out).mono ?_); (case side1 => exact kc_ HR0_0 HB); (case side2 => exact HC0_0.out); (case side3 => exact kc_ HR0_1 HB); (case side4 => exact HC0_1.out); rintro e w111 ⟨rfl, hb⟩; have n0_ := bb_ BK114 hb; have n1_ := bb_ BK116 hb; have n2_ := hb_ HB hb; clear BK114; clear BK116; clear HB; have BK114 := n0_; have BK116 := n1_; have HB := n2_; clear n0_ n1_ n2_; (try clear hb); (try clear hb2); (try clear hk); (try clear hi)))
                   go_ret
                   exact ⟨er_, hf_⟩
                 ·rw [if_neg c79] at H
                  have c79b0 : (((rd_T48 l0_1 t119).f1) == 1) = false := beq_eq_false_iff_ne.mpr c79
                  have c79b1 : (((rd_T48 l0_1 t119).f1) != 1) = true := bne_iff_ne.mpr c79
                  obtain rfl := Option.some.inj H
                  have hnb112 := NB114_116.out
                  have hnc112 := NB116_114.out
                  obtain ⟨hcz113_0, hcz113_1, hfz113_0, hfz113_1⟩ := bs2_ BK114
                  obtain ⟨hcz114_0, hcz114_1, hcz114_2, hcz114_3, hcz114_4, hcz114_5, hcz114_6, hfz114_0, hfz114_1, hfz114_2, hfz114_3, hfz114_4, hfz114_5, hfz114_6⟩ := bs7_ BK116
                  go_wp2_with (first | ((with_reducible refine gate_callee (f := 54) rfl ?_); refine gl_ (some 96) Try.func54 #[.agg #[.slice A0_0 l0_0.length c0_0, .slice (some ad115) l0_1.length c0_1], .string ((rd_T48 l0_1 a1).f2)] ?_; (with_reducible refine (sentryref4_Place.calls kj41 _ _ l0_0 _ _ l0_1 ((rd_T48 l0_1 a1).f2) t119 _ ?side1 ?side2 ?side3 ?side4 A68.out).mono ?_); (case side1 => exact kc_ HR0_0 HB); (case side2 => exact HC0_0.out); (case side3 => exact kc_ HR0_1 HB); (case side4 => exact HC0_1.out); rintro e w115 ⟨rfl, hb⟩; refine ⟨_, rfl, ?_⟩; have n0_ := bb_ BK114 hb; have n1_ := bb_ BK116 hb; have n2_ := hb_ HB hb; clear BK114; clear BK116; clear HB; have BK114 := n0_; have BK116 := n1_; have HB := n2_; clear n0_ n1_ n2_; (try clear hb); (try clear hb2); (try clear hk); (try clear hi); obtain ⟨hcz116_0, hcz116_1, hcz116_2, hcz116_3, hcz116_4, hcz116_5, hcz116_6, hfz116_0, hfz116_1, hfz116_2, hfz116_3, hfz116_4, hfz116_5, hfz116_6⟩ := bs7_ BK116; obtain ⟨hcz117_0, hcz117_1, hfz117_0, hfz117_1⟩ := bs2_ BK114; have p120 : 0 ≤ (t119 : Int) := od_; have q120 : t119 < (l0_1.length : Int) := od_; obtain ⟨ad120, A120_5, c120_5, A120_6, c120_6, e120, hx120_0, hx120_1, hx120_2, hx120_3, hx120_4, hx120_5, hx120_6, hl120_5, hi120_5, hl120_6, hi120_6⟩ := at_T48 HR0_1.out t119 p120 q120; obtain rfl : ad115 = ad120 := (by injection e120); replace hx120_0 := rr_ HB hx120_0; replace hx120_1 := rr_ HB hx120_1; replace hx120_2 := rr_ HB hx120_2; replace hx120_3 := rr_ HB hx120_3; replace hx120_4 := rr_ HB hx120_4; replace hx120_5 := rr_ HB hx120_5; replace hx120_6 := rr_ HB hx120_6; have HR120_5 := Aside0.mk hi120_5; have HC120_5 := Aside0.mk hl120_5; clear hi120_5 hl120_5; have HR120_6 := Aside0.mk hi120_6; have HC120_6 := Aside0.mk hl120_6; clear hi120_6 hl120_6; replace p120 := eq_true p120; replace q120 := eq_true q120))
                  go_ret
                  exact ⟨er_, hf_⟩
                ·rw [if_neg c78] at H
                 exact absurd H (by simp)
               ·rw [if_neg c77] at H
                exact absurd H (by simp)
              ·rw [if_neg c76] at H
               have c76b0 : decide (t119 < a1) = false := decide_eq_false c76
               clear c76
               obtain rfl := Option.some.inj H
               have hnb118 := NB114_116.out
               have hnc118 := NB116_114.out
               obtain ⟨hcz119_0, hcz119_1, hfz119_0, hfz119_1⟩ := bs2_ BK114
               obtain ⟨hcz120_0, hcz120_1, hcz120_2, hcz120_3, hcz120_4, hcz120_5, hcz120_6, hfz120_0, hfz120_1, hfz120_2, hfz120_3, hfz120_4, hfz120_5, hfz120_6⟩ := bs7_ BK116
               go_wp2_with (first | ((with_reducible refine gate_callee (f := 54) rfl ?_); refine gl_ (some 96) Try.func54 #[.agg #[.slice A0_0 l0_0.length c0_0, .slice (some ad115) l0_1.length c0_1], .string ((rd_T48 l0_1 a1).f2)] ?_; (with_reducible refine (sentryref4_Place.calls kj41 _ _ l0_0 _ _ l0_1 ((rd_T48 l0_1 a1).f2) t119 _ ?side1 ?side2 ?side3 ?side4 A68.out).mono ?_); (case side1 => exact kc_ HR0_0 HB); (case side2 => exact HC0_0.out); (case side3 => exact kc_ HR0_1 HB); (case side4 => exact HC0_1.out); rintro e w121 ⟨rfl, hb⟩; refine ⟨_, rfl, ?_⟩; have n0_ := bb_ BK114 hb; have n1_ := bb_ BK116 hb; have n2_ := hb_ HB hb; clear BK114; clear BK116; clear HB; have BK114 := n0_; have BK116 := n1_; have HB := n2_; clear n0_ n1_ n2_; (try clear hb); (try clear hb2); (try clear hk); (try clear hi); obtain ⟨hcz122_0, hcz122_1, hcz122_2, hcz122_3, hcz122_4, hcz122_5, hcz122_6, hfz122_0, hfz122_1, hfz122_2, hfz122_3, hfz122_4, hfz122_5, hfz122_6⟩ := bs7_ BK116))
               go_ret
               exact ⟨er_, hf_⟩
             ·rw [if_neg c75] at H
              have c75b0 : decide (0 ≤ t119) = false := decide_eq_false c75
              clear c75
              obtain rfl := Option.some.inj H
              have hnb123 := NB114_116.out
              have hnc123 := NB116_114.out
              obtain ⟨hcz124_0, hcz124_1, hfz124_0, hfz124_1⟩ := bs2_ BK114
              obtain ⟨hcz125_0, hcz125_1, hcz125_2, hcz125_3, hcz125_4, hcz125_5, hcz125_6, hfz125_0, hfz125_1, hfz125_2, hfz125_3, hfz125_4, hfz125_5, hfz125_6⟩ := bs7_ BK116
              go_wp2_with (first | ((with_reducible refine gate_callee (f := 54) rfl ?_); refine gl_ (some 96) Try.func54 #[.agg #[.slice A0_0 l0_0.length c0_0, .slice (some ad115) l0_1.length c0_1], .string ((rd_T48 l0_1 a1).f2)] ?_; (with_reducible refine (sentryref4_Place.calls kj41 _ _ l0_0 _ _ l0_1 ((rd_T48 l0_1 a1).f2) t119 _ ?side1 ?side2 ?side3 ?side4 A68.out).mono ?_); (case side1 => exact kc_ HR0_0 HB); (case side2 => exact HC0_0.out); (case side3 => exact kc_ HR0_1 HB); (case side4 => exact HC0_1.out); rintro e w126 ⟨rfl, hb⟩; refine ⟨_, rfl, ?_⟩; have n0_ := bb_ BK114 hb; have n1_ := bb_ BK116 hb; have n2_ := hb_ HB hb; clear BK114; clear BK116; clear HB; have BK114 := n0_; have BK116 := n1_; have HB := n2_; clear n0_ n1_ n2_; (try clear hb); (try clear hb2); (try clear hk); (try clear hi); obtain ⟨hcz127_0, hcz127_1, hcz127_2, hcz127_3, hcz127_4, hcz127_5, hcz127_6, hfz127_0, hfz127_1, hfz127_2, hfz127_3, hfz127_4, hfz127_5, hfz127_6⟩ := bs7_ BK116))
              go_ret
              exact ⟨er_, hf_⟩
  ·rw [if_neg c4] at H
   exact absurd H (by simp)
 ·rw [if_neg c3] at H
  exact absurd H (by simp)
end Go.Proofs.Ytaiglhfmmdajdaa.Pm
end
section
namespace Go.Proofs.Ytaiglhfmmdajdaa.Pm
open Go.RowKit Go.Proofs.YtaiglhfmmdajdaaW.PrintWords Go.Proofs.YtaiglhfmmdajdaaW.PrintLast Go.Proofs.YtaiglhfmmdajdaaW.PrintMore
attribute [local go_sem] max2_int min2_int max_two min_two max_three min_three max_four min_four   -- for this text's walks alone
set_option linter.unusedVariables false
set_option linter.unusedSimpArgs false
mutual
def sentryref4_Legal.j0 : Nat → Int → Int → Bool → Option (Bool)
 | 0, _, _, _ => none
 | k + 1, x0, x1, x10 => if x10 = true then (some false) else (if x1 = 1 then (sentryref4_Legal.j1 k x0 x1 (x1 == 1)) else (sentryref4_Legal.j1 k x0 x1 (x1 == 5)))
def sentryref4_Legal.j1 : Nat → Int → Int → Bool → Option (Bool)
 | 0, _, _, _ => none
 | k + 1, x0, x11, x12 => if x12 = true then (some true) else (if x11 = 2 then (sentryref4_Legal.j2 k x0 x11 (x11 == 2)) else (sentryref4_Legal.j2 k x0 x11 (x11 == 3)))
def sentryref4_Legal.j2 : Nat → Int → Int → Bool → Option (Bool)
 | 0, _, _, _ => none
 | k + 1, x0, x11, x15 => if x15 = true then (some (decide (x0 ≤ 2))) else (if x11 = 4 then (some (decide (x0 > 2))) else (some false))
end
def sentryref4_Legal.f (k : Nat) (a0 : Int) (a1 : Int) : Option (Bool) := if a0 < 1 then (sentryref4_Legal.j0 k a0 a1 true) else (sentryref4_Legal.j0 k a0 a1 (decide (a0 > 5)))
theorem sentryref4_Legal.mono_l : ∀ k, (∀ y0 y1 y2, LeO (sentryref4_Legal.j0 k y0 y1 y2) (sentryref4_Legal.j0 (k + 1) y0 y1 y2)) ∧ (∀ y0 y1 y2, LeO (sentryref4_Legal.j1 k y0 y1 y2) (sentryref4_Legal.j1 (k + 1) y0 y1 y2)) ∧ (∀ y0 y1 y2, LeO (sentryref4_Legal.j2 k y0 y1 y2) (sentryref4_Legal.j2 (k + 1) y0 y1 y2))
 | 0 => ⟨fun _ _ _ r h => by simp [sentryref4_Legal.j0] at h, fun _ _ _ r h => by simp [sentryref4_Legal.j1] at h, fun _ _ _ r h => by simp [sentryref4_Legal.j2] at h⟩
 | k + 1 => by
  obtain ⟨ih0, ih1, ih2⟩ := sentryref4_Legal.mono_l k
  refine ⟨?_, ?_, ?_⟩
  intro y0 y1 y2
  unfold sentryref4_Legal.j0
  rotate_left
  intro y0 y1 y2
  unfold sentryref4_Legal.j1
  rotate_left
  intro y0 y1 y2
  unfold sentryref4_Legal.j2
  rotate_left
  all_goals repeat' first
   | (with_reducible exact ih0 _ _ _)
   | (with_reducible exact ih1 _ _ _)
   | (with_reducible exact ih2 _ _ _)
   | (with_reducible exact LeO.refl _)
   | (with_reducible exact LeO.none _)
   | (with_reducible refine LeO.ite ?_ ?_)
   | (with_reducible refine LeO.bind ?_ (fun _ => ?_))
   | exact ih0 _ _ _
   | exact ih1 _ _ _
   | exact ih2 _ _ _
   | exact LeO.none _
   | refine LeO.ite ?_ ?_
   | refine LeO.bind ?_ (fun _ => ?_)
theorem sentryref4_Legal.mono : ∀ a0 a1 k, LeO (sentryref4_Legal.f k a0 a1) (sentryref4_Legal.f (k + 1) a0 a1) := by
 intro a0 a1 k
 obtain ⟨ih0, ih1, ih2⟩ := sentryref4_Legal.mono_l k
 unfold sentryref4_Legal.f
 repeat' first
   | (with_reducible exact ih0 _ _ _)
   | (with_reducible exact ih1 _ _ _)
   | (with_reducible exact ih2 _ _ _)
   | (with_reducible exact LeO.refl _)
   | (with_reducible exact LeO.none _)
   | (with_reducible refine LeO.ite ?_ ?_)
   | (with_reducible refine LeO.bind ?_ (fun _ => ?_))
   | exact ih0 _ _ _
   | exact ih1 _ _ _
   | exact ih2 _ _ _
   | exact LeO.none _
   | refine LeO.ite ?_ ?_
   | refine LeO.bind ?_ (fun _ => ?_)
set_option maxHeartbeats 8000000 in
set_option maxRecDepth 100000 in
theorem sentryref4_Legal.calls (k : Nat) (a0 : Int) (a1 : Int) (r : Bool) (w : World) (h : sentryref4_Legal.f k a0 a1 = some r) :
  Calls Try.prog 77 #[.int .i64 a0, .int .i64 a1] w fun e w' => e = .returned (.bool r) ∧ Drawn0 w w' := by
 have H : (if a0 < 1 then (sentryref4_Legal.j0 k a0 a1 true) else (sentryref4_Legal.j0 k a0 a1 (decide (a0 > 5)))) = some r := h
 clear h
 have HC3 := Aside0.mk H
 clear H
 go_enter Try.func77, Try.ntmps77
 go_upto_region 1 with (fail)
 go_cut [10] (fun v10 wc => ∃ (kq : Nat) (x10_2 : Bool), v10 = .bool x10_2 ∧ Aside0 (sentryref4_Legal.j0 kq a0 a1 x10_2 = some r) ∧ Aside0 (kq ≤ k) ∧ Drawn0 w wc)
 case first =>
  have H := HC3.out
  clear HC3
  by_cases c4 : a0 < 1
  ·rw [if_pos c4] at H
   have c4b0 : decide (a0 < 1) = true := decide_eq_true c4
   clear c4
   (first | rw [c4b0] | (simp only [i64_w, i32_w]; rw [c4b0]) | skip)
   have H' := Aside0.mk H
   clear H
   go_wp2
   go_meet
   case rel => exact ⟨_, (true), (by first | rfl | (simp; done) | (simp [*]; done)), H', ⟨by first | omega | exact Nat.le_refl _⟩, by repeat (first | exact Drawn0.refl _ | apply Drawn0.step)⟩
  ·rw [if_neg c4] at H
   have c4b0 : decide (a0 < 1) = false := decide_eq_false c4
   clear c4
   (first | rw [c4b0] | (simp only [i64_w, i32_w]; rw [c4b0]) | skip)
   have H' := Aside0.mk H
   clear H
   go_wp2
   go_meet
   case rel => exact ⟨_, (decide (a0 > 5)), (by first | rfl | (simp; done) | (simp [*]; done)), H', ⟨by first | omega | exact Nat.le_refl _⟩, by repeat (first | exact Drawn0.refl _ | apply Drawn0.step)⟩
 case rest =>
  clear HC3
  (try clear p2); (try clear c4); (try clear c4b0)
  obtain ⟨kq, x10_2, rfl, HA, HJ2, ⟨mc2, rfl⟩⟩ := hcut
  cases kq with
  | zero => exact absurd HA.out (by simp [sentryref4_Legal.j0])
  | succ kj2 =>
   have H := HA.out
   clear HA
   simp only [sentryref4_Legal.j0] at H
   by_cases c5 : x10_2 = true
   ·subst c5
    have H1 : (some false) = some r := by rw [if_pos rfl] at H; exact H
    clear H
    have H := H1
    clear H1
    obtain rfl := Option.some.inj H
    go_wp2
    go_ret
    exact ⟨by first | rfl | (simp; done) | (simp [*]; done), by repeat (first | exact Drawn0.refl _ | apply Drawn0.step)⟩
   ·replace c5 := Bool.eq_false_iff.mpr c5
    subst c5
    have H1 : (if a1 = 1 then (sentryref4_Legal.j1 kj2 a0 a1 (a1 == 1)) else (sentryref4_Legal.j1 kj2 a0 a1 (a1 == 5))) = some r := by rw [if_neg (show ¬ (false = true) by decide)] at H; exact H
    clear H
    have H := H1
    clear H1
    have HC6 := Aside0.mk H
    clear H
    go_upto_if 12 with (fail)
    go_cut [12] (fun v12 wc => ∃ (kq : Nat) (x12_5 : Bool), v12 = .bool x12_5 ∧ Aside0 (sentryref4_Legal.j1 kq a0 a1 x12_5 = some r) ∧ Aside0 (kq ≤ kj2) ∧ Drawn0 w wc)
    case first =>
     have H := HC6.out
     clear HC6
     by_cases c7 : a1 = 1
     ·rw [if_pos c7] at H
      have c7b0 : (a1 == 1) = true := beq_iff_eq.mpr c7
      have c7b1 : (a1 != 1) = false := bne_eq_false_iff_eq.mpr c7
      clear c7
      (first | rw [c7b0] | (simp only [i64_w, i32_w]; rw [c7b0]) | skip)
      have H' := Aside0.mk H
      clear H
      go_wp2
      go_meet
      case rel => exact ⟨_, ((a1 == 1)), (by first | rfl | (simp; done) | (simp [*]; done)), H', ⟨by have := HJ2.out; first | omega | exact Nat.le_refl _⟩, by repeat (first | exact Drawn0.refl _ | apply Drawn0.step)⟩
     ·rw [if_neg c7] at H
      have c7b0 : (a1 == 1) = false := beq_eq_false_iff_ne.mpr c7
      have c7b1 : (a1 != 1) = true := bne_iff_ne.mpr c7
      (first | rw [c7b0] | (simp only [i64_w, i32_w]; rw [c7b0]) | skip)
      have H' := Aside0.mk H
      clear H
      go_wp2
      go_meet
      case rel => exact ⟨_, ((a1 == 5)), (by first | rfl | (simp; done) | (simp [*]; done)), H', ⟨by have := HJ2.out; first | omega | exact Nat.le_refl _⟩, by repeat (first | exact Drawn0.refl _ | apply Drawn0.step)⟩
    case rest =>
     clear HC6
     (try clear c2); (try clear p2); (try clear c4); (try clear c4b0); (try clear c5); (try clear c7); (try clear c7b0); (try clear c7b1); (try clear p2)
     obtain ⟨kq, x12_5, rfl, HA, HJ5, ⟨mc5, rfl⟩⟩ := hcut
     cases kq with
     | zero => exact absurd HA.out (by simp [sentryref4_Legal.j1])
     | succ kj5 =>
      have H := HA.out
      clear HA
      simp only [sentryref4_Legal.j1] at H
      by_cases c8 : x12_5 = true
      ·subst c8
       have H1 : (some true) = some r := by rw [if_pos rfl] at H; exact H
       clear H
       have H := H1
       clear H1
       obtain rfl := Option.some.inj H
       go_wp2
       go_ret
       exact ⟨by first | rfl | (simp; done) | (simp [*]; done), by repeat (first | exact Drawn0.refl _ | apply Drawn0.step)⟩
      ·replace c8 := Bool.eq_false_iff.mpr c8
       subst c8
       have H1 : (if a1 = 2 then (sentryref4_Legal.j2 kj5 a0 a1 (a1 == 2)) else (sentryref4_Legal.j2 kj5 a0 a1 (a1 == 3))) = some r := by rw [if_neg (show ¬ (false = true) by decide)] at H; exact H
       clear H
       have H := H1
       clear H1
       have HC9 := Aside0.mk H
       clear H
       go_upto_if 15 with (fail)
       go_cut [15] (fun v15 wc => ∃ (kq : Nat) (x15_8 : Bool), v15 = .bool x15_8 ∧ Aside0 (sentryref4_Legal.j2 kq a0 a1 x15_8 = some r) ∧ Aside0 (kq ≤ kj5) ∧ Drawn0 w wc)
       case first =>
        have H := HC9.out
        clear HC9
        by_cases c10 : a1 = 2
        ·rw [if_pos c10] at H
         have c10b0 : (a1 == 2) = true := beq_iff_eq.mpr c10
         have c10b1 : (a1 != 2) = false := bne_eq_false_iff_eq.mpr c10
         clear c10
         (first | rw [c10b0] | (simp only [i64_w, i32_w]; rw [c10b0]) | skip)
         have H' := Aside0.mk H
         clear H
         go_wp2
         go_meet
         case rel => exact ⟨_, ((a1 == 2)), (by first | rfl | (simp; done) | (simp [*]; done)), H', ⟨by have := HJ2.out; have := HJ5.out; first | omega | exact Nat.le_refl _⟩, by repeat (first | exact Drawn0.refl _ | apply Drawn0.step)⟩
        ·rw [if_neg c10] at H
         have c10b0 : (a1 == 2) = false := beq_eq_false_iff_ne.mpr c10
         have c10b1 : (a1 != 2) = true := bne_iff_ne.mpr c10
         (first | rw [c10b0] | (simp only [i64_w, i32_w]; rw [c10b0]) | skip)
         have H' := Aside0.mk H
         clear H
         go_wp2
         go_meet
         case rel => exact ⟨_, ((a1 == 3)), (by first | rfl | (simp; done) | (simp [*]; done)), H', ⟨by have := HJ2.out; have := HJ5.out; first | omega | exact Nat.le_refl _⟩, by repeat (first | exact Drawn0.refl _ | apply Drawn0.step)⟩
       case rest =>
        clear HC9
        (try clear c1); (try clear c2); (try clear p2); (try clear c4); (try clear c4b0); (try clear c5); (try clear c7); (try clear c7b0); (try clear c7b1); (try clear c8); (try clear c10); (try clear c10b0); (try clear c10b1); (try clear p2)
        obtain ⟨kq, x15_8, rfl, HA, HJ8, ⟨mc8, rfl⟩⟩ := hcut
        cases kq with
        | zero => exact absurd HA.out (by simp [sentryref4_Legal.j2])
        | succ kj8 =>
         have H := HA.out
         clear HA
         simp only [sentryref4_Legal.j2] at H
         by_cases c11 : x15_8 = true
         ·subst c11
          have H1 : (some (decide (a0 ≤ 2))) = some r := by rw [if_pos rfl] at H; exact H
          clear H
          have H := H1
          clear H1
          obtain rfl := Option.some.inj H
          go_wp2
          go_ret
          exact ⟨by first | rfl | (simp; done) | (simp [*]; done), by repeat (first | exact Drawn0.refl _ | apply Drawn0.step)⟩
         ·replace c11 := Bool.eq_false_iff.mpr c11
          subst c11
          have H1 : (if a1 = 4 then (some (decide (a0 > 2))) else (some false)) = some r := by rw [if_neg (show ¬ (false = true) by decide)] at H; exact H
          clear H
          have H := H1
          clear H1
          by_cases c12 : a1 = 4
          ·rw [if_pos c12] at H
           have c12b0 : (a1 == 4) = true := beq_iff_eq.mpr c12
           have c12b1 : (a1 != 4) = false := bne_eq_false_iff_eq.mpr c12
           clear c12
           obtain rfl := Option.some.inj H
           go_wp2
           go_ret
           exact ⟨by first | rfl | (simp; done) | (simp [*]; done), by repeat (first | exact Drawn0.refl _ | apply Drawn0.step)⟩
          ·rw [if_neg c12] at H
           have c12b0 : (a1 == 4) = false := beq_eq_false_iff_ne.mpr c12
           have c12b1 : (a1 != 4) = true := bne_iff_ne.mpr c12
           obtain rfl := Option.some.inj H
           go_wp2
           go_ret
           exact ⟨by first | rfl | (simp; done) | (simp [*]; done), by repeat (first | exact Drawn0.refl _ | apply Drawn0.step)⟩
end Go.Proofs.Ytaiglhfmmdajdaa.Pm
end
section
namespace Go.Proofs.Ytaiglhfmmdajdaa.Pm
open Go.RowKit Go.Proofs.YtaiglhfmmdajdaaW.PrintWords Go.Proofs.YtaiglhfmmdajdaaW.PrintLast Go.Proofs.YtaiglhfmmdajdaaW.PrintMore
attribute [local go_sem] max2_int min2_int max_two min_two max_three min_three max_four min_four   -- for this text's walks alone
set_option linter.unusedVariables false
set_option linter.unusedSimpArgs false
def sentryref4_Op.l0 : Nat → ByteArray → List ByteArray → Int → Option (Int)
 | 0, _, _, _ => none
 | k + 1, x0, x3, x4 => if x4 < (x3.length : Int) then (if 0 ≤ x4 then (if (rdOf ByteArray.empty x3 x4).toList = x0.toList then (some x4) else (sentryref4_Op.l0 k x0 x3 (wrap64 (x4 + 1)))) else (none)) else (some (-1))
def sentryref4_Op.f (k : Nat) (a0 : ByteArray) : Option (Int) := sentryref4_Op.l0 k a0 (([(⟨#[60]⟩ : ByteArray), (⟨#[60, 61]⟩ : ByteArray), (⟨#[61]⟩ : ByteArray), (⟨#[33, 61]⟩ : ByteArray), (⟨#[62, 61]⟩ : ByteArray), (⟨#[62]⟩ : ByteArray)] : List ByteArray)) 0
theorem sentryref4_Op.mono_l : ∀ k, (∀ y0 y1 y2, LeO (sentryref4_Op.l0 k y0 y1 y2) (sentryref4_Op.l0 (k + 1) y0 y1 y2))
 | 0 => fun _ _ _ r h => by simp [sentryref4_Op.l0] at h
 | k + 1 => by
  have ih0 := sentryref4_Op.mono_l k
  ·intro y0 y1 y2
   unfold sentryref4_Op.l0
   repeat' first
   | (with_reducible exact ih0 _ _ _)
   | (with_reducible exact LeO.refl _)
   | (with_reducible exact LeO.none _)
   | (with_reducible refine LeO.ite ?_ ?_)
   | (with_reducible refine LeO.bind ?_ (fun _ => ?_))
   | exact ih0 _ _ _
   | exact LeO.none _
   | refine LeO.ite ?_ ?_
   | refine LeO.bind ?_ (fun _ => ?_)
theorem sentryref4_Op.mono : ∀ a0 k, LeO (sentryref4_Op.f k a0) (sentryref4_Op.f (k + 1) a0) := by
 intro a0 k
 have ih0 := sentryref4_Op.mono_l k
 unfold sentryref4_Op.f
 repeat' first
   | (with_reducible exact ih0 _ _ _)
   | (with_reducible exact LeO.refl _)
   | (with_reducible exact LeO.none _)
   | (with_reducible refine LeO.ite ?_ ?_)
   | (with_reducible refine LeO.bind ?_ (fun _ => ?_))
   | exact ih0 _ _ _
   | exact LeO.none _
   | refine LeO.ite ?_ ?_
   | refine LeO.bind ?_ (fun _ => ?_)
set_option maxHeartbeats 8000000 in
set_option maxRecDepth 100000 in
theorem sentryref4_Op.calls (k : Nat) (a0 : ByteArray) (r : Int) (w : World) (h : sentryref4_Op.f k a0 = some r) :
  Calls Try.prog 75 #[.string a0] w fun e w' => e = .returned (.int .i64 r) ∧ Below w.heap.size w w' := by
 have HB := Aside0.mk (Below.refl w.heap.size w)
 have H : (sentryref4_Op.l0 k a0 (([(⟨#[60]⟩ : ByteArray), (⟨#[60, 61]⟩ : ByteArray), (⟨#[61]⟩ : ByteArray), (⟨#[33, 61]⟩ : ByteArray), (⟨#[62, 61]⟩ : ByteArray), (⟨#[62]⟩ : ByteArray)] : List ByteArray)) 0) = some r := h
 clear h
 obtain ⟨y124, hy124⟩ : ∃ y_ : List ByteArray, y_ = (([(⟨#[60]⟩ : ByteArray), (⟨#[60, 61]⟩ : ByteArray), (⟨#[61]⟩ : ByteArray), (⟨#[33, 61]⟩ : ByteArray), (⟨#[62, 61]⟩ : ByteArray), (⟨#[62]⟩ : ByteArray)] : List ByteArray)) := ⟨_, rfl⟩
 replace H : (sentryref4_Op.l0 k a0 y124 0) = some r := by first | (rw [hy124]; with_reducible exact H) | (have H2_ := (Option.bind_some _ _).symm.trans H; rw [hy124]; with_reducible exact H2_) | (have H2_ := (Option.bind_some _ _).symm.trans H; with_reducible exact H2_) | with_reducible exact H | (rw [hy124]; exact H) | exact H
 have Ny124 := Aside0.mk hy124
 clear hy124
 have H' := Aside0.mk H
 clear H
 go_enter Try.func75, Try.ntmps75
 go_wp2_with (first | ((with_reducible refine gate_dst (N := 5) rfl ?_); refine Kd.R_lit Kd.string _ 9 ?hg (N := 5) ?hd (xs := ([(⟨#[60]⟩ : ByteArray), (⟨#[60, 61]⟩ : ByteArray), (⟨#[61]⟩ : ByteArray), (⟨#[33, 61]⟩ : ByteArray), (⟨#[62, 61]⟩ : ByteArray), (⟨#[62]⟩ : ByteArray)] : List ByteArray)) (inner := [.string (⟨#[60]⟩ : ByteArray), .string (⟨#[60, 61]⟩ : ByteArray), .string (⟨#[61]⟩ : ByteArray), .string (⟨#[33, 61]⟩ : ByteArray), .string (⟨#[62, 61]⟩ : ByteArray), .string (⟨#[62]⟩ : ByteArray)]) (ok := fun _ => True) (okp := fun _ => True) ?hr ?hp (fun _ hk => hk) trivial (Below.refl _ _) (Nat.le_refl _) (by simp) ?_; (case hd => rfl); (case hg => rfl); (case hr => first | (go_simp; done) | (go_simp; rfl)); (case hp => exact (Reps.one (show Kd.M Kd.string _ _ _ (⟨#[60]⟩ : ByteArray) [.string (⟨#[60]⟩ : ByteArray)] from rfl) (Reps.one (show Kd.M Kd.string _ _ _ (⟨#[60, 61]⟩ : ByteArray) [.string (⟨#[60, 61]⟩ : ByteArray)] from rfl) (Reps.one (show Kd.M Kd.string _ _ _ (⟨#[61]⟩ : ByteArray) [.string (⟨#[61]⟩ : ByteArray)] from rfl) (Reps.one (show Kd.M Kd.string _ _ _ (⟨#[33, 61]⟩ : ByteArray) [.string (⟨#[33, 61]⟩ : ByteArray)] from rfl) (Reps.one (show Kd.M Kd.string _ _ _ (⟨#[62, 61]⟩ : ByteArray) [.string (⟨#[62, 61]⟩ : ByteArray)] from rfl) (Reps.one (show Kd.M Kd.string _ _ _ (⟨#[62]⟩ : ByteArray) [.string (⟨#[62]⟩ : ByteArray)] from rfl) (Reps.none _ _)))))))); intro v125 w2 ho3 hb hg_ hnew_; clear hg_ hnew_; (first | rw [← Ny124.out] at ho3 | (simp only [Int.reduceToNat] at ho3; rw [← Ny124.out] at ho3)); have n0_ := Aside0.mk (Kd.R_lower ho3 (below_size (by repeat (first | (with_reducible first | exact HB.out | apply below_alloc | apply pw_below_drewN | apply below_drew1) | exact HB.out)))); have n1_ := hb_ HB hb; clear HB; have HO126 := n0_; have HB := n1_; clear n0_ n1_; clear hb ho3))
 go_loopg [4] k (fun kq v4 w' => ∃ (x4_1 : Int), v4 = .int .i64 x4_1 ∧ Aside0 (sentryref4_Op.l0 kq a0 y124 x4_1 = some r) ∧ Aside0 (kq ≤ k) ∧ Aside0 (Kd.R Kd.string 9 w' w.heap.size (fun _ => True) v125 y124) ∧ Aside0 (Below w.heap.size w w'))
 case atStart => exact ⟨(0), (by first | rfl | (simp; done) | (simp [*]; done)), H', ⟨Nat.le_refl _⟩, ⟨by (with_reducible repeat (first | apply Kd.R_alloc | apply Kd.R_drewN | apply Kd.R_drew)); exact HO126.out⟩, ⟨hf_⟩⟩
 case round =>
  clear H'
  try clear p2
  obtain ⟨x4_1, rfl, HA, HK1, HO_3, HB⟩ := hrel
  cases gk with
  | zero => exact absurd HA.out (by simp [sentryref4_Op.l0])
  | succ k1 =>
   have H := HA.out
   clear HA
   simp only [sentryref4_Op.l0] at H
   by_cases c4 : x4_1 < (y124.length : Int)
   ·rw [if_pos c4] at H
    have c4b0 : decide (x4_1 < (y124.length : Int)) = true := decide_eq_true c4
    clear c4
    by_cases c5 : 0 ≤ x4_1
    ·rw [if_pos c5] at H
     have c5b0 : decide (0 ≤ x4_1) = true := decide_eq_true c5
     clear c5
     by_cases c6 : (rdOf ByteArray.empty y124 x4_1).toList = a0.toList
     ·rw [if_pos c6] at H
      have c6b0 : ((rdOf ByteArray.empty y124 x4_1).toList == a0.toList) = true := beq_iff_eq.mpr c6
      have c6b1 : ((rdOf ByteArray.empty y124 x4_1).toList != a0.toList) = false := bne_eq_false_iff_eq.mpr c6
      clear c6
      obtain rfl := Option.some.inj H
      obtain ⟨Ao7, co7, eo7⟩ := Kd.R_slice HO_3.out
      subst eo7
      have p127 : 0 ≤ (x4_1 : Int) := od_
      have q127 : x4_1 < (y124.length : Int) := od_
      obtain ⟨ad127, e127, hx127_0⟩ := Kd.at_string (Kd.R_reads' HO_3.out).2.2 x4_1 p127 q127
      cases e127
      replace p127 := eq_true p127
      replace q127 := eq_true q127
      go_wp2
      go_ret
      exact ⟨er_, hf_⟩
     ·rw [if_neg c6] at H
      have c6b0 : ((rdOf ByteArray.empty y124 x4_1).toList == a0.toList) = false := beq_eq_false_iff_ne.mpr c6
      have c6b1 : ((rdOf ByteArray.empty y124 x4_1).toList != a0.toList) = true := bne_iff_ne.mpr c6
      have H' := Aside0.mk H
      clear H
      obtain ⟨Ao8, co8, eo8⟩ := Kd.R_slice HO_3.out
      subst eo8
      have p127 : 0 ≤ (x4_1 : Int) := od_
      have q127 : x4_1 < (y124.length : Int) := od_
      obtain ⟨ad127, e127, hx127_0⟩ := Kd.at_string (Kd.R_reads' HO_3.out).2.2 x4_1 p127 q127
      cases e127
      replace p127 := eq_true p127
      replace q127 := eq_true q127
      go_wp2
      go_roundg k1
      case measure => have := HK1.out; omega
      case rel => exact ⟨(wrap64 (x4_1 + 1)), (by first | rfl | (simp; done) | (simp [*]; done)), H', ⟨by have := HK1.out; omega⟩, ⟨by (with_reducible repeat (first | apply Kd.R_alloc | apply Kd.R_drewN | apply Kd.R_drew)); exact HO_3.out⟩, ⟨hf_⟩⟩
    ·rw [if_neg c5] at H
     exact absurd H (by simp)
   ·rw [if_neg c4] at H
    have c4b0 : decide (x4_1 < (y124.length : Int)) = false := decide_eq_false c4
    clear c4
    obtain rfl := Option.some.inj H
    obtain ⟨Ao9, co9, eo9⟩ := Kd.R_slice HO_3.out
    subst eo9
    go_wp2
    go_ret
    exact ⟨er_, hf_⟩
end Go.Proofs.Ytaiglhfmmdajdaa.Pm
end
