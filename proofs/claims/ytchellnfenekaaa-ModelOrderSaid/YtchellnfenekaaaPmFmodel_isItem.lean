-- written by gprint.py (a program of this session over the kit's print): Lean checks it
import Derived.Test.YtchellnfenekaaaPm0
import Derived.Test.YtchellnfenekaaaGSents
namespace Go.Proofs.Ytchellnfenekaaa.Pm
open Go.RowKit Go.Proofs.YtchellnfenekaaaW.PrintWords Go.Proofs.YtchellnfenekaaaW.PrintLast Go.Proofs.YtchellnfenekaaaW.PrintMore
attribute [local go_sem] max2_int min2_int max_two min_two max_three min_three max_four min_four   -- for this text's walks alone
set_option linter.unusedVariables false
set_option linter.unusedSimpArgs false

/-! ### model_isItem: function 38 -/
def model_isItem.j0 : Nat → Bool → ByteArray → Int → ByteArray → Bool → Int → List (S29) → List (S29) → Option (Bool)
  | 0, _, _, _, _, _, _, _, _ => none
  | k + 1, x29, x429000, x429001, x429002, x429003, x429004, x429005, x429006 => if x29 = true then (some false) else (if x429001 = 5 then (if x429001 = 4 then (if x429004 ≥ 1 then (if x429004 ≤ 100 then (if x429003 = true then (some (!true)) else (some (!(decide ((x429005.length : Int) > 0))))) else (some false)) else (some false)) else (if x429004 ≥ 1 then (if x429004 ≤ 100 then (if x429003 = true then (some (!true)) else (some (!(decide ((x429005.length : Int) > 0))))) else (some false)) else (some false))) else (if x429001 = 4 then (if x429004 ≥ 0 then (if x429004 ≤ 0 then (if x429003 = true then (some (!true)) else (some (!(decide ((x429005.length : Int) > 0))))) else (some false)) else (some false)) else (if x429004 ≥ 0 then (if x429004 ≤ 0 then (some (!false)) else (some false)) else (some false))))
def model_isItem.f (k : Nat) (l0_0 : List ByteArray) (l0_1 : List (S32)) (a1_0 : ByteArray) (a1_1 : Int) (a1_2 : ByteArray) (a1_3 : Bool) (a1_4 : Int) (l1_5 : List (S29)) (l1_6 : List (S29)) : Option (Bool) := if a1_1 < 1 then (model_isItem.j0 k true a1_0 a1_1 a1_2 a1_3 a1_4 l1_5 l1_6) else (if a1_1 > 5 then (model_isItem.j0 k true a1_0 a1_1 a1_2 a1_3 a1_4 l1_5 l1_6) else ((model_areSentries.f l0_0 l0_1 l1_5).bind fun t429 => (if t429 = true then ((model_areSentries.f l0_0 l0_1 l1_6).bind fun t430 => (model_isItem.j0 k (!t430) a1_0 a1_1 a1_2 a1_3 a1_4 l1_5 l1_6)) else (model_isItem.j0 k true a1_0 a1_1 a1_2 a1_3 a1_4 l1_5 l1_6))))
theorem model_isItem.mono_l : ∀ k, (∀ y0 y1 y2 y3 y4 y5 y6 y7, LeO (model_isItem.j0 k y0 y1 y2 y3 y4 y5 y6 y7) (model_isItem.j0 (k + 1) y0 y1 y2 y3 y4 y5 y6 y7))
  | 0 => fun _ _ _ _ _ _ _ _ r h => by simp [model_isItem.j0] at h
  | k + 1 => by
    have ih0 := model_isItem.mono_l k
    · intro y0 y1 y2 y3 y4 y5 y6 y7
      unfold model_isItem.j0
      repeat' first
      | (with_reducible exact ih0 _ _ _ _ _ _ _ _)
      | (with_reducible exact LeO.refl _)
      | (with_reducible exact LeO.none _)
      | (with_reducible refine LeO.ite ?_ ?_)
      | (with_reducible refine LeO.bind ?_ (fun _ => ?_))
      | exact ih0 _ _ _ _ _ _ _ _
      | exact LeO.none _
      | refine LeO.ite ?_ ?_
      | refine LeO.bind ?_ (fun _ => ?_)
theorem model_isItem.mono : ∀ a0 a1 a2 a3 a4 a5 a6 a7 a8 k, LeO (model_isItem.f k a0 a1 a2 a3 a4 a5 a6 a7 a8) (model_isItem.f (k + 1) a0 a1 a2 a3 a4 a5 a6 a7 a8) := by
  intro a0 a1 a2 a3 a4 a5 a6 a7 a8 k
  have ih0 := model_isItem.mono_l k
  unfold model_isItem.f
  repeat' first
      | (with_reducible exact ih0 _ _ _ _ _ _ _ _)
      | (with_reducible exact LeO.refl _)
      | (with_reducible exact LeO.none _)
      | (with_reducible refine LeO.ite ?_ ?_)
      | (with_reducible refine LeO.bind ?_ (fun _ => ?_))
      | exact ih0 _ _ _ _ _ _ _ _
      | exact LeO.none _
      | refine LeO.ite ?_ ?_
      | refine LeO.bind ?_ (fun _ => ?_)
set_option maxHeartbeats 8000000 in
set_option maxRecDepth 100000 in
theorem model_isItem.calls (k : Nat) (A0_0 : Option Addr) (c0_0 : Nat) (l0_0 : List ByteArray) (A0_1 : Option Addr) (c0_1 : Nat) (l0_1 : List (S32)) (a1_0 : ByteArray) (a1_1 : Int) (a1_2 : ByteArray) (a1_3 : Bool) (a1_4 : Int) (A1_5 : Option Addr) (c1_5 : Nat) (l1_5 : List (S29)) (A1_6 : Option Addr) (c1_6 : Nat) (l1_6 : List (S29)) (r : Bool) (w : World) (hr0_0 : Kd.C Kd.string w A0_0 l0_0.length l0_0) (hc0_0 : l0_0.length ≤ c0_0) (hr0_1 : Kd.C k32 w A0_1 l0_1.length l0_1) (hc0_1 : l0_1.length ≤ c0_1) (hr1_5 : Kd.C k29 w A1_5 l1_5.length l1_5) (hc1_5 : l1_5.length ≤ c1_5) (hr1_6 : Kd.C k29 w A1_6 l1_6.length l1_6) (hc1_6 : l1_6.length ≤ c1_6) (h : model_isItem.f k l0_0 l0_1 a1_0 a1_1 a1_2 a1_3 a1_4 l1_5 l1_6 = some r) :
    Calls Try.prog 38 #[.agg #[.slice A0_0 l0_0.length c0_0, .slice A0_1 l0_1.length c0_1], .agg #[.string a1_0, .int .i64 a1_1, .string a1_2, .bool a1_3, .int .i64 a1_4, .slice A1_5 l1_5.length c1_5, .slice A1_6 l1_6.length c1_6]] w fun e w' => e = .returned (.bool r) ∧ Below w.heap.size w w' := by
  have hu36 := Try.underlying36
  have hu32 := Try.underlying32
  have HR0_0 := Aside0.mk hr0_0
  have HC0_0 := Aside0.mk hc0_0
  clear hr0_0 hc0_0
  have HR0_1 := Aside0.mk hr0_1
  have HC0_1 := Aside0.mk hc0_1
  clear hr0_1 hc0_1
  have HR1_5 := Aside0.mk hr1_5
  have HC1_5 := Aside0.mk hc1_5
  clear hr1_5 hc1_5
  have HR1_6 := Aside0.mk hr1_6
  have HC1_6 := Aside0.mk hc1_6
  clear hr1_6 hc1_6
  have HB := Aside0.mk (Below.refl w.heap.size w)
  have H : (if a1_1 < 1 then (model_isItem.j0 k true a1_0 a1_1 a1_2 a1_3 a1_4 l1_5 l1_6) else (if a1_1 > 5 then (model_isItem.j0 k true a1_0 a1_1 a1_2 a1_3 a1_4 l1_5 l1_6) else ((model_areSentries.f l0_0 l0_1 l1_5).bind fun t429 => (if t429 = true then ((model_areSentries.f l0_0 l0_1 l1_6).bind fun t430 => (model_isItem.j0 k (!t430) a1_0 a1_1 a1_2 a1_3 a1_4 l1_5 l1_6)) else (model_isItem.j0 k true a1_0 a1_1 a1_2 a1_3 a1_4 l1_5 l1_6))))) = some r := h
  clear h
  have HC3 := Aside0.mk H
  clear H
  go_enter Try.func38, Try.ntmps38
  go_upto_region 1 with (first | ((with_reducible refine gate_dst (N := 2) rfl ?_); (try (refine gate_guard (by rfl) ?_; dsimp only)); refine box_event ?hg (N := 2) ?hd (cs := #[.slice A0_0 l0_0.length c0_0, .slice A0_1 l0_1.length c0_1]) (t := 36) ?hr ?_; (case hd => rfl); (case hg => rfl); (case hr => first | (go_simp; done) | (go_simp; rfl)); intro gb427 hg w4 hbox hb; have n0_ := Aside0.mk (below_step (by repeat (first | (with_reducible first | exact HB.out | apply below_alloc | apply pw_below_drewN | apply below_drew1) | exact HB.out)) hb); have n1_ := Aside0.mk (hbox); have n2_ := Aside0.mk ((by rw [hg]; exact (below_size (by repeat (first | (with_reducible first | exact HB.out | apply below_alloc | apply pw_below_drewN | apply below_drew1) | exact HB.out))) : w.heap.size ≤ gb427)); have n3_ := Aside0.mk ((by rw [hg]; exact (below_size (by repeat (first | (with_reducible first | exact HB.out | apply below_alloc | apply pw_below_drewN | apply below_drew1) | exact HB.out))) : w.heap.size ≤ gb427)); clear HB; have HB := n0_; have BK427 := n1_; have GW427 := n2_; have GE427 := n3_; clear n0_ n1_ n2_ n3_; clear hb hbox hg) | ((with_reducible refine gate_dst (N := 3) rfl ?_); (try (refine gate_guard (by rfl) ?_; dsimp only)); refine box_event ?hg (N := 3) ?hd (cs := #[.string a1_0, .int .i64 a1_1, .string a1_2, .bool a1_3, .int .i64 a1_4, .slice A1_5 l1_5.length c1_5, .slice A1_6 l1_6.length c1_6]) (t := 32) ?hr ?_; (case hd => rfl); (case hg => rfl); (case hr => first | (go_simp; done) | (go_simp; rfl)); intro gb428 hg w5 hbox hb; have n0_ := Aside0.mk (blk_below (g := gb427) (o := .cells #[.slice A0_0 l0_0.length c0_0, .slice A0_1 l0_1.length c0_1] 36 (0, 0)) (by (with_reducible repeat (first | refine blk_drewN ?_ _ | refine blk_drew ?_ | refine blk_alloc ?_ _)); exact BK427.out) hb); have n1_ := Aside0.mk (below_step (by repeat (first | (with_reducible first | exact HB.out | apply below_alloc | apply pw_below_drewN | apply below_drew1 | refine below_set ?_ GE427.out) | exact HB.out)) hb); have n2_ := Aside0.mk (hbox); have n3_ := Aside0.mk ((by rw [hg]; exact (below_size (by repeat (first | (with_reducible first | exact HB.out | apply below_alloc | apply pw_below_drewN | apply below_drew1 | refine below_set ?_ GE427.out) | exact HB.out))) : w.heap.size ≤ gb428)); have n4_ := Aside0.mk ((by rw [hg]; exact (below_size (by repeat (first | (with_reducible first | exact HB.out | apply below_alloc | apply pw_below_drewN | apply below_drew1 | refine below_set ?_ GE427.out) | exact HB.out))) : w.heap.size ≤ gb428)); have n5_ := Aside0.mk ((by rw [hg]; exact Nat.ne_of_lt (blk_lt (g := gb427) (o := .cells #[.slice A0_0 l0_0.length c0_0, .slice A0_1 l0_1.length c0_1] 36 (0, 0)) (by (with_reducible repeat (first | refine blk_drewN ?_ _ | refine blk_drew ?_ | refine blk_alloc ?_ _)); exact BK427.out)) : gb427 ≠ gb428)); have n6_ := Aside0.mk ((by rw [hg]; exact Nat.ne_of_gt (blk_lt (g := gb427) (o := .cells #[.slice A0_0 l0_0.length c0_0, .slice A0_1 l0_1.length c0_1] 36 (0, 0)) (by (with_reducible repeat (first | refine blk_drewN ?_ _ | refine blk_drew ?_ | refine blk_alloc ?_ _)); exact BK427.out)) : gb428 ≠ gb427)); clear BK427; clear HB; have BK427 := n0_; have HB := n1_; have BK428 := n2_; have GW428 := n3_; have GE428 := n4_; have NB427_428 := n5_; have NB428_427 := n6_; clear n0_ n1_ n2_ n3_ n4_ n5_ n6_; clear hb hbox hg))
  (try simp only [Act.put, List.setIfInBounds_toArray, List.set_cons_zero, List.set_cons_succ])
  go_cut [29] (fun v29 wc => ∃ (kq : Nat) (x29_2 : Bool), v29 = .bool x29_2 ∧ Aside0 (model_isItem.j0 kq x29_2 a1_0 a1_1 a1_2 a1_3 a1_4 l1_5 l1_6 = some r) ∧ Aside0 (kq ≤ k) ∧ Aside0 (wc.heap[gb427]? = some (.cells #[(.slice A0_0 l0_0.length c0_0), (.slice A0_1 l0_1.length c0_1)] 36 (0, 0))) ∧ Aside0 (wc.heap[gb428]? = some (.cells #[.string a1_0, .int .i64 a1_1, .string a1_2, .bool a1_3, .int .i64 a1_4, (.slice A1_5 l1_5.length c1_5), (.slice A1_6 l1_6.length c1_6)] 32 (0, 0))) ∧ Aside0 (Below w.heap.size w wc))
  case first =>
    have H := HC3.out
    clear HC3
    by_cases c6 : a1_1 < 1
    · rw [if_pos c6] at H
      have c6b0 : decide (a1_1 < 1) = true := decide_eq_true c6
      clear c6
      (first | rw [c6b0] | (simp only [i64_w, i32_w]; rw [c6b0]) | skip)
      have H' := Aside0.mk H
      clear H
      have hnb7 := NB428_427.out
      have hnc7 := NB427_428.out
      have hcz8_0 : w5.cell? ⟨gb428, 0, none⟩ = some (.string a1_0) := (blk_cell BK428.out 0).trans rfl
      have hcz8_1 : w5.cell? ⟨gb428, 1, none⟩ = some (.int .i64 a1_1) := (blk_cell BK428.out 1).trans rfl
      have hcz8_2 : w5.cell? ⟨gb428, 2, none⟩ = some (.string a1_2) := (blk_cell BK428.out 2).trans rfl
      have hcz8_3 : w5.cell? ⟨gb428, 3, none⟩ = some (.bool a1_3) := (blk_cell BK428.out 3).trans rfl
      have hcz8_4 : w5.cell? ⟨gb428, 4, none⟩ = some (.int .i64 a1_4) := (blk_cell BK428.out 4).trans rfl
      have hcz8_5 : w5.cell? ⟨gb428, 5, none⟩ = some (.slice A1_5 l1_5.length c1_5) := (blk_cell BK428.out 5).trans rfl
      have hcz8_6 : w5.cell? ⟨gb428, 6, none⟩ = some (.slice A1_6 l1_6.length c1_6) := (blk_cell BK428.out 6).trans rfl
      have hfz8_0 := blk_frozen BK428.out 0
      have hfz8_1 := blk_frozen BK428.out 1
      have hfz8_2 := blk_frozen BK428.out 2
      have hfz8_3 := blk_frozen BK428.out 3
      have hfz8_4 := blk_frozen BK428.out 4
      have hfz8_5 := blk_frozen BK428.out 5
      have hfz8_6 := blk_frozen BK428.out 6
      go_wp2
      go_meet
      case rel => exact ⟨_, (true), (by first | rfl | (simp; done) | (simp [*]; done)), H', ⟨by first | omega | exact Nat.le_refl _⟩, ⟨by (with_reducible repeat (first | refine blk_drewN ?_ _ | refine blk_drew ?_ | refine blk_alloc ?_ _)); exact BK427.out⟩, ⟨by (with_reducible repeat (first | refine blk_drewN ?_ _ | refine blk_drew ?_ | refine blk_alloc ?_ _)); exact BK428.out⟩, ⟨by repeat (first | (with_reducible first | exact HB.out | apply below_alloc | apply pw_below_drewN | apply below_drew1 | refine below_set ?_ GE427.out | refine below_set ?_ GE428.out) | exact HB.out)⟩⟩
    · rw [if_neg c6] at H
      have c6b0 : decide (a1_1 < 1) = false := decide_eq_false c6
      clear c6
      (first | rw [c6b0] | (simp only [i64_w, i32_w]; rw [c6b0]) | skip)
      by_cases c9 : a1_1 > 5
      · rw [if_pos c9] at H
        have c9b0 : decide (5 < a1_1) = true := decide_eq_true c9
        clear c9
        have H' := Aside0.mk H
        clear H
        have hnb10 := NB428_427.out
        have hnc10 := NB427_428.out
        have hcz11_0 : w5.cell? ⟨gb428, 0, none⟩ = some (.string a1_0) := (blk_cell BK428.out 0).trans rfl
        have hcz11_1 : w5.cell? ⟨gb428, 1, none⟩ = some (.int .i64 a1_1) := (blk_cell BK428.out 1).trans rfl
        have hcz11_2 : w5.cell? ⟨gb428, 2, none⟩ = some (.string a1_2) := (blk_cell BK428.out 2).trans rfl
        have hcz11_3 : w5.cell? ⟨gb428, 3, none⟩ = some (.bool a1_3) := (blk_cell BK428.out 3).trans rfl
        have hcz11_4 : w5.cell? ⟨gb428, 4, none⟩ = some (.int .i64 a1_4) := (blk_cell BK428.out 4).trans rfl
        have hcz11_5 : w5.cell? ⟨gb428, 5, none⟩ = some (.slice A1_5 l1_5.length c1_5) := (blk_cell BK428.out 5).trans rfl
        have hcz11_6 : w5.cell? ⟨gb428, 6, none⟩ = some (.slice A1_6 l1_6.length c1_6) := (blk_cell BK428.out 6).trans rfl
        have hfz11_0 := blk_frozen BK428.out 0
        have hfz11_1 := blk_frozen BK428.out 1
        have hfz11_2 := blk_frozen BK428.out 2
        have hfz11_3 := blk_frozen BK428.out 3
        have hfz11_4 := blk_frozen BK428.out 4
        have hfz11_5 := blk_frozen BK428.out 5
        have hfz11_6 := blk_frozen BK428.out 6
        go_wp2
        go_meet
        case rel => exact ⟨_, (true), (by first | rfl | (simp; done) | (simp [*]; done)), H', ⟨by first | omega | exact Nat.le_refl _⟩, ⟨by (with_reducible repeat (first | refine blk_drewN ?_ _ | refine blk_drew ?_ | refine blk_alloc ?_ _)); exact BK427.out⟩, ⟨by (with_reducible repeat (first | refine blk_drewN ?_ _ | refine blk_drew ?_ | refine blk_alloc ?_ _)); exact BK428.out⟩, ⟨by repeat (first | (with_reducible first | exact HB.out | apply below_alloc | apply pw_below_drewN | apply below_drew1 | refine below_set ?_ GE427.out | refine below_set ?_ GE428.out) | exact HB.out)⟩⟩
      · rw [if_neg c9] at H
        have c9b0 : decide (5 < a1_1) = false := decide_eq_false c9
        clear c9
        replace H := Option.bind_eq_some_iff.mp H
        obtain ⟨t429, A120, H⟩ := H
        replace H : (if t429 = true then ((model_areSentries.f l0_0 l0_1 l1_6).bind fun t430 => (model_isItem.j0 k (!t430) a1_0 a1_1 a1_2 a1_3 a1_4 l1_5 l1_6)) else (model_isItem.j0 k true a1_0 a1_1 a1_2 a1_3 a1_4 l1_5 l1_6)) = some r := H
        have A12 := Aside0.mk A120
        clear A120
        by_cases c13 : t429 = true
        · subst c13
          have H1 : ((model_areSentries.f l0_0 l0_1 l1_6).bind fun t430 => (model_isItem.j0 k (!t430) a1_0 a1_1 a1_2 a1_3 a1_4 l1_5 l1_6)) = some r := by rw [if_pos rfl] at H; exact H
          clear H
          have H := H1
          clear H1
          replace H := Option.bind_eq_some_iff.mp H
          obtain ⟨t430, A140, H⟩ := H
          replace H : (model_isItem.j0 k (!t430) a1_0 a1_1 a1_2 a1_3 a1_4 l1_5 l1_6) = some r := H
          have A14 := Aside0.mk A140
          clear A140
          have H' := Aside0.mk H
          clear H
          have hnb15 := NB428_427.out
          have hnc15 := NB427_428.out
          have hcz16_0 : w5.cell? ⟨gb428, 0, none⟩ = some (.string a1_0) := (blk_cell BK428.out 0).trans rfl
          have hcz16_1 : w5.cell? ⟨gb428, 1, none⟩ = some (.int .i64 a1_1) := (blk_cell BK428.out 1).trans rfl
          have hcz16_2 : w5.cell? ⟨gb428, 2, none⟩ = some (.string a1_2) := (blk_cell BK428.out 2).trans rfl
          have hcz16_3 : w5.cell? ⟨gb428, 3, none⟩ = some (.bool a1_3) := (blk_cell BK428.out 3).trans rfl
          have hcz16_4 : w5.cell? ⟨gb428, 4, none⟩ = some (.int .i64 a1_4) := (blk_cell BK428.out 4).trans rfl
          have hcz16_5 : w5.cell? ⟨gb428, 5, none⟩ = some (.slice A1_5 l1_5.length c1_5) := (blk_cell BK428.out 5).trans rfl
          have hcz16_6 : w5.cell? ⟨gb428, 6, none⟩ = some (.slice A1_6 l1_6.length c1_6) := (blk_cell BK428.out 6).trans rfl
          have hfz16_0 := blk_frozen BK428.out 0
          have hfz16_1 := blk_frozen BK428.out 1
          have hfz16_2 := blk_frozen BK428.out 2
          have hfz16_3 := blk_frozen BK428.out 3
          have hfz16_4 := blk_frozen BK428.out 4
          have hfz16_5 := blk_frozen BK428.out 5
          have hfz16_6 := blk_frozen BK428.out 6
          have hcz17_0 : w5.cell? ⟨gb427, 0, none⟩ = some (.slice A0_0 l0_0.length c0_0) := (blk_cell BK427.out 0).trans rfl
          have hcz17_1 : w5.cell? ⟨gb427, 1, none⟩ = some (.slice A0_1 l0_1.length c0_1) := (blk_cell BK427.out 1).trans rfl
          have hfz17_0 := blk_frozen BK427.out 0
          have hfz17_1 := blk_frozen BK427.out 1
          go_wp2_with (first | (go_at_call 58; (with_reducible refine (model_areSentries.calls _ _ l0_0 _ _ l0_1 _ _ l1_5 true _ ?side1 ?side2 ?side3 ?side4 ?side5 ?side6 A12.out).mono ?_); (case side1 => repeat (first | exact (Kd.C_below HR0_0.out HB.out) | (with_reducible refine Kd.C_alloc ?_ _) | (with_reducible refine Kd.C_drewN ?_ _) | (with_reducible refine Kd.C_drew ?_))); (case side2 => exact HC0_0.out); (case side3 => repeat (first | exact (Kd.C_below HR0_1.out HB.out) | (with_reducible refine Kd.C_alloc ?_ _) | (with_reducible refine Kd.C_drewN ?_ _) | (with_reducible refine Kd.C_drew ?_))); (case side4 => exact HC0_1.out); (case side5 => repeat (first | exact (Kd.C_below HR1_5.out HB.out) | (with_reducible refine Kd.C_alloc ?_ _) | (with_reducible refine Kd.C_drewN ?_ _) | (with_reducible refine Kd.C_drew ?_))); (case side6 => exact HC1_5.out); rintro e w18 ⟨rfl, hb⟩; have n0_ := Aside0.mk (blk_below (g := gb427) (o := .cells #[.slice A0_0 l0_0.length c0_0, .slice A0_1 l0_1.length c0_1] 36 (0, 0)) (by (with_reducible repeat (first | refine blk_drewN ?_ _ | refine blk_drew ?_ | refine blk_alloc ?_ _)); exact BK427.out) hb); have n1_ := Aside0.mk (blk_below (g := gb428) (o := .cells #[.string a1_0, .int .i64 a1_1, .string a1_2, .bool a1_3, .int .i64 a1_4, .slice A1_5 l1_5.length c1_5, .slice A1_6 l1_6.length c1_6] 32 (0, 0)) (by (with_reducible repeat (first | refine blk_drewN ?_ _ | refine blk_drew ?_ | refine blk_alloc ?_ _)); exact BK428.out) hb); have n2_ := Aside0.mk (below_step (by repeat (first | (with_reducible first | exact HB.out | apply below_alloc | apply pw_below_drewN | apply below_drew1 | refine below_set ?_ GE427.out | refine below_set ?_ GE428.out) | exact HB.out)) hb); clear BK427; clear BK428; clear HB; have BK427 := n0_; have BK428 := n1_; have HB := n2_; clear n0_ n1_ n2_; (try clear hb); (try clear hb2); (try clear hk); (try clear hi); have hcz19_0 : w18.cell? ⟨gb427, 0, none⟩ = some (.slice A0_0 l0_0.length c0_0) := (blk_cell BK427.out 0).trans rfl; have hcz19_1 : w18.cell? ⟨gb427, 1, none⟩ = some (.slice A0_1 l0_1.length c0_1) := (blk_cell BK427.out 1).trans rfl; have hfz19_0 := blk_frozen BK427.out 0; have hfz19_1 := blk_frozen BK427.out 1; have hcz20_0 : w18.cell? ⟨gb428, 0, none⟩ = some (.string a1_0) := (blk_cell BK428.out 0).trans rfl; have hcz20_1 : w18.cell? ⟨gb428, 1, none⟩ = some (.int .i64 a1_1) := (blk_cell BK428.out 1).trans rfl; have hcz20_2 : w18.cell? ⟨gb428, 2, none⟩ = some (.string a1_2) := (blk_cell BK428.out 2).trans rfl; have hcz20_3 : w18.cell? ⟨gb428, 3, none⟩ = some (.bool a1_3) := (blk_cell BK428.out 3).trans rfl; have hcz20_4 : w18.cell? ⟨gb428, 4, none⟩ = some (.int .i64 a1_4) := (blk_cell BK428.out 4).trans rfl; have hcz20_5 : w18.cell? ⟨gb428, 5, none⟩ = some (.slice A1_5 l1_5.length c1_5) := (blk_cell BK428.out 5).trans rfl; have hcz20_6 : w18.cell? ⟨gb428, 6, none⟩ = some (.slice A1_6 l1_6.length c1_6) := (blk_cell BK428.out 6).trans rfl; have hfz20_0 := blk_frozen BK428.out 0; have hfz20_1 := blk_frozen BK428.out 1; have hfz20_2 := blk_frozen BK428.out 2; have hfz20_3 := blk_frozen BK428.out 3; have hfz20_4 := blk_frozen BK428.out 4; have hfz20_5 := blk_frozen BK428.out 5; have hfz20_6 := blk_frozen BK428.out 6) | (go_at_call 58; (with_reducible refine (model_areSentries.calls _ _ l0_0 _ _ l0_1 _ _ l1_6 t430 _ ?side1 ?side2 ?side3 ?side4 ?side5 ?side6 A14.out).mono ?_); (case side1 => repeat (first | exact (Kd.C_below HR0_0.out HB.out) | (with_reducible refine Kd.C_alloc ?_ _) | (with_reducible refine Kd.C_drewN ?_ _) | (with_reducible refine Kd.C_drew ?_))); (case side2 => exact HC0_0.out); (case side3 => repeat (first | exact (Kd.C_below HR0_1.out HB.out) | (with_reducible refine Kd.C_alloc ?_ _) | (with_reducible refine Kd.C_drewN ?_ _) | (with_reducible refine Kd.C_drew ?_))); (case side4 => exact HC0_1.out); (case side5 => repeat (first | exact (Kd.C_below HR1_6.out HB.out) | (with_reducible refine Kd.C_alloc ?_ _) | (with_reducible refine Kd.C_drewN ?_ _) | (with_reducible refine Kd.C_drew ?_))); (case side6 => exact HC1_6.out); rintro e w21 ⟨rfl, hb⟩; have n0_ := Aside0.mk (blk_below (g := gb427) (o := .cells #[.slice A0_0 l0_0.length c0_0, .slice A0_1 l0_1.length c0_1] 36 (0, 0)) (by (with_reducible repeat (first | refine blk_drewN ?_ _ | refine blk_drew ?_ | refine blk_alloc ?_ _)); exact BK427.out) hb); have n1_ := Aside0.mk (blk_below (g := gb428) (o := .cells #[.string a1_0, .int .i64 a1_1, .string a1_2, .bool a1_3, .int .i64 a1_4, .slice A1_5 l1_5.length c1_5, .slice A1_6 l1_6.length c1_6] 32 (0, 0)) (by (with_reducible repeat (first | refine blk_drewN ?_ _ | refine blk_drew ?_ | refine blk_alloc ?_ _)); exact BK428.out) hb); have n2_ := Aside0.mk (below_step (by repeat (first | (with_reducible first | exact HB.out | apply below_alloc | apply pw_below_drewN | apply below_drew1 | refine below_set ?_ GE427.out | refine below_set ?_ GE428.out) | exact HB.out)) hb); clear BK427; clear BK428; clear HB; have BK427 := n0_; have BK428 := n1_; have HB := n2_; clear n0_ n1_ n2_; (try clear hb); (try clear hb2); (try clear hk); (try clear hi)))
          go_meet
          case rel => exact ⟨_, (!t430), (by first | rfl | (simp; done) | (simp [*]; done)), H', ⟨by first | omega | exact Nat.le_refl _⟩, ⟨by (with_reducible repeat (first | refine blk_drewN ?_ _ | refine blk_drew ?_ | refine blk_alloc ?_ _)); exact BK427.out⟩, ⟨by (with_reducible repeat (first | refine blk_drewN ?_ _ | refine blk_drew ?_ | refine blk_alloc ?_ _)); exact BK428.out⟩, ⟨by repeat (first | (with_reducible first | exact HB.out | apply below_alloc | apply pw_below_drewN | apply below_drew1 | refine below_set ?_ GE427.out | refine below_set ?_ GE428.out) | exact HB.out)⟩⟩
        · replace c13 := Bool.eq_false_iff.mpr c13
          subst c13
          have H1 : (model_isItem.j0 k true a1_0 a1_1 a1_2 a1_3 a1_4 l1_5 l1_6) = some r := by rw [if_neg (show ¬ (false = true) by decide)] at H; exact H
          clear H
          have H := H1
          clear H1
          have H' := Aside0.mk H
          clear H
          have hnb22 := NB428_427.out
          have hnc22 := NB427_428.out
          have hcz23_0 : w5.cell? ⟨gb428, 0, none⟩ = some (.string a1_0) := (blk_cell BK428.out 0).trans rfl
          have hcz23_1 : w5.cell? ⟨gb428, 1, none⟩ = some (.int .i64 a1_1) := (blk_cell BK428.out 1).trans rfl
          have hcz23_2 : w5.cell? ⟨gb428, 2, none⟩ = some (.string a1_2) := (blk_cell BK428.out 2).trans rfl
          have hcz23_3 : w5.cell? ⟨gb428, 3, none⟩ = some (.bool a1_3) := (blk_cell BK428.out 3).trans rfl
          have hcz23_4 : w5.cell? ⟨gb428, 4, none⟩ = some (.int .i64 a1_4) := (blk_cell BK428.out 4).trans rfl
          have hcz23_5 : w5.cell? ⟨gb428, 5, none⟩ = some (.slice A1_5 l1_5.length c1_5) := (blk_cell BK428.out 5).trans rfl
          have hcz23_6 : w5.cell? ⟨gb428, 6, none⟩ = some (.slice A1_6 l1_6.length c1_6) := (blk_cell BK428.out 6).trans rfl
          have hfz23_0 := blk_frozen BK428.out 0
          have hfz23_1 := blk_frozen BK428.out 1
          have hfz23_2 := blk_frozen BK428.out 2
          have hfz23_3 := blk_frozen BK428.out 3
          have hfz23_4 := blk_frozen BK428.out 4
          have hfz23_5 := blk_frozen BK428.out 5
          have hfz23_6 := blk_frozen BK428.out 6
          have hcz24_0 : w5.cell? ⟨gb427, 0, none⟩ = some (.slice A0_0 l0_0.length c0_0) := (blk_cell BK427.out 0).trans rfl
          have hcz24_1 : w5.cell? ⟨gb427, 1, none⟩ = some (.slice A0_1 l0_1.length c0_1) := (blk_cell BK427.out 1).trans rfl
          have hfz24_0 := blk_frozen BK427.out 0
          have hfz24_1 := blk_frozen BK427.out 1
          go_wp2_with (first | (go_at_call 58; (with_reducible refine (model_areSentries.calls _ _ l0_0 _ _ l0_1 _ _ l1_5 false _ ?side1 ?side2 ?side3 ?side4 ?side5 ?side6 A12.out).mono ?_); (case side1 => repeat (first | exact (Kd.C_below HR0_0.out HB.out) | (with_reducible refine Kd.C_alloc ?_ _) | (with_reducible refine Kd.C_drewN ?_ _) | (with_reducible refine Kd.C_drew ?_))); (case side2 => exact HC0_0.out); (case side3 => repeat (first | exact (Kd.C_below HR0_1.out HB.out) | (with_reducible refine Kd.C_alloc ?_ _) | (with_reducible refine Kd.C_drewN ?_ _) | (with_reducible refine Kd.C_drew ?_))); (case side4 => exact HC0_1.out); (case side5 => repeat (first | exact (Kd.C_below HR1_5.out HB.out) | (with_reducible refine Kd.C_alloc ?_ _) | (with_reducible refine Kd.C_drewN ?_ _) | (with_reducible refine Kd.C_drew ?_))); (case side6 => exact HC1_5.out); rintro e w25 ⟨rfl, hb⟩; have n0_ := Aside0.mk (blk_below (g := gb427) (o := .cells #[.slice A0_0 l0_0.length c0_0, .slice A0_1 l0_1.length c0_1] 36 (0, 0)) (by (with_reducible repeat (first | refine blk_drewN ?_ _ | refine blk_drew ?_ | refine blk_alloc ?_ _)); exact BK427.out) hb); have n1_ := Aside0.mk (blk_below (g := gb428) (o := .cells #[.string a1_0, .int .i64 a1_1, .string a1_2, .bool a1_3, .int .i64 a1_4, .slice A1_5 l1_5.length c1_5, .slice A1_6 l1_6.length c1_6] 32 (0, 0)) (by (with_reducible repeat (first | refine blk_drewN ?_ _ | refine blk_drew ?_ | refine blk_alloc ?_ _)); exact BK428.out) hb); have n2_ := Aside0.mk (below_step (by repeat (first | (with_reducible first | exact HB.out | apply below_alloc | apply pw_below_drewN | apply below_drew1 | refine below_set ?_ GE427.out | refine below_set ?_ GE428.out) | exact HB.out)) hb); clear BK427; clear BK428; clear HB; have BK427 := n0_; have BK428 := n1_; have HB := n2_; clear n0_ n1_ n2_; (try clear hb); (try clear hb2); (try clear hk); (try clear hi)))
          go_meet
          case rel => exact ⟨_, (true), (by first | rfl | (simp; done) | (simp [*]; done)), H', ⟨by first | omega | exact Nat.le_refl _⟩, ⟨by (with_reducible repeat (first | refine blk_drewN ?_ _ | refine blk_drew ?_ | refine blk_alloc ?_ _)); exact BK427.out⟩, ⟨by (with_reducible repeat (first | refine blk_drewN ?_ _ | refine blk_drew ?_ | refine blk_alloc ?_ _)); exact BK428.out⟩, ⟨by repeat (first | (with_reducible first | exact HB.out | apply below_alloc | apply pw_below_drewN | apply below_drew1 | refine below_set ?_ GE427.out | refine below_set ?_ GE428.out) | exact HB.out)⟩⟩
  case rest =>
    clear HC3
    try clear c1
    try clear c2
    try clear p2
    try clear c3
    try clear c6
    try clear c6b0
    try clear c7
    try clear c9
    try clear c9b0
    try clear c10
    try clear c13
    try clear c15
    try clear c22
    try clear hcz11_0
    try clear hcz11_1
    try clear hcz11_2
    try clear hcz11_3
    try clear hcz11_4
    try clear hcz11_5
    try clear hcz11_6
    try clear hcz16_0
    try clear hcz16_1
    try clear hcz16_2
    try clear hcz16_3
    try clear hcz16_4
    try clear hcz16_5
    try clear hcz16_6
    try clear hcz17_0
    try clear hcz17_1
    try clear hcz19_0
    try clear hcz19_1
    try clear hcz20_0
    try clear hcz20_1
    try clear hcz20_2
    try clear hcz20_3
    try clear hcz20_4
    try clear hcz20_5
    try clear hcz20_6
    try clear hcz23_0
    try clear hcz23_1
    try clear hcz23_2
    try clear hcz23_3
    try clear hcz23_4
    try clear hcz23_5
    try clear hcz23_6
    try clear hcz24_0
    try clear hcz24_1
    try clear hcz8_0
    try clear hcz8_1
    try clear hcz8_2
    try clear hcz8_3
    try clear hcz8_4
    try clear hcz8_5
    try clear hcz8_6
    try clear hfz11_0
    try clear hfz11_1
    try clear hfz11_2
    try clear hfz11_3
    try clear hfz11_4
    try clear hfz11_5
    try clear hfz11_6
    try clear hfz16_0
    try clear hfz16_1
    try clear hfz16_2
    try clear hfz16_3
    try clear hfz16_4
    try clear hfz16_5
    try clear hfz16_6
    try clear hfz17_0
    try clear hfz17_1
    try clear hfz19_0
    try clear hfz19_1
    try clear hfz20_0
    try clear hfz20_1
    try clear hfz20_2
    try clear hfz20_3
    try clear hfz20_4
    try clear hfz20_5
    try clear hfz20_6
    try clear hfz23_0
    try clear hfz23_1
    try clear hfz23_2
    try clear hfz23_3
    try clear hfz23_4
    try clear hfz23_5
    try clear hfz23_6
    try clear hfz24_0
    try clear hfz24_1
    try clear hfz8_0
    try clear hfz8_1
    try clear hfz8_2
    try clear hfz8_3
    try clear hfz8_4
    try clear hfz8_5
    try clear hfz8_6
    obtain ⟨kq, x29_2, rfl, HA, HJ2, BK427, BK428, HB⟩ := hcut
    cases kq with
    | zero => exact absurd HA.out (by simp [model_isItem.j0])
    | succ kj2 =>
      have H := HA.out
      clear HA
      simp only [model_isItem.j0] at H
      by_cases c26 : x29_2 = true
      · subst c26
        have H1 : (some false) = some r := by rw [if_pos rfl] at H; exact H
        clear H
        have H := H1
        clear H1
        obtain rfl := Option.some.inj H
        go_wp2
        go_ret
        exact ⟨by first | rfl | (simp [errW_none, errW_some] <;> rfl) | (simp [*, errW_none, errW_some] <;> rfl), by repeat (first | (with_reducible first | exact HB.out | apply below_alloc | apply pw_below_drewN | apply below_drew1 | refine below_set ?_ GE427.out | refine below_set ?_ GE428.out) | exact HB.out)⟩
      · replace c26 := Bool.eq_false_iff.mpr c26
        subst c26
        have H1 : (if a1_1 = 5 then (if a1_1 = 4 then (if a1_4 ≥ 1 then (if a1_4 ≤ 100 then (if a1_3 = true then (some (!true)) else (some (!(decide ((l1_5.length : Int) > 0))))) else (some false)) else (some false)) else (if a1_4 ≥ 1 then (if a1_4 ≤ 100 then (if a1_3 = true then (some (!true)) else (some (!(decide ((l1_5.length : Int) > 0))))) else (some false)) else (some false))) else (if a1_1 = 4 then (if a1_4 ≥ 0 then (if a1_4 ≤ 0 then (if a1_3 = true then (some (!true)) else (some (!(decide ((l1_5.length : Int) > 0))))) else (some false)) else (some false)) else (if a1_4 ≥ 0 then (if a1_4 ≤ 0 then (some (!false)) else (some false)) else (some false)))) = some r := by rw [if_neg (show ¬ (false = true) by decide)] at H; exact H
        clear H
        have H := H1
        clear H1
        by_cases c27 : a1_1 = 5
        · rw [if_pos c27] at H
          have c27b0 : (a1_1 == 5) = true := beq_iff_eq.mpr c27
          have c27b1 : (a1_1 != 5) = false := bne_eq_false_iff_eq.mpr c27
          clear c27
          by_cases c28 : a1_1 = 4
          · rw [if_pos c28] at H
            have c28b0 : (a1_1 == 4) = true := beq_iff_eq.mpr c28
            have c28b1 : (a1_1 != 4) = false := bne_eq_false_iff_eq.mpr c28
            clear c28
            by_cases c29 : a1_4 ≥ 1
            · rw [if_pos c29] at H
              have c29b0 : decide (1 ≤ a1_4) = true := decide_eq_true c29
              clear c29
              by_cases c30 : a1_4 ≤ 100
              · rw [if_pos c30] at H
                have c30b0 : decide (a1_4 ≤ 100) = true := decide_eq_true c30
                clear c30
                by_cases c31 : a1_3 = true
                · subst c31
                  have H1 : (some (!true)) = some r := by rw [if_pos rfl] at H; exact H
                  clear H
                  have H := H1
                  clear H1
                  obtain rfl := Option.some.inj H
                  have hnb32 := NB428_427.out
                  have hnc32 := NB427_428.out
                  have hcz33_0 : wc.cell? ⟨gb428, 0, none⟩ = some (.string a1_0) := (blk_cell BK428.out 0).trans rfl
                  have hcz33_1 : wc.cell? ⟨gb428, 1, none⟩ = some (.int .i64 a1_1) := (blk_cell BK428.out 1).trans rfl
                  have hcz33_2 : wc.cell? ⟨gb428, 2, none⟩ = some (.string a1_2) := (blk_cell BK428.out 2).trans rfl
                  have hcz33_3 : wc.cell? ⟨gb428, 3, none⟩ = some (.bool true) := (blk_cell BK428.out 3).trans rfl
                  have hcz33_4 : wc.cell? ⟨gb428, 4, none⟩ = some (.int .i64 a1_4) := (blk_cell BK428.out 4).trans rfl
                  have hcz33_5 : wc.cell? ⟨gb428, 5, none⟩ = some (.slice A1_5 l1_5.length c1_5) := (blk_cell BK428.out 5).trans rfl
                  have hcz33_6 : wc.cell? ⟨gb428, 6, none⟩ = some (.slice A1_6 l1_6.length c1_6) := (blk_cell BK428.out 6).trans rfl
                  have hfz33_0 := blk_frozen BK428.out 0
                  have hfz33_1 := blk_frozen BK428.out 1
                  have hfz33_2 := blk_frozen BK428.out 2
                  have hfz33_3 := blk_frozen BK428.out 3
                  have hfz33_4 := blk_frozen BK428.out 4
                  have hfz33_5 := blk_frozen BK428.out 5
                  have hfz33_6 := blk_frozen BK428.out 6
                  go_wp2
                  go_ret
                  exact ⟨by first | rfl | (simp [errW_none, errW_some] <;> rfl) | (simp [*, errW_none, errW_some] <;> rfl), by repeat (first | (with_reducible first | exact HB.out | apply below_alloc | apply pw_below_drewN | apply below_drew1 | refine below_set ?_ GE427.out | refine below_set ?_ GE428.out) | exact HB.out)⟩
                · replace c31 := Bool.eq_false_iff.mpr c31
                  subst c31
                  have H1 : (some (!(decide ((l1_5.length : Int) > 0)))) = some r := by rw [if_neg (show ¬ (false = true) by decide)] at H; exact H
                  clear H
                  have H := H1
                  clear H1
                  obtain rfl := Option.some.inj H
                  have hnb34 := NB428_427.out
                  have hnc34 := NB427_428.out
                  have hcz35_0 : wc.cell? ⟨gb428, 0, none⟩ = some (.string a1_0) := (blk_cell BK428.out 0).trans rfl
                  have hcz35_1 : wc.cell? ⟨gb428, 1, none⟩ = some (.int .i64 a1_1) := (blk_cell BK428.out 1).trans rfl
                  have hcz35_2 : wc.cell? ⟨gb428, 2, none⟩ = some (.string a1_2) := (blk_cell BK428.out 2).trans rfl
                  have hcz35_3 : wc.cell? ⟨gb428, 3, none⟩ = some (.bool false) := (blk_cell BK428.out 3).trans rfl
                  have hcz35_4 : wc.cell? ⟨gb428, 4, none⟩ = some (.int .i64 a1_4) := (blk_cell BK428.out 4).trans rfl
                  have hcz35_5 : wc.cell? ⟨gb428, 5, none⟩ = some (.slice A1_5 l1_5.length c1_5) := (blk_cell BK428.out 5).trans rfl
                  have hcz35_6 : wc.cell? ⟨gb428, 6, none⟩ = some (.slice A1_6 l1_6.length c1_6) := (blk_cell BK428.out 6).trans rfl
                  have hfz35_0 := blk_frozen BK428.out 0
                  have hfz35_1 := blk_frozen BK428.out 1
                  have hfz35_2 := blk_frozen BK428.out 2
                  have hfz35_3 := blk_frozen BK428.out 3
                  have hfz35_4 := blk_frozen BK428.out 4
                  have hfz35_5 := blk_frozen BK428.out 5
                  have hfz35_6 := blk_frozen BK428.out 6
                  go_wp2
                  go_ret
                  exact ⟨by first | rfl | (simp [errW_none, errW_some] <;> rfl) | (simp [*, errW_none, errW_some] <;> rfl), by repeat (first | (with_reducible first | exact HB.out | apply below_alloc | apply pw_below_drewN | apply below_drew1 | refine below_set ?_ GE427.out | refine below_set ?_ GE428.out) | exact HB.out)⟩
              · rw [if_neg c30] at H
                have c30b0 : decide (a1_4 ≤ 100) = false := decide_eq_false c30
                clear c30
                obtain rfl := Option.some.inj H
                have hnb36 := NB428_427.out
                have hnc36 := NB427_428.out
                have hcz37_0 : wc.cell? ⟨gb428, 0, none⟩ = some (.string a1_0) := (blk_cell BK428.out 0).trans rfl
                have hcz37_1 : wc.cell? ⟨gb428, 1, none⟩ = some (.int .i64 a1_1) := (blk_cell BK428.out 1).trans rfl
                have hcz37_2 : wc.cell? ⟨gb428, 2, none⟩ = some (.string a1_2) := (blk_cell BK428.out 2).trans rfl
                have hcz37_3 : wc.cell? ⟨gb428, 3, none⟩ = some (.bool a1_3) := (blk_cell BK428.out 3).trans rfl
                have hcz37_4 : wc.cell? ⟨gb428, 4, none⟩ = some (.int .i64 a1_4) := (blk_cell BK428.out 4).trans rfl
                have hcz37_5 : wc.cell? ⟨gb428, 5, none⟩ = some (.slice A1_5 l1_5.length c1_5) := (blk_cell BK428.out 5).trans rfl
                have hcz37_6 : wc.cell? ⟨gb428, 6, none⟩ = some (.slice A1_6 l1_6.length c1_6) := (blk_cell BK428.out 6).trans rfl
                have hfz37_0 := blk_frozen BK428.out 0
                have hfz37_1 := blk_frozen BK428.out 1
                have hfz37_2 := blk_frozen BK428.out 2
                have hfz37_3 := blk_frozen BK428.out 3
                have hfz37_4 := blk_frozen BK428.out 4
                have hfz37_5 := blk_frozen BK428.out 5
                have hfz37_6 := blk_frozen BK428.out 6
                go_wp2
                go_ret
                exact ⟨by first | rfl | (simp [errW_none, errW_some] <;> rfl) | (simp [*, errW_none, errW_some] <;> rfl), by repeat (first | (with_reducible first | exact HB.out | apply below_alloc | apply pw_below_drewN | apply below_drew1 | refine below_set ?_ GE427.out | refine below_set ?_ GE428.out) | exact HB.out)⟩
            · rw [if_neg c29] at H
              have c29b0 : decide (1 ≤ a1_4) = false := decide_eq_false c29
              clear c29
              obtain rfl := Option.some.inj H
              have hnb38 := NB428_427.out
              have hnc38 := NB427_428.out
              have hcz39_0 : wc.cell? ⟨gb428, 0, none⟩ = some (.string a1_0) := (blk_cell BK428.out 0).trans rfl
              have hcz39_1 : wc.cell? ⟨gb428, 1, none⟩ = some (.int .i64 a1_1) := (blk_cell BK428.out 1).trans rfl
              have hcz39_2 : wc.cell? ⟨gb428, 2, none⟩ = some (.string a1_2) := (blk_cell BK428.out 2).trans rfl
              have hcz39_3 : wc.cell? ⟨gb428, 3, none⟩ = some (.bool a1_3) := (blk_cell BK428.out 3).trans rfl
              have hcz39_4 : wc.cell? ⟨gb428, 4, none⟩ = some (.int .i64 a1_4) := (blk_cell BK428.out 4).trans rfl
              have hcz39_5 : wc.cell? ⟨gb428, 5, none⟩ = some (.slice A1_5 l1_5.length c1_5) := (blk_cell BK428.out 5).trans rfl
              have hcz39_6 : wc.cell? ⟨gb428, 6, none⟩ = some (.slice A1_6 l1_6.length c1_6) := (blk_cell BK428.out 6).trans rfl
              have hfz39_0 := blk_frozen BK428.out 0
              have hfz39_1 := blk_frozen BK428.out 1
              have hfz39_2 := blk_frozen BK428.out 2
              have hfz39_3 := blk_frozen BK428.out 3
              have hfz39_4 := blk_frozen BK428.out 4
              have hfz39_5 := blk_frozen BK428.out 5
              have hfz39_6 := blk_frozen BK428.out 6
              go_wp2
              go_ret
              exact ⟨by first | rfl | (simp [errW_none, errW_some] <;> rfl) | (simp [*, errW_none, errW_some] <;> rfl), by repeat (first | (with_reducible first | exact HB.out | apply below_alloc | apply pw_below_drewN | apply below_drew1 | refine below_set ?_ GE427.out | refine below_set ?_ GE428.out) | exact HB.out)⟩
          · rw [if_neg c28] at H
            have c28b0 : (a1_1 == 4) = false := beq_eq_false_iff_ne.mpr c28
            have c28b1 : (a1_1 != 4) = true := bne_iff_ne.mpr c28
            by_cases c40 : a1_4 ≥ 1
            · rw [if_pos c40] at H
              have c40b0 : decide (1 ≤ a1_4) = true := decide_eq_true c40
              clear c40
              by_cases c41 : a1_4 ≤ 100
              · rw [if_pos c41] at H
                have c41b0 : decide (a1_4 ≤ 100) = true := decide_eq_true c41
                clear c41
                by_cases c42 : a1_3 = true
                · subst c42
                  have H1 : (some (!true)) = some r := by rw [if_pos rfl] at H; exact H
                  clear H
                  have H := H1
                  clear H1
                  obtain rfl := Option.some.inj H
                  have hnb43 := NB428_427.out
                  have hnc43 := NB427_428.out
                  have hcz44_0 : wc.cell? ⟨gb428, 0, none⟩ = some (.string a1_0) := (blk_cell BK428.out 0).trans rfl
                  have hcz44_1 : wc.cell? ⟨gb428, 1, none⟩ = some (.int .i64 a1_1) := (blk_cell BK428.out 1).trans rfl
                  have hcz44_2 : wc.cell? ⟨gb428, 2, none⟩ = some (.string a1_2) := (blk_cell BK428.out 2).trans rfl
                  have hcz44_3 : wc.cell? ⟨gb428, 3, none⟩ = some (.bool true) := (blk_cell BK428.out 3).trans rfl
                  have hcz44_4 : wc.cell? ⟨gb428, 4, none⟩ = some (.int .i64 a1_4) := (blk_cell BK428.out 4).trans rfl
                  have hcz44_5 : wc.cell? ⟨gb428, 5, none⟩ = some (.slice A1_5 l1_5.length c1_5) := (blk_cell BK428.out 5).trans rfl
                  have hcz44_6 : wc.cell? ⟨gb428, 6, none⟩ = some (.slice A1_6 l1_6.length c1_6) := (blk_cell BK428.out 6).trans rfl
                  have hfz44_0 := blk_frozen BK428.out 0
                  have hfz44_1 := blk_frozen BK428.out 1
                  have hfz44_2 := blk_frozen BK428.out 2
                  have hfz44_3 := blk_frozen BK428.out 3
                  have hfz44_4 := blk_frozen BK428.out 4
                  have hfz44_5 := blk_frozen BK428.out 5
                  have hfz44_6 := blk_frozen BK428.out 6
                  go_wp2
                  go_ret
                  exact ⟨by first | rfl | (simp [errW_none, errW_some] <;> rfl) | (simp [*, errW_none, errW_some] <;> rfl), by repeat (first | (with_reducible first | exact HB.out | apply below_alloc | apply pw_below_drewN | apply below_drew1 | refine below_set ?_ GE427.out | refine below_set ?_ GE428.out) | exact HB.out)⟩
                · replace c42 := Bool.eq_false_iff.mpr c42
                  subst c42
                  have H1 : (some (!(decide ((l1_5.length : Int) > 0)))) = some r := by rw [if_neg (show ¬ (false = true) by decide)] at H; exact H
                  clear H
                  have H := H1
                  clear H1
                  obtain rfl := Option.some.inj H
                  have hnb45 := NB428_427.out
                  have hnc45 := NB427_428.out
                  have hcz46_0 : wc.cell? ⟨gb428, 0, none⟩ = some (.string a1_0) := (blk_cell BK428.out 0).trans rfl
                  have hcz46_1 : wc.cell? ⟨gb428, 1, none⟩ = some (.int .i64 a1_1) := (blk_cell BK428.out 1).trans rfl
                  have hcz46_2 : wc.cell? ⟨gb428, 2, none⟩ = some (.string a1_2) := (blk_cell BK428.out 2).trans rfl
                  have hcz46_3 : wc.cell? ⟨gb428, 3, none⟩ = some (.bool false) := (blk_cell BK428.out 3).trans rfl
                  have hcz46_4 : wc.cell? ⟨gb428, 4, none⟩ = some (.int .i64 a1_4) := (blk_cell BK428.out 4).trans rfl
                  have hcz46_5 : wc.cell? ⟨gb428, 5, none⟩ = some (.slice A1_5 l1_5.length c1_5) := (blk_cell BK428.out 5).trans rfl
                  have hcz46_6 : wc.cell? ⟨gb428, 6, none⟩ = some (.slice A1_6 l1_6.length c1_6) := (blk_cell BK428.out 6).trans rfl
                  have hfz46_0 := blk_frozen BK428.out 0
                  have hfz46_1 := blk_frozen BK428.out 1
                  have hfz46_2 := blk_frozen BK428.out 2
                  have hfz46_3 := blk_frozen BK428.out 3
                  have hfz46_4 := blk_frozen BK428.out 4
                  have hfz46_5 := blk_frozen BK428.out 5
                  have hfz46_6 := blk_frozen BK428.out 6
                  go_wp2
                  go_ret
                  exact ⟨by first | rfl | (simp [errW_none, errW_some] <;> rfl) | (simp [*, errW_none, errW_some] <;> rfl), by repeat (first | (with_reducible first | exact HB.out | apply below_alloc | apply pw_below_drewN | apply below_drew1 | refine below_set ?_ GE427.out | refine below_set ?_ GE428.out) | exact HB.out)⟩
              · rw [if_neg c41] at H
                have c41b0 : decide (a1_4 ≤ 100) = false := decide_eq_false c41
                clear c41
                obtain rfl := Option.some.inj H
                have hnb47 := NB428_427.out
                have hnc47 := NB427_428.out
                have hcz48_0 : wc.cell? ⟨gb428, 0, none⟩ = some (.string a1_0) := (blk_cell BK428.out 0).trans rfl
                have hcz48_1 : wc.cell? ⟨gb428, 1, none⟩ = some (.int .i64 a1_1) := (blk_cell BK428.out 1).trans rfl
                have hcz48_2 : wc.cell? ⟨gb428, 2, none⟩ = some (.string a1_2) := (blk_cell BK428.out 2).trans rfl
                have hcz48_3 : wc.cell? ⟨gb428, 3, none⟩ = some (.bool a1_3) := (blk_cell BK428.out 3).trans rfl
                have hcz48_4 : wc.cell? ⟨gb428, 4, none⟩ = some (.int .i64 a1_4) := (blk_cell BK428.out 4).trans rfl
                have hcz48_5 : wc.cell? ⟨gb428, 5, none⟩ = some (.slice A1_5 l1_5.length c1_5) := (blk_cell BK428.out 5).trans rfl
                have hcz48_6 : wc.cell? ⟨gb428, 6, none⟩ = some (.slice A1_6 l1_6.length c1_6) := (blk_cell BK428.out 6).trans rfl
                have hfz48_0 := blk_frozen BK428.out 0
                have hfz48_1 := blk_frozen BK428.out 1
                have hfz48_2 := blk_frozen BK428.out 2
                have hfz48_3 := blk_frozen BK428.out 3
                have hfz48_4 := blk_frozen BK428.out 4
                have hfz48_5 := blk_frozen BK428.out 5
                have hfz48_6 := blk_frozen BK428.out 6
                go_wp2
                go_ret
                exact ⟨by first | rfl | (simp [errW_none, errW_some] <;> rfl) | (simp [*, errW_none, errW_some] <;> rfl), by repeat (first | (with_reducible first | exact HB.out | apply below_alloc | apply pw_below_drewN | apply below_drew1 | refine below_set ?_ GE427.out | refine below_set ?_ GE428.out) | exact HB.out)⟩
            · rw [if_neg c40] at H
              have c40b0 : decide (1 ≤ a1_4) = false := decide_eq_false c40
              clear c40
              obtain rfl := Option.some.inj H
              have hnb49 := NB428_427.out
              have hnc49 := NB427_428.out
              have hcz50_0 : wc.cell? ⟨gb428, 0, none⟩ = some (.string a1_0) := (blk_cell BK428.out 0).trans rfl
              have hcz50_1 : wc.cell? ⟨gb428, 1, none⟩ = some (.int .i64 a1_1) := (blk_cell BK428.out 1).trans rfl
              have hcz50_2 : wc.cell? ⟨gb428, 2, none⟩ = some (.string a1_2) := (blk_cell BK428.out 2).trans rfl
              have hcz50_3 : wc.cell? ⟨gb428, 3, none⟩ = some (.bool a1_3) := (blk_cell BK428.out 3).trans rfl
              have hcz50_4 : wc.cell? ⟨gb428, 4, none⟩ = some (.int .i64 a1_4) := (blk_cell BK428.out 4).trans rfl
              have hcz50_5 : wc.cell? ⟨gb428, 5, none⟩ = some (.slice A1_5 l1_5.length c1_5) := (blk_cell BK428.out 5).trans rfl
              have hcz50_6 : wc.cell? ⟨gb428, 6, none⟩ = some (.slice A1_6 l1_6.length c1_6) := (blk_cell BK428.out 6).trans rfl
              have hfz50_0 := blk_frozen BK428.out 0
              have hfz50_1 := blk_frozen BK428.out 1
              have hfz50_2 := blk_frozen BK428.out 2
              have hfz50_3 := blk_frozen BK428.out 3
              have hfz50_4 := blk_frozen BK428.out 4
              have hfz50_5 := blk_frozen BK428.out 5
              have hfz50_6 := blk_frozen BK428.out 6
              go_wp2
              go_ret
              exact ⟨by first | rfl | (simp [errW_none, errW_some] <;> rfl) | (simp [*, errW_none, errW_some] <;> rfl), by repeat (first | (with_reducible first | exact HB.out | apply below_alloc | apply pw_below_drewN | apply below_drew1 | refine below_set ?_ GE427.out | refine below_set ?_ GE428.out) | exact HB.out)⟩
        · rw [if_neg c27] at H
          have c27b0 : (a1_1 == 5) = false := beq_eq_false_iff_ne.mpr c27
          have c27b1 : (a1_1 != 5) = true := bne_iff_ne.mpr c27
          by_cases c51 : a1_1 = 4
          · rw [if_pos c51] at H
            have c51b0 : (a1_1 == 4) = true := beq_iff_eq.mpr c51
            have c51b1 : (a1_1 != 4) = false := bne_eq_false_iff_eq.mpr c51
            clear c51
            by_cases c52 : a1_4 ≥ 0
            · rw [if_pos c52] at H
              have c52b0 : decide (0 ≤ a1_4) = true := decide_eq_true c52
              clear c52
              by_cases c53 : a1_4 ≤ 0
              · rw [if_pos c53] at H
                have c53b0 : decide (a1_4 ≤ 0) = true := decide_eq_true c53
                clear c53
                by_cases c54 : a1_3 = true
                · subst c54
                  have H1 : (some (!true)) = some r := by rw [if_pos rfl] at H; exact H
                  clear H
                  have H := H1
                  clear H1
                  obtain rfl := Option.some.inj H
                  have hnb55 := NB428_427.out
                  have hnc55 := NB427_428.out
                  have hcz56_0 : wc.cell? ⟨gb428, 0, none⟩ = some (.string a1_0) := (blk_cell BK428.out 0).trans rfl
                  have hcz56_1 : wc.cell? ⟨gb428, 1, none⟩ = some (.int .i64 a1_1) := (blk_cell BK428.out 1).trans rfl
                  have hcz56_2 : wc.cell? ⟨gb428, 2, none⟩ = some (.string a1_2) := (blk_cell BK428.out 2).trans rfl
                  have hcz56_3 : wc.cell? ⟨gb428, 3, none⟩ = some (.bool true) := (blk_cell BK428.out 3).trans rfl
                  have hcz56_4 : wc.cell? ⟨gb428, 4, none⟩ = some (.int .i64 a1_4) := (blk_cell BK428.out 4).trans rfl
                  have hcz56_5 : wc.cell? ⟨gb428, 5, none⟩ = some (.slice A1_5 l1_5.length c1_5) := (blk_cell BK428.out 5).trans rfl
                  have hcz56_6 : wc.cell? ⟨gb428, 6, none⟩ = some (.slice A1_6 l1_6.length c1_6) := (blk_cell BK428.out 6).trans rfl
                  have hfz56_0 := blk_frozen BK428.out 0
                  have hfz56_1 := blk_frozen BK428.out 1
                  have hfz56_2 := blk_frozen BK428.out 2
                  have hfz56_3 := blk_frozen BK428.out 3
                  have hfz56_4 := blk_frozen BK428.out 4
                  have hfz56_5 := blk_frozen BK428.out 5
                  have hfz56_6 := blk_frozen BK428.out 6
                  go_wp2
                  go_ret
                  exact ⟨by first | rfl | (simp [errW_none, errW_some] <;> rfl) | (simp [*, errW_none, errW_some] <;> rfl), by repeat (first | (with_reducible first | exact HB.out | apply below_alloc | apply pw_below_drewN | apply below_drew1 | refine below_set ?_ GE427.out | refine below_set ?_ GE428.out) | exact HB.out)⟩
                · replace c54 := Bool.eq_false_iff.mpr c54
                  subst c54
                  have H1 : (some (!(decide ((l1_5.length : Int) > 0)))) = some r := by rw [if_neg (show ¬ (false = true) by decide)] at H; exact H
                  clear H
                  have H := H1
                  clear H1
                  obtain rfl := Option.some.inj H
                  have hnb57 := NB428_427.out
                  have hnc57 := NB427_428.out
                  have hcz58_0 : wc.cell? ⟨gb428, 0, none⟩ = some (.string a1_0) := (blk_cell BK428.out 0).trans rfl
                  have hcz58_1 : wc.cell? ⟨gb428, 1, none⟩ = some (.int .i64 a1_1) := (blk_cell BK428.out 1).trans rfl
                  have hcz58_2 : wc.cell? ⟨gb428, 2, none⟩ = some (.string a1_2) := (blk_cell BK428.out 2).trans rfl
                  have hcz58_3 : wc.cell? ⟨gb428, 3, none⟩ = some (.bool false) := (blk_cell BK428.out 3).trans rfl
                  have hcz58_4 : wc.cell? ⟨gb428, 4, none⟩ = some (.int .i64 a1_4) := (blk_cell BK428.out 4).trans rfl
                  have hcz58_5 : wc.cell? ⟨gb428, 5, none⟩ = some (.slice A1_5 l1_5.length c1_5) := (blk_cell BK428.out 5).trans rfl
                  have hcz58_6 : wc.cell? ⟨gb428, 6, none⟩ = some (.slice A1_6 l1_6.length c1_6) := (blk_cell BK428.out 6).trans rfl
                  have hfz58_0 := blk_frozen BK428.out 0
                  have hfz58_1 := blk_frozen BK428.out 1
                  have hfz58_2 := blk_frozen BK428.out 2
                  have hfz58_3 := blk_frozen BK428.out 3
                  have hfz58_4 := blk_frozen BK428.out 4
                  have hfz58_5 := blk_frozen BK428.out 5
                  have hfz58_6 := blk_frozen BK428.out 6
                  go_wp2
                  go_ret
                  exact ⟨by first | rfl | (simp [errW_none, errW_some] <;> rfl) | (simp [*, errW_none, errW_some] <;> rfl), by repeat (first | (with_reducible first | exact HB.out | apply below_alloc | apply pw_below_drewN | apply below_drew1 | refine below_set ?_ GE427.out | refine below_set ?_ GE428.out) | exact HB.out)⟩
              · rw [if_neg c53] at H
                have c53b0 : decide (a1_4 ≤ 0) = false := decide_eq_false c53
                clear c53
                obtain rfl := Option.some.inj H
                have hnb59 := NB428_427.out
                have hnc59 := NB427_428.out
                have hcz60_0 : wc.cell? ⟨gb428, 0, none⟩ = some (.string a1_0) := (blk_cell BK428.out 0).trans rfl
                have hcz60_1 : wc.cell? ⟨gb428, 1, none⟩ = some (.int .i64 a1_1) := (blk_cell BK428.out 1).trans rfl
                have hcz60_2 : wc.cell? ⟨gb428, 2, none⟩ = some (.string a1_2) := (blk_cell BK428.out 2).trans rfl
                have hcz60_3 : wc.cell? ⟨gb428, 3, none⟩ = some (.bool a1_3) := (blk_cell BK428.out 3).trans rfl
                have hcz60_4 : wc.cell? ⟨gb428, 4, none⟩ = some (.int .i64 a1_4) := (blk_cell BK428.out 4).trans rfl
                have hcz60_5 : wc.cell? ⟨gb428, 5, none⟩ = some (.slice A1_5 l1_5.length c1_5) := (blk_cell BK428.out 5).trans rfl
                have hcz60_6 : wc.cell? ⟨gb428, 6, none⟩ = some (.slice A1_6 l1_6.length c1_6) := (blk_cell BK428.out 6).trans rfl
                have hfz60_0 := blk_frozen BK428.out 0
                have hfz60_1 := blk_frozen BK428.out 1
                have hfz60_2 := blk_frozen BK428.out 2
                have hfz60_3 := blk_frozen BK428.out 3
                have hfz60_4 := blk_frozen BK428.out 4
                have hfz60_5 := blk_frozen BK428.out 5
                have hfz60_6 := blk_frozen BK428.out 6
                go_wp2
                go_ret
                exact ⟨by first | rfl | (simp [errW_none, errW_some] <;> rfl) | (simp [*, errW_none, errW_some] <;> rfl), by repeat (first | (with_reducible first | exact HB.out | apply below_alloc | apply pw_below_drewN | apply below_drew1 | refine below_set ?_ GE427.out | refine below_set ?_ GE428.out) | exact HB.out)⟩
            · rw [if_neg c52] at H
              have c52b0 : decide (0 ≤ a1_4) = false := decide_eq_false c52
              clear c52
              obtain rfl := Option.some.inj H
              have hnb61 := NB428_427.out
              have hnc61 := NB427_428.out
              have hcz62_0 : wc.cell? ⟨gb428, 0, none⟩ = some (.string a1_0) := (blk_cell BK428.out 0).trans rfl
              have hcz62_1 : wc.cell? ⟨gb428, 1, none⟩ = some (.int .i64 a1_1) := (blk_cell BK428.out 1).trans rfl
              have hcz62_2 : wc.cell? ⟨gb428, 2, none⟩ = some (.string a1_2) := (blk_cell BK428.out 2).trans rfl
              have hcz62_3 : wc.cell? ⟨gb428, 3, none⟩ = some (.bool a1_3) := (blk_cell BK428.out 3).trans rfl
              have hcz62_4 : wc.cell? ⟨gb428, 4, none⟩ = some (.int .i64 a1_4) := (blk_cell BK428.out 4).trans rfl
              have hcz62_5 : wc.cell? ⟨gb428, 5, none⟩ = some (.slice A1_5 l1_5.length c1_5) := (blk_cell BK428.out 5).trans rfl
              have hcz62_6 : wc.cell? ⟨gb428, 6, none⟩ = some (.slice A1_6 l1_6.length c1_6) := (blk_cell BK428.out 6).trans rfl
              have hfz62_0 := blk_frozen BK428.out 0
              have hfz62_1 := blk_frozen BK428.out 1
              have hfz62_2 := blk_frozen BK428.out 2
              have hfz62_3 := blk_frozen BK428.out 3
              have hfz62_4 := blk_frozen BK428.out 4
              have hfz62_5 := blk_frozen BK428.out 5
              have hfz62_6 := blk_frozen BK428.out 6
              go_wp2
              go_ret
              exact ⟨by first | rfl | (simp [errW_none, errW_some] <;> rfl) | (simp [*, errW_none, errW_some] <;> rfl), by repeat (first | (with_reducible first | exact HB.out | apply below_alloc | apply pw_below_drewN | apply below_drew1 | refine below_set ?_ GE427.out | refine below_set ?_ GE428.out) | exact HB.out)⟩
          · rw [if_neg c51] at H
            have c51b0 : (a1_1 == 4) = false := beq_eq_false_iff_ne.mpr c51
            have c51b1 : (a1_1 != 4) = true := bne_iff_ne.mpr c51
            by_cases c63 : a1_4 ≥ 0
            · rw [if_pos c63] at H
              have c63b0 : decide (0 ≤ a1_4) = true := decide_eq_true c63
              clear c63
              by_cases c64 : a1_4 ≤ 0
              · rw [if_pos c64] at H
                have c64b0 : decide (a1_4 ≤ 0) = true := decide_eq_true c64
                clear c64
                obtain rfl := Option.some.inj H
                have hnb65 := NB428_427.out
                have hnc65 := NB427_428.out
                have hcz66_0 : wc.cell? ⟨gb428, 0, none⟩ = some (.string a1_0) := (blk_cell BK428.out 0).trans rfl
                have hcz66_1 : wc.cell? ⟨gb428, 1, none⟩ = some (.int .i64 a1_1) := (blk_cell BK428.out 1).trans rfl
                have hcz66_2 : wc.cell? ⟨gb428, 2, none⟩ = some (.string a1_2) := (blk_cell BK428.out 2).trans rfl
                have hcz66_3 : wc.cell? ⟨gb428, 3, none⟩ = some (.bool a1_3) := (blk_cell BK428.out 3).trans rfl
                have hcz66_4 : wc.cell? ⟨gb428, 4, none⟩ = some (.int .i64 a1_4) := (blk_cell BK428.out 4).trans rfl
                have hcz66_5 : wc.cell? ⟨gb428, 5, none⟩ = some (.slice A1_5 l1_5.length c1_5) := (blk_cell BK428.out 5).trans rfl
                have hcz66_6 : wc.cell? ⟨gb428, 6, none⟩ = some (.slice A1_6 l1_6.length c1_6) := (blk_cell BK428.out 6).trans rfl
                have hfz66_0 := blk_frozen BK428.out 0
                have hfz66_1 := blk_frozen BK428.out 1
                have hfz66_2 := blk_frozen BK428.out 2
                have hfz66_3 := blk_frozen BK428.out 3
                have hfz66_4 := blk_frozen BK428.out 4
                have hfz66_5 := blk_frozen BK428.out 5
                have hfz66_6 := blk_frozen BK428.out 6
                go_wp2
                go_ret
                exact ⟨by first | rfl | (simp [errW_none, errW_some] <;> rfl) | (simp [*, errW_none, errW_some] <;> rfl), by repeat (first | (with_reducible first | exact HB.out | apply below_alloc | apply pw_below_drewN | apply below_drew1 | refine below_set ?_ GE427.out | refine below_set ?_ GE428.out) | exact HB.out)⟩
              · rw [if_neg c64] at H
                have c64b0 : decide (a1_4 ≤ 0) = false := decide_eq_false c64
                clear c64
                obtain rfl := Option.some.inj H
                have hnb67 := NB428_427.out
                have hnc67 := NB427_428.out
                have hcz68_0 : wc.cell? ⟨gb428, 0, none⟩ = some (.string a1_0) := (blk_cell BK428.out 0).trans rfl
                have hcz68_1 : wc.cell? ⟨gb428, 1, none⟩ = some (.int .i64 a1_1) := (blk_cell BK428.out 1).trans rfl
                have hcz68_2 : wc.cell? ⟨gb428, 2, none⟩ = some (.string a1_2) := (blk_cell BK428.out 2).trans rfl
                have hcz68_3 : wc.cell? ⟨gb428, 3, none⟩ = some (.bool a1_3) := (blk_cell BK428.out 3).trans rfl
                have hcz68_4 : wc.cell? ⟨gb428, 4, none⟩ = some (.int .i64 a1_4) := (blk_cell BK428.out 4).trans rfl
                have hcz68_5 : wc.cell? ⟨gb428, 5, none⟩ = some (.slice A1_5 l1_5.length c1_5) := (blk_cell BK428.out 5).trans rfl
                have hcz68_6 : wc.cell? ⟨gb428, 6, none⟩ = some (.slice A1_6 l1_6.length c1_6) := (blk_cell BK428.out 6).trans rfl
                have hfz68_0 := blk_frozen BK428.out 0
                have hfz68_1 := blk_frozen BK428.out 1
                have hfz68_2 := blk_frozen BK428.out 2
                have hfz68_3 := blk_frozen BK428.out 3
                have hfz68_4 := blk_frozen BK428.out 4
                have hfz68_5 := blk_frozen BK428.out 5
                have hfz68_6 := blk_frozen BK428.out 6
                go_wp2
                go_ret
                exact ⟨by first | rfl | (simp [errW_none, errW_some] <;> rfl) | (simp [*, errW_none, errW_some] <;> rfl), by repeat (first | (with_reducible first | exact HB.out | apply below_alloc | apply pw_below_drewN | apply below_drew1 | refine below_set ?_ GE427.out | refine below_set ?_ GE428.out) | exact HB.out)⟩
            · rw [if_neg c63] at H
              have c63b0 : decide (0 ≤ a1_4) = false := decide_eq_false c63
              clear c63
              obtain rfl := Option.some.inj H
              have hnb69 := NB428_427.out
              have hnc69 := NB427_428.out
              have hcz70_0 : wc.cell? ⟨gb428, 0, none⟩ = some (.string a1_0) := (blk_cell BK428.out 0).trans rfl
              have hcz70_1 : wc.cell? ⟨gb428, 1, none⟩ = some (.int .i64 a1_1) := (blk_cell BK428.out 1).trans rfl
              have hcz70_2 : wc.cell? ⟨gb428, 2, none⟩ = some (.string a1_2) := (blk_cell BK428.out 2).trans rfl
              have hcz70_3 : wc.cell? ⟨gb428, 3, none⟩ = some (.bool a1_3) := (blk_cell BK428.out 3).trans rfl
              have hcz70_4 : wc.cell? ⟨gb428, 4, none⟩ = some (.int .i64 a1_4) := (blk_cell BK428.out 4).trans rfl
              have hcz70_5 : wc.cell? ⟨gb428, 5, none⟩ = some (.slice A1_5 l1_5.length c1_5) := (blk_cell BK428.out 5).trans rfl
              have hcz70_6 : wc.cell? ⟨gb428, 6, none⟩ = some (.slice A1_6 l1_6.length c1_6) := (blk_cell BK428.out 6).trans rfl
              have hfz70_0 := blk_frozen BK428.out 0
              have hfz70_1 := blk_frozen BK428.out 1
              have hfz70_2 := blk_frozen BK428.out 2
              have hfz70_3 := blk_frozen BK428.out 3
              have hfz70_4 := blk_frozen BK428.out 4
              have hfz70_5 := blk_frozen BK428.out 5
              have hfz70_6 := blk_frozen BK428.out 6
              go_wp2
              go_ret
              exact ⟨by first | rfl | (simp [errW_none, errW_some] <;> rfl) | (simp [*, errW_none, errW_some] <;> rfl), by repeat (first | (with_reducible first | exact HB.out | apply below_alloc | apply pw_below_drewN | apply below_drew1 | refine below_set ?_ GE427.out | refine below_set ?_ GE428.out) | exact HB.out)⟩

end Go.Proofs.Ytchellnfenekaaa.Pm
