/- Walks and plain laws on the way to the law ModelTells: several texts of this workplace and of the kit's printer, merged; what is not used is struck, by a program. No condition. -/
import Derived.Test.YtchellnfenekaaaMModelTells0
import Derived.Test.YtchellnfenekaaaMModelTells1
section
namespace Go.Proofs.Ytchellnfenekaaa.Pm
open Go.RowKit Go.Proofs.YtchellnfenekaaaW.PrintWords Go.Proofs.YtchellnfenekaaaW.PrintLast Go.Proofs.YtchellnfenekaaaW.PrintMore
attribute [local go_sem] max2_int min2_int max_two min_two max_three min_three max_four min_four   -- for this text's walks alone
set_option linter.unusedVariables false
set_option linter.unusedSimpArgs false
mutual
def sentryref4_item.j0 : Nat → Int → Bool → List ByteArray → List (S32) → ByteArray → Int → ByteArray → Bool → Int → List (S29) → List (S29) → Option (Bool)
  | 0, _, _, _, _, _, _, _, _, _, _, _ => none
  | k + 1, x1, x34, x176000, x176001, x178000, x178001, x178002, x178003, x178004, x178005, x178006 => if x34 = true then (some false) else (if x178001 = 5 then (if x178004 ≥ 1 then (sentryref4_item.j1 k x1 (decide (x178004 ≤ 100)) x176000 x176001 x178000 x178001 x178002 x178003 x178004 x178005 x178006) else (sentryref4_item.j1 k x1 false x176000 x176001 x178000 x178001 x178002 x178003 x178004 x178005 x178006)) else (sentryref4_item.j1 k x1 (x178004 == 0) x176000 x176001 x178000 x178001 x178002 x178003 x178004 x178005 x178006))
def sentryref4_item.j1 : Nat → Int → Bool → List ByteArray → List (S32) → ByteArray → Int → ByteArray → Bool → Int → List (S29) → List (S29) → Option (Bool)
  | 0, _, _, _, _, _, _, _, _, _, _, _ => none
  | k + 1, x1, x6, x176000, x176001, x178000, x178001, x178002, x178003, x178004, x178005, x178006 => if x6 = true then (if x178001 ≥ 4 then (if x178003 = true then (sentryref4_item.j2 k x1 true x176000 x176001 x178000 x178001 x178002 x178003 x178004 x178005 x178006) else (sentryref4_item.j2 k x1 (decide ((x178005.length : Int) > 0)) x176000 x176001 x178000 x178001 x178002 x178003 x178004 x178005 x178006)) else (sentryref4_item.j2 k x1 false x176000 x176001 x178000 x178001 x178002 x178003 x178004 x178005 x178006)) else (sentryref4_item.j2 k x1 true x176000 x176001 x178000 x178001 x178002 x178003 x178004 x178005 x178006)
def sentryref4_item.j2 : Nat → Int → Bool → List ByteArray → List (S32) → ByteArray → Int → ByteArray → Bool → Int → List (S29) → List (S29) → Option (Bool)
  | 0, _, _, _, _, _, _, _, _, _, _, _ => none
  | k + 1, x1, x65, x176000, x176001, x178000, x178001, x178002, x178003, x178004, x178005, x178006 => if x65 = true then (some false) else (if x1 = 0 then (if x178001 = 1 then (if x178002.toList = ([] : List UInt8) then (if x178003 = true then (some false) else (if (x178005.length : Int) = 0 then (some ((x178006.length : Int) == 0)) else (some false))) else (some false)) else (some false)) else ((sentryref4_Place.f k x176000 x176001 x178002).bind fun t180 => (if x178002.toList = ([] : List UInt8) then (some false) else (if t180 ≥ 0 then (if t180 < x1 then (if 0 ≤ t180 then (if t180 < (x176001.length : Int) then (if ((rd_T32 x176001 t180).f1) = 1 then ((sentryref4_within.f k x176000 x176001 (wrap64 (x1 - 1)) x178002).bind fun t182 => (if t182 = true then ((sentryref4_Depth.f k x176000 x176001 x1).bind fun t183 => (if t183 ≥ 1 then ((sentryref4_Depth.f k x176000 x176001 x1).bind fun t184 => (some (decide (t184 ≤ 5)))) else (some false))) else (some false))) else (some false)) else (none)) else (none)) else (some false)) else (some false)))))
end
def sentryref4_item.f (k : Nat) (l0_0 : List ByteArray) (l0_1 : List (S32)) (a1 : Int) : Option (Bool) := if 0 ≤ a1 then (if a1 < (l0_1.length : Int) then ((sentryref1_Is.f k ((rd_T32 l0_1 a1).f0)).bind fun t178 => (if t178 = true then ((sentryref4_Place.f k l0_0 l0_1 ((rd_T32 l0_1 a1).f0)).bind fun t179 => (if t179 = a1 then (if ((rd_T32 l0_1 a1).f1) < 1 then (sentryref4_item.j0 k a1 true l0_0 l0_1 ((rd_T32 l0_1 a1).f0) ((rd_T32 l0_1 a1).f1) ((rd_T32 l0_1 a1).f2) ((rd_T32 l0_1 a1).f3) ((rd_T32 l0_1 a1).f4) ((rd_T32 l0_1 a1).f5) ((rd_T32 l0_1 a1).f6)) else (sentryref4_item.j0 k a1 (decide (((rd_T32 l0_1 a1).f1) > 5)) l0_0 l0_1 ((rd_T32 l0_1 a1).f0) ((rd_T32 l0_1 a1).f1) ((rd_T32 l0_1 a1).f2) ((rd_T32 l0_1 a1).f3) ((rd_T32 l0_1 a1).f4) ((rd_T32 l0_1 a1).f5) ((rd_T32 l0_1 a1).f6))) else (sentryref4_item.j0 k a1 true l0_0 l0_1 ((rd_T32 l0_1 a1).f0) ((rd_T32 l0_1 a1).f1) ((rd_T32 l0_1 a1).f2) ((rd_T32 l0_1 a1).f3) ((rd_T32 l0_1 a1).f4) ((rd_T32 l0_1 a1).f5) ((rd_T32 l0_1 a1).f6)))) else (sentryref4_item.j0 k a1 true l0_0 l0_1 ((rd_T32 l0_1 a1).f0) ((rd_T32 l0_1 a1).f1) ((rd_T32 l0_1 a1).f2) ((rd_T32 l0_1 a1).f3) ((rd_T32 l0_1 a1).f4) ((rd_T32 l0_1 a1).f5) ((rd_T32 l0_1 a1).f6)))) else (none)) else (none)
theorem sentryref4_item.mono_l : ∀ k, (∀ y0 y1 y2 y3 y4 y5 y6 y7 y8 y9 y10, LeO (sentryref4_item.j0 k y0 y1 y2 y3 y4 y5 y6 y7 y8 y9 y10) (sentryref4_item.j0 (k + 1) y0 y1 y2 y3 y4 y5 y6 y7 y8 y9 y10)) ∧ (∀ y0 y1 y2 y3 y4 y5 y6 y7 y8 y9 y10, LeO (sentryref4_item.j1 k y0 y1 y2 y3 y4 y5 y6 y7 y8 y9 y10) (sentryref4_item.j1 (k + 1) y0 y1 y2 y3 y4 y5 y6 y7 y8 y9 y10)) ∧ (∀ y0 y1 y2 y3 y4 y5 y6 y7 y8 y9 y10, LeO (sentryref4_item.j2 k y0 y1 y2 y3 y4 y5 y6 y7 y8 y9 y10) (sentryref4_item.j2 (k + 1) y0 y1 y2 y3 y4 y5 y6 y7 y8 y9 y10))
  | 0 => ⟨fun _ _ _ _ _ _ _ _ _ _ _ r h => by simp [sentryref4_item.j0] at h, fun _ _ _ _ _ _ _ _ _ _ _ r h => by simp [sentryref4_item.j1] at h, fun _ _ _ _ _ _ _ _ _ _ _ r h => by simp [sentryref4_item.j2] at h⟩
  | k + 1 => by
    obtain ⟨ih0, ih1, ih2⟩ := sentryref4_item.mono_l k
    refine ⟨?_, ?_, ?_⟩
    · intro y0 y1 y2 y3 y4 y5 y6 y7 y8 y9 y10
      unfold sentryref4_item.j0
      repeat' first
      | (with_reducible exact ih0 _ _ _ _ _ _ _ _ _ _ _)
      | (with_reducible exact ih1 _ _ _ _ _ _ _ _ _ _ _)
      | (with_reducible exact ih2 _ _ _ _ _ _ _ _ _ _ _)
      | (with_reducible exact sentryref1_Is.mono _ _)
      | (with_reducible exact sentryref4_Depth.mono _ _ _ _)
      | (with_reducible exact sentryref4_Place.mono _ _ _ _)
      | (with_reducible exact sentryref4_within.mono _ _ _ _ _)
      | (with_reducible exact LeO.refl _)
      | (with_reducible exact LeO.none _)
      | (with_reducible refine LeO.ite ?_ ?_)
      | (with_reducible refine LeO.bind ?_ (fun _ => ?_))
      | exact ih0 _ _ _ _ _ _ _ _ _ _ _
      | exact ih1 _ _ _ _ _ _ _ _ _ _ _
      | exact ih2 _ _ _ _ _ _ _ _ _ _ _
      | exact sentryref1_Is.mono _ _
      | exact sentryref4_Depth.mono _ _ _ _
      | exact sentryref4_Place.mono _ _ _ _
      | exact sentryref4_within.mono _ _ _ _ _
      | exact LeO.none _
      | refine LeO.ite ?_ ?_
      | refine LeO.bind ?_ (fun _ => ?_)
    · intro y0 y1 y2 y3 y4 y5 y6 y7 y8 y9 y10
      unfold sentryref4_item.j1
      repeat' first
      | (with_reducible exact ih0 _ _ _ _ _ _ _ _ _ _ _)
      | (with_reducible exact ih1 _ _ _ _ _ _ _ _ _ _ _)
      | (with_reducible exact ih2 _ _ _ _ _ _ _ _ _ _ _)
      | (with_reducible exact sentryref1_Is.mono _ _)
      | (with_reducible exact sentryref4_Depth.mono _ _ _ _)
      | (with_reducible exact sentryref4_Place.mono _ _ _ _)
      | (with_reducible exact sentryref4_within.mono _ _ _ _ _)
      | (with_reducible exact LeO.refl _)
      | (with_reducible exact LeO.none _)
      | (with_reducible refine LeO.ite ?_ ?_)
      | (with_reducible refine LeO.bind ?_ (fun _ => ?_))
      | exact ih0 _ _ _ _ _ _ _ _ _ _ _
      | exact ih1 _ _ _ _ _ _ _ _ _ _ _
      | exact ih2 _ _ _ _ _ _ _ _ _ _ _
      | exact sentryref1_Is.mono _ _
      | exact sentryref4_Depth.mono _ _ _ _
      | exact sentryref4_Place.mono _ _ _ _
      | exact sentryref4_within.mono _ _ _ _ _
      | exact LeO.none _
      | refine LeO.ite ?_ ?_
      | refine LeO.bind ?_ (fun _ => ?_)
    · intro y0 y1 y2 y3 y4 y5 y6 y7 y8 y9 y10
      unfold sentryref4_item.j2
      repeat' first
      | (with_reducible exact ih0 _ _ _ _ _ _ _ _ _ _ _)
      | (with_reducible exact ih1 _ _ _ _ _ _ _ _ _ _ _)
      | (with_reducible exact ih2 _ _ _ _ _ _ _ _ _ _ _)
      | (with_reducible exact sentryref1_Is.mono _ _)
      | (with_reducible exact sentryref4_Depth.mono _ _ _ _)
      | (with_reducible exact sentryref4_Place.mono _ _ _ _)
      | (with_reducible exact sentryref4_within.mono _ _ _ _ _)
      | (with_reducible exact LeO.refl _)
      | (with_reducible exact LeO.none _)
      | (with_reducible refine LeO.ite ?_ ?_)
      | (with_reducible refine LeO.bind ?_ (fun _ => ?_))
      | exact ih0 _ _ _ _ _ _ _ _ _ _ _
      | exact ih1 _ _ _ _ _ _ _ _ _ _ _
      | exact ih2 _ _ _ _ _ _ _ _ _ _ _
      | exact sentryref1_Is.mono _ _
      | exact sentryref4_Depth.mono _ _ _ _
      | exact sentryref4_Place.mono _ _ _ _
      | exact sentryref4_within.mono _ _ _ _ _
      | exact LeO.none _
      | refine LeO.ite ?_ ?_
      | refine LeO.bind ?_ (fun _ => ?_)
theorem sentryref4_item.mono : ∀ a0 a1 a2 k, LeO (sentryref4_item.f k a0 a1 a2) (sentryref4_item.f (k + 1) a0 a1 a2) := by
  intro a0 a1 a2 k
  obtain ⟨ih0, ih1, ih2⟩ := sentryref4_item.mono_l k
  unfold sentryref4_item.f
  repeat' first
      | (with_reducible exact ih0 _ _ _ _ _ _ _ _ _ _ _)
      | (with_reducible exact ih1 _ _ _ _ _ _ _ _ _ _ _)
      | (with_reducible exact ih2 _ _ _ _ _ _ _ _ _ _ _)
      | (with_reducible exact sentryref1_Is.mono _ _)
      | (with_reducible exact sentryref4_Depth.mono _ _ _ _)
      | (with_reducible exact sentryref4_Place.mono _ _ _ _)
      | (with_reducible exact sentryref4_within.mono _ _ _ _ _)
      | (with_reducible exact LeO.refl _)
      | (with_reducible exact LeO.none _)
      | (with_reducible refine LeO.ite ?_ ?_)
      | (with_reducible refine LeO.bind ?_ (fun _ => ?_))
      | exact ih0 _ _ _ _ _ _ _ _ _ _ _
      | exact ih1 _ _ _ _ _ _ _ _ _ _ _
      | exact ih2 _ _ _ _ _ _ _ _ _ _ _
      | exact sentryref1_Is.mono _ _
      | exact sentryref4_Depth.mono _ _ _ _
      | exact sentryref4_Place.mono _ _ _ _
      | exact sentryref4_within.mono _ _ _ _ _
      | exact LeO.none _
      | refine LeO.ite ?_ ?_
      | refine LeO.bind ?_ (fun _ => ?_)
set_option maxHeartbeats 8000000 in
set_option maxRecDepth 100000 in
theorem sentryref4_item.calls (k : Nat) (A0_0 : Option Addr) (c0_0 : Nat) (l0_0 : List ByteArray) (A0_1 : Option Addr) (c0_1 : Nat) (l0_1 : List (S32)) (a1 : Int) (r : Bool) (w : World) (hr0_0 : Kd.C Kd.string w A0_0 l0_0.length l0_0) (hc0_0 : l0_0.length ≤ c0_0) (hr0_1 : Kd.C k32 w A0_1 l0_1.length l0_1) (hc0_1 : l0_1.length ≤ c0_1) (h : sentryref4_item.f k l0_0 l0_1 a1 = some r) :
    Calls Try.prog 41 #[.agg #[.slice A0_0 l0_0.length c0_0, .slice A0_1 l0_1.length c0_1], .int .i64 a1] w fun e w' => e = .returned (.bool r) ∧ Below w.heap.size w w' := by
  have hu36 := Try.underlying36
  have hu32 := Try.underlying32
  have HR0_0 := Aside0.mk hr0_0
  have HC0_0 := Aside0.mk hc0_0
  clear hr0_0 hc0_0
  have HR0_1 := Aside0.mk hr0_1
  have HC0_1 := Aside0.mk hc0_1
  clear hr0_1 hc0_1
  have HB := Aside0.mk (Below.refl w.heap.size w)
  have H : (if 0 ≤ a1 then (if a1 < (l0_1.length : Int) then ((sentryref1_Is.f k ((rd_T32 l0_1 a1).f0)).bind fun t178 => (if t178 = true then ((sentryref4_Place.f k l0_0 l0_1 ((rd_T32 l0_1 a1).f0)).bind fun t179 => (if t179 = a1 then (if ((rd_T32 l0_1 a1).f1) < 1 then (sentryref4_item.j0 k a1 true l0_0 l0_1 ((rd_T32 l0_1 a1).f0) ((rd_T32 l0_1 a1).f1) ((rd_T32 l0_1 a1).f2) ((rd_T32 l0_1 a1).f3) ((rd_T32 l0_1 a1).f4) ((rd_T32 l0_1 a1).f5) ((rd_T32 l0_1 a1).f6)) else (sentryref4_item.j0 k a1 (decide (((rd_T32 l0_1 a1).f1) > 5)) l0_0 l0_1 ((rd_T32 l0_1 a1).f0) ((rd_T32 l0_1 a1).f1) ((rd_T32 l0_1 a1).f2) ((rd_T32 l0_1 a1).f3) ((rd_T32 l0_1 a1).f4) ((rd_T32 l0_1 a1).f5) ((rd_T32 l0_1 a1).f6))) else (sentryref4_item.j0 k a1 true l0_0 l0_1 ((rd_T32 l0_1 a1).f0) ((rd_T32 l0_1 a1).f1) ((rd_T32 l0_1 a1).f2) ((rd_T32 l0_1 a1).f3) ((rd_T32 l0_1 a1).f4) ((rd_T32 l0_1 a1).f5) ((rd_T32 l0_1 a1).f6)))) else (sentryref4_item.j0 k a1 true l0_0 l0_1 ((rd_T32 l0_1 a1).f0) ((rd_T32 l0_1 a1).f1) ((rd_T32 l0_1 a1).f2) ((rd_T32 l0_1 a1).f3) ((rd_T32 l0_1 a1).f4) ((rd_T32 l0_1 a1).f5) ((rd_T32 l0_1 a1).f6)))) else (none)) else (none)) = some r := h
  clear h
  by_cases c3 : 0 ≤ a1
  · rw [if_pos c3] at H
    have c3b0 : decide (0 ≤ a1) = true := decide_eq_true c3
    clear c3
    by_cases c4 : a1 < (l0_1.length : Int)
    · rw [if_pos c4] at H
      have c4b0 : decide (a1 < (l0_1.length : Int)) = true := decide_eq_true c4
      clear c4
      have HC5 := Aside0.mk H
      clear H
      go_enter Try.func41, Try.ntmps41
      go_upto_region 2 with (first | ((with_reducible refine gate_dst (N := 2) rfl ?_); (try (refine gate_guard (by rfl) ?_; dsimp only)); refine box_event ?hg (N := 2) ?hd (cs := #[.slice A0_0 l0_0.length c0_0, .slice A0_1 l0_1.length c0_1]) (t := 36) ?hr ?_; (case hd => rfl); (case hg => rfl); (case hr => first | (go_simp; done) | (go_simp; rfl)); intro gb175 hg w6 hbox hb; have n0_ := Aside0.mk (below_step (by repeat (first | (with_reducible first | exact HB.out | apply below_alloc | apply pw_below_drewN | apply below_drew1) | exact HB.out)) hb); have n1_ := Aside0.mk (hbox); have n2_ := Aside0.mk ((by rw [hg]; exact (below_size (by repeat (first | (with_reducible first | exact HB.out | apply below_alloc | apply pw_below_drewN | apply below_drew1) | exact HB.out))) : w.heap.size ≤ gb175)); have n3_ := Aside0.mk ((by rw [hg]; exact (below_size (by repeat (first | (with_reducible first | exact HB.out | apply below_alloc | apply pw_below_drewN | apply below_drew1) | exact HB.out))) : w.heap.size ≤ gb175)); clear HB; have HB := n0_; have BK175 := n1_; have GW175 := n2_; have GE175 := n3_; clear n0_ n1_ n2_ n3_; clear hb hbox hg; have hcz7_0 : w6.cell? ⟨gb175, 0, none⟩ = some (.slice A0_0 l0_0.length c0_0) := (blk_cell BK175.out 0).trans rfl; have hcz7_1 : w6.cell? ⟨gb175, 1, none⟩ = some (.slice A0_1 l0_1.length c0_1) := (blk_cell BK175.out 1).trans rfl; have hfz7_0 := blk_frozen BK175.out 0; have hfz7_1 := blk_frozen BK175.out 1; have p176 : 0 ≤ (a1 : Int) := of_decide_eq_true (by first | (with_reducible assumption) | assumption); have q176 : a1 < (l0_1.length : Int) := of_decide_eq_true (by first | (with_reducible assumption) | assumption); obtain ⟨ad176, A176_5, c176_5, A176_6, c176_6, e176, hx176_0, hx176_1, hx176_2, hx176_3, hx176_4, hx176_5, hx176_6, hl176_5, hi176_5, hl176_6, hi176_6⟩ := at_T32 HR0_1.out a1 p176 q176; cases e176; replace hx176_0 := (HB.out.cell (World.block_lt_of_cell? w _ hx176_0)).trans hx176_0; replace hx176_1 := (HB.out.cell (World.block_lt_of_cell? w _ hx176_1)).trans hx176_1; replace hx176_2 := (HB.out.cell (World.block_lt_of_cell? w _ hx176_2)).trans hx176_2; replace hx176_3 := (HB.out.cell (World.block_lt_of_cell? w _ hx176_3)).trans hx176_3; replace hx176_4 := (HB.out.cell (World.block_lt_of_cell? w _ hx176_4)).trans hx176_4; replace hx176_5 := (HB.out.cell (World.block_lt_of_cell? w _ hx176_5)).trans hx176_5; replace hx176_6 := (HB.out.cell (World.block_lt_of_cell? w _ hx176_6)).trans hx176_6; have HR176_5 := Aside0.mk hi176_5; have HC176_5 := Aside0.mk hl176_5; clear hi176_5 hl176_5; have HR176_6 := Aside0.mk hi176_6; have HC176_6 := Aside0.mk hl176_6; clear hi176_6 hl176_6; replace p176 := eq_true p176; replace q176 := eq_true q176) | ((with_reducible refine gate_dst (N := 5) rfl ?_); (try (refine gate_guard (by rfl) ?_; dsimp only)); refine box_event ?hg (N := 5) ?hd (cs := #[.string (⟨#[]⟩ : ByteArray), .int .i64 0, .string (⟨#[]⟩ : ByteArray), .bool false, .int .i64 0, .slice none 0 0, .slice none 0 0]) (t := 32) ?hr ?_; (case hd => rfl); (case hg => rfl); (case hr => first | (go_simp; done) | (go_simp; rfl)); intro gb177 hg w8 hbox hb; have n0_ := Aside0.mk (blk_below (g := gb175) (o := .cells #[.slice A0_0 l0_0.length c0_0, .slice (some ad176) l0_1.length c0_1] 36 (0, 0)) (by (with_reducible repeat (first | refine blk_drewN ?_ _ | refine blk_drew ?_ | refine blk_alloc ?_ _)); exact BK175.out) hb); have n1_ := Aside0.mk (below_step (by repeat (first | (with_reducible first | exact HB.out | apply below_alloc | apply pw_below_drewN | apply below_drew1 | refine below_set ?_ GE175.out) | exact HB.out)) hb); have n2_ := Aside0.mk (hbox); have n3_ := Aside0.mk ((by rw [hg]; exact (below_size (by repeat (first | (with_reducible first | exact HB.out | apply below_alloc | apply pw_below_drewN | apply below_drew1 | refine below_set ?_ GE175.out) | exact HB.out))) : w.heap.size ≤ gb177)); have n4_ := Aside0.mk ((by rw [hg]; exact (below_size (by repeat (first | (with_reducible first | exact HB.out | apply below_alloc | apply pw_below_drewN | apply below_drew1 | refine below_set ?_ GE175.out) | exact HB.out))) : w.heap.size ≤ gb177)); have n5_ := Aside0.mk ((by rw [hg]; exact Nat.ne_of_lt (blk_lt (g := gb175) (o := .cells #[.slice A0_0 l0_0.length c0_0, .slice (some ad176) l0_1.length c0_1] 36 (0, 0)) (by (with_reducible repeat (first | refine blk_drewN ?_ _ | refine blk_drew ?_ | refine blk_alloc ?_ _)); exact BK175.out)) : gb175 ≠ gb177)); have n6_ := Aside0.mk ((by rw [hg]; exact Nat.ne_of_gt (blk_lt (g := gb175) (o := .cells #[.slice A0_0 l0_0.length c0_0, .slice (some ad176) l0_1.length c0_1] 36 (0, 0)) (by (with_reducible repeat (first | refine blk_drewN ?_ _ | refine blk_drew ?_ | refine blk_alloc ?_ _)); exact BK175.out)) : gb177 ≠ gb175)); clear BK175; clear HB; have BK175 := n0_; have HB := n1_; have BK177 := n2_; have GW177 := n3_; have GE177 := n4_; have NB175_177 := n5_; have NB177_175 := n6_; clear n0_ n1_ n2_ n3_ n4_ n5_ n6_; clear hb hbox hg; have hnb9 := NB177_175.out; have hnc9 := NB175_177.out; have hcz10_0 : w8.cell? ⟨gb177, 0, none⟩ = some (.string (⟨#[]⟩ : ByteArray)) := (blk_cell BK177.out 0).trans rfl; have hcz10_1 : w8.cell? ⟨gb177, 1, none⟩ = some (.int .i64 0) := (blk_cell BK177.out 1).trans rfl; have hcz10_2 : w8.cell? ⟨gb177, 2, none⟩ = some (.string (⟨#[]⟩ : ByteArray)) := (blk_cell BK177.out 2).trans rfl; have hcz10_3 : w8.cell? ⟨gb177, 3, none⟩ = some (.bool false) := (blk_cell BK177.out 3).trans rfl; have hcz10_4 : w8.cell? ⟨gb177, 4, none⟩ = some (.int .i64 0) := (blk_cell BK177.out 4).trans rfl; have hcz10_5 : w8.cell? ⟨gb177, 5, none⟩ = some (.slice none 0 0) := (blk_cell BK177.out 5).trans rfl; have hcz10_6 : w8.cell? ⟨gb177, 6, none⟩ = some (.slice none 0 0) := (blk_cell BK177.out 6).trans rfl; have hfz10_0 := blk_frozen BK177.out 0; have hfz10_1 := blk_frozen BK177.out 1; have hfz10_2 := blk_frozen BK177.out 2; have hfz10_3 := blk_frozen BK177.out 3; have hfz10_4 := blk_frozen BK177.out 4; have hfz10_5 := blk_frozen BK177.out 5; have hfz10_6 := blk_frozen BK177.out 6))
      (try simp only [Act.put, List.setIfInBounds_toArray, List.set_cons_zero, List.set_cons_succ])
      go_cut [34] (fun v34 wc => ∃ (kq : Nat) (x34_4 : Bool), v34 = .bool x34_4 ∧ Aside0 (sentryref4_item.j0 kq a1 x34_4 l0_0 l0_1 ((rd_T32 l0_1 a1).f0) ((rd_T32 l0_1 a1).f1) ((rd_T32 l0_1 a1).f2) ((rd_T32 l0_1 a1).f3) ((rd_T32 l0_1 a1).f4) ((rd_T32 l0_1 a1).f5) ((rd_T32 l0_1 a1).f6) = some r) ∧ Aside0 (kq ≤ k) ∧ Aside0 (wc.heap[gb175]? = some (.cells #[(.slice A0_0 l0_0.length c0_0), (.slice (some ad176) l0_1.length c0_1)] 36 (0, 0))) ∧ Aside0 (wc.heap[gb177]? = some (.cells #[.string ((rd_T32 l0_1 a1).f0), .int .i64 ((rd_T32 l0_1 a1).f1), .string ((rd_T32 l0_1 a1).f2), .bool ((rd_T32 l0_1 a1).f3), .int .i64 ((rd_T32 l0_1 a1).f4), (.slice A176_5 ((rd_T32 l0_1 a1).f5).length c176_5), (.slice A176_6 ((rd_T32 l0_1 a1).f6).length c176_6)] 32 (0, 0))) ∧ Aside0 (Below w.heap.size w wc))
      case first =>
        have H := HC5.out
        clear HC5
        replace H := Option.bind_eq_some_iff.mp H
        obtain ⟨t178, A110, H⟩ := H
        replace H : (if t178 = true then ((sentryref4_Place.f k l0_0 l0_1 ((rd_T32 l0_1 a1).f0)).bind fun t179 => (if t179 = a1 then (if ((rd_T32 l0_1 a1).f1) < 1 then (sentryref4_item.j0 k a1 true l0_0 l0_1 ((rd_T32 l0_1 a1).f0) ((rd_T32 l0_1 a1).f1) ((rd_T32 l0_1 a1).f2) ((rd_T32 l0_1 a1).f3) ((rd_T32 l0_1 a1).f4) ((rd_T32 l0_1 a1).f5) ((rd_T32 l0_1 a1).f6)) else (sentryref4_item.j0 k a1 (decide (((rd_T32 l0_1 a1).f1) > 5)) l0_0 l0_1 ((rd_T32 l0_1 a1).f0) ((rd_T32 l0_1 a1).f1) ((rd_T32 l0_1 a1).f2) ((rd_T32 l0_1 a1).f3) ((rd_T32 l0_1 a1).f4) ((rd_T32 l0_1 a1).f5) ((rd_T32 l0_1 a1).f6))) else (sentryref4_item.j0 k a1 true l0_0 l0_1 ((rd_T32 l0_1 a1).f0) ((rd_T32 l0_1 a1).f1) ((rd_T32 l0_1 a1).f2) ((rd_T32 l0_1 a1).f3) ((rd_T32 l0_1 a1).f4) ((rd_T32 l0_1 a1).f5) ((rd_T32 l0_1 a1).f6)))) else (sentryref4_item.j0 k a1 true l0_0 l0_1 ((rd_T32 l0_1 a1).f0) ((rd_T32 l0_1 a1).f1) ((rd_T32 l0_1 a1).f2) ((rd_T32 l0_1 a1).f3) ((rd_T32 l0_1 a1).f4) ((rd_T32 l0_1 a1).f5) ((rd_T32 l0_1 a1).f6))) = some r := H
        have A11 := Aside0.mk A110
        clear A110
        by_cases c12 : t178 = true
        · subst c12
          have H1 : ((sentryref4_Place.f k l0_0 l0_1 ((rd_T32 l0_1 a1).f0)).bind fun t179 => (if t179 = a1 then (if ((rd_T32 l0_1 a1).f1) < 1 then (sentryref4_item.j0 k a1 true l0_0 l0_1 ((rd_T32 l0_1 a1).f0) ((rd_T32 l0_1 a1).f1) ((rd_T32 l0_1 a1).f2) ((rd_T32 l0_1 a1).f3) ((rd_T32 l0_1 a1).f4) ((rd_T32 l0_1 a1).f5) ((rd_T32 l0_1 a1).f6)) else (sentryref4_item.j0 k a1 (decide (((rd_T32 l0_1 a1).f1) > 5)) l0_0 l0_1 ((rd_T32 l0_1 a1).f0) ((rd_T32 l0_1 a1).f1) ((rd_T32 l0_1 a1).f2) ((rd_T32 l0_1 a1).f3) ((rd_T32 l0_1 a1).f4) ((rd_T32 l0_1 a1).f5) ((rd_T32 l0_1 a1).f6))) else (sentryref4_item.j0 k a1 true l0_0 l0_1 ((rd_T32 l0_1 a1).f0) ((rd_T32 l0_1 a1).f1) ((rd_T32 l0_1 a1).f2) ((rd_T32 l0_1 a1).f3) ((rd_T32 l0_1 a1).f4) ((rd_T32 l0_1 a1).f5) ((rd_T32 l0_1 a1).f6)))) = some r := by rw [if_pos rfl] at H; exact H
          clear H
          have H := H1
          clear H1
          replace H := Option.bind_eq_some_iff.mp H
          obtain ⟨t179, A130, H⟩ := H
          replace H : (if t179 = a1 then (if ((rd_T32 l0_1 a1).f1) < 1 then (sentryref4_item.j0 k a1 true l0_0 l0_1 ((rd_T32 l0_1 a1).f0) ((rd_T32 l0_1 a1).f1) ((rd_T32 l0_1 a1).f2) ((rd_T32 l0_1 a1).f3) ((rd_T32 l0_1 a1).f4) ((rd_T32 l0_1 a1).f5) ((rd_T32 l0_1 a1).f6)) else (sentryref4_item.j0 k a1 (decide (((rd_T32 l0_1 a1).f1) > 5)) l0_0 l0_1 ((rd_T32 l0_1 a1).f0) ((rd_T32 l0_1 a1).f1) ((rd_T32 l0_1 a1).f2) ((rd_T32 l0_1 a1).f3) ((rd_T32 l0_1 a1).f4) ((rd_T32 l0_1 a1).f5) ((rd_T32 l0_1 a1).f6))) else (sentryref4_item.j0 k a1 true l0_0 l0_1 ((rd_T32 l0_1 a1).f0) ((rd_T32 l0_1 a1).f1) ((rd_T32 l0_1 a1).f2) ((rd_T32 l0_1 a1).f3) ((rd_T32 l0_1 a1).f4) ((rd_T32 l0_1 a1).f5) ((rd_T32 l0_1 a1).f6))) = some r := H
          have A13 := Aside0.mk A130
          clear A130
          by_cases c14 : t179 = a1
          · rw [if_pos c14] at H
            have c14b0 : (t179 == a1) = true := beq_iff_eq.mpr c14
            have c14b1 : (t179 != a1) = false := bne_eq_false_iff_eq.mpr c14
            clear c14
            (first | rw [c14b0] | (simp only [i64_w, i32_w]; rw [c14b0]) | skip)
            by_cases c15 : ((rd_T32 l0_1 a1).f1) < 1
            · rw [if_pos c15] at H
              have c15b0 : decide (((rd_T32 l0_1 a1).f1) < 1) = true := decide_eq_true c15
              clear c15
              have H' := Aside0.mk H
              clear H
              have hnb16 := NB177_175.out
              have hnc16 := NB175_177.out
              have hcz17_0 : w8.cell? ⟨gb177, 0, none⟩ = some (.string (⟨#[]⟩ : ByteArray)) := (blk_cell BK177.out 0).trans rfl
              have hcz17_1 : w8.cell? ⟨gb177, 1, none⟩ = some (.int .i64 0) := (blk_cell BK177.out 1).trans rfl
              have hcz17_2 : w8.cell? ⟨gb177, 2, none⟩ = some (.string (⟨#[]⟩ : ByteArray)) := (blk_cell BK177.out 2).trans rfl
              have hcz17_3 : w8.cell? ⟨gb177, 3, none⟩ = some (.bool false) := (blk_cell BK177.out 3).trans rfl
              have hcz17_4 : w8.cell? ⟨gb177, 4, none⟩ = some (.int .i64 0) := (blk_cell BK177.out 4).trans rfl
              have hcz17_5 : w8.cell? ⟨gb177, 5, none⟩ = some (.slice none 0 0) := (blk_cell BK177.out 5).trans rfl
              have hcz17_6 : w8.cell? ⟨gb177, 6, none⟩ = some (.slice none 0 0) := (blk_cell BK177.out 6).trans rfl
              have hfz17_0 := blk_frozen BK177.out 0
              have hfz17_1 := blk_frozen BK177.out 1
              have hfz17_2 := blk_frozen BK177.out 2
              have hfz17_3 := blk_frozen BK177.out 3
              have hfz17_4 := blk_frozen BK177.out 4
              have hfz17_5 := blk_frozen BK177.out 5
              have hfz17_6 := blk_frozen BK177.out 6
              go_wp2_with (first | ((with_reducible refine gate_callee (f := 39) rfl ?_); refine goesL_ (some 15) rfl rfl Try.func39 (by kernel_rfl) rfl #[.string ((rd_T32 l0_1 a1).f0)] rfl (by (try simp only [List.map_toArray, List.map_cons, List.map_nil]); first | done | rfl | (simp only [List.length_drop, List.length_take]; rfl)) ?_; (with_reducible refine (sentryref1_Is.calls k ((rd_T32 l0_1 a1).f0) true _ A11.out).mono ?_); rintro e w' ⟨rfl, ⟨nd, rfl⟩⟩; refine ⟨_, rfl, ?_⟩; have hcz18_0 : w8.cell? ⟨gb175, 0, none⟩ = some (.slice A0_0 l0_0.length c0_0) := (blk_cell BK175.out 0).trans rfl; have hcz18_1 : w8.cell? ⟨gb175, 1, none⟩ = some (.slice (some ad176) l0_1.length c0_1) := (blk_cell BK175.out 1).trans rfl; have hfz18_0 := blk_frozen BK175.out 0; have hfz18_1 := blk_frozen BK175.out 1) | (go_at_call 20; (with_reducible refine (sentryref4_Place.calls k _ _ l0_0 _ _ l0_1 ((rd_T32 l0_1 a1).f0) t179 _ ?side1 ?side2 ?side3 ?side4 A13.out).mono ?_); (case side1 => exact Kd.C_below HR0_0.out (by repeat (first | (with_reducible first | exact HB.out | apply below_alloc | apply pw_below_drewN | apply below_drew1 | refine below_set ?_ GE175.out | refine below_set ?_ GE177.out) | exact HB.out))); (case side2 => exact HC0_0.out); (case side3 => exact Kd.C_below HR0_1.out (by repeat (first | (with_reducible first | exact HB.out | apply below_alloc | apply pw_below_drewN | apply below_drew1 | refine below_set ?_ GE175.out | refine below_set ?_ GE177.out) | exact HB.out))); (case side4 => exact HC0_1.out); rintro e w19 ⟨rfl, hb⟩; have n0_ := Aside0.mk (blk_below (g := gb175) (o := .cells #[.slice A0_0 l0_0.length c0_0, .slice (some ad176) l0_1.length c0_1] 36 (0, 0)) (by (with_reducible repeat (first | refine blk_drewN ?_ _ | refine blk_drew ?_ | refine blk_alloc ?_ _)); refine blk_far ?_ NB175_177.out _; (with_reducible repeat (first | refine blk_drewN ?_ _ | refine blk_drew ?_ | refine blk_alloc ?_ _)); refine blk_far ?_ NB175_177.out _; (with_reducible repeat (first | refine blk_drewN ?_ _ | refine blk_drew ?_ | refine blk_alloc ?_ _)); refine blk_far ?_ NB175_177.out _; (with_reducible repeat (first | refine blk_drewN ?_ _ | refine blk_drew ?_ | refine blk_alloc ?_ _)); refine blk_far ?_ NB175_177.out _; (with_reducible repeat (first | refine blk_drewN ?_ _ | refine blk_drew ?_ | refine blk_alloc ?_ _)); refine blk_far ?_ NB175_177.out _; (with_reducible repeat (first | refine blk_drewN ?_ _ | refine blk_drew ?_ | refine blk_alloc ?_ _)); refine blk_far ?_ NB175_177.out _; (with_reducible repeat (first | refine blk_drewN ?_ _ | refine blk_drew ?_ | refine blk_alloc ?_ _)); refine blk_far ?_ NB175_177.out _; (with_reducible repeat (first | refine blk_drewN ?_ _ | refine blk_drew ?_ | refine blk_alloc ?_ _)); exact BK175.out) hb); have n1_ := Aside0.mk (blk_below (g := gb177) (o := .cells #[.string ((rd_T32 l0_1 a1).f0), .int .i64 ((rd_T32 l0_1 a1).f1), .string ((rd_T32 l0_1 a1).f2), .bool ((rd_T32 l0_1 a1).f3), .int .i64 ((rd_T32 l0_1 a1).f4), .slice A176_5 ((rd_T32 l0_1 a1).f5).length c176_5, .slice A176_6 ((rd_T32 l0_1 a1).f6).length c176_6] 32 (0, 0)) (by (with_reducible repeat (first | refine blk_drewN ?_ _ | refine blk_drew ?_ | refine blk_alloc ?_ _)); refine blk_put (cs := #[.string ((rd_T32 l0_1 a1).f0), .int .i64 ((rd_T32 l0_1 a1).f1), .string ((rd_T32 l0_1 a1).f2), .bool ((rd_T32 l0_1 a1).f3), .int .i64 ((rd_T32 l0_1 a1).f4), .slice A176_5 ((rd_T32 l0_1 a1).f5).length c176_5, .slice none 0 0]) ?_ 6 _ rfl; (with_reducible repeat (first | refine blk_drewN ?_ _ | refine blk_drew ?_ | refine blk_alloc ?_ _)); refine blk_put (cs := #[.string ((rd_T32 l0_1 a1).f0), .int .i64 ((rd_T32 l0_1 a1).f1), .string ((rd_T32 l0_1 a1).f2), .bool ((rd_T32 l0_1 a1).f3), .int .i64 ((rd_T32 l0_1 a1).f4), .slice none 0 0, .slice none 0 0]) ?_ 5 _ rfl; (with_reducible repeat (first | refine blk_drewN ?_ _ | refine blk_drew ?_ | refine blk_alloc ?_ _)); refine blk_put (cs := #[.string ((rd_T32 l0_1 a1).f0), .int .i64 ((rd_T32 l0_1 a1).f1), .string ((rd_T32 l0_1 a1).f2), .bool ((rd_T32 l0_1 a1).f3), .int .i64 0, .slice none 0 0, .slice none 0 0]) ?_ 4 _ rfl; (with_reducible repeat (first | refine blk_drewN ?_ _ | refine blk_drew ?_ | refine blk_alloc ?_ _)); refine blk_put (cs := #[.string ((rd_T32 l0_1 a1).f0), .int .i64 ((rd_T32 l0_1 a1).f1), .string ((rd_T32 l0_1 a1).f2), .bool false, .int .i64 0, .slice none 0 0, .slice none 0 0]) ?_ 3 _ rfl; (with_reducible repeat (first | refine blk_drewN ?_ _ | refine blk_drew ?_ | refine blk_alloc ?_ _)); refine blk_put (cs := #[.string ((rd_T32 l0_1 a1).f0), .int .i64 ((rd_T32 l0_1 a1).f1), .string (⟨#[]⟩ : ByteArray), .bool false, .int .i64 0, .slice none 0 0, .slice none 0 0]) ?_ 2 _ rfl; (with_reducible repeat (first | refine blk_drewN ?_ _ | refine blk_drew ?_ | refine blk_alloc ?_ _)); refine blk_put (cs := #[.string ((rd_T32 l0_1 a1).f0), .int .i64 0, .string (⟨#[]⟩ : ByteArray), .bool false, .int .i64 0, .slice none 0 0, .slice none 0 0]) ?_ 1 _ rfl; (with_reducible repeat (first | refine blk_drewN ?_ _ | refine blk_drew ?_ | refine blk_alloc ?_ _)); refine blk_put (cs := #[.string (⟨#[]⟩ : ByteArray), .int .i64 0, .string (⟨#[]⟩ : ByteArray), .bool false, .int .i64 0, .slice none 0 0, .slice none 0 0]) ?_ 0 _ rfl; (with_reducible repeat (first | refine blk_drewN ?_ _ | refine blk_drew ?_ | refine blk_alloc ?_ _)); exact BK177.out) hb); have n2_ := Aside0.mk (below_step (by repeat (first | (with_reducible first | exact HB.out | apply below_alloc | apply pw_below_drewN | apply below_drew1 | refine below_set ?_ GE175.out | refine below_set ?_ GE177.out) | exact HB.out)) hb); clear BK175; clear BK177; clear HB; have BK175 := n0_; have BK177 := n1_; have HB := n2_; clear n0_ n1_ n2_; (try clear hb); (try clear hb2); (try clear hk); (try clear hi); have hcz20_0 : w19.cell? ⟨gb177, 0, none⟩ = some (.string ((rd_T32 l0_1 a1).f0)) := (blk_cell BK177.out 0).trans rfl; have hcz20_1 : w19.cell? ⟨gb177, 1, none⟩ = some (.int .i64 ((rd_T32 l0_1 a1).f1)) := (blk_cell BK177.out 1).trans rfl; have hcz20_2 : w19.cell? ⟨gb177, 2, none⟩ = some (.string ((rd_T32 l0_1 a1).f2)) := (blk_cell BK177.out 2).trans rfl; have hcz20_3 : w19.cell? ⟨gb177, 3, none⟩ = some (.bool ((rd_T32 l0_1 a1).f3)) := (blk_cell BK177.out 3).trans rfl; have hcz20_4 : w19.cell? ⟨gb177, 4, none⟩ = some (.int .i64 ((rd_T32 l0_1 a1).f4)) := (blk_cell BK177.out 4).trans rfl; have hcz20_5 : w19.cell? ⟨gb177, 5, none⟩ = some (.slice A176_5 ((rd_T32 l0_1 a1).f5).length c176_5) := (blk_cell BK177.out 5).trans rfl; have hcz20_6 : w19.cell? ⟨gb177, 6, none⟩ = some (.slice A176_6 ((rd_T32 l0_1 a1).f6).length c176_6) := (blk_cell BK177.out 6).trans rfl; have hfz20_0 := blk_frozen BK177.out 0; have hfz20_1 := blk_frozen BK177.out 1; have hfz20_2 := blk_frozen BK177.out 2; have hfz20_3 := blk_frozen BK177.out 3; have hfz20_4 := blk_frozen BK177.out 4; have hfz20_5 := blk_frozen BK177.out 5; have hfz20_6 := blk_frozen BK177.out 6))
              go_meet
              case rel => exact ⟨_, (true), (by first | rfl | (simp; done) | (simp [*]; done)), H', ⟨by first | omega | exact Nat.le_refl _⟩, ⟨by (with_reducible repeat (first | refine blk_drewN ?_ _ | refine blk_drew ?_ | refine blk_alloc ?_ _)); exact BK175.out⟩, ⟨by (with_reducible repeat (first | refine blk_drewN ?_ _ | refine blk_drew ?_ | refine blk_alloc ?_ _)); exact BK177.out⟩, ⟨by repeat (first | (with_reducible first | exact HB.out | apply below_alloc | apply pw_below_drewN | apply below_drew1 | refine below_set ?_ GE175.out | refine below_set ?_ GE177.out) | exact HB.out)⟩⟩
            · rw [if_neg c15] at H
              have c15b0 : decide (((rd_T32 l0_1 a1).f1) < 1) = false := decide_eq_false c15
              clear c15
              have H' := Aside0.mk H
              clear H
              have hnb21 := NB177_175.out
              have hnc21 := NB175_177.out
              have hcz22_0 : w8.cell? ⟨gb177, 0, none⟩ = some (.string (⟨#[]⟩ : ByteArray)) := (blk_cell BK177.out 0).trans rfl
              have hcz22_1 : w8.cell? ⟨gb177, 1, none⟩ = some (.int .i64 0) := (blk_cell BK177.out 1).trans rfl
              have hcz22_2 : w8.cell? ⟨gb177, 2, none⟩ = some (.string (⟨#[]⟩ : ByteArray)) := (blk_cell BK177.out 2).trans rfl
              have hcz22_3 : w8.cell? ⟨gb177, 3, none⟩ = some (.bool false) := (blk_cell BK177.out 3).trans rfl
              have hcz22_4 : w8.cell? ⟨gb177, 4, none⟩ = some (.int .i64 0) := (blk_cell BK177.out 4).trans rfl
              have hcz22_5 : w8.cell? ⟨gb177, 5, none⟩ = some (.slice none 0 0) := (blk_cell BK177.out 5).trans rfl
              have hcz22_6 : w8.cell? ⟨gb177, 6, none⟩ = some (.slice none 0 0) := (blk_cell BK177.out 6).trans rfl
              have hfz22_0 := blk_frozen BK177.out 0
              have hfz22_1 := blk_frozen BK177.out 1
              have hfz22_2 := blk_frozen BK177.out 2
              have hfz22_3 := blk_frozen BK177.out 3
              have hfz22_4 := blk_frozen BK177.out 4
              have hfz22_5 := blk_frozen BK177.out 5
              have hfz22_6 := blk_frozen BK177.out 6
              go_wp2_with (first | ((with_reducible refine gate_callee (f := 39) rfl ?_); refine goesL_ (some 15) rfl rfl Try.func39 (by kernel_rfl) rfl #[.string ((rd_T32 l0_1 a1).f0)] rfl (by (try simp only [List.map_toArray, List.map_cons, List.map_nil]); first | done | rfl | (simp only [List.length_drop, List.length_take]; rfl)) ?_; (with_reducible refine (sentryref1_Is.calls k ((rd_T32 l0_1 a1).f0) true _ A11.out).mono ?_); rintro e w' ⟨rfl, ⟨nd, rfl⟩⟩; refine ⟨_, rfl, ?_⟩; have hcz23_0 : w8.cell? ⟨gb175, 0, none⟩ = some (.slice A0_0 l0_0.length c0_0) := (blk_cell BK175.out 0).trans rfl; have hcz23_1 : w8.cell? ⟨gb175, 1, none⟩ = some (.slice (some ad176) l0_1.length c0_1) := (blk_cell BK175.out 1).trans rfl; have hfz23_0 := blk_frozen BK175.out 0; have hfz23_1 := blk_frozen BK175.out 1) | (go_at_call 20; (with_reducible refine (sentryref4_Place.calls k _ _ l0_0 _ _ l0_1 ((rd_T32 l0_1 a1).f0) t179 _ ?side1 ?side2 ?side3 ?side4 A13.out).mono ?_); (case side1 => exact Kd.C_below HR0_0.out (by repeat (first | (with_reducible first | exact HB.out | apply below_alloc | apply pw_below_drewN | apply below_drew1 | refine below_set ?_ GE175.out | refine below_set ?_ GE177.out) | exact HB.out))); (case side2 => exact HC0_0.out); (case side3 => exact Kd.C_below HR0_1.out (by repeat (first | (with_reducible first | exact HB.out | apply below_alloc | apply pw_below_drewN | apply below_drew1 | refine below_set ?_ GE175.out | refine below_set ?_ GE177.out) | exact HB.out))); (case side4 => exact HC0_1.out); rintro e w24 ⟨rfl, hb⟩; have n0_ := Aside0.mk (blk_below (g := gb175) (o := .cells #[.slice A0_0 l0_0.length c0_0, .slice (some ad176) l0_1.length c0_1] 36 (0, 0)) (by (with_reducible repeat (first | refine blk_drewN ?_ _ | refine blk_drew ?_ | refine blk_alloc ?_ _)); refine blk_far ?_ NB175_177.out _; (with_reducible repeat (first | refine blk_drewN ?_ _ | refine blk_drew ?_ | refine blk_alloc ?_ _)); refine blk_far ?_ NB175_177.out _; (with_reducible repeat (first | refine blk_drewN ?_ _ | refine blk_drew ?_ | refine blk_alloc ?_ _)); refine blk_far ?_ NB175_177.out _; (with_reducible repeat (first | refine blk_drewN ?_ _ | refine blk_drew ?_ | refine blk_alloc ?_ _)); refine blk_far ?_ NB175_177.out _; (with_reducible repeat (first | refine blk_drewN ?_ _ | refine blk_drew ?_ | refine blk_alloc ?_ _)); refine blk_far ?_ NB175_177.out _; (with_reducible repeat (first | refine blk_drewN ?_ _ | refine blk_drew ?_ | refine blk_alloc ?_ _)); refine blk_far ?_ NB175_177.out _; (with_reducible repeat (first | refine blk_drewN ?_ _ | refine blk_drew ?_ | refine blk_alloc ?_ _)); refine blk_far ?_ NB175_177.out _; (with_reducible repeat (first | refine blk_drewN ?_ _ | refine blk_drew ?_ | refine blk_alloc ?_ _)); exact BK175.out) hb); have n1_ := Aside0.mk (blk_below (g := gb177) (o := .cells #[.string ((rd_T32 l0_1 a1).f0), .int .i64 ((rd_T32 l0_1 a1).f1), .string ((rd_T32 l0_1 a1).f2), .bool ((rd_T32 l0_1 a1).f3), .int .i64 ((rd_T32 l0_1 a1).f4), .slice A176_5 ((rd_T32 l0_1 a1).f5).length c176_5, .slice A176_6 ((rd_T32 l0_1 a1).f6).length c176_6] 32 (0, 0)) (by (with_reducible repeat (first | refine blk_drewN ?_ _ | refine blk_drew ?_ | refine blk_alloc ?_ _)); refine blk_put (cs := #[.string ((rd_T32 l0_1 a1).f0), .int .i64 ((rd_T32 l0_1 a1).f1), .string ((rd_T32 l0_1 a1).f2), .bool ((rd_T32 l0_1 a1).f3), .int .i64 ((rd_T32 l0_1 a1).f4), .slice A176_5 ((rd_T32 l0_1 a1).f5).length c176_5, .slice none 0 0]) ?_ 6 _ rfl; (with_reducible repeat (first | refine blk_drewN ?_ _ | refine blk_drew ?_ | refine blk_alloc ?_ _)); refine blk_put (cs := #[.string ((rd_T32 l0_1 a1).f0), .int .i64 ((rd_T32 l0_1 a1).f1), .string ((rd_T32 l0_1 a1).f2), .bool ((rd_T32 l0_1 a1).f3), .int .i64 ((rd_T32 l0_1 a1).f4), .slice none 0 0, .slice none 0 0]) ?_ 5 _ rfl; (with_reducible repeat (first | refine blk_drewN ?_ _ | refine blk_drew ?_ | refine blk_alloc ?_ _)); refine blk_put (cs := #[.string ((rd_T32 l0_1 a1).f0), .int .i64 ((rd_T32 l0_1 a1).f1), .string ((rd_T32 l0_1 a1).f2), .bool ((rd_T32 l0_1 a1).f3), .int .i64 0, .slice none 0 0, .slice none 0 0]) ?_ 4 _ rfl; (with_reducible repeat (first | refine blk_drewN ?_ _ | refine blk_drew ?_ | refine blk_alloc ?_ _)); refine blk_put (cs := #[.string ((rd_T32 l0_1 a1).f0), .int .i64 ((rd_T32 l0_1 a1).f1), .string ((rd_T32 l0_1 a1).f2), .bool false, .int .i64 0, .slice none 0 0, .slice none 0 0]) ?_ 3 _ rfl; (with_reducible repeat (first | refine blk_drewN ?_ _ | refine blk_drew ?_ | refine blk_alloc ?_ _)); refine blk_put (cs := #[.string ((rd_T32 l0_1 a1).f0), .int .i64 ((rd_T32 l0_1 a1).f1), .string (⟨#[]⟩ : ByteArray), .bool false, .int .i64 0, .slice none 0 0, .slice none 0 0]) ?_ 2 _ rfl; (with_reducible repeat (first | refine blk_drewN ?_ _ | refine blk_drew ?_ | refine blk_alloc ?_ _)); refine blk_put (cs := #[.string ((rd_T32 l0_1 a1).f0), .int .i64 0, .string (⟨#[]⟩ : ByteArray), .bool false, .int .i64 0, .slice none 0 0, .slice none 0 0]) ?_ 1 _ rfl; (with_reducible repeat (first | refine blk_drewN ?_ _ | refine blk_drew ?_ | refine blk_alloc ?_ _)); refine blk_put (cs := #[.string (⟨#[]⟩ : ByteArray), .int .i64 0, .string (⟨#[]⟩ : ByteArray), .bool false, .int .i64 0, .slice none 0 0, .slice none 0 0]) ?_ 0 _ rfl; (with_reducible repeat (first | refine blk_drewN ?_ _ | refine blk_drew ?_ | refine blk_alloc ?_ _)); exact BK177.out) hb); have n2_ := Aside0.mk (below_step (by repeat (first | (with_reducible first | exact HB.out | apply below_alloc | apply pw_below_drewN | apply below_drew1 | refine below_set ?_ GE175.out | refine below_set ?_ GE177.out) | exact HB.out)) hb); clear BK175; clear BK177; clear HB; have BK175 := n0_; have BK177 := n1_; have HB := n2_; clear n0_ n1_ n2_; (try clear hb); (try clear hb2); (try clear hk); (try clear hi); have hcz25_0 : w24.cell? ⟨gb177, 0, none⟩ = some (.string ((rd_T32 l0_1 a1).f0)) := (blk_cell BK177.out 0).trans rfl; have hcz25_1 : w24.cell? ⟨gb177, 1, none⟩ = some (.int .i64 ((rd_T32 l0_1 a1).f1)) := (blk_cell BK177.out 1).trans rfl; have hcz25_2 : w24.cell? ⟨gb177, 2, none⟩ = some (.string ((rd_T32 l0_1 a1).f2)) := (blk_cell BK177.out 2).trans rfl; have hcz25_3 : w24.cell? ⟨gb177, 3, none⟩ = some (.bool ((rd_T32 l0_1 a1).f3)) := (blk_cell BK177.out 3).trans rfl; have hcz25_4 : w24.cell? ⟨gb177, 4, none⟩ = some (.int .i64 ((rd_T32 l0_1 a1).f4)) := (blk_cell BK177.out 4).trans rfl; have hcz25_5 : w24.cell? ⟨gb177, 5, none⟩ = some (.slice A176_5 ((rd_T32 l0_1 a1).f5).length c176_5) := (blk_cell BK177.out 5).trans rfl; have hcz25_6 : w24.cell? ⟨gb177, 6, none⟩ = some (.slice A176_6 ((rd_T32 l0_1 a1).f6).length c176_6) := (blk_cell BK177.out 6).trans rfl; have hfz25_0 := blk_frozen BK177.out 0; have hfz25_1 := blk_frozen BK177.out 1; have hfz25_2 := blk_frozen BK177.out 2; have hfz25_3 := blk_frozen BK177.out 3; have hfz25_4 := blk_frozen BK177.out 4; have hfz25_5 := blk_frozen BK177.out 5; have hfz25_6 := blk_frozen BK177.out 6))
              go_meet
              case rel => exact ⟨_, (decide (((rd_T32 l0_1 a1).f1) > 5)), (by first | rfl | (simp; done) | (simp [*]; done)), H', ⟨by first | omega | exact Nat.le_refl _⟩, ⟨by (with_reducible repeat (first | refine blk_drewN ?_ _ | refine blk_drew ?_ | refine blk_alloc ?_ _)); exact BK175.out⟩, ⟨by (with_reducible repeat (first | refine blk_drewN ?_ _ | refine blk_drew ?_ | refine blk_alloc ?_ _)); exact BK177.out⟩, ⟨by repeat (first | (with_reducible first | exact HB.out | apply below_alloc | apply pw_below_drewN | apply below_drew1 | refine below_set ?_ GE175.out | refine below_set ?_ GE177.out) | exact HB.out)⟩⟩
          · rw [if_neg c14] at H
            have c14b0 : (t179 == a1) = false := beq_eq_false_iff_ne.mpr c14
            have c14b1 : (t179 != a1) = true := bne_iff_ne.mpr c14
            (first | rw [c14b0] | (simp only [i64_w, i32_w]; rw [c14b0]) | skip)
            have H' := Aside0.mk H
            clear H
            have hnb26 := NB177_175.out
            have hnc26 := NB175_177.out
            have hcz27_0 : w8.cell? ⟨gb177, 0, none⟩ = some (.string (⟨#[]⟩ : ByteArray)) := (blk_cell BK177.out 0).trans rfl
            have hcz27_1 : w8.cell? ⟨gb177, 1, none⟩ = some (.int .i64 0) := (blk_cell BK177.out 1).trans rfl
            have hcz27_2 : w8.cell? ⟨gb177, 2, none⟩ = some (.string (⟨#[]⟩ : ByteArray)) := (blk_cell BK177.out 2).trans rfl
            have hcz27_3 : w8.cell? ⟨gb177, 3, none⟩ = some (.bool false) := (blk_cell BK177.out 3).trans rfl
            have hcz27_4 : w8.cell? ⟨gb177, 4, none⟩ = some (.int .i64 0) := (blk_cell BK177.out 4).trans rfl
            have hcz27_5 : w8.cell? ⟨gb177, 5, none⟩ = some (.slice none 0 0) := (blk_cell BK177.out 5).trans rfl
            have hcz27_6 : w8.cell? ⟨gb177, 6, none⟩ = some (.slice none 0 0) := (blk_cell BK177.out 6).trans rfl
            have hfz27_0 := blk_frozen BK177.out 0
            have hfz27_1 := blk_frozen BK177.out 1
            have hfz27_2 := blk_frozen BK177.out 2
            have hfz27_3 := blk_frozen BK177.out 3
            have hfz27_4 := blk_frozen BK177.out 4
            have hfz27_5 := blk_frozen BK177.out 5
            have hfz27_6 := blk_frozen BK177.out 6
            go_wp2_with (first | ((with_reducible refine gate_callee (f := 39) rfl ?_); refine goesL_ (some 15) rfl rfl Try.func39 (by kernel_rfl) rfl #[.string ((rd_T32 l0_1 a1).f0)] rfl (by (try simp only [List.map_toArray, List.map_cons, List.map_nil]); first | done | rfl | (simp only [List.length_drop, List.length_take]; rfl)) ?_; (with_reducible refine (sentryref1_Is.calls k ((rd_T32 l0_1 a1).f0) true _ A11.out).mono ?_); rintro e w' ⟨rfl, ⟨nd, rfl⟩⟩; refine ⟨_, rfl, ?_⟩; have hcz28_0 : w8.cell? ⟨gb175, 0, none⟩ = some (.slice A0_0 l0_0.length c0_0) := (blk_cell BK175.out 0).trans rfl; have hcz28_1 : w8.cell? ⟨gb175, 1, none⟩ = some (.slice (some ad176) l0_1.length c0_1) := (blk_cell BK175.out 1).trans rfl; have hfz28_0 := blk_frozen BK175.out 0; have hfz28_1 := blk_frozen BK175.out 1) | (go_at_call 20; (with_reducible refine (sentryref4_Place.calls k _ _ l0_0 _ _ l0_1 ((rd_T32 l0_1 a1).f0) t179 _ ?side1 ?side2 ?side3 ?side4 A13.out).mono ?_); (case side1 => exact Kd.C_below HR0_0.out (by repeat (first | (with_reducible first | exact HB.out | apply below_alloc | apply pw_below_drewN | apply below_drew1 | refine below_set ?_ GE175.out | refine below_set ?_ GE177.out) | exact HB.out))); (case side2 => exact HC0_0.out); (case side3 => exact Kd.C_below HR0_1.out (by repeat (first | (with_reducible first | exact HB.out | apply below_alloc | apply pw_below_drewN | apply below_drew1 | refine below_set ?_ GE175.out | refine below_set ?_ GE177.out) | exact HB.out))); (case side4 => exact HC0_1.out); rintro e w29 ⟨rfl, hb⟩; have n0_ := Aside0.mk (blk_below (g := gb175) (o := .cells #[.slice A0_0 l0_0.length c0_0, .slice (some ad176) l0_1.length c0_1] 36 (0, 0)) (by (with_reducible repeat (first | refine blk_drewN ?_ _ | refine blk_drew ?_ | refine blk_alloc ?_ _)); refine blk_far ?_ NB175_177.out _; (with_reducible repeat (first | refine blk_drewN ?_ _ | refine blk_drew ?_ | refine blk_alloc ?_ _)); refine blk_far ?_ NB175_177.out _; (with_reducible repeat (first | refine blk_drewN ?_ _ | refine blk_drew ?_ | refine blk_alloc ?_ _)); refine blk_far ?_ NB175_177.out _; (with_reducible repeat (first | refine blk_drewN ?_ _ | refine blk_drew ?_ | refine blk_alloc ?_ _)); refine blk_far ?_ NB175_177.out _; (with_reducible repeat (first | refine blk_drewN ?_ _ | refine blk_drew ?_ | refine blk_alloc ?_ _)); refine blk_far ?_ NB175_177.out _; (with_reducible repeat (first | refine blk_drewN ?_ _ | refine blk_drew ?_ | refine blk_alloc ?_ _)); refine blk_far ?_ NB175_177.out _; (with_reducible repeat (first | refine blk_drewN ?_ _ | refine blk_drew ?_ | refine blk_alloc ?_ _)); refine blk_far ?_ NB175_177.out _; (with_reducible repeat (first | refine blk_drewN ?_ _ | refine blk_drew ?_ | refine blk_alloc ?_ _)); exact BK175.out) hb); have n1_ := Aside0.mk (blk_below (g := gb177) (o := .cells #[.string ((rd_T32 l0_1 a1).f0), .int .i64 ((rd_T32 l0_1 a1).f1), .string ((rd_T32 l0_1 a1).f2), .bool ((rd_T32 l0_1 a1).f3), .int .i64 ((rd_T32 l0_1 a1).f4), .slice A176_5 ((rd_T32 l0_1 a1).f5).length c176_5, .slice A176_6 ((rd_T32 l0_1 a1).f6).length c176_6] 32 (0, 0)) (by (with_reducible repeat (first | refine blk_drewN ?_ _ | refine blk_drew ?_ | refine blk_alloc ?_ _)); refine blk_put (cs := #[.string ((rd_T32 l0_1 a1).f0), .int .i64 ((rd_T32 l0_1 a1).f1), .string ((rd_T32 l0_1 a1).f2), .bool ((rd_T32 l0_1 a1).f3), .int .i64 ((rd_T32 l0_1 a1).f4), .slice A176_5 ((rd_T32 l0_1 a1).f5).length c176_5, .slice none 0 0]) ?_ 6 _ rfl; (with_reducible repeat (first | refine blk_drewN ?_ _ | refine blk_drew ?_ | refine blk_alloc ?_ _)); refine blk_put (cs := #[.string ((rd_T32 l0_1 a1).f0), .int .i64 ((rd_T32 l0_1 a1).f1), .string ((rd_T32 l0_1 a1).f2), .bool ((rd_T32 l0_1 a1).f3), .int .i64 ((rd_T32 l0_1 a1).f4), .slice none 0 0, .slice none 0 0]) ?_ 5 _ rfl; (with_reducible repeat (first | refine blk_drewN ?_ _ | refine blk_drew ?_ | refine blk_alloc ?_ _)); refine blk_put (cs := #[.string ((rd_T32 l0_1 a1).f0), .int .i64 ((rd_T32 l0_1 a1).f1), .string ((rd_T32 l0_1 a1).f2), .bool ((rd_T32 l0_1 a1).f3), .int .i64 0, .slice none 0 0, .slice none 0 0]) ?_ 4 _ rfl; (with_reducible repeat (first | refine blk_drewN ?_ _ | refine blk_drew ?_ | refine blk_alloc ?_ _)); refine blk_put (cs := #[.string ((rd_T32 l0_1 a1).f0), .int .i64 ((rd_T32 l0_1 a1).f1), .string ((rd_T32 l0_1 a1).f2), .bool false, .int .i64 0, .slice none 0 0, .slice none 0 0]) ?_ 3 _ rfl; (with_reducible repeat (first | refine blk_drewN ?_ _ | refine blk_drew ?_ | refine blk_alloc ?_ _)); refine blk_put (cs := #[.string ((rd_T32 l0_1 a1).f0), .int .i64 ((rd_T32 l0_1 a1).f1), .string (⟨#[]⟩ : ByteArray), .bool false, .int .i64 0, .slice none 0 0, .slice none 0 0]) ?_ 2 _ rfl; (with_reducible repeat (first | refine blk_drewN ?_ _ | refine blk_drew ?_ | refine blk_alloc ?_ _)); refine blk_put (cs := #[.string ((rd_T32 l0_1 a1).f0), .int .i64 0, .string (⟨#[]⟩ : ByteArray), .bool false, .int .i64 0, .slice none 0 0, .slice none 0 0]) ?_ 1 _ rfl; (with_reducible repeat (first | refine blk_drewN ?_ _ | refine blk_drew ?_ | refine blk_alloc ?_ _)); refine blk_put (cs := #[.string (⟨#[]⟩ : ByteArray), .int .i64 0, .string (⟨#[]⟩ : ByteArray), .bool false, .int .i64 0, .slice none 0 0, .slice none 0 0]) ?_ 0 _ rfl; (with_reducible repeat (first | refine blk_drewN ?_ _ | refine blk_drew ?_ | refine blk_alloc ?_ _)); exact BK177.out) hb); have n2_ := Aside0.mk (below_step (by repeat (first | (with_reducible first | exact HB.out | apply below_alloc | apply pw_below_drewN | apply below_drew1 | refine below_set ?_ GE175.out | refine below_set ?_ GE177.out) | exact HB.out)) hb); clear BK175; clear BK177; clear HB; have BK175 := n0_; have BK177 := n1_; have HB := n2_; clear n0_ n1_ n2_; (try clear hb); (try clear hb2); (try clear hk); (try clear hi)))
            go_meet
            case rel => exact ⟨_, (true), (by first | rfl | (simp; done) | (simp [*]; done)), H', ⟨by first | omega | exact Nat.le_refl _⟩, ⟨by (with_reducible repeat (first | refine blk_drewN ?_ _ | refine blk_drew ?_ | refine blk_alloc ?_ _)); exact BK175.out⟩, ⟨by (with_reducible repeat (first | refine blk_drewN ?_ _ | refine blk_drew ?_ | refine blk_alloc ?_ _)); exact BK177.out⟩, ⟨by repeat (first | (with_reducible first | exact HB.out | apply below_alloc | apply pw_below_drewN | apply below_drew1 | refine below_set ?_ GE175.out | refine below_set ?_ GE177.out) | exact HB.out)⟩⟩
        · replace c12 := Bool.eq_false_iff.mpr c12
          subst c12
          have H1 : (sentryref4_item.j0 k a1 true l0_0 l0_1 ((rd_T32 l0_1 a1).f0) ((rd_T32 l0_1 a1).f1) ((rd_T32 l0_1 a1).f2) ((rd_T32 l0_1 a1).f3) ((rd_T32 l0_1 a1).f4) ((rd_T32 l0_1 a1).f5) ((rd_T32 l0_1 a1).f6)) = some r := by rw [if_neg (show ¬ (false = true) by decide)] at H; exact H
          clear H
          have H := H1
          clear H1
          have H' := Aside0.mk H
          clear H
          have hnb30 := NB177_175.out
          have hnc30 := NB175_177.out
          have hcz31_0 : w8.cell? ⟨gb177, 0, none⟩ = some (.string (⟨#[]⟩ : ByteArray)) := (blk_cell BK177.out 0).trans rfl
          have hcz31_1 : w8.cell? ⟨gb177, 1, none⟩ = some (.int .i64 0) := (blk_cell BK177.out 1).trans rfl
          have hcz31_2 : w8.cell? ⟨gb177, 2, none⟩ = some (.string (⟨#[]⟩ : ByteArray)) := (blk_cell BK177.out 2).trans rfl
          have hcz31_3 : w8.cell? ⟨gb177, 3, none⟩ = some (.bool false) := (blk_cell BK177.out 3).trans rfl
          have hcz31_4 : w8.cell? ⟨gb177, 4, none⟩ = some (.int .i64 0) := (blk_cell BK177.out 4).trans rfl
          have hcz31_5 : w8.cell? ⟨gb177, 5, none⟩ = some (.slice none 0 0) := (blk_cell BK177.out 5).trans rfl
          have hcz31_6 : w8.cell? ⟨gb177, 6, none⟩ = some (.slice none 0 0) := (blk_cell BK177.out 6).trans rfl
          have hfz31_0 := blk_frozen BK177.out 0
          have hfz31_1 := blk_frozen BK177.out 1
          have hfz31_2 := blk_frozen BK177.out 2
          have hfz31_3 := blk_frozen BK177.out 3
          have hfz31_4 := blk_frozen BK177.out 4
          have hfz31_5 := blk_frozen BK177.out 5
          have hfz31_6 := blk_frozen BK177.out 6
          go_wp2_with (first | ((with_reducible refine gate_callee (f := 39) rfl ?_); refine goesL_ (some 15) rfl rfl Try.func39 (by kernel_rfl) rfl #[.string ((rd_T32 l0_1 a1).f0)] rfl (by (try simp only [List.map_toArray, List.map_cons, List.map_nil]); first | done | rfl | (simp only [List.length_drop, List.length_take]; rfl)) ?_; (with_reducible refine (sentryref1_Is.calls k ((rd_T32 l0_1 a1).f0) false _ A11.out).mono ?_); rintro e w' ⟨rfl, ⟨nd, rfl⟩⟩; refine ⟨_, rfl, ?_⟩))
          go_meet
          case rel => exact ⟨_, (true), (by first | rfl | (simp; done) | (simp [*]; done)), H', ⟨by first | omega | exact Nat.le_refl _⟩, ⟨by (with_reducible repeat (first | refine blk_drewN ?_ _ | refine blk_drew ?_ | refine blk_alloc ?_ _)); refine blk_far ?_ NB175_177.out _; (with_reducible repeat (first | refine blk_drewN ?_ _ | refine blk_drew ?_ | refine blk_alloc ?_ _)); refine blk_far ?_ NB175_177.out _; (with_reducible repeat (first | refine blk_drewN ?_ _ | refine blk_drew ?_ | refine blk_alloc ?_ _)); refine blk_far ?_ NB175_177.out _; (with_reducible repeat (first | refine blk_drewN ?_ _ | refine blk_drew ?_ | refine blk_alloc ?_ _)); refine blk_far ?_ NB175_177.out _; (with_reducible repeat (first | refine blk_drewN ?_ _ | refine blk_drew ?_ | refine blk_alloc ?_ _)); refine blk_far ?_ NB175_177.out _; (with_reducible repeat (first | refine blk_drewN ?_ _ | refine blk_drew ?_ | refine blk_alloc ?_ _)); refine blk_far ?_ NB175_177.out _; (with_reducible repeat (first | refine blk_drewN ?_ _ | refine blk_drew ?_ | refine blk_alloc ?_ _)); refine blk_far ?_ NB175_177.out _; (with_reducible repeat (first | refine blk_drewN ?_ _ | refine blk_drew ?_ | refine blk_alloc ?_ _)); exact BK175.out⟩, ⟨by (with_reducible repeat (first | refine blk_drewN ?_ _ | refine blk_drew ?_ | refine blk_alloc ?_ _)); refine blk_put (cs := #[.string ((rd_T32 l0_1 a1).f0), .int .i64 ((rd_T32 l0_1 a1).f1), .string ((rd_T32 l0_1 a1).f2), .bool ((rd_T32 l0_1 a1).f3), .int .i64 ((rd_T32 l0_1 a1).f4), .slice A176_5 ((rd_T32 l0_1 a1).f5).length c176_5, .slice none 0 0]) ?_ 6 _ rfl; (with_reducible repeat (first | refine blk_drewN ?_ _ | refine blk_drew ?_ | refine blk_alloc ?_ _)); refine blk_put (cs := #[.string ((rd_T32 l0_1 a1).f0), .int .i64 ((rd_T32 l0_1 a1).f1), .string ((rd_T32 l0_1 a1).f2), .bool ((rd_T32 l0_1 a1).f3), .int .i64 ((rd_T32 l0_1 a1).f4), .slice none 0 0, .slice none 0 0]) ?_ 5 _ rfl; (with_reducible repeat (first | refine blk_drewN ?_ _ | refine blk_drew ?_ | refine blk_alloc ?_ _)); refine blk_put (cs := #[.string ((rd_T32 l0_1 a1).f0), .int .i64 ((rd_T32 l0_1 a1).f1), .string ((rd_T32 l0_1 a1).f2), .bool ((rd_T32 l0_1 a1).f3), .int .i64 0, .slice none 0 0, .slice none 0 0]) ?_ 4 _ rfl; (with_reducible repeat (first | refine blk_drewN ?_ _ | refine blk_drew ?_ | refine blk_alloc ?_ _)); refine blk_put (cs := #[.string ((rd_T32 l0_1 a1).f0), .int .i64 ((rd_T32 l0_1 a1).f1), .string ((rd_T32 l0_1 a1).f2), .bool false, .int .i64 0, .slice none 0 0, .slice none 0 0]) ?_ 3 _ rfl; (with_reducible repeat (first | refine blk_drewN ?_ _ | refine blk_drew ?_ | refine blk_alloc ?_ _)); refine blk_put (cs := #[.string ((rd_T32 l0_1 a1).f0), .int .i64 ((rd_T32 l0_1 a1).f1), .string (⟨#[]⟩ : ByteArray), .bool false, .int .i64 0, .slice none 0 0, .slice none 0 0]) ?_ 2 _ rfl; (with_reducible repeat (first | refine blk_drewN ?_ _ | refine blk_drew ?_ | refine blk_alloc ?_ _)); refine blk_put (cs := #[.string ((rd_T32 l0_1 a1).f0), .int .i64 0, .string (⟨#[]⟩ : ByteArray), .bool false, .int .i64 0, .slice none 0 0, .slice none 0 0]) ?_ 1 _ rfl; (with_reducible repeat (first | refine blk_drewN ?_ _ | refine blk_drew ?_ | refine blk_alloc ?_ _)); refine blk_put (cs := #[.string (⟨#[]⟩ : ByteArray), .int .i64 0, .string (⟨#[]⟩ : ByteArray), .bool false, .int .i64 0, .slice none 0 0, .slice none 0 0]) ?_ 0 _ rfl; (with_reducible repeat (first | refine blk_drewN ?_ _ | refine blk_drew ?_ | refine blk_alloc ?_ _)); exact BK177.out⟩, ⟨by repeat (first | (with_reducible first | exact HB.out | apply below_alloc | apply pw_below_drewN | apply below_drew1 | refine below_set ?_ GE175.out | refine below_set ?_ GE177.out) | exact HB.out)⟩⟩
      case rest =>
        clear HC5
        try clear c1
        try clear p1
        try clear q1
        try clear hx1
        try clear c2
        try clear p2
        try clear c3
        try clear c3b0
        try clear c4
        try clear c4b0
        try clear c9
        try clear c12
        try clear c14
        try clear c14b0
        try clear c14b1
        try clear c15
        try clear c15b0
        try clear c16
        try clear c17
        try clear p17
        try clear q17
        try clear hx17
        try clear c21
        try clear c26
        try clear c30
        try clear hcz10_0
        try clear hcz10_1
        try clear hcz10_2
        try clear hcz10_3
        try clear hcz10_4
        try clear hcz10_5
        try clear hcz10_6
        try clear hcz17_0
        try clear hcz17_1
        try clear hcz17_2
        try clear hcz17_3
        try clear hcz17_4
        try clear hcz17_5
        try clear hcz17_6
        try clear hcz18_0
        try clear hcz18_1
        try clear hcz20_0
        try clear hcz20_1
        try clear hcz20_2
        try clear hcz20_3
        try clear hcz20_4
        try clear hcz20_5
        try clear hcz20_6
        try clear hcz22_0
        try clear hcz22_1
        try clear hcz22_2
        try clear hcz22_3
        try clear hcz22_4
        try clear hcz22_5
        try clear hcz22_6
        try clear hcz23_0
        try clear hcz23_1
        try clear hcz25_0
        try clear hcz25_1
        try clear hcz25_2
        try clear hcz25_3
        try clear hcz25_4
        try clear hcz25_5
        try clear hcz25_6
        try clear hcz27_0
        try clear hcz27_1
        try clear hcz27_2
        try clear hcz27_3
        try clear hcz27_4
        try clear hcz27_5
        try clear hcz27_6
        try clear hcz28_0
        try clear hcz28_1
        try clear hcz31_0
        try clear hcz31_1
        try clear hcz31_2
        try clear hcz31_3
        try clear hcz31_4
        try clear hcz31_5
        try clear hcz31_6
        try clear hcz7_0
        try clear hcz7_1
        try clear hfz10_0
        try clear hfz10_1
        try clear hfz10_2
        try clear hfz10_3
        try clear hfz10_4
        try clear hfz10_5
        try clear hfz10_6
        try clear hfz17_0
        try clear hfz17_1
        try clear hfz17_2
        try clear hfz17_3
        try clear hfz17_4
        try clear hfz17_5
        try clear hfz17_6
        try clear hfz18_0
        try clear hfz18_1
        try clear hfz20_0
        try clear hfz20_1
        try clear hfz20_2
        try clear hfz20_3
        try clear hfz20_4
        try clear hfz20_5
        try clear hfz20_6
        try clear hfz22_0
        try clear hfz22_1
        try clear hfz22_2
        try clear hfz22_3
        try clear hfz22_4
        try clear hfz22_5
        try clear hfz22_6
        try clear hfz23_0
        try clear hfz23_1
        try clear hfz25_0
        try clear hfz25_1
        try clear hfz25_2
        try clear hfz25_3
        try clear hfz25_4
        try clear hfz25_5
        try clear hfz25_6
        try clear hfz27_0
        try clear hfz27_1
        try clear hfz27_2
        try clear hfz27_3
        try clear hfz27_4
        try clear hfz27_5
        try clear hfz27_6
        try clear hfz28_0
        try clear hfz28_1
        try clear hfz31_0
        try clear hfz31_1
        try clear hfz31_2
        try clear hfz31_3
        try clear hfz31_4
        try clear hfz31_5
        try clear hfz31_6
        try clear hfz7_0
        try clear hfz7_1
        try clear hx176_0
        try clear hx176_1
        try clear hx176_2
        try clear hx176_3
        try clear hx176_4
        try clear hx176_5
        try clear hx176_6
        try clear p176
        try clear q176
        obtain ⟨kq, x34_4, rfl, HA, HJ4, BK175, BK177, HB⟩ := hcut
        cases kq with
        | zero => exact absurd HA.out (by simp [sentryref4_item.j0])
        | succ kj4 =>
          have H := HA.out
          clear HA
          simp only [sentryref4_item.j0] at H
          by_cases c32 : x34_4 = true
          · subst c32
            have H1 : (some false) = some r := by rw [if_pos rfl] at H; exact H
            clear H
            have H := H1
            clear H1
            obtain rfl := Option.some.inj H
            go_wp2
            go_ret
            exact ⟨by first | rfl | (simp [errW_none, errW_some] <;> rfl) | (simp [*, errW_none, errW_some] <;> rfl), by repeat (first | (with_reducible first | exact HB.out | apply below_alloc | apply pw_below_drewN | apply below_drew1 | refine below_set ?_ GE175.out | refine below_set ?_ GE177.out) | exact HB.out)⟩
          · replace c32 := Bool.eq_false_iff.mpr c32
            subst c32
            have H1 : (if ((rd_T32 l0_1 a1).f1) = 5 then (if ((rd_T32 l0_1 a1).f4) ≥ 1 then (sentryref4_item.j1 kj4 a1 (decide (((rd_T32 l0_1 a1).f4) ≤ 100)) l0_0 l0_1 ((rd_T32 l0_1 a1).f0) ((rd_T32 l0_1 a1).f1) ((rd_T32 l0_1 a1).f2) ((rd_T32 l0_1 a1).f3) ((rd_T32 l0_1 a1).f4) ((rd_T32 l0_1 a1).f5) ((rd_T32 l0_1 a1).f6)) else (sentryref4_item.j1 kj4 a1 false l0_0 l0_1 ((rd_T32 l0_1 a1).f0) ((rd_T32 l0_1 a1).f1) ((rd_T32 l0_1 a1).f2) ((rd_T32 l0_1 a1).f3) ((rd_T32 l0_1 a1).f4) ((rd_T32 l0_1 a1).f5) ((rd_T32 l0_1 a1).f6))) else (sentryref4_item.j1 kj4 a1 (((rd_T32 l0_1 a1).f4) == 0) l0_0 l0_1 ((rd_T32 l0_1 a1).f0) ((rd_T32 l0_1 a1).f1) ((rd_T32 l0_1 a1).f2) ((rd_T32 l0_1 a1).f3) ((rd_T32 l0_1 a1).f4) ((rd_T32 l0_1 a1).f5) ((rd_T32 l0_1 a1).f6))) = some r := by rw [if_neg (show ¬ (false = true) by decide)] at H; exact H
            clear H
            have H := H1
            clear H1
            have HC33 := Aside0.mk H
            clear H
            have hnb34 := NB177_175.out
            have hnc34 := NB175_177.out
            have hcz35_0 : wc.cell? ⟨gb177, 0, none⟩ = some (.string ((rd_T32 l0_1 a1).f0)) := (blk_cell BK177.out 0).trans rfl
            have hcz35_1 : wc.cell? ⟨gb177, 1, none⟩ = some (.int .i64 ((rd_T32 l0_1 a1).f1)) := (blk_cell BK177.out 1).trans rfl
            have hcz35_2 : wc.cell? ⟨gb177, 2, none⟩ = some (.string ((rd_T32 l0_1 a1).f2)) := (blk_cell BK177.out 2).trans rfl
            have hcz35_3 : wc.cell? ⟨gb177, 3, none⟩ = some (.bool ((rd_T32 l0_1 a1).f3)) := (blk_cell BK177.out 3).trans rfl
            have hcz35_4 : wc.cell? ⟨gb177, 4, none⟩ = some (.int .i64 ((rd_T32 l0_1 a1).f4)) := (blk_cell BK177.out 4).trans rfl
            have hcz35_5 : wc.cell? ⟨gb177, 5, none⟩ = some (.slice A176_5 ((rd_T32 l0_1 a1).f5).length c176_5) := (blk_cell BK177.out 5).trans rfl
            have hcz35_6 : wc.cell? ⟨gb177, 6, none⟩ = some (.slice A176_6 ((rd_T32 l0_1 a1).f6).length c176_6) := (blk_cell BK177.out 6).trans rfl
            have hfz35_0 := blk_frozen BK177.out 0
            have hfz35_1 := blk_frozen BK177.out 1
            have hfz35_2 := blk_frozen BK177.out 2
            have hfz35_3 := blk_frozen BK177.out 3
            have hfz35_4 := blk_frozen BK177.out 4
            have hfz35_5 := blk_frozen BK177.out 5
            have hfz35_6 := blk_frozen BK177.out 6
            go_upto_if 40 with (fail)
            go_cut [6] (fun v6 wc => ∃ (kq : Nat) (x6_32 : Bool), v6 = .bool x6_32 ∧ Aside0 (sentryref4_item.j1 kq a1 x6_32 l0_0 l0_1 ((rd_T32 l0_1 a1).f0) ((rd_T32 l0_1 a1).f1) ((rd_T32 l0_1 a1).f2) ((rd_T32 l0_1 a1).f3) ((rd_T32 l0_1 a1).f4) ((rd_T32 l0_1 a1).f5) ((rd_T32 l0_1 a1).f6) = some r) ∧ Aside0 (kq ≤ kj4) ∧ Aside0 (wc.heap[gb175]? = some (.cells #[(.slice A0_0 l0_0.length c0_0), (.slice (some ad176) l0_1.length c0_1)] 36 (0, 0))) ∧ Aside0 (wc.heap[gb177]? = some (.cells #[.string ((rd_T32 l0_1 a1).f0), .int .i64 ((rd_T32 l0_1 a1).f1), .string ((rd_T32 l0_1 a1).f2), .bool ((rd_T32 l0_1 a1).f3), .int .i64 ((rd_T32 l0_1 a1).f4), (.slice A176_5 ((rd_T32 l0_1 a1).f5).length c176_5), (.slice A176_6 ((rd_T32 l0_1 a1).f6).length c176_6)] 32 (0, 0))) ∧ Aside0 (Below w.heap.size w wc))
            case first =>
              have H := HC33.out
              clear HC33
              by_cases c36 : ((rd_T32 l0_1 a1).f1) = 5
              · rw [if_pos c36] at H
                have c36b0 : (((rd_T32 l0_1 a1).f1) == 5) = true := beq_iff_eq.mpr c36
                have c36b1 : (((rd_T32 l0_1 a1).f1) != 5) = false := bne_eq_false_iff_eq.mpr c36
                clear c36
                (first | rw [c36b0] | (simp only [i64_w, i32_w]; rw [c36b0]) | skip)
                by_cases c37 : ((rd_T32 l0_1 a1).f4) ≥ 1
                · rw [if_pos c37] at H
                  have c37b0 : decide (1 ≤ ((rd_T32 l0_1 a1).f4)) = true := decide_eq_true c37
                  clear c37
                  have H' := Aside0.mk H
                  clear H
                  have hnb38 := NB177_175.out
                  have hnc38 := NB175_177.out
                  have hcz39_0 : wc.cell? ⟨gb177, 0, none⟩ = some (.string ((rd_T32 l0_1 a1).f0)) := (blk_cell BK177.out 0).trans rfl
                  have hcz39_1 : wc.cell? ⟨gb177, 1, none⟩ = some (.int .i64 ((rd_T32 l0_1 a1).f1)) := (blk_cell BK177.out 1).trans rfl
                  have hcz39_2 : wc.cell? ⟨gb177, 2, none⟩ = some (.string ((rd_T32 l0_1 a1).f2)) := (blk_cell BK177.out 2).trans rfl
                  have hcz39_3 : wc.cell? ⟨gb177, 3, none⟩ = some (.bool ((rd_T32 l0_1 a1).f3)) := (blk_cell BK177.out 3).trans rfl
                  have hcz39_4 : wc.cell? ⟨gb177, 4, none⟩ = some (.int .i64 ((rd_T32 l0_1 a1).f4)) := (blk_cell BK177.out 4).trans rfl
                  have hcz39_5 : wc.cell? ⟨gb177, 5, none⟩ = some (.slice A176_5 ((rd_T32 l0_1 a1).f5).length c176_5) := (blk_cell BK177.out 5).trans rfl
                  have hcz39_6 : wc.cell? ⟨gb177, 6, none⟩ = some (.slice A176_6 ((rd_T32 l0_1 a1).f6).length c176_6) := (blk_cell BK177.out 6).trans rfl
                  have hfz39_0 := blk_frozen BK177.out 0
                  have hfz39_1 := blk_frozen BK177.out 1
                  have hfz39_2 := blk_frozen BK177.out 2
                  have hfz39_3 := blk_frozen BK177.out 3
                  have hfz39_4 := blk_frozen BK177.out 4
                  have hfz39_5 := blk_frozen BK177.out 5
                  have hfz39_6 := blk_frozen BK177.out 6
                  go_wp2
                  go_meet
                  case rel => exact ⟨_, (decide (((rd_T32 l0_1 a1).f4) ≤ 100)), (by first | rfl | (simp; done) | (simp [*]; done)), H', ⟨by have := HJ4.out; first | omega | exact Nat.le_refl _⟩, ⟨by (with_reducible repeat (first | refine blk_drewN ?_ _ | refine blk_drew ?_ | refine blk_alloc ?_ _)); exact BK175.out⟩, ⟨by (with_reducible repeat (first | refine blk_drewN ?_ _ | refine blk_drew ?_ | refine blk_alloc ?_ _)); exact BK177.out⟩, ⟨by repeat (first | (with_reducible first | exact HB.out | apply below_alloc | apply pw_below_drewN | apply below_drew1 | refine below_set ?_ GE175.out | refine below_set ?_ GE177.out) | exact HB.out)⟩⟩
                · rw [if_neg c37] at H
                  have c37b0 : decide (1 ≤ ((rd_T32 l0_1 a1).f4)) = false := decide_eq_false c37
                  clear c37
                  have H' := Aside0.mk H
                  clear H
                  have hnb40 := NB177_175.out
                  have hnc40 := NB175_177.out
                  have hcz41_0 : wc.cell? ⟨gb177, 0, none⟩ = some (.string ((rd_T32 l0_1 a1).f0)) := (blk_cell BK177.out 0).trans rfl
                  have hcz41_1 : wc.cell? ⟨gb177, 1, none⟩ = some (.int .i64 ((rd_T32 l0_1 a1).f1)) := (blk_cell BK177.out 1).trans rfl
                  have hcz41_2 : wc.cell? ⟨gb177, 2, none⟩ = some (.string ((rd_T32 l0_1 a1).f2)) := (blk_cell BK177.out 2).trans rfl
                  have hcz41_3 : wc.cell? ⟨gb177, 3, none⟩ = some (.bool ((rd_T32 l0_1 a1).f3)) := (blk_cell BK177.out 3).trans rfl
                  have hcz41_4 : wc.cell? ⟨gb177, 4, none⟩ = some (.int .i64 ((rd_T32 l0_1 a1).f4)) := (blk_cell BK177.out 4).trans rfl
                  have hcz41_5 : wc.cell? ⟨gb177, 5, none⟩ = some (.slice A176_5 ((rd_T32 l0_1 a1).f5).length c176_5) := (blk_cell BK177.out 5).trans rfl
                  have hcz41_6 : wc.cell? ⟨gb177, 6, none⟩ = some (.slice A176_6 ((rd_T32 l0_1 a1).f6).length c176_6) := (blk_cell BK177.out 6).trans rfl
                  have hfz41_0 := blk_frozen BK177.out 0
                  have hfz41_1 := blk_frozen BK177.out 1
                  have hfz41_2 := blk_frozen BK177.out 2
                  have hfz41_3 := blk_frozen BK177.out 3
                  have hfz41_4 := blk_frozen BK177.out 4
                  have hfz41_5 := blk_frozen BK177.out 5
                  have hfz41_6 := blk_frozen BK177.out 6
                  go_wp2
                  go_meet
                  case rel => exact ⟨_, (false), (by first | rfl | (simp; done) | (simp [*]; done)), H', ⟨by have := HJ4.out; first | omega | exact Nat.le_refl _⟩, ⟨by (with_reducible repeat (first | refine blk_drewN ?_ _ | refine blk_drew ?_ | refine blk_alloc ?_ _)); exact BK175.out⟩, ⟨by (with_reducible repeat (first | refine blk_drewN ?_ _ | refine blk_drew ?_ | refine blk_alloc ?_ _)); exact BK177.out⟩, ⟨by repeat (first | (with_reducible first | exact HB.out | apply below_alloc | apply pw_below_drewN | apply below_drew1 | refine below_set ?_ GE175.out | refine below_set ?_ GE177.out) | exact HB.out)⟩⟩
              · rw [if_neg c36] at H
                have c36b0 : (((rd_T32 l0_1 a1).f1) == 5) = false := beq_eq_false_iff_ne.mpr c36
                have c36b1 : (((rd_T32 l0_1 a1).f1) != 5) = true := bne_iff_ne.mpr c36
                (first | rw [c36b0] | (simp only [i64_w, i32_w]; rw [c36b0]) | skip)
                have H' := Aside0.mk H
                clear H
                go_wp2
                go_meet
                case rel => exact ⟨_, ((((rd_T32 l0_1 a1).f4) == 0)), (by first | rfl | (simp; done) | (simp [*]; done)), H', ⟨by have := HJ4.out; first | omega | exact Nat.le_refl _⟩, ⟨by (with_reducible repeat (first | refine blk_drewN ?_ _ | refine blk_drew ?_ | refine blk_alloc ?_ _)); exact BK175.out⟩, ⟨by (with_reducible repeat (first | refine blk_drewN ?_ _ | refine blk_drew ?_ | refine blk_alloc ?_ _)); exact BK177.out⟩, ⟨by repeat (first | (with_reducible first | exact HB.out | apply below_alloc | apply pw_below_drewN | apply below_drew1 | refine below_set ?_ GE175.out | refine below_set ?_ GE177.out) | exact HB.out)⟩⟩
            case rest =>
              clear HC33
              try clear c1
              try clear p1
              try clear q1
              try clear hx1
              try clear c2
              try clear p2
              try clear c3
              try clear c3b0
              try clear c4
              try clear c4b0
              try clear c9
              try clear c12
              try clear c14
              try clear c14b0
              try clear c14b1
              try clear c15
              try clear c15b0
              try clear c16
              try clear c17
              try clear p17
              try clear q17
              try clear hx17
              try clear c21
              try clear c26
              try clear c30
              try clear c32
              try clear c34
              try clear c36
              try clear c36b0
              try clear c36b1
              try clear c37
              try clear c37b0
              try clear c38
              try clear c39
              try clear c40
              try clear c41
              try clear hcz10_0
              try clear hcz10_1
              try clear hcz10_2
              try clear hcz10_3
              try clear hcz10_4
              try clear hcz10_5
              try clear hcz10_6
              try clear hcz17_0
              try clear hcz17_1
              try clear hcz17_2
              try clear hcz17_3
              try clear hcz17_4
              try clear hcz17_5
              try clear hcz17_6
              try clear hcz18_0
              try clear hcz18_1
              try clear hcz20_0
              try clear hcz20_1
              try clear hcz20_2
              try clear hcz20_3
              try clear hcz20_4
              try clear hcz20_5
              try clear hcz20_6
              try clear hcz22_0
              try clear hcz22_1
              try clear hcz22_2
              try clear hcz22_3
              try clear hcz22_4
              try clear hcz22_5
              try clear hcz22_6
              try clear hcz23_0
              try clear hcz23_1
              try clear hcz25_0
              try clear hcz25_1
              try clear hcz25_2
              try clear hcz25_3
              try clear hcz25_4
              try clear hcz25_5
              try clear hcz25_6
              try clear hcz27_0
              try clear hcz27_1
              try clear hcz27_2
              try clear hcz27_3
              try clear hcz27_4
              try clear hcz27_5
              try clear hcz27_6
              try clear hcz28_0
              try clear hcz28_1
              try clear hcz31_0
              try clear hcz31_1
              try clear hcz31_2
              try clear hcz31_3
              try clear hcz31_4
              try clear hcz31_5
              try clear hcz31_6
              try clear hcz35_0
              try clear hcz35_1
              try clear hcz35_2
              try clear hcz35_3
              try clear hcz35_4
              try clear hcz35_5
              try clear hcz35_6
              try clear hcz39_0
              try clear hcz39_1
              try clear hcz39_2
              try clear hcz39_3
              try clear hcz39_4
              try clear hcz39_5
              try clear hcz39_6
              try clear hcz41_0
              try clear hcz41_1
              try clear hcz41_2
              try clear hcz41_3
              try clear hcz41_4
              try clear hcz41_5
              try clear hcz41_6
              try clear hcz7_0
              try clear hcz7_1
              try clear hfz10_0
              try clear hfz10_1
              try clear hfz10_2
              try clear hfz10_3
              try clear hfz10_4
              try clear hfz10_5
              try clear hfz10_6
              try clear hfz17_0
              try clear hfz17_1
              try clear hfz17_2
              try clear hfz17_3
              try clear hfz17_4
              try clear hfz17_5
              try clear hfz17_6
              try clear hfz18_0
              try clear hfz18_1
              try clear hfz20_0
              try clear hfz20_1
              try clear hfz20_2
              try clear hfz20_3
              try clear hfz20_4
              try clear hfz20_5
              try clear hfz20_6
              try clear hfz22_0
              try clear hfz22_1
              try clear hfz22_2
              try clear hfz22_3
              try clear hfz22_4
              try clear hfz22_5
              try clear hfz22_6
              try clear hfz23_0
              try clear hfz23_1
              try clear hfz25_0
              try clear hfz25_1
              try clear hfz25_2
              try clear hfz25_3
              try clear hfz25_4
              try clear hfz25_5
              try clear hfz25_6
              try clear hfz27_0
              try clear hfz27_1
              try clear hfz27_2
              try clear hfz27_3
              try clear hfz27_4
              try clear hfz27_5
              try clear hfz27_6
              try clear hfz28_0
              try clear hfz28_1
              try clear hfz31_0
              try clear hfz31_1
              try clear hfz31_2
              try clear hfz31_3
              try clear hfz31_4
              try clear hfz31_5
              try clear hfz31_6
              try clear hfz35_0
              try clear hfz35_1
              try clear hfz35_2
              try clear hfz35_3
              try clear hfz35_4
              try clear hfz35_5
              try clear hfz35_6
              try clear hfz39_0
              try clear hfz39_1
              try clear hfz39_2
              try clear hfz39_3
              try clear hfz39_4
              try clear hfz39_5
              try clear hfz39_6
              try clear hfz41_0
              try clear hfz41_1
              try clear hfz41_2
              try clear hfz41_3
              try clear hfz41_4
              try clear hfz41_5
              try clear hfz41_6
              try clear hfz7_0
              try clear hfz7_1
              try clear hx176_0
              try clear hx176_1
              try clear hx176_2
              try clear hx176_3
              try clear hx176_4
              try clear hx176_5
              try clear hx176_6
              try clear p1
              try clear p17
              try clear p176
              try clear p2
              try clear q1
              try clear q17
              try clear q176
              obtain ⟨kq, x6_32, rfl, HA, HJ32, BK175, BK177, HB⟩ := hcut
              cases kq with
              | zero => exact absurd HA.out (by simp [sentryref4_item.j1])
              | succ kj32 =>
                have H := HA.out
                clear HA
                simp only [sentryref4_item.j1] at H
                have HC42 := Aside0.mk H
                clear H
                go_upto_region 7 with (fail)
                go_cut [65] (fun v65 wc => ∃ (kq : Nat) (x65_41 : Bool), v65 = .bool x65_41 ∧ Aside0 (sentryref4_item.j2 kq a1 x65_41 l0_0 l0_1 ((rd_T32 l0_1 a1).f0) ((rd_T32 l0_1 a1).f1) ((rd_T32 l0_1 a1).f2) ((rd_T32 l0_1 a1).f3) ((rd_T32 l0_1 a1).f4) ((rd_T32 l0_1 a1).f5) ((rd_T32 l0_1 a1).f6) = some r) ∧ Aside0 (kq ≤ kj32) ∧ Aside0 (wc.heap[gb175]? = some (.cells #[(.slice A0_0 l0_0.length c0_0), (.slice (some ad176) l0_1.length c0_1)] 36 (0, 0))) ∧ Aside0 (wc.heap[gb177]? = some (.cells #[.string ((rd_T32 l0_1 a1).f0), .int .i64 ((rd_T32 l0_1 a1).f1), .string ((rd_T32 l0_1 a1).f2), .bool ((rd_T32 l0_1 a1).f3), .int .i64 ((rd_T32 l0_1 a1).f4), (.slice A176_5 ((rd_T32 l0_1 a1).f5).length c176_5), (.slice A176_6 ((rd_T32 l0_1 a1).f6).length c176_6)] 32 (0, 0))) ∧ Aside0 (Below w.heap.size w wc))
                case first =>
                  have H := HC42.out
                  clear HC42
                  by_cases c43 : x6_32 = true
                  · subst c43
                    have H1 : (if ((rd_T32 l0_1 a1).f1) ≥ 4 then (if ((rd_T32 l0_1 a1).f3) = true then (sentryref4_item.j2 kj32 a1 true l0_0 l0_1 ((rd_T32 l0_1 a1).f0) ((rd_T32 l0_1 a1).f1) ((rd_T32 l0_1 a1).f2) ((rd_T32 l0_1 a1).f3) ((rd_T32 l0_1 a1).f4) ((rd_T32 l0_1 a1).f5) ((rd_T32 l0_1 a1).f6)) else (sentryref4_item.j2 kj32 a1 (decide ((((rd_T32 l0_1 a1).f5).length : Int) > 0)) l0_0 l0_1 ((rd_T32 l0_1 a1).f0) ((rd_T32 l0_1 a1).f1) ((rd_T32 l0_1 a1).f2) ((rd_T32 l0_1 a1).f3) ((rd_T32 l0_1 a1).f4) ((rd_T32 l0_1 a1).f5) ((rd_T32 l0_1 a1).f6))) else (sentryref4_item.j2 kj32 a1 false l0_0 l0_1 ((rd_T32 l0_1 a1).f0) ((rd_T32 l0_1 a1).f1) ((rd_T32 l0_1 a1).f2) ((rd_T32 l0_1 a1).f3) ((rd_T32 l0_1 a1).f4) ((rd_T32 l0_1 a1).f5) ((rd_T32 l0_1 a1).f6))) = some r := by rw [if_pos rfl] at H; exact H
                    clear H
                    have H := H1
                    clear H1
                    by_cases c44 : ((rd_T32 l0_1 a1).f1) ≥ 4
                    · rw [if_pos c44] at H
                      have c44b0 : decide (4 ≤ ((rd_T32 l0_1 a1).f1)) = true := decide_eq_true c44
                      clear c44
                      (first | rw [c44b0] | (simp only [i64_w, i32_w]; rw [c44b0]) | skip)
                      by_cases c45 : ((rd_T32 l0_1 a1).f3) = true
                      · rw [if_pos c45] at H
                        have c45b0 : ((rd_T32 l0_1 a1).f3) = true := c45
                        clear c45
                        have H' := Aside0.mk H
                        clear H
                        have hnb46 := NB177_175.out
                        have hnc46 := NB175_177.out
                        have hcz47_0 : wc.cell? ⟨gb177, 0, none⟩ = some (.string ((rd_T32 l0_1 a1).f0)) := (blk_cell BK177.out 0).trans rfl
                        have hcz47_1 : wc.cell? ⟨gb177, 1, none⟩ = some (.int .i64 ((rd_T32 l0_1 a1).f1)) := (blk_cell BK177.out 1).trans rfl
                        have hcz47_2 : wc.cell? ⟨gb177, 2, none⟩ = some (.string ((rd_T32 l0_1 a1).f2)) := (blk_cell BK177.out 2).trans rfl
                        have hcz47_3 : wc.cell? ⟨gb177, 3, none⟩ = some (.bool ((rd_T32 l0_1 a1).f3)) := (blk_cell BK177.out 3).trans rfl
                        have hcz47_4 : wc.cell? ⟨gb177, 4, none⟩ = some (.int .i64 ((rd_T32 l0_1 a1).f4)) := (blk_cell BK177.out 4).trans rfl
                        have hcz47_5 : wc.cell? ⟨gb177, 5, none⟩ = some (.slice A176_5 ((rd_T32 l0_1 a1).f5).length c176_5) := (blk_cell BK177.out 5).trans rfl
                        have hcz47_6 : wc.cell? ⟨gb177, 6, none⟩ = some (.slice A176_6 ((rd_T32 l0_1 a1).f6).length c176_6) := (blk_cell BK177.out 6).trans rfl
                        have hfz47_0 := blk_frozen BK177.out 0
                        have hfz47_1 := blk_frozen BK177.out 1
                        have hfz47_2 := blk_frozen BK177.out 2
                        have hfz47_3 := blk_frozen BK177.out 3
                        have hfz47_4 := blk_frozen BK177.out 4
                        have hfz47_5 := blk_frozen BK177.out 5
                        have hfz47_6 := blk_frozen BK177.out 6
                        go_wp2
                        go_meet
                        case rel => exact ⟨_, (true), (by first | rfl | (simp; done) | (simp [*]; done)), H', ⟨by have := HJ4.out; have := HJ32.out; first | omega | exact Nat.le_refl _⟩, ⟨by (with_reducible repeat (first | refine blk_drewN ?_ _ | refine blk_drew ?_ | refine blk_alloc ?_ _)); exact BK175.out⟩, ⟨by (with_reducible repeat (first | refine blk_drewN ?_ _ | refine blk_drew ?_ | refine blk_alloc ?_ _)); exact BK177.out⟩, ⟨by repeat (first | (with_reducible first | exact HB.out | apply below_alloc | apply pw_below_drewN | apply below_drew1 | refine below_set ?_ GE175.out | refine below_set ?_ GE177.out) | exact HB.out)⟩⟩
                      · rw [if_neg c45] at H
                        have c45b0 : ((rd_T32 l0_1 a1).f3) = false := by simpa using c45
                        clear c45
                        have H' := Aside0.mk H
                        clear H
                        have hnb48 := NB177_175.out
                        have hnc48 := NB175_177.out
                        have hcz49_0 : wc.cell? ⟨gb177, 0, none⟩ = some (.string ((rd_T32 l0_1 a1).f0)) := (blk_cell BK177.out 0).trans rfl
                        have hcz49_1 : wc.cell? ⟨gb177, 1, none⟩ = some (.int .i64 ((rd_T32 l0_1 a1).f1)) := (blk_cell BK177.out 1).trans rfl
                        have hcz49_2 : wc.cell? ⟨gb177, 2, none⟩ = some (.string ((rd_T32 l0_1 a1).f2)) := (blk_cell BK177.out 2).trans rfl
                        have hcz49_3 : wc.cell? ⟨gb177, 3, none⟩ = some (.bool ((rd_T32 l0_1 a1).f3)) := (blk_cell BK177.out 3).trans rfl
                        have hcz49_4 : wc.cell? ⟨gb177, 4, none⟩ = some (.int .i64 ((rd_T32 l0_1 a1).f4)) := (blk_cell BK177.out 4).trans rfl
                        have hcz49_5 : wc.cell? ⟨gb177, 5, none⟩ = some (.slice A176_5 ((rd_T32 l0_1 a1).f5).length c176_5) := (blk_cell BK177.out 5).trans rfl
                        have hcz49_6 : wc.cell? ⟨gb177, 6, none⟩ = some (.slice A176_6 ((rd_T32 l0_1 a1).f6).length c176_6) := (blk_cell BK177.out 6).trans rfl
                        have hfz49_0 := blk_frozen BK177.out 0
                        have hfz49_1 := blk_frozen BK177.out 1
                        have hfz49_2 := blk_frozen BK177.out 2
                        have hfz49_3 := blk_frozen BK177.out 3
                        have hfz49_4 := blk_frozen BK177.out 4
                        have hfz49_5 := blk_frozen BK177.out 5
                        have hfz49_6 := blk_frozen BK177.out 6
                        go_wp2
                        go_meet
                        case rel => exact ⟨_, (decide ((((rd_T32 l0_1 a1).f5).length : Int) > 0)), (by first | rfl | (simp; done) | (simp [*]; done)), H', ⟨by have := HJ4.out; have := HJ32.out; first | omega | exact Nat.le_refl _⟩, ⟨by (with_reducible repeat (first | refine blk_drewN ?_ _ | refine blk_drew ?_ | refine blk_alloc ?_ _)); exact BK175.out⟩, ⟨by (with_reducible repeat (first | refine blk_drewN ?_ _ | refine blk_drew ?_ | refine blk_alloc ?_ _)); exact BK177.out⟩, ⟨by repeat (first | (with_reducible first | exact HB.out | apply below_alloc | apply pw_below_drewN | apply below_drew1 | refine below_set ?_ GE175.out | refine below_set ?_ GE177.out) | exact HB.out)⟩⟩
                    · rw [if_neg c44] at H
                      have c44b0 : decide (4 ≤ ((rd_T32 l0_1 a1).f1)) = false := decide_eq_false c44
                      clear c44
                      (first | rw [c44b0] | (simp only [i64_w, i32_w]; rw [c44b0]) | skip)
                      have H' := Aside0.mk H
                      clear H
                      have hnb50 := NB177_175.out
                      have hnc50 := NB175_177.out
                      have hcz51_0 : wc.cell? ⟨gb177, 0, none⟩ = some (.string ((rd_T32 l0_1 a1).f0)) := (blk_cell BK177.out 0).trans rfl
                      have hcz51_1 : wc.cell? ⟨gb177, 1, none⟩ = some (.int .i64 ((rd_T32 l0_1 a1).f1)) := (blk_cell BK177.out 1).trans rfl
                      have hcz51_2 : wc.cell? ⟨gb177, 2, none⟩ = some (.string ((rd_T32 l0_1 a1).f2)) := (blk_cell BK177.out 2).trans rfl
                      have hcz51_3 : wc.cell? ⟨gb177, 3, none⟩ = some (.bool ((rd_T32 l0_1 a1).f3)) := (blk_cell BK177.out 3).trans rfl
                      have hcz51_4 : wc.cell? ⟨gb177, 4, none⟩ = some (.int .i64 ((rd_T32 l0_1 a1).f4)) := (blk_cell BK177.out 4).trans rfl
                      have hcz51_5 : wc.cell? ⟨gb177, 5, none⟩ = some (.slice A176_5 ((rd_T32 l0_1 a1).f5).length c176_5) := (blk_cell BK177.out 5).trans rfl
                      have hcz51_6 : wc.cell? ⟨gb177, 6, none⟩ = some (.slice A176_6 ((rd_T32 l0_1 a1).f6).length c176_6) := (blk_cell BK177.out 6).trans rfl
                      have hfz51_0 := blk_frozen BK177.out 0
                      have hfz51_1 := blk_frozen BK177.out 1
                      have hfz51_2 := blk_frozen BK177.out 2
                      have hfz51_3 := blk_frozen BK177.out 3
                      have hfz51_4 := blk_frozen BK177.out 4
                      have hfz51_5 := blk_frozen BK177.out 5
                      have hfz51_6 := blk_frozen BK177.out 6
                      go_wp2
                      go_meet
                      case rel => exact ⟨_, (false), (by first | rfl | (simp; done) | (simp [*]; done)), H', ⟨by have := HJ4.out; have := HJ32.out; first | omega | exact Nat.le_refl _⟩, ⟨by (with_reducible repeat (first | refine blk_drewN ?_ _ | refine blk_drew ?_ | refine blk_alloc ?_ _)); exact BK175.out⟩, ⟨by (with_reducible repeat (first | refine blk_drewN ?_ _ | refine blk_drew ?_ | refine blk_alloc ?_ _)); exact BK177.out⟩, ⟨by repeat (first | (with_reducible first | exact HB.out | apply below_alloc | apply pw_below_drewN | apply below_drew1 | refine below_set ?_ GE175.out | refine below_set ?_ GE177.out) | exact HB.out)⟩⟩
                  · replace c43 := Bool.eq_false_iff.mpr c43
                    subst c43
                    have H1 : (sentryref4_item.j2 kj32 a1 true l0_0 l0_1 ((rd_T32 l0_1 a1).f0) ((rd_T32 l0_1 a1).f1) ((rd_T32 l0_1 a1).f2) ((rd_T32 l0_1 a1).f3) ((rd_T32 l0_1 a1).f4) ((rd_T32 l0_1 a1).f5) ((rd_T32 l0_1 a1).f6)) = some r := by rw [if_neg (show ¬ (false = true) by decide)] at H; exact H
                    clear H
                    have H := H1
                    clear H1
                    have H' := Aside0.mk H
                    clear H
                    go_wp2
                    go_meet
                    case rel => exact ⟨_, (true), (by first | rfl | (simp; done) | (simp [*]; done)), H', ⟨by have := HJ4.out; have := HJ32.out; first | omega | exact Nat.le_refl _⟩, ⟨by (with_reducible repeat (first | refine blk_drewN ?_ _ | refine blk_drew ?_ | refine blk_alloc ?_ _)); exact BK175.out⟩, ⟨by (with_reducible repeat (first | refine blk_drewN ?_ _ | refine blk_drew ?_ | refine blk_alloc ?_ _)); exact BK177.out⟩, ⟨by repeat (first | (with_reducible first | exact HB.out | apply below_alloc | apply pw_below_drewN | apply below_drew1 | refine below_set ?_ GE175.out | refine below_set ?_ GE177.out) | exact HB.out)⟩⟩
                case rest =>
                  clear HC42
                  try clear c1
                  try clear p1
                  try clear q1
                  try clear hx1
                  try clear c2
                  try clear p2
                  try clear c3
                  try clear c3b0
                  try clear c4
                  try clear c4b0
                  try clear c5
                  try clear c9
                  try clear c12
                  try clear c14
                  try clear c14b0
                  try clear c14b1
                  try clear c15
                  try clear c15b0
                  try clear c16
                  try clear c17
                  try clear p17
                  try clear q17
                  try clear hx17
                  try clear c21
                  try clear c26
                  try clear c30
                  try clear c32
                  try clear c34
                  try clear c36
                  try clear c36b0
                  try clear c36b1
                  try clear c37
                  try clear c37b0
                  try clear c38
                  try clear c39
                  try clear c40
                  try clear c41
                  try clear c43
                  try clear c44
                  try clear c44b0
                  try clear c45
                  try clear c45b0
                  try clear c46
                  try clear c48
                  try clear c50
                  try clear hcz10_0
                  try clear hcz10_1
                  try clear hcz10_2
                  try clear hcz10_3
                  try clear hcz10_4
                  try clear hcz10_5
                  try clear hcz10_6
                  try clear hcz17_0
                  try clear hcz17_1
                  try clear hcz17_2
                  try clear hcz17_3
                  try clear hcz17_4
                  try clear hcz17_5
                  try clear hcz17_6
                  try clear hcz18_0
                  try clear hcz18_1
                  try clear hcz20_0
                  try clear hcz20_1
                  try clear hcz20_2
                  try clear hcz20_3
                  try clear hcz20_4
                  try clear hcz20_5
                  try clear hcz20_6
                  try clear hcz22_0
                  try clear hcz22_1
                  try clear hcz22_2
                  try clear hcz22_3
                  try clear hcz22_4
                  try clear hcz22_5
                  try clear hcz22_6
                  try clear hcz23_0
                  try clear hcz23_1
                  try clear hcz25_0
                  try clear hcz25_1
                  try clear hcz25_2
                  try clear hcz25_3
                  try clear hcz25_4
                  try clear hcz25_5
                  try clear hcz25_6
                  try clear hcz27_0
                  try clear hcz27_1
                  try clear hcz27_2
                  try clear hcz27_3
                  try clear hcz27_4
                  try clear hcz27_5
                  try clear hcz27_6
                  try clear hcz28_0
                  try clear hcz28_1
                  try clear hcz31_0
                  try clear hcz31_1
                  try clear hcz31_2
                  try clear hcz31_3
                  try clear hcz31_4
                  try clear hcz31_5
                  try clear hcz31_6
                  try clear hcz35_0
                  try clear hcz35_1
                  try clear hcz35_2
                  try clear hcz35_3
                  try clear hcz35_4
                  try clear hcz35_5
                  try clear hcz35_6
                  try clear hcz39_0
                  try clear hcz39_1
                  try clear hcz39_2
                  try clear hcz39_3
                  try clear hcz39_4
                  try clear hcz39_5
                  try clear hcz39_6
                  try clear hcz41_0
                  try clear hcz41_1
                  try clear hcz41_2
                  try clear hcz41_3
                  try clear hcz41_4
                  try clear hcz41_5
                  try clear hcz41_6
                  try clear hcz47_0
                  try clear hcz47_1
                  try clear hcz47_2
                  try clear hcz47_3
                  try clear hcz47_4
                  try clear hcz47_5
                  try clear hcz47_6
                  try clear hcz49_0
                  try clear hcz49_1
                  try clear hcz49_2
                  try clear hcz49_3
                  try clear hcz49_4
                  try clear hcz49_5
                  try clear hcz49_6
                  try clear hcz51_0
                  try clear hcz51_1
                  try clear hcz51_2
                  try clear hcz51_3
                  try clear hcz51_4
                  try clear hcz51_5
                  try clear hcz51_6
                  try clear hcz7_0
                  try clear hcz7_1
                  try clear hfz10_0
                  try clear hfz10_1
                  try clear hfz10_2
                  try clear hfz10_3
                  try clear hfz10_4
                  try clear hfz10_5
                  try clear hfz10_6
                  try clear hfz17_0
                  try clear hfz17_1
                  try clear hfz17_2
                  try clear hfz17_3
                  try clear hfz17_4
                  try clear hfz17_5
                  try clear hfz17_6
                  try clear hfz18_0
                  try clear hfz18_1
                  try clear hfz20_0
                  try clear hfz20_1
                  try clear hfz20_2
                  try clear hfz20_3
                  try clear hfz20_4
                  try clear hfz20_5
                  try clear hfz20_6
                  try clear hfz22_0
                  try clear hfz22_1
                  try clear hfz22_2
                  try clear hfz22_3
                  try clear hfz22_4
                  try clear hfz22_5
                  try clear hfz22_6
                  try clear hfz23_0
                  try clear hfz23_1
                  try clear hfz25_0
                  try clear hfz25_1
                  try clear hfz25_2
                  try clear hfz25_3
                  try clear hfz25_4
                  try clear hfz25_5
                  try clear hfz25_6
                  try clear hfz27_0
                  try clear hfz27_1
                  try clear hfz27_2
                  try clear hfz27_3
                  try clear hfz27_4
                  try clear hfz27_5
                  try clear hfz27_6
                  try clear hfz28_0
                  try clear hfz28_1
                  try clear hfz31_0
                  try clear hfz31_1
                  try clear hfz31_2
                  try clear hfz31_3
                  try clear hfz31_4
                  try clear hfz31_5
                  try clear hfz31_6
                  try clear hfz35_0
                  try clear hfz35_1
                  try clear hfz35_2
                  try clear hfz35_3
                  try clear hfz35_4
                  try clear hfz35_5
                  try clear hfz35_6
                  try clear hfz39_0
                  try clear hfz39_1
                  try clear hfz39_2
                  try clear hfz39_3
                  try clear hfz39_4
                  try clear hfz39_5
                  try clear hfz39_6
                  try clear hfz41_0
                  try clear hfz41_1
                  try clear hfz41_2
                  try clear hfz41_3
                  try clear hfz41_4
                  try clear hfz41_5
                  try clear hfz41_6
                  try clear hfz47_0
                  try clear hfz47_1
                  try clear hfz47_2
                  try clear hfz47_3
                  try clear hfz47_4
                  try clear hfz47_5
                  try clear hfz47_6
                  try clear hfz49_0
                  try clear hfz49_1
                  try clear hfz49_2
                  try clear hfz49_3
                  try clear hfz49_4
                  try clear hfz49_5
                  try clear hfz49_6
                  try clear hfz51_0
                  try clear hfz51_1
                  try clear hfz51_2
                  try clear hfz51_3
                  try clear hfz51_4
                  try clear hfz51_5
                  try clear hfz51_6
                  try clear hfz7_0
                  try clear hfz7_1
                  try clear hx176_0
                  try clear hx176_1
                  try clear hx176_2
                  try clear hx176_3
                  try clear hx176_4
                  try clear hx176_5
                  try clear hx176_6
                  try clear p1
                  try clear p17
                  try clear p176
                  try clear p2
                  try clear q1
                  try clear q17
                  try clear q176
                  obtain ⟨kq, x65_41, rfl, HA, HJ41, BK175, BK177, HB⟩ := hcut
                  cases kq with
                  | zero => exact absurd HA.out (by simp [sentryref4_item.j2])
                  | succ kj41 =>
                    have H := HA.out
                    clear HA
                    simp only [sentryref4_item.j2] at H
                    by_cases c52 : x65_41 = true
                    · subst c52
                      have H1 : (some false) = some r := by rw [if_pos rfl] at H; exact H
                      clear H
                      have H := H1
                      clear H1
                      obtain rfl := Option.some.inj H
                      go_wp2
                      go_ret
                      exact ⟨by first | rfl | (simp [errW_none, errW_some] <;> rfl) | (simp [*, errW_none, errW_some] <;> rfl), by repeat (first | (with_reducible first | exact HB.out | apply below_alloc | apply pw_below_drewN | apply below_drew1 | refine below_set ?_ GE175.out | refine below_set ?_ GE177.out) | exact HB.out)⟩
                    · replace c52 := Bool.eq_false_iff.mpr c52
                      subst c52
                      have H1 : (if a1 = 0 then (if ((rd_T32 l0_1 a1).f1) = 1 then (if ((rd_T32 l0_1 a1).f2).toList = ([] : List UInt8) then (if ((rd_T32 l0_1 a1).f3) = true then (some false) else (if (((rd_T32 l0_1 a1).f5).length : Int) = 0 then (some ((((rd_T32 l0_1 a1).f6).length : Int) == 0)) else (some false))) else (some false)) else (some false)) else ((sentryref4_Place.f kj41 l0_0 l0_1 ((rd_T32 l0_1 a1).f2)).bind fun t180 => (if ((rd_T32 l0_1 a1).f2).toList = ([] : List UInt8) then (some false) else (if t180 ≥ 0 then (if t180 < a1 then (if 0 ≤ t180 then (if t180 < (l0_1.length : Int) then (if ((rd_T32 l0_1 t180).f1) = 1 then ((sentryref4_within.f kj41 l0_0 l0_1 (wrap64 (a1 - 1)) ((rd_T32 l0_1 a1).f2)).bind fun t182 => (if t182 = true then ((sentryref4_Depth.f kj41 l0_0 l0_1 a1).bind fun t183 => (if t183 ≥ 1 then ((sentryref4_Depth.f kj41 l0_0 l0_1 a1).bind fun t184 => (some (decide (t184 ≤ 5)))) else (some false))) else (some false))) else (some false)) else (none)) else (none)) else (some false)) else (some false))))) = some r := by rw [if_neg (show ¬ (false = true) by decide)] at H; exact H
                      clear H
                      have H := H1
                      clear H1
                      by_cases c53 : a1 = 0
                      · rw [if_pos c53] at H
                        have c53b0 : (a1 == 0) = true := beq_iff_eq.mpr c53
                        have c53b1 : (a1 != 0) = false := bne_eq_false_iff_eq.mpr c53
                        clear c53
                        by_cases c54 : ((rd_T32 l0_1 a1).f1) = 1
                        · rw [if_pos c54] at H
                          have c54b0 : (((rd_T32 l0_1 a1).f1) == 1) = true := beq_iff_eq.mpr c54
                          have c54b1 : (((rd_T32 l0_1 a1).f1) != 1) = false := bne_eq_false_iff_eq.mpr c54
                          clear c54
                          by_cases c55 : ((rd_T32 l0_1 a1).f2).toList = ([] : List UInt8)
                          · rw [if_pos c55] at H
                            have c55b0 : (((rd_T32 l0_1 a1).f2).toList == ([] : List UInt8)) = true := beq_iff_eq.mpr c55
                            have c55b1 : (((rd_T32 l0_1 a1).f2).toList != ([] : List UInt8)) = false := bne_eq_false_iff_eq.mpr c55
                            clear c55
                            by_cases c56 : ((rd_T32 l0_1 a1).f3) = true
                            · rw [if_pos c56] at H
                              have c56b0 : ((rd_T32 l0_1 a1).f3) = true := c56
                              clear c56
                              obtain rfl := Option.some.inj H
                              have hnb57 := NB177_175.out
                              have hnc57 := NB175_177.out
                              have hcz58_0 : wc.cell? ⟨gb177, 0, none⟩ = some (.string ((rd_T32 l0_1 a1).f0)) := (blk_cell BK177.out 0).trans rfl
                              have hcz58_1 : wc.cell? ⟨gb177, 1, none⟩ = some (.int .i64 ((rd_T32 l0_1 a1).f1)) := (blk_cell BK177.out 1).trans rfl
                              have hcz58_2 : wc.cell? ⟨gb177, 2, none⟩ = some (.string ((rd_T32 l0_1 a1).f2)) := (blk_cell BK177.out 2).trans rfl
                              have hcz58_3 : wc.cell? ⟨gb177, 3, none⟩ = some (.bool ((rd_T32 l0_1 a1).f3)) := (blk_cell BK177.out 3).trans rfl
                              have hcz58_4 : wc.cell? ⟨gb177, 4, none⟩ = some (.int .i64 ((rd_T32 l0_1 a1).f4)) := (blk_cell BK177.out 4).trans rfl
                              have hcz58_5 : wc.cell? ⟨gb177, 5, none⟩ = some (.slice A176_5 ((rd_T32 l0_1 a1).f5).length c176_5) := (blk_cell BK177.out 5).trans rfl
                              have hcz58_6 : wc.cell? ⟨gb177, 6, none⟩ = some (.slice A176_6 ((rd_T32 l0_1 a1).f6).length c176_6) := (blk_cell BK177.out 6).trans rfl
                              have hfz58_0 := blk_frozen BK177.out 0
                              have hfz58_1 := blk_frozen BK177.out 1
                              have hfz58_2 := blk_frozen BK177.out 2
                              have hfz58_3 := blk_frozen BK177.out 3
                              have hfz58_4 := blk_frozen BK177.out 4
                              have hfz58_5 := blk_frozen BK177.out 5
                              have hfz58_6 := blk_frozen BK177.out 6
                              go_wp2
                              go_ret
                              exact ⟨by first | rfl | (simp [errW_none, errW_some] <;> rfl) | (simp [*, errW_none, errW_some] <;> rfl), by repeat (first | (with_reducible first | exact HB.out | apply below_alloc | apply pw_below_drewN | apply below_drew1 | refine below_set ?_ GE175.out | refine below_set ?_ GE177.out) | exact HB.out)⟩
                            · rw [if_neg c56] at H
                              have c56b0 : ((rd_T32 l0_1 a1).f3) = false := by simpa using c56
                              clear c56
                              by_cases c59 : (((rd_T32 l0_1 a1).f5).length : Int) = 0
                              · rw [if_pos c59] at H
                                have c59b0 : ((((rd_T32 l0_1 a1).f5).length : Int) == 0) = true := beq_iff_eq.mpr c59
                                have c59b1 : ((((rd_T32 l0_1 a1).f5).length : Int) != 0) = false := bne_eq_false_iff_eq.mpr c59
                                clear c59
                                obtain rfl := Option.some.inj H
                                have hnb60 := NB177_175.out
                                have hnc60 := NB175_177.out
                                have hcz61_0 : wc.cell? ⟨gb177, 0, none⟩ = some (.string ((rd_T32 l0_1 a1).f0)) := (blk_cell BK177.out 0).trans rfl
                                have hcz61_1 : wc.cell? ⟨gb177, 1, none⟩ = some (.int .i64 ((rd_T32 l0_1 a1).f1)) := (blk_cell BK177.out 1).trans rfl
                                have hcz61_2 : wc.cell? ⟨gb177, 2, none⟩ = some (.string ((rd_T32 l0_1 a1).f2)) := (blk_cell BK177.out 2).trans rfl
                                have hcz61_3 : wc.cell? ⟨gb177, 3, none⟩ = some (.bool ((rd_T32 l0_1 a1).f3)) := (blk_cell BK177.out 3).trans rfl
                                have hcz61_4 : wc.cell? ⟨gb177, 4, none⟩ = some (.int .i64 ((rd_T32 l0_1 a1).f4)) := (blk_cell BK177.out 4).trans rfl
                                have hcz61_5 : wc.cell? ⟨gb177, 5, none⟩ = some (.slice A176_5 ((rd_T32 l0_1 a1).f5).length c176_5) := (blk_cell BK177.out 5).trans rfl
                                have hcz61_6 : wc.cell? ⟨gb177, 6, none⟩ = some (.slice A176_6 ((rd_T32 l0_1 a1).f6).length c176_6) := (blk_cell BK177.out 6).trans rfl
                                have hfz61_0 := blk_frozen BK177.out 0
                                have hfz61_1 := blk_frozen BK177.out 1
                                have hfz61_2 := blk_frozen BK177.out 2
                                have hfz61_3 := blk_frozen BK177.out 3
                                have hfz61_4 := blk_frozen BK177.out 4
                                have hfz61_5 := blk_frozen BK177.out 5
                                have hfz61_6 := blk_frozen BK177.out 6
                                go_wp2
                                go_ret
                                exact ⟨by first | rfl | (simp [errW_none, errW_some] <;> rfl) | (simp [*, errW_none, errW_some] <;> rfl), by repeat (first | (with_reducible first | exact HB.out | apply below_alloc | apply pw_below_drewN | apply below_drew1 | refine below_set ?_ GE175.out | refine below_set ?_ GE177.out) | exact HB.out)⟩
                              · rw [if_neg c59] at H
                                have c59b0 : ((((rd_T32 l0_1 a1).f5).length : Int) == 0) = false := beq_eq_false_iff_ne.mpr c59
                                have c59b1 : ((((rd_T32 l0_1 a1).f5).length : Int) != 0) = true := bne_iff_ne.mpr c59
                                have c59b2 : ¬ (((rd_T32 l0_1 a1).f5) = []) := fun h_ => c59 (by rw [h_]; rfl)
                                obtain rfl := Option.some.inj H
                                have hnb62 := NB177_175.out
                                have hnc62 := NB175_177.out
                                have hcz63_0 : wc.cell? ⟨gb177, 0, none⟩ = some (.string ((rd_T32 l0_1 a1).f0)) := (blk_cell BK177.out 0).trans rfl
                                have hcz63_1 : wc.cell? ⟨gb177, 1, none⟩ = some (.int .i64 ((rd_T32 l0_1 a1).f1)) := (blk_cell BK177.out 1).trans rfl
                                have hcz63_2 : wc.cell? ⟨gb177, 2, none⟩ = some (.string ((rd_T32 l0_1 a1).f2)) := (blk_cell BK177.out 2).trans rfl
                                have hcz63_3 : wc.cell? ⟨gb177, 3, none⟩ = some (.bool ((rd_T32 l0_1 a1).f3)) := (blk_cell BK177.out 3).trans rfl
                                have hcz63_4 : wc.cell? ⟨gb177, 4, none⟩ = some (.int .i64 ((rd_T32 l0_1 a1).f4)) := (blk_cell BK177.out 4).trans rfl
                                have hcz63_5 : wc.cell? ⟨gb177, 5, none⟩ = some (.slice A176_5 ((rd_T32 l0_1 a1).f5).length c176_5) := (blk_cell BK177.out 5).trans rfl
                                have hcz63_6 : wc.cell? ⟨gb177, 6, none⟩ = some (.slice A176_6 ((rd_T32 l0_1 a1).f6).length c176_6) := (blk_cell BK177.out 6).trans rfl
                                have hfz63_0 := blk_frozen BK177.out 0
                                have hfz63_1 := blk_frozen BK177.out 1
                                have hfz63_2 := blk_frozen BK177.out 2
                                have hfz63_3 := blk_frozen BK177.out 3
                                have hfz63_4 := blk_frozen BK177.out 4
                                have hfz63_5 := blk_frozen BK177.out 5
                                have hfz63_6 := blk_frozen BK177.out 6
                                go_wp2
                                go_ret
                                exact ⟨by first | rfl | (simp [errW_none, errW_some] <;> rfl) | (simp [*, errW_none, errW_some] <;> rfl), by repeat (first | (with_reducible first | exact HB.out | apply below_alloc | apply pw_below_drewN | apply below_drew1 | refine below_set ?_ GE175.out | refine below_set ?_ GE177.out) | exact HB.out)⟩
                          · rw [if_neg c55] at H
                            have c55b0 : (((rd_T32 l0_1 a1).f2).toList == ([] : List UInt8)) = false := beq_eq_false_iff_ne.mpr c55
                            have c55b1 : (((rd_T32 l0_1 a1).f2).toList != ([] : List UInt8)) = true := bne_iff_ne.mpr c55
                            obtain rfl := Option.some.inj H
                            have hnb64 := NB177_175.out
                            have hnc64 := NB175_177.out
                            have hcz65_0 : wc.cell? ⟨gb177, 0, none⟩ = some (.string ((rd_T32 l0_1 a1).f0)) := (blk_cell BK177.out 0).trans rfl
                            have hcz65_1 : wc.cell? ⟨gb177, 1, none⟩ = some (.int .i64 ((rd_T32 l0_1 a1).f1)) := (blk_cell BK177.out 1).trans rfl
                            have hcz65_2 : wc.cell? ⟨gb177, 2, none⟩ = some (.string ((rd_T32 l0_1 a1).f2)) := (blk_cell BK177.out 2).trans rfl
                            have hcz65_3 : wc.cell? ⟨gb177, 3, none⟩ = some (.bool ((rd_T32 l0_1 a1).f3)) := (blk_cell BK177.out 3).trans rfl
                            have hcz65_4 : wc.cell? ⟨gb177, 4, none⟩ = some (.int .i64 ((rd_T32 l0_1 a1).f4)) := (blk_cell BK177.out 4).trans rfl
                            have hcz65_5 : wc.cell? ⟨gb177, 5, none⟩ = some (.slice A176_5 ((rd_T32 l0_1 a1).f5).length c176_5) := (blk_cell BK177.out 5).trans rfl
                            have hcz65_6 : wc.cell? ⟨gb177, 6, none⟩ = some (.slice A176_6 ((rd_T32 l0_1 a1).f6).length c176_6) := (blk_cell BK177.out 6).trans rfl
                            have hfz65_0 := blk_frozen BK177.out 0
                            have hfz65_1 := blk_frozen BK177.out 1
                            have hfz65_2 := blk_frozen BK177.out 2
                            have hfz65_3 := blk_frozen BK177.out 3
                            have hfz65_4 := blk_frozen BK177.out 4
                            have hfz65_5 := blk_frozen BK177.out 5
                            have hfz65_6 := blk_frozen BK177.out 6
                            go_wp2
                            go_ret
                            exact ⟨by first | rfl | (simp [errW_none, errW_some] <;> rfl) | (simp [*, errW_none, errW_some] <;> rfl), by repeat (first | (with_reducible first | exact HB.out | apply below_alloc | apply pw_below_drewN | apply below_drew1 | refine below_set ?_ GE175.out | refine below_set ?_ GE177.out) | exact HB.out)⟩
                        · rw [if_neg c54] at H
                          have c54b0 : (((rd_T32 l0_1 a1).f1) == 1) = false := beq_eq_false_iff_ne.mpr c54
                          have c54b1 : (((rd_T32 l0_1 a1).f1) != 1) = true := bne_iff_ne.mpr c54
                          obtain rfl := Option.some.inj H
                          have hnb66 := NB177_175.out
                          have hnc66 := NB175_177.out
                          have hcz67_0 : wc.cell? ⟨gb177, 0, none⟩ = some (.string ((rd_T32 l0_1 a1).f0)) := (blk_cell BK177.out 0).trans rfl
                          have hcz67_1 : wc.cell? ⟨gb177, 1, none⟩ = some (.int .i64 ((rd_T32 l0_1 a1).f1)) := (blk_cell BK177.out 1).trans rfl
                          have hcz67_2 : wc.cell? ⟨gb177, 2, none⟩ = some (.string ((rd_T32 l0_1 a1).f2)) := (blk_cell BK177.out 2).trans rfl
                          have hcz67_3 : wc.cell? ⟨gb177, 3, none⟩ = some (.bool ((rd_T32 l0_1 a1).f3)) := (blk_cell BK177.out 3).trans rfl
                          have hcz67_4 : wc.cell? ⟨gb177, 4, none⟩ = some (.int .i64 ((rd_T32 l0_1 a1).f4)) := (blk_cell BK177.out 4).trans rfl
                          have hcz67_5 : wc.cell? ⟨gb177, 5, none⟩ = some (.slice A176_5 ((rd_T32 l0_1 a1).f5).length c176_5) := (blk_cell BK177.out 5).trans rfl
                          have hcz67_6 : wc.cell? ⟨gb177, 6, none⟩ = some (.slice A176_6 ((rd_T32 l0_1 a1).f6).length c176_6) := (blk_cell BK177.out 6).trans rfl
                          have hfz67_0 := blk_frozen BK177.out 0
                          have hfz67_1 := blk_frozen BK177.out 1
                          have hfz67_2 := blk_frozen BK177.out 2
                          have hfz67_3 := blk_frozen BK177.out 3
                          have hfz67_4 := blk_frozen BK177.out 4
                          have hfz67_5 := blk_frozen BK177.out 5
                          have hfz67_6 := blk_frozen BK177.out 6
                          go_wp2
                          go_ret
                          exact ⟨by first | rfl | (simp [errW_none, errW_some] <;> rfl) | (simp [*, errW_none, errW_some] <;> rfl), by repeat (first | (with_reducible first | exact HB.out | apply below_alloc | apply pw_below_drewN | apply below_drew1 | refine below_set ?_ GE175.out | refine below_set ?_ GE177.out) | exact HB.out)⟩
                      · rw [if_neg c53] at H
                        have c53b0 : (a1 == 0) = false := beq_eq_false_iff_ne.mpr c53
                        have c53b1 : (a1 != 0) = true := bne_iff_ne.mpr c53
                        replace H := Option.bind_eq_some_iff.mp H
                        obtain ⟨t180, A680, H⟩ := H
                        replace H : (if ((rd_T32 l0_1 a1).f2).toList = ([] : List UInt8) then (some false) else (if t180 ≥ 0 then (if t180 < a1 then (if 0 ≤ t180 then (if t180 < (l0_1.length : Int) then (if ((rd_T32 l0_1 t180).f1) = 1 then ((sentryref4_within.f kj41 l0_0 l0_1 (wrap64 (a1 - 1)) ((rd_T32 l0_1 a1).f2)).bind fun t182 => (if t182 = true then ((sentryref4_Depth.f kj41 l0_0 l0_1 a1).bind fun t183 => (if t183 ≥ 1 then ((sentryref4_Depth.f kj41 l0_0 l0_1 a1).bind fun t184 => (some (decide (t184 ≤ 5)))) else (some false))) else (some false))) else (some false)) else (none)) else (none)) else (some false)) else (some false))) = some r := H
                        have A68 := Aside0.mk A680
                        clear A680
                        by_cases c69 : ((rd_T32 l0_1 a1).f2).toList = ([] : List UInt8)
                        · rw [if_pos c69] at H
                          have c69b0 : (((rd_T32 l0_1 a1).f2).toList == ([] : List UInt8)) = true := beq_iff_eq.mpr c69
                          have c69b1 : (((rd_T32 l0_1 a1).f2).toList != ([] : List UInt8)) = false := bne_eq_false_iff_eq.mpr c69
                          clear c69
                          obtain rfl := Option.some.inj H
                          have hnb70 := NB175_177.out
                          have hnc70 := NB177_175.out
                          have hcz71_0 : wc.cell? ⟨gb175, 0, none⟩ = some (.slice A0_0 l0_0.length c0_0) := (blk_cell BK175.out 0).trans rfl
                          have hcz71_1 : wc.cell? ⟨gb175, 1, none⟩ = some (.slice (some ad176) l0_1.length c0_1) := (blk_cell BK175.out 1).trans rfl
                          have hfz71_0 := blk_frozen BK175.out 0
                          have hfz71_1 := blk_frozen BK175.out 1
                          have hcz72_0 : wc.cell? ⟨gb177, 0, none⟩ = some (.string ((rd_T32 l0_1 a1).f0)) := (blk_cell BK177.out 0).trans rfl
                          have hcz72_1 : wc.cell? ⟨gb177, 1, none⟩ = some (.int .i64 ((rd_T32 l0_1 a1).f1)) := (blk_cell BK177.out 1).trans rfl
                          have hcz72_2 : wc.cell? ⟨gb177, 2, none⟩ = some (.string ((rd_T32 l0_1 a1).f2)) := (blk_cell BK177.out 2).trans rfl
                          have hcz72_3 : wc.cell? ⟨gb177, 3, none⟩ = some (.bool ((rd_T32 l0_1 a1).f3)) := (blk_cell BK177.out 3).trans rfl
                          have hcz72_4 : wc.cell? ⟨gb177, 4, none⟩ = some (.int .i64 ((rd_T32 l0_1 a1).f4)) := (blk_cell BK177.out 4).trans rfl
                          have hcz72_5 : wc.cell? ⟨gb177, 5, none⟩ = some (.slice A176_5 ((rd_T32 l0_1 a1).f5).length c176_5) := (blk_cell BK177.out 5).trans rfl
                          have hcz72_6 : wc.cell? ⟨gb177, 6, none⟩ = some (.slice A176_6 ((rd_T32 l0_1 a1).f6).length c176_6) := (blk_cell BK177.out 6).trans rfl
                          have hfz72_0 := blk_frozen BK177.out 0
                          have hfz72_1 := blk_frozen BK177.out 1
                          have hfz72_2 := blk_frozen BK177.out 2
                          have hfz72_3 := blk_frozen BK177.out 3
                          have hfz72_4 := blk_frozen BK177.out 4
                          have hfz72_5 := blk_frozen BK177.out 5
                          have hfz72_6 := blk_frozen BK177.out 6
                          go_wp2_with (first | ((with_reducible refine gate_callee (f := 20) rfl ?_); refine goesL_ (some 96) rfl rfl Try.func20 (by kernel_rfl) rfl #[.agg #[.slice A0_0 l0_0.length c0_0, .slice (some ad176) l0_1.length c0_1], .string ((rd_T32 l0_1 a1).f2)] rfl (by (try simp only [List.map_toArray, List.map_cons, List.map_nil]); first | done | rfl | (simp only [List.length_drop, List.length_take]; rfl)) ?_; (with_reducible refine (sentryref4_Place.calls kj41 _ _ l0_0 _ _ l0_1 ((rd_T32 l0_1 a1).f2) t180 _ ?side1 ?side2 ?side3 ?side4 A68.out).mono ?_); (case side1 => repeat (first | exact (Kd.C_below HR0_0.out HB.out) | (with_reducible refine Kd.C_alloc ?_ _) | (with_reducible refine Kd.C_drewN ?_ _) | (with_reducible refine Kd.C_drew ?_))); (case side2 => exact HC0_0.out); (case side3 => repeat (first | exact (Kd.C_below HR0_1.out HB.out) | (with_reducible refine Kd.C_alloc ?_ _) | (with_reducible refine Kd.C_drewN ?_ _) | (with_reducible refine Kd.C_drew ?_))); (case side4 => exact HC0_1.out); rintro e w73 ⟨rfl, hb⟩; refine ⟨_, rfl, ?_⟩; have n0_ := Aside0.mk (blk_below (g := gb175) (o := .cells #[.slice A0_0 l0_0.length c0_0, .slice (some ad176) l0_1.length c0_1] 36 (0, 0)) (by (with_reducible repeat (first | refine blk_drewN ?_ _ | refine blk_drew ?_ | refine blk_alloc ?_ _)); exact BK175.out) hb); have n1_ := Aside0.mk (blk_below (g := gb177) (o := .cells #[.string ((rd_T32 l0_1 a1).f0), .int .i64 ((rd_T32 l0_1 a1).f1), .string ((rd_T32 l0_1 a1).f2), .bool ((rd_T32 l0_1 a1).f3), .int .i64 ((rd_T32 l0_1 a1).f4), .slice A176_5 ((rd_T32 l0_1 a1).f5).length c176_5, .slice A176_6 ((rd_T32 l0_1 a1).f6).length c176_6] 32 (0, 0)) (by (with_reducible repeat (first | refine blk_drewN ?_ _ | refine blk_drew ?_ | refine blk_alloc ?_ _)); exact BK177.out) hb); have n2_ := Aside0.mk (below_step (by repeat (first | (with_reducible first | exact HB.out | apply below_alloc | apply pw_below_drewN | apply below_drew1 | refine below_set ?_ GE175.out | refine below_set ?_ GE177.out) | exact HB.out)) hb); clear BK175; clear BK177; clear HB; have BK175 := n0_; have BK177 := n1_; have HB := n2_; clear n0_ n1_ n2_; (try clear hb); (try clear hb2); (try clear hk); (try clear hi); have hcz74_0 : w73.cell? ⟨gb177, 0, none⟩ = some (.string ((rd_T32 l0_1 a1).f0)) := (blk_cell BK177.out 0).trans rfl; have hcz74_1 : w73.cell? ⟨gb177, 1, none⟩ = some (.int .i64 ((rd_T32 l0_1 a1).f1)) := (blk_cell BK177.out 1).trans rfl; have hcz74_2 : w73.cell? ⟨gb177, 2, none⟩ = some (.string ((rd_T32 l0_1 a1).f2)) := (blk_cell BK177.out 2).trans rfl; have hcz74_3 : w73.cell? ⟨gb177, 3, none⟩ = some (.bool ((rd_T32 l0_1 a1).f3)) := (blk_cell BK177.out 3).trans rfl; have hcz74_4 : w73.cell? ⟨gb177, 4, none⟩ = some (.int .i64 ((rd_T32 l0_1 a1).f4)) := (blk_cell BK177.out 4).trans rfl; have hcz74_5 : w73.cell? ⟨gb177, 5, none⟩ = some (.slice A176_5 ((rd_T32 l0_1 a1).f5).length c176_5) := (blk_cell BK177.out 5).trans rfl; have hcz74_6 : w73.cell? ⟨gb177, 6, none⟩ = some (.slice A176_6 ((rd_T32 l0_1 a1).f6).length c176_6) := (blk_cell BK177.out 6).trans rfl; have hfz74_0 := blk_frozen BK177.out 0; have hfz74_1 := blk_frozen BK177.out 1; have hfz74_2 := blk_frozen BK177.out 2; have hfz74_3 := blk_frozen BK177.out 3; have hfz74_4 := blk_frozen BK177.out 4; have hfz74_5 := blk_frozen BK177.out 5; have hfz74_6 := blk_frozen BK177.out 6))
                          go_ret
                          exact ⟨by first | rfl | (simp [errW_none, errW_some] <;> rfl) | (simp [*, errW_none, errW_some] <;> rfl), by repeat (first | (with_reducible first | exact HB.out | apply below_alloc | apply pw_below_drewN | apply below_drew1 | refine below_set ?_ GE175.out | refine below_set ?_ GE177.out) | exact HB.out)⟩
                        · rw [if_neg c69] at H
                          have c69b0 : (((rd_T32 l0_1 a1).f2).toList == ([] : List UInt8)) = false := beq_eq_false_iff_ne.mpr c69
                          have c69b1 : (((rd_T32 l0_1 a1).f2).toList != ([] : List UInt8)) = true := bne_iff_ne.mpr c69
                          by_cases c75 : t180 ≥ 0
                          · rw [if_pos c75] at H
                            have c75b0 : decide (0 ≤ t180) = true := decide_eq_true c75
                            clear c75
                            by_cases c76 : t180 < a1
                            · rw [if_pos c76] at H
                              have c76b0 : decide (t180 < a1) = true := decide_eq_true c76
                              clear c76
                              by_cases c77 : 0 ≤ t180
                              · rw [if_pos c77] at H
                                have c77b0 : decide (0 ≤ t180) = true := decide_eq_true c77
                                clear c77
                                by_cases c78 : t180 < (l0_1.length : Int)
                                · rw [if_pos c78] at H
                                  have c78b0 : decide (t180 < (l0_1.length : Int)) = true := decide_eq_true c78
                                  clear c78
                                  by_cases c79 : ((rd_T32 l0_1 t180).f1) = 1
                                  · rw [if_pos c79] at H
                                    have c79b0 : (((rd_T32 l0_1 t180).f1) == 1) = true := beq_iff_eq.mpr c79
                                    have c79b1 : (((rd_T32 l0_1 t180).f1) != 1) = false := bne_eq_false_iff_eq.mpr c79
                                    clear c79
                                    replace H := Option.bind_eq_some_iff.mp H
                                    obtain ⟨t182, A800, H⟩ := H
                                    replace H : (if t182 = true then ((sentryref4_Depth.f kj41 l0_0 l0_1 a1).bind fun t183 => (if t183 ≥ 1 then ((sentryref4_Depth.f kj41 l0_0 l0_1 a1).bind fun t184 => (some (decide (t184 ≤ 5)))) else (some false))) else (some false)) = some r := H
                                    have A80 := Aside0.mk A800
                                    clear A800
                                    by_cases c81 : t182 = true
                                    · subst c81
                                      have H1 : ((sentryref4_Depth.f kj41 l0_0 l0_1 a1).bind fun t183 => (if t183 ≥ 1 then ((sentryref4_Depth.f kj41 l0_0 l0_1 a1).bind fun t184 => (some (decide (t184 ≤ 5)))) else (some false))) = some r := by rw [if_pos rfl] at H; exact H
                                      clear H
                                      have H := H1
                                      clear H1
                                      replace H := Option.bind_eq_some_iff.mp H
                                      obtain ⟨t183, A820, H⟩ := H
                                      replace H : (if t183 ≥ 1 then ((sentryref4_Depth.f kj41 l0_0 l0_1 a1).bind fun t184 => (some (decide (t184 ≤ 5)))) else (some false)) = some r := H
                                      have A82 := Aside0.mk A820
                                      clear A820
                                      by_cases c83 : t183 ≥ 1
                                      · rw [if_pos c83] at H
                                        have c83b0 : decide (1 ≤ t183) = true := decide_eq_true c83
                                        clear c83
                                        replace H := Option.bind_eq_some_iff.mp H
                                        obtain ⟨t184, A840, H⟩ := H
                                        replace H : (some (decide (t184 ≤ 5))) = some r := H
                                        have A84 := Aside0.mk A840
                                        clear A840
                                        obtain rfl : t183 = t184 := Option.some.inj (A82.out.symm.trans A84.out)
                                        obtain rfl := Option.some.inj H
                                        have hnb85 := NB175_177.out
                                        have hnc85 := NB177_175.out
                                        have hcz86_0 : wc.cell? ⟨gb175, 0, none⟩ = some (.slice A0_0 l0_0.length c0_0) := (blk_cell BK175.out 0).trans rfl
                                        have hcz86_1 : wc.cell? ⟨gb175, 1, none⟩ = some (.slice (some ad176) l0_1.length c0_1) := (blk_cell BK175.out 1).trans rfl
                                        have hfz86_0 := blk_frozen BK175.out 0
                                        have hfz86_1 := blk_frozen BK175.out 1
                                        have hcz87_0 : wc.cell? ⟨gb177, 0, none⟩ = some (.string ((rd_T32 l0_1 a1).f0)) := (blk_cell BK177.out 0).trans rfl
                                        have hcz87_1 : wc.cell? ⟨gb177, 1, none⟩ = some (.int .i64 ((rd_T32 l0_1 a1).f1)) := (blk_cell BK177.out 1).trans rfl
                                        have hcz87_2 : wc.cell? ⟨gb177, 2, none⟩ = some (.string ((rd_T32 l0_1 a1).f2)) := (blk_cell BK177.out 2).trans rfl
                                        have hcz87_3 : wc.cell? ⟨gb177, 3, none⟩ = some (.bool ((rd_T32 l0_1 a1).f3)) := (blk_cell BK177.out 3).trans rfl
                                        have hcz87_4 : wc.cell? ⟨gb177, 4, none⟩ = some (.int .i64 ((rd_T32 l0_1 a1).f4)) := (blk_cell BK177.out 4).trans rfl
                                        have hcz87_5 : wc.cell? ⟨gb177, 5, none⟩ = some (.slice A176_5 ((rd_T32 l0_1 a1).f5).length c176_5) := (blk_cell BK177.out 5).trans rfl
                                        have hcz87_6 : wc.cell? ⟨gb177, 6, none⟩ = some (.slice A176_6 ((rd_T32 l0_1 a1).f6).length c176_6) := (blk_cell BK177.out 6).trans rfl
                                        have hfz87_0 := blk_frozen BK177.out 0
                                        have hfz87_1 := blk_frozen BK177.out 1
                                        have hfz87_2 := blk_frozen BK177.out 2
                                        have hfz87_3 := blk_frozen BK177.out 3
                                        have hfz87_4 := blk_frozen BK177.out 4
                                        have hfz87_5 := blk_frozen BK177.out 5
                                        have hfz87_6 := blk_frozen BK177.out 6
                                        go_wp2_with (first | ((with_reducible refine gate_callee (f := 20) rfl ?_); refine goesL_ (some 96) rfl rfl Try.func20 (by kernel_rfl) rfl #[.agg #[.slice A0_0 l0_0.length c0_0, .slice (some ad176) l0_1.length c0_1], .string ((rd_T32 l0_1 a1).f2)] rfl (by (try simp only [List.map_toArray, List.map_cons, List.map_nil]); first | done | rfl | (simp only [List.length_drop, List.length_take]; rfl)) ?_; (with_reducible refine (sentryref4_Place.calls kj41 _ _ l0_0 _ _ l0_1 ((rd_T32 l0_1 a1).f2) t180 _ ?side1 ?side2 ?side3 ?side4 A68.out).mono ?_); (case side1 => repeat (first | exact (Kd.C_below HR0_0.out HB.out) | (with_reducible refine Kd.C_alloc ?_ _) | (with_reducible refine Kd.C_drewN ?_ _) | (with_reducible refine Kd.C_drew ?_))); (case side2 => exact HC0_0.out); (case side3 => repeat (first | exact (Kd.C_below HR0_1.out HB.out) | (with_reducible refine Kd.C_alloc ?_ _) | (with_reducible refine Kd.C_drewN ?_ _) | (with_reducible refine Kd.C_drew ?_))); (case side4 => exact HC0_1.out); rintro e w88 ⟨rfl, hb⟩; refine ⟨_, rfl, ?_⟩; have n0_ := Aside0.mk (blk_below (g := gb175) (o := .cells #[.slice A0_0 l0_0.length c0_0, .slice (some ad176) l0_1.length c0_1] 36 (0, 0)) (by (with_reducible repeat (first | refine blk_drewN ?_ _ | refine blk_drew ?_ | refine blk_alloc ?_ _)); exact BK175.out) hb); have n1_ := Aside0.mk (blk_below (g := gb177) (o := .cells #[.string ((rd_T32 l0_1 a1).f0), .int .i64 ((rd_T32 l0_1 a1).f1), .string ((rd_T32 l0_1 a1).f2), .bool ((rd_T32 l0_1 a1).f3), .int .i64 ((rd_T32 l0_1 a1).f4), .slice A176_5 ((rd_T32 l0_1 a1).f5).length c176_5, .slice A176_6 ((rd_T32 l0_1 a1).f6).length c176_6] 32 (0, 0)) (by (with_reducible repeat (first | refine blk_drewN ?_ _ | refine blk_drew ?_ | refine blk_alloc ?_ _)); exact BK177.out) hb); have n2_ := Aside0.mk (below_step (by repeat (first | (with_reducible first | exact HB.out | apply below_alloc | apply pw_below_drewN | apply below_drew1 | refine below_set ?_ GE175.out | refine below_set ?_ GE177.out) | exact HB.out)) hb); clear BK175; clear BK177; clear HB; have BK175 := n0_; have BK177 := n1_; have HB := n2_; clear n0_ n1_ n2_; (try clear hb); (try clear hb2); (try clear hk); (try clear hi); have hcz89_0 : w88.cell? ⟨gb177, 0, none⟩ = some (.string ((rd_T32 l0_1 a1).f0)) := (blk_cell BK177.out 0).trans rfl; have hcz89_1 : w88.cell? ⟨gb177, 1, none⟩ = some (.int .i64 ((rd_T32 l0_1 a1).f1)) := (blk_cell BK177.out 1).trans rfl; have hcz89_2 : w88.cell? ⟨gb177, 2, none⟩ = some (.string ((rd_T32 l0_1 a1).f2)) := (blk_cell BK177.out 2).trans rfl; have hcz89_3 : w88.cell? ⟨gb177, 3, none⟩ = some (.bool ((rd_T32 l0_1 a1).f3)) := (blk_cell BK177.out 3).trans rfl; have hcz89_4 : w88.cell? ⟨gb177, 4, none⟩ = some (.int .i64 ((rd_T32 l0_1 a1).f4)) := (blk_cell BK177.out 4).trans rfl; have hcz89_5 : w88.cell? ⟨gb177, 5, none⟩ = some (.slice A176_5 ((rd_T32 l0_1 a1).f5).length c176_5) := (blk_cell BK177.out 5).trans rfl; have hcz89_6 : w88.cell? ⟨gb177, 6, none⟩ = some (.slice A176_6 ((rd_T32 l0_1 a1).f6).length c176_6) := (blk_cell BK177.out 6).trans rfl; have hfz89_0 := blk_frozen BK177.out 0; have hfz89_1 := blk_frozen BK177.out 1; have hfz89_2 := blk_frozen BK177.out 2; have hfz89_3 := blk_frozen BK177.out 3; have hfz89_4 := blk_frozen BK177.out 4; have hfz89_5 := blk_frozen BK177.out 5; have hfz89_6 := blk_frozen BK177.out 6; have hcz90_0 : w88.cell? ⟨gb175, 0, none⟩ = some (.slice A0_0 l0_0.length c0_0) := (blk_cell BK175.out 0).trans rfl; have hcz90_1 : w88.cell? ⟨gb175, 1, none⟩ = some (.slice (some ad176) l0_1.length c0_1) := (blk_cell BK175.out 1).trans rfl; have hfz90_0 := blk_frozen BK175.out 0; have hfz90_1 := blk_frozen BK175.out 1; have p181 : 0 ≤ (t180 : Int) := of_decide_eq_true (by first | (with_reducible assumption) | assumption); have q181 : t180 < (l0_1.length : Int) := of_decide_eq_true (by first | (with_reducible assumption) | assumption); obtain ⟨ad181, A181_5, c181_5, A181_6, c181_6, e181, hx181_0, hx181_1, hx181_2, hx181_3, hx181_4, hx181_5, hx181_6, hl181_5, hi181_5, hl181_6, hi181_6⟩ := at_T32 HR0_1.out t180 p181 q181; obtain rfl : ad176 = ad181 := (by injection e181); replace hx181_0 := (HB.out.cell (World.block_lt_of_cell? w _ hx181_0)).trans hx181_0; replace hx181_1 := (HB.out.cell (World.block_lt_of_cell? w _ hx181_1)).trans hx181_1; replace hx181_2 := (HB.out.cell (World.block_lt_of_cell? w _ hx181_2)).trans hx181_2; replace hx181_3 := (HB.out.cell (World.block_lt_of_cell? w _ hx181_3)).trans hx181_3; replace hx181_4 := (HB.out.cell (World.block_lt_of_cell? w _ hx181_4)).trans hx181_4; replace hx181_5 := (HB.out.cell (World.block_lt_of_cell? w _ hx181_5)).trans hx181_5; replace hx181_6 := (HB.out.cell (World.block_lt_of_cell? w _ hx181_6)).trans hx181_6; have HR181_5 := Aside0.mk hi181_5; have HC181_5 := Aside0.mk hl181_5; clear hi181_5 hl181_5; have HR181_6 := Aside0.mk hi181_6; have HC181_6 := Aside0.mk hl181_6; clear hi181_6 hl181_6; replace p181 := eq_true p181; replace q181 := eq_true q181) | (go_at_call 61; (with_reducible refine (sentryref4_within.calls kj41 _ _ l0_0 _ _ l0_1 (wrap64 (a1 - 1)) ((rd_T32 l0_1 a1).f2) true _ ?side1 ?side2 ?side3 ?side4 A80.out).mono ?_); (case side1 => repeat (first | exact (Kd.C_below HR0_0.out HB.out) | (with_reducible refine Kd.C_alloc ?_ _) | (with_reducible refine Kd.C_drewN ?_ _) | (with_reducible refine Kd.C_drew ?_))); (case side2 => exact HC0_0.out); (case side3 => repeat (first | exact (Kd.C_below HR0_1.out HB.out) | (with_reducible refine Kd.C_alloc ?_ _) | (with_reducible refine Kd.C_drewN ?_ _) | (with_reducible refine Kd.C_drew ?_))); (case side4 => exact HC0_1.out); rintro e w91 ⟨rfl, hb⟩; have n0_ := Aside0.mk (blk_below (g := gb175) (o := .cells #[.slice A0_0 l0_0.length c0_0, .slice (some ad176) l0_1.length c0_1] 36 (0, 0)) (by (with_reducible repeat (first | refine blk_drewN ?_ _ | refine blk_drew ?_ | refine blk_alloc ?_ _)); exact BK175.out) hb); have n1_ := Aside0.mk (blk_below (g := gb177) (o := .cells #[.string ((rd_T32 l0_1 a1).f0), .int .i64 ((rd_T32 l0_1 a1).f1), .string ((rd_T32 l0_1 a1).f2), .bool ((rd_T32 l0_1 a1).f3), .int .i64 ((rd_T32 l0_1 a1).f4), .slice A176_5 ((rd_T32 l0_1 a1).f5).length c176_5, .slice A176_6 ((rd_T32 l0_1 a1).f6).length c176_6] 32 (0, 0)) (by (with_reducible repeat (first | refine blk_drewN ?_ _ | refine blk_drew ?_ | refine blk_alloc ?_ _)); exact BK177.out) hb); have n2_ := Aside0.mk (below_step (by repeat (first | (with_reducible first | exact HB.out | apply below_alloc | apply pw_below_drewN | apply below_drew1 | refine below_set ?_ GE175.out | refine below_set ?_ GE177.out) | exact HB.out)) hb); clear BK175; clear BK177; clear HB; have BK175 := n0_; have BK177 := n1_; have HB := n2_; clear n0_ n1_ n2_; (try clear hb); (try clear hb2); (try clear hk); (try clear hi); have hcz92_0 : w91.cell? ⟨gb175, 0, none⟩ = some (.slice A0_0 l0_0.length c0_0) := (blk_cell BK175.out 0).trans rfl; have hcz92_1 : w91.cell? ⟨gb175, 1, none⟩ = some (.slice (some ad176) l0_1.length c0_1) := (blk_cell BK175.out 1).trans rfl; have hfz92_0 := blk_frozen BK175.out 0; have hfz92_1 := blk_frozen BK175.out 1) | (go_at_call 62; (with_reducible refine (sentryref4_Depth.calls kj41 _ _ l0_0 _ _ l0_1 a1 t183 _ ?side1 ?side2 ?side3 ?side4 A82.out).mono ?_); (case side1 => repeat (first | exact (Kd.C_below HR0_0.out HB.out) | (with_reducible refine Kd.C_alloc ?_ _) | (with_reducible refine Kd.C_drewN ?_ _) | (with_reducible refine Kd.C_drew ?_))); (case side2 => exact HC0_0.out); (case side3 => repeat (first | exact (Kd.C_below HR0_1.out HB.out) | (with_reducible refine Kd.C_alloc ?_ _) | (with_reducible refine Kd.C_drewN ?_ _) | (with_reducible refine Kd.C_drew ?_))); (case side4 => exact HC0_1.out); rintro e w93 ⟨rfl, hb⟩; have n0_ := Aside0.mk (blk_below (g := gb175) (o := .cells #[.slice A0_0 l0_0.length c0_0, .slice (some ad176) l0_1.length c0_1] 36 (0, 0)) (by (with_reducible repeat (first | refine blk_drewN ?_ _ | refine blk_drew ?_ | refine blk_alloc ?_ _)); exact BK175.out) hb); have n1_ := Aside0.mk (blk_below (g := gb177) (o := .cells #[.string ((rd_T32 l0_1 a1).f0), .int .i64 ((rd_T32 l0_1 a1).f1), .string ((rd_T32 l0_1 a1).f2), .bool ((rd_T32 l0_1 a1).f3), .int .i64 ((rd_T32 l0_1 a1).f4), .slice A176_5 ((rd_T32 l0_1 a1).f5).length c176_5, .slice A176_6 ((rd_T32 l0_1 a1).f6).length c176_6] 32 (0, 0)) (by (with_reducible repeat (first | refine blk_drewN ?_ _ | refine blk_drew ?_ | refine blk_alloc ?_ _)); exact BK177.out) hb); have n2_ := Aside0.mk (below_step (by repeat (first | (with_reducible first | exact HB.out | apply below_alloc | apply pw_below_drewN | apply below_drew1 | refine below_set ?_ GE175.out | refine below_set ?_ GE177.out) | exact HB.out)) hb); clear BK175; clear BK177; clear HB; have BK175 := n0_; have BK177 := n1_; have HB := n2_; clear n0_ n1_ n2_; (try clear hb); (try clear hb2); (try clear hk); (try clear hi); have hcz94_0 : w93.cell? ⟨gb175, 0, none⟩ = some (.slice A0_0 l0_0.length c0_0) := (blk_cell BK175.out 0).trans rfl; have hcz94_1 : w93.cell? ⟨gb175, 1, none⟩ = some (.slice (some ad176) l0_1.length c0_1) := (blk_cell BK175.out 1).trans rfl; have hfz94_0 := blk_frozen BK175.out 0; have hfz94_1 := blk_frozen BK175.out 1) | (go_at_call 62; (with_reducible refine (sentryref4_Depth.calls kj41 _ _ l0_0 _ _ l0_1 a1 t184 _ ?side1 ?side2 ?side3 ?side4 A84.out).mono ?_); (case side1 => repeat (first | exact (Kd.C_below HR0_0.out HB.out) | (with_reducible refine Kd.C_alloc ?_ _) | (with_reducible refine Kd.C_drewN ?_ _) | (with_reducible refine Kd.C_drew ?_))); (case side2 => exact HC0_0.out); (case side3 => repeat (first | exact (Kd.C_below HR0_1.out HB.out) | (with_reducible refine Kd.C_alloc ?_ _) | (with_reducible refine Kd.C_drewN ?_ _) | (with_reducible refine Kd.C_drew ?_))); (case side4 => exact HC0_1.out); rintro e w95 ⟨rfl, hb⟩; have n0_ := Aside0.mk (blk_below (g := gb175) (o := .cells #[.slice A0_0 l0_0.length c0_0, .slice (some ad176) l0_1.length c0_1] 36 (0, 0)) (by (with_reducible repeat (first | refine blk_drewN ?_ _ | refine blk_drew ?_ | refine blk_alloc ?_ _)); exact BK175.out) hb); have n1_ := Aside0.mk (blk_below (g := gb177) (o := .cells #[.string ((rd_T32 l0_1 a1).f0), .int .i64 ((rd_T32 l0_1 a1).f1), .string ((rd_T32 l0_1 a1).f2), .bool ((rd_T32 l0_1 a1).f3), .int .i64 ((rd_T32 l0_1 a1).f4), .slice A176_5 ((rd_T32 l0_1 a1).f5).length c176_5, .slice A176_6 ((rd_T32 l0_1 a1).f6).length c176_6] 32 (0, 0)) (by (with_reducible repeat (first | refine blk_drewN ?_ _ | refine blk_drew ?_ | refine blk_alloc ?_ _)); exact BK177.out) hb); have n2_ := Aside0.mk (below_step (by repeat (first | (with_reducible first | exact HB.out | apply below_alloc | apply pw_below_drewN | apply below_drew1 | refine below_set ?_ GE175.out | refine below_set ?_ GE177.out) | exact HB.out)) hb); clear BK175; clear BK177; clear HB; have BK175 := n0_; have BK177 := n1_; have HB := n2_; clear n0_ n1_ n2_; (try clear hb); (try clear hb2); (try clear hk); (try clear hi)))
                                        go_ret
                                        exact ⟨by first | rfl | (simp [errW_none, errW_some] <;> rfl) | (simp [*, errW_none, errW_some] <;> rfl), by repeat (first | (with_reducible first | exact HB.out | apply below_alloc | apply pw_below_drewN | apply below_drew1 | refine below_set ?_ GE175.out | refine below_set ?_ GE177.out) | exact HB.out)⟩
                                      · rw [if_neg c83] at H
                                        have c83b0 : decide (1 ≤ t183) = false := decide_eq_false c83
                                        clear c83
                                        obtain rfl := Option.some.inj H
                                        have hnb96 := NB175_177.out
                                        have hnc96 := NB177_175.out
                                        have hcz97_0 : wc.cell? ⟨gb175, 0, none⟩ = some (.slice A0_0 l0_0.length c0_0) := (blk_cell BK175.out 0).trans rfl
                                        have hcz97_1 : wc.cell? ⟨gb175, 1, none⟩ = some (.slice (some ad176) l0_1.length c0_1) := (blk_cell BK175.out 1).trans rfl
                                        have hfz97_0 := blk_frozen BK175.out 0
                                        have hfz97_1 := blk_frozen BK175.out 1
                                        have hcz98_0 : wc.cell? ⟨gb177, 0, none⟩ = some (.string ((rd_T32 l0_1 a1).f0)) := (blk_cell BK177.out 0).trans rfl
                                        have hcz98_1 : wc.cell? ⟨gb177, 1, none⟩ = some (.int .i64 ((rd_T32 l0_1 a1).f1)) := (blk_cell BK177.out 1).trans rfl
                                        have hcz98_2 : wc.cell? ⟨gb177, 2, none⟩ = some (.string ((rd_T32 l0_1 a1).f2)) := (blk_cell BK177.out 2).trans rfl
                                        have hcz98_3 : wc.cell? ⟨gb177, 3, none⟩ = some (.bool ((rd_T32 l0_1 a1).f3)) := (blk_cell BK177.out 3).trans rfl
                                        have hcz98_4 : wc.cell? ⟨gb177, 4, none⟩ = some (.int .i64 ((rd_T32 l0_1 a1).f4)) := (blk_cell BK177.out 4).trans rfl
                                        have hcz98_5 : wc.cell? ⟨gb177, 5, none⟩ = some (.slice A176_5 ((rd_T32 l0_1 a1).f5).length c176_5) := (blk_cell BK177.out 5).trans rfl
                                        have hcz98_6 : wc.cell? ⟨gb177, 6, none⟩ = some (.slice A176_6 ((rd_T32 l0_1 a1).f6).length c176_6) := (blk_cell BK177.out 6).trans rfl
                                        have hfz98_0 := blk_frozen BK177.out 0
                                        have hfz98_1 := blk_frozen BK177.out 1
                                        have hfz98_2 := blk_frozen BK177.out 2
                                        have hfz98_3 := blk_frozen BK177.out 3
                                        have hfz98_4 := blk_frozen BK177.out 4
                                        have hfz98_5 := blk_frozen BK177.out 5
                                        have hfz98_6 := blk_frozen BK177.out 6
                                        go_wp2_with (first | ((with_reducible refine gate_callee (f := 20) rfl ?_); refine goesL_ (some 96) rfl rfl Try.func20 (by kernel_rfl) rfl #[.agg #[.slice A0_0 l0_0.length c0_0, .slice (some ad176) l0_1.length c0_1], .string ((rd_T32 l0_1 a1).f2)] rfl (by (try simp only [List.map_toArray, List.map_cons, List.map_nil]); first | done | rfl | (simp only [List.length_drop, List.length_take]; rfl)) ?_; (with_reducible refine (sentryref4_Place.calls kj41 _ _ l0_0 _ _ l0_1 ((rd_T32 l0_1 a1).f2) t180 _ ?side1 ?side2 ?side3 ?side4 A68.out).mono ?_); (case side1 => repeat (first | exact (Kd.C_below HR0_0.out HB.out) | (with_reducible refine Kd.C_alloc ?_ _) | (with_reducible refine Kd.C_drewN ?_ _) | (with_reducible refine Kd.C_drew ?_))); (case side2 => exact HC0_0.out); (case side3 => repeat (first | exact (Kd.C_below HR0_1.out HB.out) | (with_reducible refine Kd.C_alloc ?_ _) | (with_reducible refine Kd.C_drewN ?_ _) | (with_reducible refine Kd.C_drew ?_))); (case side4 => exact HC0_1.out); rintro e w99 ⟨rfl, hb⟩; refine ⟨_, rfl, ?_⟩; have n0_ := Aside0.mk (blk_below (g := gb175) (o := .cells #[.slice A0_0 l0_0.length c0_0, .slice (some ad176) l0_1.length c0_1] 36 (0, 0)) (by (with_reducible repeat (first | refine blk_drewN ?_ _ | refine blk_drew ?_ | refine blk_alloc ?_ _)); exact BK175.out) hb); have n1_ := Aside0.mk (blk_below (g := gb177) (o := .cells #[.string ((rd_T32 l0_1 a1).f0), .int .i64 ((rd_T32 l0_1 a1).f1), .string ((rd_T32 l0_1 a1).f2), .bool ((rd_T32 l0_1 a1).f3), .int .i64 ((rd_T32 l0_1 a1).f4), .slice A176_5 ((rd_T32 l0_1 a1).f5).length c176_5, .slice A176_6 ((rd_T32 l0_1 a1).f6).length c176_6] 32 (0, 0)) (by (with_reducible repeat (first | refine blk_drewN ?_ _ | refine blk_drew ?_ | refine blk_alloc ?_ _)); exact BK177.out) hb); have n2_ := Aside0.mk (below_step (by repeat (first | (with_reducible first | exact HB.out | apply below_alloc | apply pw_below_drewN | apply below_drew1 | refine below_set ?_ GE175.out | refine below_set ?_ GE177.out) | exact HB.out)) hb); clear BK175; clear BK177; clear HB; have BK175 := n0_; have BK177 := n1_; have HB := n2_; clear n0_ n1_ n2_; (try clear hb); (try clear hb2); (try clear hk); (try clear hi); have hcz100_0 : w99.cell? ⟨gb177, 0, none⟩ = some (.string ((rd_T32 l0_1 a1).f0)) := (blk_cell BK177.out 0).trans rfl; have hcz100_1 : w99.cell? ⟨gb177, 1, none⟩ = some (.int .i64 ((rd_T32 l0_1 a1).f1)) := (blk_cell BK177.out 1).trans rfl; have hcz100_2 : w99.cell? ⟨gb177, 2, none⟩ = some (.string ((rd_T32 l0_1 a1).f2)) := (blk_cell BK177.out 2).trans rfl; have hcz100_3 : w99.cell? ⟨gb177, 3, none⟩ = some (.bool ((rd_T32 l0_1 a1).f3)) := (blk_cell BK177.out 3).trans rfl; have hcz100_4 : w99.cell? ⟨gb177, 4, none⟩ = some (.int .i64 ((rd_T32 l0_1 a1).f4)) := (blk_cell BK177.out 4).trans rfl; have hcz100_5 : w99.cell? ⟨gb177, 5, none⟩ = some (.slice A176_5 ((rd_T32 l0_1 a1).f5).length c176_5) := (blk_cell BK177.out 5).trans rfl; have hcz100_6 : w99.cell? ⟨gb177, 6, none⟩ = some (.slice A176_6 ((rd_T32 l0_1 a1).f6).length c176_6) := (blk_cell BK177.out 6).trans rfl; have hfz100_0 := blk_frozen BK177.out 0; have hfz100_1 := blk_frozen BK177.out 1; have hfz100_2 := blk_frozen BK177.out 2; have hfz100_3 := blk_frozen BK177.out 3; have hfz100_4 := blk_frozen BK177.out 4; have hfz100_5 := blk_frozen BK177.out 5; have hfz100_6 := blk_frozen BK177.out 6; have hcz101_0 : w99.cell? ⟨gb175, 0, none⟩ = some (.slice A0_0 l0_0.length c0_0) := (blk_cell BK175.out 0).trans rfl; have hcz101_1 : w99.cell? ⟨gb175, 1, none⟩ = some (.slice (some ad176) l0_1.length c0_1) := (blk_cell BK175.out 1).trans rfl; have hfz101_0 := blk_frozen BK175.out 0; have hfz101_1 := blk_frozen BK175.out 1; have p181 : 0 ≤ (t180 : Int) := of_decide_eq_true (by first | (with_reducible assumption) | assumption); have q181 : t180 < (l0_1.length : Int) := of_decide_eq_true (by first | (with_reducible assumption) | assumption); obtain ⟨ad181, A181_5, c181_5, A181_6, c181_6, e181, hx181_0, hx181_1, hx181_2, hx181_3, hx181_4, hx181_5, hx181_6, hl181_5, hi181_5, hl181_6, hi181_6⟩ := at_T32 HR0_1.out t180 p181 q181; obtain rfl : ad176 = ad181 := (by injection e181); replace hx181_0 := (HB.out.cell (World.block_lt_of_cell? w _ hx181_0)).trans hx181_0; replace hx181_1 := (HB.out.cell (World.block_lt_of_cell? w _ hx181_1)).trans hx181_1; replace hx181_2 := (HB.out.cell (World.block_lt_of_cell? w _ hx181_2)).trans hx181_2; replace hx181_3 := (HB.out.cell (World.block_lt_of_cell? w _ hx181_3)).trans hx181_3; replace hx181_4 := (HB.out.cell (World.block_lt_of_cell? w _ hx181_4)).trans hx181_4; replace hx181_5 := (HB.out.cell (World.block_lt_of_cell? w _ hx181_5)).trans hx181_5; replace hx181_6 := (HB.out.cell (World.block_lt_of_cell? w _ hx181_6)).trans hx181_6; have HR181_5 := Aside0.mk hi181_5; have HC181_5 := Aside0.mk hl181_5; clear hi181_5 hl181_5; have HR181_6 := Aside0.mk hi181_6; have HC181_6 := Aside0.mk hl181_6; clear hi181_6 hl181_6; replace p181 := eq_true p181; replace q181 := eq_true q181) | (go_at_call 61; (with_reducible refine (sentryref4_within.calls kj41 _ _ l0_0 _ _ l0_1 (wrap64 (a1 - 1)) ((rd_T32 l0_1 a1).f2) true _ ?side1 ?side2 ?side3 ?side4 A80.out).mono ?_); (case side1 => repeat (first | exact (Kd.C_below HR0_0.out HB.out) | (with_reducible refine Kd.C_alloc ?_ _) | (with_reducible refine Kd.C_drewN ?_ _) | (with_reducible refine Kd.C_drew ?_))); (case side2 => exact HC0_0.out); (case side3 => repeat (first | exact (Kd.C_below HR0_1.out HB.out) | (with_reducible refine Kd.C_alloc ?_ _) | (with_reducible refine Kd.C_drewN ?_ _) | (with_reducible refine Kd.C_drew ?_))); (case side4 => exact HC0_1.out); rintro e w102 ⟨rfl, hb⟩; have n0_ := Aside0.mk (blk_below (g := gb175) (o := .cells #[.slice A0_0 l0_0.length c0_0, .slice (some ad176) l0_1.length c0_1] 36 (0, 0)) (by (with_reducible repeat (first | refine blk_drewN ?_ _ | refine blk_drew ?_ | refine blk_alloc ?_ _)); exact BK175.out) hb); have n1_ := Aside0.mk (blk_below (g := gb177) (o := .cells #[.string ((rd_T32 l0_1 a1).f0), .int .i64 ((rd_T32 l0_1 a1).f1), .string ((rd_T32 l0_1 a1).f2), .bool ((rd_T32 l0_1 a1).f3), .int .i64 ((rd_T32 l0_1 a1).f4), .slice A176_5 ((rd_T32 l0_1 a1).f5).length c176_5, .slice A176_6 ((rd_T32 l0_1 a1).f6).length c176_6] 32 (0, 0)) (by (with_reducible repeat (first | refine blk_drewN ?_ _ | refine blk_drew ?_ | refine blk_alloc ?_ _)); exact BK177.out) hb); have n2_ := Aside0.mk (below_step (by repeat (first | (with_reducible first | exact HB.out | apply below_alloc | apply pw_below_drewN | apply below_drew1 | refine below_set ?_ GE175.out | refine below_set ?_ GE177.out) | exact HB.out)) hb); clear BK175; clear BK177; clear HB; have BK175 := n0_; have BK177 := n1_; have HB := n2_; clear n0_ n1_ n2_; (try clear hb); (try clear hb2); (try clear hk); (try clear hi); have hcz103_0 : w102.cell? ⟨gb175, 0, none⟩ = some (.slice A0_0 l0_0.length c0_0) := (blk_cell BK175.out 0).trans rfl; have hcz103_1 : w102.cell? ⟨gb175, 1, none⟩ = some (.slice (some ad176) l0_1.length c0_1) := (blk_cell BK175.out 1).trans rfl; have hfz103_0 := blk_frozen BK175.out 0; have hfz103_1 := blk_frozen BK175.out 1) | (go_at_call 62; (with_reducible refine (sentryref4_Depth.calls kj41 _ _ l0_0 _ _ l0_1 a1 t183 _ ?side1 ?side2 ?side3 ?side4 A82.out).mono ?_); (case side1 => repeat (first | exact (Kd.C_below HR0_0.out HB.out) | (with_reducible refine Kd.C_alloc ?_ _) | (with_reducible refine Kd.C_drewN ?_ _) | (with_reducible refine Kd.C_drew ?_))); (case side2 => exact HC0_0.out); (case side3 => repeat (first | exact (Kd.C_below HR0_1.out HB.out) | (with_reducible refine Kd.C_alloc ?_ _) | (with_reducible refine Kd.C_drewN ?_ _) | (with_reducible refine Kd.C_drew ?_))); (case side4 => exact HC0_1.out); rintro e w104 ⟨rfl, hb⟩; have n0_ := Aside0.mk (blk_below (g := gb175) (o := .cells #[.slice A0_0 l0_0.length c0_0, .slice (some ad176) l0_1.length c0_1] 36 (0, 0)) (by (with_reducible repeat (first | refine blk_drewN ?_ _ | refine blk_drew ?_ | refine blk_alloc ?_ _)); exact BK175.out) hb); have n1_ := Aside0.mk (blk_below (g := gb177) (o := .cells #[.string ((rd_T32 l0_1 a1).f0), .int .i64 ((rd_T32 l0_1 a1).f1), .string ((rd_T32 l0_1 a1).f2), .bool ((rd_T32 l0_1 a1).f3), .int .i64 ((rd_T32 l0_1 a1).f4), .slice A176_5 ((rd_T32 l0_1 a1).f5).length c176_5, .slice A176_6 ((rd_T32 l0_1 a1).f6).length c176_6] 32 (0, 0)) (by (with_reducible repeat (first | refine blk_drewN ?_ _ | refine blk_drew ?_ | refine blk_alloc ?_ _)); exact BK177.out) hb); have n2_ := Aside0.mk (below_step (by repeat (first | (with_reducible first | exact HB.out | apply below_alloc | apply pw_below_drewN | apply below_drew1 | refine below_set ?_ GE175.out | refine below_set ?_ GE177.out) | exact HB.out)) hb); clear BK175; clear BK177; clear HB; have BK175 := n0_; have BK177 := n1_; have HB := n2_; clear n0_ n1_ n2_; (try clear hb); (try clear hb2); (try clear hk); (try clear hi)))
                                        go_ret
                                        exact ⟨by first | rfl | (simp [errW_none, errW_some] <;> rfl) | (simp [*, errW_none, errW_some] <;> rfl), by repeat (first | (with_reducible first | exact HB.out | apply below_alloc | apply pw_below_drewN | apply below_drew1 | refine below_set ?_ GE175.out | refine below_set ?_ GE177.out) | exact HB.out)⟩
                                    · replace c81 := Bool.eq_false_iff.mpr c81
                                      subst c81
                                      have H1 : (some false) = some r := by rw [if_neg (show ¬ (false = true) by decide)] at H; exact H
                                      clear H
                                      have H := H1
                                      clear H1
                                      obtain rfl := Option.some.inj H
                                      have hnb105 := NB175_177.out
                                      have hnc105 := NB177_175.out
                                      have hcz106_0 : wc.cell? ⟨gb175, 0, none⟩ = some (.slice A0_0 l0_0.length c0_0) := (blk_cell BK175.out 0).trans rfl
                                      have hcz106_1 : wc.cell? ⟨gb175, 1, none⟩ = some (.slice (some ad176) l0_1.length c0_1) := (blk_cell BK175.out 1).trans rfl
                                      have hfz106_0 := blk_frozen BK175.out 0
                                      have hfz106_1 := blk_frozen BK175.out 1
                                      have hcz107_0 : wc.cell? ⟨gb177, 0, none⟩ = some (.string ((rd_T32 l0_1 a1).f0)) := (blk_cell BK177.out 0).trans rfl
                                      have hcz107_1 : wc.cell? ⟨gb177, 1, none⟩ = some (.int .i64 ((rd_T32 l0_1 a1).f1)) := (blk_cell BK177.out 1).trans rfl
                                      have hcz107_2 : wc.cell? ⟨gb177, 2, none⟩ = some (.string ((rd_T32 l0_1 a1).f2)) := (blk_cell BK177.out 2).trans rfl
                                      have hcz107_3 : wc.cell? ⟨gb177, 3, none⟩ = some (.bool ((rd_T32 l0_1 a1).f3)) := (blk_cell BK177.out 3).trans rfl
                                      have hcz107_4 : wc.cell? ⟨gb177, 4, none⟩ = some (.int .i64 ((rd_T32 l0_1 a1).f4)) := (blk_cell BK177.out 4).trans rfl
                                      have hcz107_5 : wc.cell? ⟨gb177, 5, none⟩ = some (.slice A176_5 ((rd_T32 l0_1 a1).f5).length c176_5) := (blk_cell BK177.out 5).trans rfl
                                      have hcz107_6 : wc.cell? ⟨gb177, 6, none⟩ = some (.slice A176_6 ((rd_T32 l0_1 a1).f6).length c176_6) := (blk_cell BK177.out 6).trans rfl
                                      have hfz107_0 := blk_frozen BK177.out 0
                                      have hfz107_1 := blk_frozen BK177.out 1
                                      have hfz107_2 := blk_frozen BK177.out 2
                                      have hfz107_3 := blk_frozen BK177.out 3
                                      have hfz107_4 := blk_frozen BK177.out 4
                                      have hfz107_5 := blk_frozen BK177.out 5
                                      have hfz107_6 := blk_frozen BK177.out 6
                                      go_wp2_with (first | ((with_reducible refine gate_callee (f := 20) rfl ?_); refine goesL_ (some 96) rfl rfl Try.func20 (by kernel_rfl) rfl #[.agg #[.slice A0_0 l0_0.length c0_0, .slice (some ad176) l0_1.length c0_1], .string ((rd_T32 l0_1 a1).f2)] rfl (by (try simp only [List.map_toArray, List.map_cons, List.map_nil]); first | done | rfl | (simp only [List.length_drop, List.length_take]; rfl)) ?_; (with_reducible refine (sentryref4_Place.calls kj41 _ _ l0_0 _ _ l0_1 ((rd_T32 l0_1 a1).f2) t180 _ ?side1 ?side2 ?side3 ?side4 A68.out).mono ?_); (case side1 => repeat (first | exact (Kd.C_below HR0_0.out HB.out) | (with_reducible refine Kd.C_alloc ?_ _) | (with_reducible refine Kd.C_drewN ?_ _) | (with_reducible refine Kd.C_drew ?_))); (case side2 => exact HC0_0.out); (case side3 => repeat (first | exact (Kd.C_below HR0_1.out HB.out) | (with_reducible refine Kd.C_alloc ?_ _) | (with_reducible refine Kd.C_drewN ?_ _) | (with_reducible refine Kd.C_drew ?_))); (case side4 => exact HC0_1.out); rintro e w108 ⟨rfl, hb⟩; refine ⟨_, rfl, ?_⟩; have n0_ := Aside0.mk (blk_below (g := gb175) (o := .cells #[.slice A0_0 l0_0.length c0_0, .slice (some ad176) l0_1.length c0_1] 36 (0, 0)) (by (with_reducible repeat (first | refine blk_drewN ?_ _ | refine blk_drew ?_ | refine blk_alloc ?_ _)); exact BK175.out) hb); have n1_ := Aside0.mk (blk_below (g := gb177) (o := .cells #[.string ((rd_T32 l0_1 a1).f0), .int .i64 ((rd_T32 l0_1 a1).f1), .string ((rd_T32 l0_1 a1).f2), .bool ((rd_T32 l0_1 a1).f3), .int .i64 ((rd_T32 l0_1 a1).f4), .slice A176_5 ((rd_T32 l0_1 a1).f5).length c176_5, .slice A176_6 ((rd_T32 l0_1 a1).f6).length c176_6] 32 (0, 0)) (by (with_reducible repeat (first | refine blk_drewN ?_ _ | refine blk_drew ?_ | refine blk_alloc ?_ _)); exact BK177.out) hb); have n2_ := Aside0.mk (below_step (by repeat (first | (with_reducible first | exact HB.out | apply below_alloc | apply pw_below_drewN | apply below_drew1 | refine below_set ?_ GE175.out | refine below_set ?_ GE177.out) | exact HB.out)) hb); clear BK175; clear BK177; clear HB; have BK175 := n0_; have BK177 := n1_; have HB := n2_; clear n0_ n1_ n2_; (try clear hb); (try clear hb2); (try clear hk); (try clear hi); have hcz109_0 : w108.cell? ⟨gb177, 0, none⟩ = some (.string ((rd_T32 l0_1 a1).f0)) := (blk_cell BK177.out 0).trans rfl; have hcz109_1 : w108.cell? ⟨gb177, 1, none⟩ = some (.int .i64 ((rd_T32 l0_1 a1).f1)) := (blk_cell BK177.out 1).trans rfl; have hcz109_2 : w108.cell? ⟨gb177, 2, none⟩ = some (.string ((rd_T32 l0_1 a1).f2)) := (blk_cell BK177.out 2).trans rfl; have hcz109_3 : w108.cell? ⟨gb177, 3, none⟩ = some (.bool ((rd_T32 l0_1 a1).f3)) := (blk_cell BK177.out 3).trans rfl; have hcz109_4 : w108.cell? ⟨gb177, 4, none⟩ = some (.int .i64 ((rd_T32 l0_1 a1).f4)) := (blk_cell BK177.out 4).trans rfl; have hcz109_5 : w108.cell? ⟨gb177, 5, none⟩ = some (.slice A176_5 ((rd_T32 l0_1 a1).f5).length c176_5) := (blk_cell BK177.out 5).trans rfl; have hcz109_6 : w108.cell? ⟨gb177, 6, none⟩ = some (.slice A176_6 ((rd_T32 l0_1 a1).f6).length c176_6) := (blk_cell BK177.out 6).trans rfl; have hfz109_0 := blk_frozen BK177.out 0; have hfz109_1 := blk_frozen BK177.out 1; have hfz109_2 := blk_frozen BK177.out 2; have hfz109_3 := blk_frozen BK177.out 3; have hfz109_4 := blk_frozen BK177.out 4; have hfz109_5 := blk_frozen BK177.out 5; have hfz109_6 := blk_frozen BK177.out 6; have hcz110_0 : w108.cell? ⟨gb175, 0, none⟩ = some (.slice A0_0 l0_0.length c0_0) := (blk_cell BK175.out 0).trans rfl; have hcz110_1 : w108.cell? ⟨gb175, 1, none⟩ = some (.slice (some ad176) l0_1.length c0_1) := (blk_cell BK175.out 1).trans rfl; have hfz110_0 := blk_frozen BK175.out 0; have hfz110_1 := blk_frozen BK175.out 1; have p181 : 0 ≤ (t180 : Int) := of_decide_eq_true (by first | (with_reducible assumption) | assumption); have q181 : t180 < (l0_1.length : Int) := of_decide_eq_true (by first | (with_reducible assumption) | assumption); obtain ⟨ad181, A181_5, c181_5, A181_6, c181_6, e181, hx181_0, hx181_1, hx181_2, hx181_3, hx181_4, hx181_5, hx181_6, hl181_5, hi181_5, hl181_6, hi181_6⟩ := at_T32 HR0_1.out t180 p181 q181; obtain rfl : ad176 = ad181 := (by injection e181); replace hx181_0 := (HB.out.cell (World.block_lt_of_cell? w _ hx181_0)).trans hx181_0; replace hx181_1 := (HB.out.cell (World.block_lt_of_cell? w _ hx181_1)).trans hx181_1; replace hx181_2 := (HB.out.cell (World.block_lt_of_cell? w _ hx181_2)).trans hx181_2; replace hx181_3 := (HB.out.cell (World.block_lt_of_cell? w _ hx181_3)).trans hx181_3; replace hx181_4 := (HB.out.cell (World.block_lt_of_cell? w _ hx181_4)).trans hx181_4; replace hx181_5 := (HB.out.cell (World.block_lt_of_cell? w _ hx181_5)).trans hx181_5; replace hx181_6 := (HB.out.cell (World.block_lt_of_cell? w _ hx181_6)).trans hx181_6; have HR181_5 := Aside0.mk hi181_5; have HC181_5 := Aside0.mk hl181_5; clear hi181_5 hl181_5; have HR181_6 := Aside0.mk hi181_6; have HC181_6 := Aside0.mk hl181_6; clear hi181_6 hl181_6; replace p181 := eq_true p181; replace q181 := eq_true q181) | (go_at_call 61; (with_reducible refine (sentryref4_within.calls kj41 _ _ l0_0 _ _ l0_1 (wrap64 (a1 - 1)) ((rd_T32 l0_1 a1).f2) false _ ?side1 ?side2 ?side3 ?side4 A80.out).mono ?_); (case side1 => repeat (first | exact (Kd.C_below HR0_0.out HB.out) | (with_reducible refine Kd.C_alloc ?_ _) | (with_reducible refine Kd.C_drewN ?_ _) | (with_reducible refine Kd.C_drew ?_))); (case side2 => exact HC0_0.out); (case side3 => repeat (first | exact (Kd.C_below HR0_1.out HB.out) | (with_reducible refine Kd.C_alloc ?_ _) | (with_reducible refine Kd.C_drewN ?_ _) | (with_reducible refine Kd.C_drew ?_))); (case side4 => exact HC0_1.out); rintro e w111 ⟨rfl, hb⟩; have n0_ := Aside0.mk (blk_below (g := gb175) (o := .cells #[.slice A0_0 l0_0.length c0_0, .slice (some ad176) l0_1.length c0_1] 36 (0, 0)) (by (with_reducible repeat (first | refine blk_drewN ?_ _ | refine blk_drew ?_ | refine blk_alloc ?_ _)); exact BK175.out) hb); have n1_ := Aside0.mk (blk_below (g := gb177) (o := .cells #[.string ((rd_T32 l0_1 a1).f0), .int .i64 ((rd_T32 l0_1 a1).f1), .string ((rd_T32 l0_1 a1).f2), .bool ((rd_T32 l0_1 a1).f3), .int .i64 ((rd_T32 l0_1 a1).f4), .slice A176_5 ((rd_T32 l0_1 a1).f5).length c176_5, .slice A176_6 ((rd_T32 l0_1 a1).f6).length c176_6] 32 (0, 0)) (by (with_reducible repeat (first | refine blk_drewN ?_ _ | refine blk_drew ?_ | refine blk_alloc ?_ _)); exact BK177.out) hb); have n2_ := Aside0.mk (below_step (by repeat (first | (with_reducible first | exact HB.out | apply below_alloc | apply pw_below_drewN | apply below_drew1 | refine below_set ?_ GE175.out | refine below_set ?_ GE177.out) | exact HB.out)) hb); clear BK175; clear BK177; clear HB; have BK175 := n0_; have BK177 := n1_; have HB := n2_; clear n0_ n1_ n2_; (try clear hb); (try clear hb2); (try clear hk); (try clear hi)))
                                      go_ret
                                      exact ⟨by first | rfl | (simp [errW_none, errW_some] <;> rfl) | (simp [*, errW_none, errW_some] <;> rfl), by repeat (first | (with_reducible first | exact HB.out | apply below_alloc | apply pw_below_drewN | apply below_drew1 | refine below_set ?_ GE175.out | refine below_set ?_ GE177.out) | exact HB.out)⟩
                                  · rw [if_neg c79] at H
                                    have c79b0 : (((rd_T32 l0_1 t180).f1) == 1) = false := beq_eq_false_iff_ne.mpr c79
                                    have c79b1 : (((rd_T32 l0_1 t180).f1) != 1) = true := bne_iff_ne.mpr c79
                                    obtain rfl := Option.some.inj H
                                    have hnb112 := NB175_177.out
                                    have hnc112 := NB177_175.out
                                    have hcz113_0 : wc.cell? ⟨gb175, 0, none⟩ = some (.slice A0_0 l0_0.length c0_0) := (blk_cell BK175.out 0).trans rfl
                                    have hcz113_1 : wc.cell? ⟨gb175, 1, none⟩ = some (.slice (some ad176) l0_1.length c0_1) := (blk_cell BK175.out 1).trans rfl
                                    have hfz113_0 := blk_frozen BK175.out 0
                                    have hfz113_1 := blk_frozen BK175.out 1
                                    have hcz114_0 : wc.cell? ⟨gb177, 0, none⟩ = some (.string ((rd_T32 l0_1 a1).f0)) := (blk_cell BK177.out 0).trans rfl
                                    have hcz114_1 : wc.cell? ⟨gb177, 1, none⟩ = some (.int .i64 ((rd_T32 l0_1 a1).f1)) := (blk_cell BK177.out 1).trans rfl
                                    have hcz114_2 : wc.cell? ⟨gb177, 2, none⟩ = some (.string ((rd_T32 l0_1 a1).f2)) := (blk_cell BK177.out 2).trans rfl
                                    have hcz114_3 : wc.cell? ⟨gb177, 3, none⟩ = some (.bool ((rd_T32 l0_1 a1).f3)) := (blk_cell BK177.out 3).trans rfl
                                    have hcz114_4 : wc.cell? ⟨gb177, 4, none⟩ = some (.int .i64 ((rd_T32 l0_1 a1).f4)) := (blk_cell BK177.out 4).trans rfl
                                    have hcz114_5 : wc.cell? ⟨gb177, 5, none⟩ = some (.slice A176_5 ((rd_T32 l0_1 a1).f5).length c176_5) := (blk_cell BK177.out 5).trans rfl
                                    have hcz114_6 : wc.cell? ⟨gb177, 6, none⟩ = some (.slice A176_6 ((rd_T32 l0_1 a1).f6).length c176_6) := (blk_cell BK177.out 6).trans rfl
                                    have hfz114_0 := blk_frozen BK177.out 0
                                    have hfz114_1 := blk_frozen BK177.out 1
                                    have hfz114_2 := blk_frozen BK177.out 2
                                    have hfz114_3 := blk_frozen BK177.out 3
                                    have hfz114_4 := blk_frozen BK177.out 4
                                    have hfz114_5 := blk_frozen BK177.out 5
                                    have hfz114_6 := blk_frozen BK177.out 6
                                    go_wp2_with (first | ((with_reducible refine gate_callee (f := 20) rfl ?_); refine goesL_ (some 96) rfl rfl Try.func20 (by kernel_rfl) rfl #[.agg #[.slice A0_0 l0_0.length c0_0, .slice (some ad176) l0_1.length c0_1], .string ((rd_T32 l0_1 a1).f2)] rfl (by (try simp only [List.map_toArray, List.map_cons, List.map_nil]); first | done | rfl | (simp only [List.length_drop, List.length_take]; rfl)) ?_; (with_reducible refine (sentryref4_Place.calls kj41 _ _ l0_0 _ _ l0_1 ((rd_T32 l0_1 a1).f2) t180 _ ?side1 ?side2 ?side3 ?side4 A68.out).mono ?_); (case side1 => repeat (first | exact (Kd.C_below HR0_0.out HB.out) | (with_reducible refine Kd.C_alloc ?_ _) | (with_reducible refine Kd.C_drewN ?_ _) | (with_reducible refine Kd.C_drew ?_))); (case side2 => exact HC0_0.out); (case side3 => repeat (first | exact (Kd.C_below HR0_1.out HB.out) | (with_reducible refine Kd.C_alloc ?_ _) | (with_reducible refine Kd.C_drewN ?_ _) | (with_reducible refine Kd.C_drew ?_))); (case side4 => exact HC0_1.out); rintro e w115 ⟨rfl, hb⟩; refine ⟨_, rfl, ?_⟩; have n0_ := Aside0.mk (blk_below (g := gb175) (o := .cells #[.slice A0_0 l0_0.length c0_0, .slice (some ad176) l0_1.length c0_1] 36 (0, 0)) (by (with_reducible repeat (first | refine blk_drewN ?_ _ | refine blk_drew ?_ | refine blk_alloc ?_ _)); exact BK175.out) hb); have n1_ := Aside0.mk (blk_below (g := gb177) (o := .cells #[.string ((rd_T32 l0_1 a1).f0), .int .i64 ((rd_T32 l0_1 a1).f1), .string ((rd_T32 l0_1 a1).f2), .bool ((rd_T32 l0_1 a1).f3), .int .i64 ((rd_T32 l0_1 a1).f4), .slice A176_5 ((rd_T32 l0_1 a1).f5).length c176_5, .slice A176_6 ((rd_T32 l0_1 a1).f6).length c176_6] 32 (0, 0)) (by (with_reducible repeat (first | refine blk_drewN ?_ _ | refine blk_drew ?_ | refine blk_alloc ?_ _)); exact BK177.out) hb); have n2_ := Aside0.mk (below_step (by repeat (first | (with_reducible first | exact HB.out | apply below_alloc | apply pw_below_drewN | apply below_drew1 | refine below_set ?_ GE175.out | refine below_set ?_ GE177.out) | exact HB.out)) hb); clear BK175; clear BK177; clear HB; have BK175 := n0_; have BK177 := n1_; have HB := n2_; clear n0_ n1_ n2_; (try clear hb); (try clear hb2); (try clear hk); (try clear hi); have hcz116_0 : w115.cell? ⟨gb177, 0, none⟩ = some (.string ((rd_T32 l0_1 a1).f0)) := (blk_cell BK177.out 0).trans rfl; have hcz116_1 : w115.cell? ⟨gb177, 1, none⟩ = some (.int .i64 ((rd_T32 l0_1 a1).f1)) := (blk_cell BK177.out 1).trans rfl; have hcz116_2 : w115.cell? ⟨gb177, 2, none⟩ = some (.string ((rd_T32 l0_1 a1).f2)) := (blk_cell BK177.out 2).trans rfl; have hcz116_3 : w115.cell? ⟨gb177, 3, none⟩ = some (.bool ((rd_T32 l0_1 a1).f3)) := (blk_cell BK177.out 3).trans rfl; have hcz116_4 : w115.cell? ⟨gb177, 4, none⟩ = some (.int .i64 ((rd_T32 l0_1 a1).f4)) := (blk_cell BK177.out 4).trans rfl; have hcz116_5 : w115.cell? ⟨gb177, 5, none⟩ = some (.slice A176_5 ((rd_T32 l0_1 a1).f5).length c176_5) := (blk_cell BK177.out 5).trans rfl; have hcz116_6 : w115.cell? ⟨gb177, 6, none⟩ = some (.slice A176_6 ((rd_T32 l0_1 a1).f6).length c176_6) := (blk_cell BK177.out 6).trans rfl; have hfz116_0 := blk_frozen BK177.out 0; have hfz116_1 := blk_frozen BK177.out 1; have hfz116_2 := blk_frozen BK177.out 2; have hfz116_3 := blk_frozen BK177.out 3; have hfz116_4 := blk_frozen BK177.out 4; have hfz116_5 := blk_frozen BK177.out 5; have hfz116_6 := blk_frozen BK177.out 6; have hcz117_0 : w115.cell? ⟨gb175, 0, none⟩ = some (.slice A0_0 l0_0.length c0_0) := (blk_cell BK175.out 0).trans rfl; have hcz117_1 : w115.cell? ⟨gb175, 1, none⟩ = some (.slice (some ad176) l0_1.length c0_1) := (blk_cell BK175.out 1).trans rfl; have hfz117_0 := blk_frozen BK175.out 0; have hfz117_1 := blk_frozen BK175.out 1; have p181 : 0 ≤ (t180 : Int) := of_decide_eq_true (by first | (with_reducible assumption) | assumption); have q181 : t180 < (l0_1.length : Int) := of_decide_eq_true (by first | (with_reducible assumption) | assumption); obtain ⟨ad181, A181_5, c181_5, A181_6, c181_6, e181, hx181_0, hx181_1, hx181_2, hx181_3, hx181_4, hx181_5, hx181_6, hl181_5, hi181_5, hl181_6, hi181_6⟩ := at_T32 HR0_1.out t180 p181 q181; obtain rfl : ad176 = ad181 := (by injection e181); replace hx181_0 := (HB.out.cell (World.block_lt_of_cell? w _ hx181_0)).trans hx181_0; replace hx181_1 := (HB.out.cell (World.block_lt_of_cell? w _ hx181_1)).trans hx181_1; replace hx181_2 := (HB.out.cell (World.block_lt_of_cell? w _ hx181_2)).trans hx181_2; replace hx181_3 := (HB.out.cell (World.block_lt_of_cell? w _ hx181_3)).trans hx181_3; replace hx181_4 := (HB.out.cell (World.block_lt_of_cell? w _ hx181_4)).trans hx181_4; replace hx181_5 := (HB.out.cell (World.block_lt_of_cell? w _ hx181_5)).trans hx181_5; replace hx181_6 := (HB.out.cell (World.block_lt_of_cell? w _ hx181_6)).trans hx181_6; have HR181_5 := Aside0.mk hi181_5; have HC181_5 := Aside0.mk hl181_5; clear hi181_5 hl181_5; have HR181_6 := Aside0.mk hi181_6; have HC181_6 := Aside0.mk hl181_6; clear hi181_6 hl181_6; replace p181 := eq_true p181; replace q181 := eq_true q181))
                                    go_ret
                                    exact ⟨by first | rfl | (simp [errW_none, errW_some] <;> rfl) | (simp [*, errW_none, errW_some] <;> rfl), by repeat (first | (with_reducible first | exact HB.out | apply below_alloc | apply pw_below_drewN | apply below_drew1 | refine below_set ?_ GE175.out | refine below_set ?_ GE177.out) | exact HB.out)⟩
                                · rw [if_neg c78] at H
                                  exact absurd H (by simp)
                              · rw [if_neg c77] at H
                                exact absurd H (by simp)
                            · rw [if_neg c76] at H
                              have c76b0 : decide (t180 < a1) = false := decide_eq_false c76
                              clear c76
                              obtain rfl := Option.some.inj H
                              have hnb118 := NB175_177.out
                              have hnc118 := NB177_175.out
                              have hcz119_0 : wc.cell? ⟨gb175, 0, none⟩ = some (.slice A0_0 l0_0.length c0_0) := (blk_cell BK175.out 0).trans rfl
                              have hcz119_1 : wc.cell? ⟨gb175, 1, none⟩ = some (.slice (some ad176) l0_1.length c0_1) := (blk_cell BK175.out 1).trans rfl
                              have hfz119_0 := blk_frozen BK175.out 0
                              have hfz119_1 := blk_frozen BK175.out 1
                              have hcz120_0 : wc.cell? ⟨gb177, 0, none⟩ = some (.string ((rd_T32 l0_1 a1).f0)) := (blk_cell BK177.out 0).trans rfl
                              have hcz120_1 : wc.cell? ⟨gb177, 1, none⟩ = some (.int .i64 ((rd_T32 l0_1 a1).f1)) := (blk_cell BK177.out 1).trans rfl
                              have hcz120_2 : wc.cell? ⟨gb177, 2, none⟩ = some (.string ((rd_T32 l0_1 a1).f2)) := (blk_cell BK177.out 2).trans rfl
                              have hcz120_3 : wc.cell? ⟨gb177, 3, none⟩ = some (.bool ((rd_T32 l0_1 a1).f3)) := (blk_cell BK177.out 3).trans rfl
                              have hcz120_4 : wc.cell? ⟨gb177, 4, none⟩ = some (.int .i64 ((rd_T32 l0_1 a1).f4)) := (blk_cell BK177.out 4).trans rfl
                              have hcz120_5 : wc.cell? ⟨gb177, 5, none⟩ = some (.slice A176_5 ((rd_T32 l0_1 a1).f5).length c176_5) := (blk_cell BK177.out 5).trans rfl
                              have hcz120_6 : wc.cell? ⟨gb177, 6, none⟩ = some (.slice A176_6 ((rd_T32 l0_1 a1).f6).length c176_6) := (blk_cell BK177.out 6).trans rfl
                              have hfz120_0 := blk_frozen BK177.out 0
                              have hfz120_1 := blk_frozen BK177.out 1
                              have hfz120_2 := blk_frozen BK177.out 2
                              have hfz120_3 := blk_frozen BK177.out 3
                              have hfz120_4 := blk_frozen BK177.out 4
                              have hfz120_5 := blk_frozen BK177.out 5
                              have hfz120_6 := blk_frozen BK177.out 6
                              go_wp2_with (first | ((with_reducible refine gate_callee (f := 20) rfl ?_); refine goesL_ (some 96) rfl rfl Try.func20 (by kernel_rfl) rfl #[.agg #[.slice A0_0 l0_0.length c0_0, .slice (some ad176) l0_1.length c0_1], .string ((rd_T32 l0_1 a1).f2)] rfl (by (try simp only [List.map_toArray, List.map_cons, List.map_nil]); first | done | rfl | (simp only [List.length_drop, List.length_take]; rfl)) ?_; (with_reducible refine (sentryref4_Place.calls kj41 _ _ l0_0 _ _ l0_1 ((rd_T32 l0_1 a1).f2) t180 _ ?side1 ?side2 ?side3 ?side4 A68.out).mono ?_); (case side1 => repeat (first | exact (Kd.C_below HR0_0.out HB.out) | (with_reducible refine Kd.C_alloc ?_ _) | (with_reducible refine Kd.C_drewN ?_ _) | (with_reducible refine Kd.C_drew ?_))); (case side2 => exact HC0_0.out); (case side3 => repeat (first | exact (Kd.C_below HR0_1.out HB.out) | (with_reducible refine Kd.C_alloc ?_ _) | (with_reducible refine Kd.C_drewN ?_ _) | (with_reducible refine Kd.C_drew ?_))); (case side4 => exact HC0_1.out); rintro e w121 ⟨rfl, hb⟩; refine ⟨_, rfl, ?_⟩; have n0_ := Aside0.mk (blk_below (g := gb175) (o := .cells #[.slice A0_0 l0_0.length c0_0, .slice (some ad176) l0_1.length c0_1] 36 (0, 0)) (by (with_reducible repeat (first | refine blk_drewN ?_ _ | refine blk_drew ?_ | refine blk_alloc ?_ _)); exact BK175.out) hb); have n1_ := Aside0.mk (blk_below (g := gb177) (o := .cells #[.string ((rd_T32 l0_1 a1).f0), .int .i64 ((rd_T32 l0_1 a1).f1), .string ((rd_T32 l0_1 a1).f2), .bool ((rd_T32 l0_1 a1).f3), .int .i64 ((rd_T32 l0_1 a1).f4), .slice A176_5 ((rd_T32 l0_1 a1).f5).length c176_5, .slice A176_6 ((rd_T32 l0_1 a1).f6).length c176_6] 32 (0, 0)) (by (with_reducible repeat (first | refine blk_drewN ?_ _ | refine blk_drew ?_ | refine blk_alloc ?_ _)); exact BK177.out) hb); have n2_ := Aside0.mk (below_step (by repeat (first | (with_reducible first | exact HB.out | apply below_alloc | apply pw_below_drewN | apply below_drew1 | refine below_set ?_ GE175.out | refine below_set ?_ GE177.out) | exact HB.out)) hb); clear BK175; clear BK177; clear HB; have BK175 := n0_; have BK177 := n1_; have HB := n2_; clear n0_ n1_ n2_; (try clear hb); (try clear hb2); (try clear hk); (try clear hi); have hcz122_0 : w121.cell? ⟨gb177, 0, none⟩ = some (.string ((rd_T32 l0_1 a1).f0)) := (blk_cell BK177.out 0).trans rfl; have hcz122_1 : w121.cell? ⟨gb177, 1, none⟩ = some (.int .i64 ((rd_T32 l0_1 a1).f1)) := (blk_cell BK177.out 1).trans rfl; have hcz122_2 : w121.cell? ⟨gb177, 2, none⟩ = some (.string ((rd_T32 l0_1 a1).f2)) := (blk_cell BK177.out 2).trans rfl; have hcz122_3 : w121.cell? ⟨gb177, 3, none⟩ = some (.bool ((rd_T32 l0_1 a1).f3)) := (blk_cell BK177.out 3).trans rfl; have hcz122_4 : w121.cell? ⟨gb177, 4, none⟩ = some (.int .i64 ((rd_T32 l0_1 a1).f4)) := (blk_cell BK177.out 4).trans rfl; have hcz122_5 : w121.cell? ⟨gb177, 5, none⟩ = some (.slice A176_5 ((rd_T32 l0_1 a1).f5).length c176_5) := (blk_cell BK177.out 5).trans rfl; have hcz122_6 : w121.cell? ⟨gb177, 6, none⟩ = some (.slice A176_6 ((rd_T32 l0_1 a1).f6).length c176_6) := (blk_cell BK177.out 6).trans rfl; have hfz122_0 := blk_frozen BK177.out 0; have hfz122_1 := blk_frozen BK177.out 1; have hfz122_2 := blk_frozen BK177.out 2; have hfz122_3 := blk_frozen BK177.out 3; have hfz122_4 := blk_frozen BK177.out 4; have hfz122_5 := blk_frozen BK177.out 5; have hfz122_6 := blk_frozen BK177.out 6))
                              go_ret
                              exact ⟨by first | rfl | (simp [errW_none, errW_some] <;> rfl) | (simp [*, errW_none, errW_some] <;> rfl), by repeat (first | (with_reducible first | exact HB.out | apply below_alloc | apply pw_below_drewN | apply below_drew1 | refine below_set ?_ GE175.out | refine below_set ?_ GE177.out) | exact HB.out)⟩
                          · rw [if_neg c75] at H
                            have c75b0 : decide (0 ≤ t180) = false := decide_eq_false c75
                            clear c75
                            obtain rfl := Option.some.inj H
                            have hnb123 := NB175_177.out
                            have hnc123 := NB177_175.out
                            have hcz124_0 : wc.cell? ⟨gb175, 0, none⟩ = some (.slice A0_0 l0_0.length c0_0) := (blk_cell BK175.out 0).trans rfl
                            have hcz124_1 : wc.cell? ⟨gb175, 1, none⟩ = some (.slice (some ad176) l0_1.length c0_1) := (blk_cell BK175.out 1).trans rfl
                            have hfz124_0 := blk_frozen BK175.out 0
                            have hfz124_1 := blk_frozen BK175.out 1
                            have hcz125_0 : wc.cell? ⟨gb177, 0, none⟩ = some (.string ((rd_T32 l0_1 a1).f0)) := (blk_cell BK177.out 0).trans rfl
                            have hcz125_1 : wc.cell? ⟨gb177, 1, none⟩ = some (.int .i64 ((rd_T32 l0_1 a1).f1)) := (blk_cell BK177.out 1).trans rfl
                            have hcz125_2 : wc.cell? ⟨gb177, 2, none⟩ = some (.string ((rd_T32 l0_1 a1).f2)) := (blk_cell BK177.out 2).trans rfl
                            have hcz125_3 : wc.cell? ⟨gb177, 3, none⟩ = some (.bool ((rd_T32 l0_1 a1).f3)) := (blk_cell BK177.out 3).trans rfl
                            have hcz125_4 : wc.cell? ⟨gb177, 4, none⟩ = some (.int .i64 ((rd_T32 l0_1 a1).f4)) := (blk_cell BK177.out 4).trans rfl
                            have hcz125_5 : wc.cell? ⟨gb177, 5, none⟩ = some (.slice A176_5 ((rd_T32 l0_1 a1).f5).length c176_5) := (blk_cell BK177.out 5).trans rfl
                            have hcz125_6 : wc.cell? ⟨gb177, 6, none⟩ = some (.slice A176_6 ((rd_T32 l0_1 a1).f6).length c176_6) := (blk_cell BK177.out 6).trans rfl
                            have hfz125_0 := blk_frozen BK177.out 0
                            have hfz125_1 := blk_frozen BK177.out 1
                            have hfz125_2 := blk_frozen BK177.out 2
                            have hfz125_3 := blk_frozen BK177.out 3
                            have hfz125_4 := blk_frozen BK177.out 4
                            have hfz125_5 := blk_frozen BK177.out 5
                            have hfz125_6 := blk_frozen BK177.out 6
                            go_wp2_with (first | ((with_reducible refine gate_callee (f := 20) rfl ?_); refine goesL_ (some 96) rfl rfl Try.func20 (by kernel_rfl) rfl #[.agg #[.slice A0_0 l0_0.length c0_0, .slice (some ad176) l0_1.length c0_1], .string ((rd_T32 l0_1 a1).f2)] rfl (by (try simp only [List.map_toArray, List.map_cons, List.map_nil]); first | done | rfl | (simp only [List.length_drop, List.length_take]; rfl)) ?_; (with_reducible refine (sentryref4_Place.calls kj41 _ _ l0_0 _ _ l0_1 ((rd_T32 l0_1 a1).f2) t180 _ ?side1 ?side2 ?side3 ?side4 A68.out).mono ?_); (case side1 => repeat (first | exact (Kd.C_below HR0_0.out HB.out) | (with_reducible refine Kd.C_alloc ?_ _) | (with_reducible refine Kd.C_drewN ?_ _) | (with_reducible refine Kd.C_drew ?_))); (case side2 => exact HC0_0.out); (case side3 => repeat (first | exact (Kd.C_below HR0_1.out HB.out) | (with_reducible refine Kd.C_alloc ?_ _) | (with_reducible refine Kd.C_drewN ?_ _) | (with_reducible refine Kd.C_drew ?_))); (case side4 => exact HC0_1.out); rintro e w126 ⟨rfl, hb⟩; refine ⟨_, rfl, ?_⟩; have n0_ := Aside0.mk (blk_below (g := gb175) (o := .cells #[.slice A0_0 l0_0.length c0_0, .slice (some ad176) l0_1.length c0_1] 36 (0, 0)) (by (with_reducible repeat (first | refine blk_drewN ?_ _ | refine blk_drew ?_ | refine blk_alloc ?_ _)); exact BK175.out) hb); have n1_ := Aside0.mk (blk_below (g := gb177) (o := .cells #[.string ((rd_T32 l0_1 a1).f0), .int .i64 ((rd_T32 l0_1 a1).f1), .string ((rd_T32 l0_1 a1).f2), .bool ((rd_T32 l0_1 a1).f3), .int .i64 ((rd_T32 l0_1 a1).f4), .slice A176_5 ((rd_T32 l0_1 a1).f5).length c176_5, .slice A176_6 ((rd_T32 l0_1 a1).f6).length c176_6] 32 (0, 0)) (by (with_reducible repeat (first | refine blk_drewN ?_ _ | refine blk_drew ?_ | refine blk_alloc ?_ _)); exact BK177.out) hb); have n2_ := Aside0.mk (below_step (by repeat (first | (with_reducible first | exact HB.out | apply below_alloc | apply pw_below_drewN | apply below_drew1 | refine below_set ?_ GE175.out | refine below_set ?_ GE177.out) | exact HB.out)) hb); clear BK175; clear BK177; clear HB; have BK175 := n0_; have BK177 := n1_; have HB := n2_; clear n0_ n1_ n2_; (try clear hb); (try clear hb2); (try clear hk); (try clear hi); have hcz127_0 : w126.cell? ⟨gb177, 0, none⟩ = some (.string ((rd_T32 l0_1 a1).f0)) := (blk_cell BK177.out 0).trans rfl; have hcz127_1 : w126.cell? ⟨gb177, 1, none⟩ = some (.int .i64 ((rd_T32 l0_1 a1).f1)) := (blk_cell BK177.out 1).trans rfl; have hcz127_2 : w126.cell? ⟨gb177, 2, none⟩ = some (.string ((rd_T32 l0_1 a1).f2)) := (blk_cell BK177.out 2).trans rfl; have hcz127_3 : w126.cell? ⟨gb177, 3, none⟩ = some (.bool ((rd_T32 l0_1 a1).f3)) := (blk_cell BK177.out 3).trans rfl; have hcz127_4 : w126.cell? ⟨gb177, 4, none⟩ = some (.int .i64 ((rd_T32 l0_1 a1).f4)) := (blk_cell BK177.out 4).trans rfl; have hcz127_5 : w126.cell? ⟨gb177, 5, none⟩ = some (.slice A176_5 ((rd_T32 l0_1 a1).f5).length c176_5) := (blk_cell BK177.out 5).trans rfl; have hcz127_6 : w126.cell? ⟨gb177, 6, none⟩ = some (.slice A176_6 ((rd_T32 l0_1 a1).f6).length c176_6) := (blk_cell BK177.out 6).trans rfl; have hfz127_0 := blk_frozen BK177.out 0; have hfz127_1 := blk_frozen BK177.out 1; have hfz127_2 := blk_frozen BK177.out 2; have hfz127_3 := blk_frozen BK177.out 3; have hfz127_4 := blk_frozen BK177.out 4; have hfz127_5 := blk_frozen BK177.out 5; have hfz127_6 := blk_frozen BK177.out 6))
                            go_ret
                            exact ⟨by first | rfl | (simp [errW_none, errW_some] <;> rfl) | (simp [*, errW_none, errW_some] <;> rfl), by repeat (first | (with_reducible first | exact HB.out | apply below_alloc | apply pw_below_drewN | apply below_drew1 | refine below_set ?_ GE175.out | refine below_set ?_ GE177.out) | exact HB.out)⟩
    · rw [if_neg c4] at H
      exact absurd H (by simp)
  · rw [if_neg c3] at H
    exact absurd H (by simp)
end Go.Proofs.Ytchellnfenekaaa.Pm
end
section
namespace Go.Proofs.Ytchellnfenekaaa.Pm
open Go.RowKit Go.Proofs.YtchellnfenekaaaW.PrintWords Go.Proofs.YtchellnfenekaaaW.PrintLast Go.Proofs.YtchellnfenekaaaW.PrintMore
attribute [local go_sem] max2_int min2_int max_two min_two max_three min_three max_four min_four   -- for this text's walks alone
set_option linter.unusedVariables false
set_option linter.unusedSimpArgs false
theorem eqA39 (d : Nat) (w : World) (x0 y0 : ByteArray) (x1 y1 : Int) :
    (Op.equalIn (d + 2) 39 (.agg #[.string x0, .int .i64 x1]) (.agg #[.string y0, .int .i64 y1])).run Try.prog w = .ok (x0.toList == y0.toList && (x1 == y1)) w := by
  refine eqA_of Try.underlying39 (by kernel_rfl) ?_
  refine eqf_cons (by rfl) (by go_simp; rfl) (by go_simp; rfl) (by go_simp) ?_
  exact eqf_last (by rfl) (by go_simp; rfl) (by go_simp; rfl) (by go_simp)
end Go.Proofs.Ytchellnfenekaaa.Pm
end
section
namespace Go.Proofs.Ytchellnfenekaaa.Pm
open Go.RowKit Go.Proofs.YtchellnfenekaaaW.PrintWords Go.Proofs.YtchellnfenekaaaW.PrintLast Go.Proofs.YtchellnfenekaaaW.PrintMore
attribute [local go_sem] max2_int min2_int max_two min_two max_three min_three max_four min_four   -- for this text's walks alone
set_option linter.unusedVariables false
set_option linter.unusedSimpArgs false
mutual
def sentryref4_Legal.j0 : Nat → Int → Int → Bool → Option (Bool)
  | 0, _, _, _ => none
  | k + 1, x0, x1, x10 => if x10 = true then (some false) else (if x1 = 1 then (sentryref4_Legal.j1 k x0 x1 (x1 == 1)) else (sentryref4_Legal.j1 k x0 x1 (x1 == 5)))
def sentryref4_Legal.j1 : Nat → Int → Int → Bool → Option (Bool)
  | 0, _, _, _ => none
  | k + 1, x0, x11, x12 => if x12 = true then (some true) else (if x11 = 2 then (sentryref4_Legal.j2 k x0 x11 (x11 == 2)) else (sentryref4_Legal.j2 k x0 x11 (x11 == 3)))
def sentryref4_Legal.j2 : Nat → Int → Int → Bool → Option (Bool)
  | 0, _, _, _ => none
  | k + 1, x0, x11, x15 => if x15 = true then (some (decide (x0 ≤ 2))) else (if x11 = 4 then (some (decide (x0 > 2))) else (some false))
end
def sentryref4_Legal.f (k : Nat) (a0 : Int) (a1 : Int) : Option (Bool) := if a0 < 1 then (sentryref4_Legal.j0 k a0 a1 true) else (sentryref4_Legal.j0 k a0 a1 (decide (a0 > 5)))
theorem sentryref4_Legal.mono_l : ∀ k, (∀ y0 y1 y2, LeO (sentryref4_Legal.j0 k y0 y1 y2) (sentryref4_Legal.j0 (k + 1) y0 y1 y2)) ∧ (∀ y0 y1 y2, LeO (sentryref4_Legal.j1 k y0 y1 y2) (sentryref4_Legal.j1 (k + 1) y0 y1 y2)) ∧ (∀ y0 y1 y2, LeO (sentryref4_Legal.j2 k y0 y1 y2) (sentryref4_Legal.j2 (k + 1) y0 y1 y2))
  | 0 => ⟨fun _ _ _ r h => by simp [sentryref4_Legal.j0] at h, fun _ _ _ r h => by simp [sentryref4_Legal.j1] at h, fun _ _ _ r h => by simp [sentryref4_Legal.j2] at h⟩
  | k + 1 => by
    obtain ⟨ih0, ih1, ih2⟩ := sentryref4_Legal.mono_l k
    refine ⟨?_, ?_, ?_⟩
    · intro y0 y1 y2
      unfold sentryref4_Legal.j0
      repeat' first
      | (with_reducible exact ih0 _ _ _)
      | (with_reducible exact ih1 _ _ _)
      | (with_reducible exact ih2 _ _ _)
      | (with_reducible exact LeO.refl _)
      | (with_reducible exact LeO.none _)
      | (with_reducible refine LeO.ite ?_ ?_)
      | (with_reducible refine LeO.bind ?_ (fun _ => ?_))
      | exact ih0 _ _ _
      | exact ih1 _ _ _
      | exact ih2 _ _ _
      | exact LeO.none _
      | refine LeO.ite ?_ ?_
      | refine LeO.bind ?_ (fun _ => ?_)
    · intro y0 y1 y2
      unfold sentryref4_Legal.j1
      repeat' first
      | (with_reducible exact ih0 _ _ _)
      | (with_reducible exact ih1 _ _ _)
      | (with_reducible exact ih2 _ _ _)
      | (with_reducible exact LeO.refl _)
      | (with_reducible exact LeO.none _)
      | (with_reducible refine LeO.ite ?_ ?_)
      | (with_reducible refine LeO.bind ?_ (fun _ => ?_))
      | exact ih0 _ _ _
      | exact ih1 _ _ _
      | exact ih2 _ _ _
      | exact LeO.none _
      | refine LeO.ite ?_ ?_
      | refine LeO.bind ?_ (fun _ => ?_)
    · intro y0 y1 y2
      unfold sentryref4_Legal.j2
      repeat' first
      | (with_reducible exact ih0 _ _ _)
      | (with_reducible exact ih1 _ _ _)
      | (with_reducible exact ih2 _ _ _)
      | (with_reducible exact LeO.refl _)
      | (with_reducible exact LeO.none _)
      | (with_reducible refine LeO.ite ?_ ?_)
      | (with_reducible refine LeO.bind ?_ (fun _ => ?_))
      | exact ih0 _ _ _
      | exact ih1 _ _ _
      | exact ih2 _ _ _
      | exact LeO.none _
      | refine LeO.ite ?_ ?_
      | refine LeO.bind ?_ (fun _ => ?_)
theorem sentryref4_Legal.mono : ∀ a0 a1 k, LeO (sentryref4_Legal.f k a0 a1) (sentryref4_Legal.f (k + 1) a0 a1) := by
  intro a0 a1 k
  obtain ⟨ih0, ih1, ih2⟩ := sentryref4_Legal.mono_l k
  unfold sentryref4_Legal.f
  repeat' first
      | (with_reducible exact ih0 _ _ _)
      | (with_reducible exact ih1 _ _ _)
      | (with_reducible exact ih2 _ _ _)
      | (with_reducible exact LeO.refl _)
      | (with_reducible exact LeO.none _)
      | (with_reducible refine LeO.ite ?_ ?_)
      | (with_reducible refine LeO.bind ?_ (fun _ => ?_))
      | exact ih0 _ _ _
      | exact ih1 _ _ _
      | exact ih2 _ _ _
      | exact LeO.none _
      | refine LeO.ite ?_ ?_
      | refine LeO.bind ?_ (fun _ => ?_)
set_option maxHeartbeats 8000000 in
set_option maxRecDepth 100000 in
theorem sentryref4_Legal.calls (k : Nat) (a0 : Int) (a1 : Int) (r : Bool) (w : World) (h : sentryref4_Legal.f k a0 a1 = some r) :
    Calls Try.prog 13 #[.int .i64 a0, .int .i64 a1] w fun e w' => e = .returned (.bool r) ∧ Drawn0 w w' := by
  have H : (if a0 < 1 then (sentryref4_Legal.j0 k a0 a1 true) else (sentryref4_Legal.j0 k a0 a1 (decide (a0 > 5)))) = some r := h
  clear h
  have HC3 := Aside0.mk H
  clear H
  go_enter Try.func13, Try.ntmps13
  go_upto_region 1 with (fail)
  go_cut [10] (fun v10 wc => ∃ (kq : Nat) (x10_2 : Bool), v10 = .bool x10_2 ∧ Aside0 (sentryref4_Legal.j0 kq a0 a1 x10_2 = some r) ∧ Aside0 (kq ≤ k) ∧ Drawn0 w wc)
  case first =>
    have H := HC3.out
    clear HC3
    by_cases c4 : a0 < 1
    · rw [if_pos c4] at H
      have c4b0 : decide (a0 < 1) = true := decide_eq_true c4
      clear c4
      (first | rw [c4b0] | (simp only [i64_w, i32_w]; rw [c4b0]) | skip)
      have H' := Aside0.mk H
      clear H
      go_wp2
      go_meet
      case rel => exact ⟨_, (true), (by first | rfl | (simp; done) | (simp [*]; done)), H', ⟨by first | omega | exact Nat.le_refl _⟩, by repeat (first | exact Drawn0.refl _ | apply Drawn0.step)⟩
    · rw [if_neg c4] at H
      have c4b0 : decide (a0 < 1) = false := decide_eq_false c4
      clear c4
      (first | rw [c4b0] | (simp only [i64_w, i32_w]; rw [c4b0]) | skip)
      have H' := Aside0.mk H
      clear H
      go_wp2
      go_meet
      case rel => exact ⟨_, (decide (a0 > 5)), (by first | rfl | (simp; done) | (simp [*]; done)), H', ⟨by first | omega | exact Nat.le_refl _⟩, by repeat (first | exact Drawn0.refl _ | apply Drawn0.step)⟩
  case rest =>
    clear HC3
    try clear c1
    try clear p2
    try clear c4
    try clear c4b0
    obtain ⟨kq, x10_2, rfl, HA, HJ2, ⟨mc2, rfl⟩⟩ := hcut
    cases kq with
    | zero => exact absurd HA.out (by simp [sentryref4_Legal.j0])
    | succ kj2 =>
      have H := HA.out
      clear HA
      simp only [sentryref4_Legal.j0] at H
      by_cases c5 : x10_2 = true
      · subst c5
        have H1 : (some false) = some r := by rw [if_pos rfl] at H; exact H
        clear H
        have H := H1
        clear H1
        obtain rfl := Option.some.inj H
        go_wp2
        go_ret
        exact ⟨by first | rfl | (simp; done) | (simp [*]; done), by repeat (first | exact Drawn0.refl _ | apply Drawn0.step)⟩
      · replace c5 := Bool.eq_false_iff.mpr c5
        subst c5
        have H1 : (if a1 = 1 then (sentryref4_Legal.j1 kj2 a0 a1 (a1 == 1)) else (sentryref4_Legal.j1 kj2 a0 a1 (a1 == 5))) = some r := by rw [if_neg (show ¬ (false = true) by decide)] at H; exact H
        clear H
        have H := H1
        clear H1
        have HC6 := Aside0.mk H
        clear H
        go_upto_if 12 with (fail)
        go_cut [12] (fun v12 wc => ∃ (kq : Nat) (x12_5 : Bool), v12 = .bool x12_5 ∧ Aside0 (sentryref4_Legal.j1 kq a0 a1 x12_5 = some r) ∧ Aside0 (kq ≤ kj2) ∧ Drawn0 w wc)
        case first =>
          have H := HC6.out
          clear HC6
          by_cases c7 : a1 = 1
          · rw [if_pos c7] at H
            have c7b0 : (a1 == 1) = true := beq_iff_eq.mpr c7
            have c7b1 : (a1 != 1) = false := bne_eq_false_iff_eq.mpr c7
            clear c7
            (first | rw [c7b0] | (simp only [i64_w, i32_w]; rw [c7b0]) | skip)
            have H' := Aside0.mk H
            clear H
            go_wp2
            go_meet
            case rel => exact ⟨_, ((a1 == 1)), (by first | rfl | (simp; done) | (simp [*]; done)), H', ⟨by have := HJ2.out; first | omega | exact Nat.le_refl _⟩, by repeat (first | exact Drawn0.refl _ | apply Drawn0.step)⟩
          · rw [if_neg c7] at H
            have c7b0 : (a1 == 1) = false := beq_eq_false_iff_ne.mpr c7
            have c7b1 : (a1 != 1) = true := bne_iff_ne.mpr c7
            (first | rw [c7b0] | (simp only [i64_w, i32_w]; rw [c7b0]) | skip)
            have H' := Aside0.mk H
            clear H
            go_wp2
            go_meet
            case rel => exact ⟨_, ((a1 == 5)), (by first | rfl | (simp; done) | (simp [*]; done)), H', ⟨by have := HJ2.out; first | omega | exact Nat.le_refl _⟩, by repeat (first | exact Drawn0.refl _ | apply Drawn0.step)⟩
        case rest =>
          clear HC6
          try clear c1
          try clear c2
          try clear p2
          try clear c4
          try clear c4b0
          try clear c5
          try clear c7
          try clear c7b0
          try clear c7b1
          try clear p2
          obtain ⟨kq, x12_5, rfl, HA, HJ5, ⟨mc5, rfl⟩⟩ := hcut
          cases kq with
          | zero => exact absurd HA.out (by simp [sentryref4_Legal.j1])
          | succ kj5 =>
            have H := HA.out
            clear HA
            simp only [sentryref4_Legal.j1] at H
            by_cases c8 : x12_5 = true
            · subst c8
              have H1 : (some true) = some r := by rw [if_pos rfl] at H; exact H
              clear H
              have H := H1
              clear H1
              obtain rfl := Option.some.inj H
              go_wp2
              go_ret
              exact ⟨by first | rfl | (simp; done) | (simp [*]; done), by repeat (first | exact Drawn0.refl _ | apply Drawn0.step)⟩
            · replace c8 := Bool.eq_false_iff.mpr c8
              subst c8
              have H1 : (if a1 = 2 then (sentryref4_Legal.j2 kj5 a0 a1 (a1 == 2)) else (sentryref4_Legal.j2 kj5 a0 a1 (a1 == 3))) = some r := by rw [if_neg (show ¬ (false = true) by decide)] at H; exact H
              clear H
              have H := H1
              clear H1
              have HC9 := Aside0.mk H
              clear H
              go_upto_if 15 with (fail)
              go_cut [15] (fun v15 wc => ∃ (kq : Nat) (x15_8 : Bool), v15 = .bool x15_8 ∧ Aside0 (sentryref4_Legal.j2 kq a0 a1 x15_8 = some r) ∧ Aside0 (kq ≤ kj5) ∧ Drawn0 w wc)
              case first =>
                have H := HC9.out
                clear HC9
                by_cases c10 : a1 = 2
                · rw [if_pos c10] at H
                  have c10b0 : (a1 == 2) = true := beq_iff_eq.mpr c10
                  have c10b1 : (a1 != 2) = false := bne_eq_false_iff_eq.mpr c10
                  clear c10
                  (first | rw [c10b0] | (simp only [i64_w, i32_w]; rw [c10b0]) | skip)
                  have H' := Aside0.mk H
                  clear H
                  go_wp2
                  go_meet
                  case rel => exact ⟨_, ((a1 == 2)), (by first | rfl | (simp; done) | (simp [*]; done)), H', ⟨by have := HJ2.out; have := HJ5.out; first | omega | exact Nat.le_refl _⟩, by repeat (first | exact Drawn0.refl _ | apply Drawn0.step)⟩
                · rw [if_neg c10] at H
                  have c10b0 : (a1 == 2) = false := beq_eq_false_iff_ne.mpr c10
                  have c10b1 : (a1 != 2) = true := bne_iff_ne.mpr c10
                  (first | rw [c10b0] | (simp only [i64_w, i32_w]; rw [c10b0]) | skip)
                  have H' := Aside0.mk H
                  clear H
                  go_wp2
                  go_meet
                  case rel => exact ⟨_, ((a1 == 3)), (by first | rfl | (simp; done) | (simp [*]; done)), H', ⟨by have := HJ2.out; have := HJ5.out; first | omega | exact Nat.le_refl _⟩, by repeat (first | exact Drawn0.refl _ | apply Drawn0.step)⟩
              case rest =>
                clear HC9
                try clear c1
                try clear c2
                try clear p2
                try clear c4
                try clear c4b0
                try clear c5
                try clear c7
                try clear c7b0
                try clear c7b1
                try clear c8
                try clear c10
                try clear c10b0
                try clear c10b1
                try clear p2
                obtain ⟨kq, x15_8, rfl, HA, HJ8, ⟨mc8, rfl⟩⟩ := hcut
                cases kq with
                | zero => exact absurd HA.out (by simp [sentryref4_Legal.j2])
                | succ kj8 =>
                  have H := HA.out
                  clear HA
                  simp only [sentryref4_Legal.j2] at H
                  by_cases c11 : x15_8 = true
                  · subst c11
                    have H1 : (some (decide (a0 ≤ 2))) = some r := by rw [if_pos rfl] at H; exact H
                    clear H
                    have H := H1
                    clear H1
                    obtain rfl := Option.some.inj H
                    go_wp2
                    go_ret
                    exact ⟨by first | rfl | (simp; done) | (simp [*]; done), by repeat (first | exact Drawn0.refl _ | apply Drawn0.step)⟩
                  · replace c11 := Bool.eq_false_iff.mpr c11
                    subst c11
                    have H1 : (if a1 = 4 then (some (decide (a0 > 2))) else (some false)) = some r := by rw [if_neg (show ¬ (false = true) by decide)] at H; exact H
                    clear H
                    have H := H1
                    clear H1
                    by_cases c12 : a1 = 4
                    · rw [if_pos c12] at H
                      have c12b0 : (a1 == 4) = true := beq_iff_eq.mpr c12
                      have c12b1 : (a1 != 4) = false := bne_eq_false_iff_eq.mpr c12
                      clear c12
                      obtain rfl := Option.some.inj H
                      go_wp2
                      go_ret
                      exact ⟨by first | rfl | (simp; done) | (simp [*]; done), by repeat (first | exact Drawn0.refl _ | apply Drawn0.step)⟩
                    · rw [if_neg c12] at H
                      have c12b0 : (a1 == 4) = false := beq_eq_false_iff_ne.mpr c12
                      have c12b1 : (a1 != 4) = true := bne_iff_ne.mpr c12
                      obtain rfl := Option.some.inj H
                      go_wp2
                      go_ret
                      exact ⟨by first | rfl | (simp; done) | (simp [*]; done), by repeat (first | exact Drawn0.refl _ | apply Drawn0.step)⟩
end Go.Proofs.Ytchellnfenekaaa.Pm
end
section
namespace Go.Proofs.Ytchellnfenekaaa.Pm
open Go.RowKit Go.Proofs.YtchellnfenekaaaW.PrintWords Go.Proofs.YtchellnfenekaaaW.PrintLast Go.Proofs.YtchellnfenekaaaW.PrintMore
attribute [local go_sem] max2_int min2_int max_two min_two max_three min_three max_four min_four   -- for this text's walks alone
set_option linter.unusedVariables false
set_option linter.unusedSimpArgs false
def sentryref4_Op.l0 : Nat → ByteArray → List ByteArray → Int → Option (Int)
  | 0, _, _, _ => none
  | k + 1, x0, x3, x4 => if x4 < (x3.length : Int) then (if 0 ≤ x4 then (if (rdOf ByteArray.empty x3 x4).toList = x0.toList then (some x4) else (sentryref4_Op.l0 k x0 x3 (wrap64 (x4 + 1)))) else (none)) else (some (-1))
def sentryref4_Op.f (k : Nat) (a0 : ByteArray) : Option (Int) := sentryref4_Op.l0 k a0 (([(⟨#[60]⟩ : ByteArray), (⟨#[60, 61]⟩ : ByteArray), (⟨#[61]⟩ : ByteArray), (⟨#[33, 61]⟩ : ByteArray), (⟨#[62, 61]⟩ : ByteArray), (⟨#[62]⟩ : ByteArray)] : List ByteArray)) 0
theorem sentryref4_Op.mono_l : ∀ k, (∀ y0 y1 y2, LeO (sentryref4_Op.l0 k y0 y1 y2) (sentryref4_Op.l0 (k + 1) y0 y1 y2))
  | 0 => fun _ _ _ r h => by simp [sentryref4_Op.l0] at h
  | k + 1 => by
    have ih0 := sentryref4_Op.mono_l k
    · intro y0 y1 y2
      unfold sentryref4_Op.l0
      repeat' first
      | (with_reducible exact ih0 _ _ _)
      | (with_reducible exact LeO.refl _)
      | (with_reducible exact LeO.none _)
      | (with_reducible refine LeO.ite ?_ ?_)
      | (with_reducible refine LeO.bind ?_ (fun _ => ?_))
      | exact ih0 _ _ _
      | exact LeO.none _
      | refine LeO.ite ?_ ?_
      | refine LeO.bind ?_ (fun _ => ?_)
theorem sentryref4_Op.mono : ∀ a0 k, LeO (sentryref4_Op.f k a0) (sentryref4_Op.f (k + 1) a0) := by
  intro a0 k
  have ih0 := sentryref4_Op.mono_l k
  unfold sentryref4_Op.f
  repeat' first
      | (with_reducible exact ih0 _ _ _)
      | (with_reducible exact LeO.refl _)
      | (with_reducible exact LeO.none _)
      | (with_reducible refine LeO.ite ?_ ?_)
      | (with_reducible refine LeO.bind ?_ (fun _ => ?_))
      | exact ih0 _ _ _
      | exact LeO.none _
      | refine LeO.ite ?_ ?_
      | refine LeO.bind ?_ (fun _ => ?_)
set_option maxHeartbeats 8000000 in
set_option maxRecDepth 100000 in
theorem sentryref4_Op.calls (k : Nat) (a0 : ByteArray) (r : Int) (w : World) (h : sentryref4_Op.f k a0 = some r) :
    Calls Try.prog 74 #[.string a0] w fun e w' => e = .returned (.int .i64 r) ∧ Below w.heap.size w w' := by
  have HB := Aside0.mk (Below.refl w.heap.size w)
  have H : (sentryref4_Op.l0 k a0 (([(⟨#[60]⟩ : ByteArray), (⟨#[60, 61]⟩ : ByteArray), (⟨#[61]⟩ : ByteArray), (⟨#[33, 61]⟩ : ByteArray), (⟨#[62, 61]⟩ : ByteArray), (⟨#[62]⟩ : ByteArray)] : List ByteArray)) 0) = some r := h
  clear h
  obtain ⟨y185, hy185⟩ : ∃ y_ : List ByteArray, y_ = (([(⟨#[60]⟩ : ByteArray), (⟨#[60, 61]⟩ : ByteArray), (⟨#[61]⟩ : ByteArray), (⟨#[33, 61]⟩ : ByteArray), (⟨#[62, 61]⟩ : ByteArray), (⟨#[62]⟩ : ByteArray)] : List ByteArray)) := ⟨_, rfl⟩
  replace H : (sentryref4_Op.l0 k a0 y185 0) = some r := by first | (rw [hy185]; with_reducible exact H) | (have H2_ := (Option.bind_some _ _).symm.trans H; rw [hy185]; with_reducible exact H2_) | (have H2_ := (Option.bind_some _ _).symm.trans H; with_reducible exact H2_) | with_reducible exact H | (rw [hy185]; exact H) | exact H
  have Ny185 := Aside0.mk hy185
  clear hy185
  have H' := Aside0.mk H
  clear H
  go_enter Try.func74, Try.ntmps74
  go_wp2_with (first | ((with_reducible refine gate_dst (N := 5) rfl ?_); refine Kd.R_lit Kd.string _ 9 ?hg (N := 5) ?hd (xs := ([(⟨#[60]⟩ : ByteArray), (⟨#[60, 61]⟩ : ByteArray), (⟨#[61]⟩ : ByteArray), (⟨#[33, 61]⟩ : ByteArray), (⟨#[62, 61]⟩ : ByteArray), (⟨#[62]⟩ : ByteArray)] : List ByteArray)) (inner := [.string (⟨#[60]⟩ : ByteArray), .string (⟨#[60, 61]⟩ : ByteArray), .string (⟨#[61]⟩ : ByteArray), .string (⟨#[33, 61]⟩ : ByteArray), .string (⟨#[62, 61]⟩ : ByteArray), .string (⟨#[62]⟩ : ByteArray)]) (ok := fun _ => True) (okp := fun _ => True) ?hr ?hp (fun _ hk => hk) trivial (Below.refl _ _) (Nat.le_refl _) (by simp) ?_; (case hd => rfl); (case hg => rfl); (case hr => first | (go_simp; done) | (go_simp; rfl)); (case hp => exact (Reps.one (show Kd.M Kd.string _ _ _ (⟨#[60]⟩ : ByteArray) [.string (⟨#[60]⟩ : ByteArray)] from rfl) (Reps.one (show Kd.M Kd.string _ _ _ (⟨#[60, 61]⟩ : ByteArray) [.string (⟨#[60, 61]⟩ : ByteArray)] from rfl) (Reps.one (show Kd.M Kd.string _ _ _ (⟨#[61]⟩ : ByteArray) [.string (⟨#[61]⟩ : ByteArray)] from rfl) (Reps.one (show Kd.M Kd.string _ _ _ (⟨#[33, 61]⟩ : ByteArray) [.string (⟨#[33, 61]⟩ : ByteArray)] from rfl) (Reps.one (show Kd.M Kd.string _ _ _ (⟨#[62, 61]⟩ : ByteArray) [.string (⟨#[62, 61]⟩ : ByteArray)] from rfl) (Reps.one (show Kd.M Kd.string _ _ _ (⟨#[62]⟩ : ByteArray) [.string (⟨#[62]⟩ : ByteArray)] from rfl) (Reps.none _ _)))))))); intro v186 w2 ho3 hb hg_ hnew_; clear hg_ hnew_; (first | rw [← Ny185.out] at ho3 | (simp only [Int.reduceToNat] at ho3; rw [← Ny185.out] at ho3)); have n0_ := Aside0.mk (Kd.R_lower ho3 (below_size (by repeat (first | (with_reducible first | exact HB.out | apply below_alloc | apply pw_below_drewN | apply below_drew1) | exact HB.out)))); have n1_ := Aside0.mk (below_step (by repeat (first | (with_reducible first | exact HB.out | apply below_alloc | apply pw_below_drewN | apply below_drew1) | exact HB.out)) hb); clear HB; have HO187 := n0_; have HB := n1_; clear n0_ n1_; clear hb ho3))
  go_loopg [4] k (fun kq v4 w' => ∃ (x4_1 : Int), v4 = .int .i64 x4_1 ∧ Aside0 (sentryref4_Op.l0 kq a0 y185 x4_1 = some r) ∧ Aside0 (kq ≤ k) ∧ Aside0 (Kd.R Kd.string 9 w' w.heap.size (fun _ => True) v186 y185) ∧ Aside0 (Below w.heap.size w w'))
  case atStart => exact ⟨(0), (by first | rfl | (simp; done) | (simp [*]; done)), H', ⟨Nat.le_refl _⟩, ⟨by (with_reducible repeat (first | apply Kd.R_alloc | apply Kd.R_drewN | apply Kd.R_drew)); exact HO187.out⟩, ⟨by repeat (first | (with_reducible first | exact HB.out | apply below_alloc | apply pw_below_drewN | apply below_drew1) | exact HB.out)⟩⟩
  case round =>
    clear H'
    try clear p2
    obtain ⟨x4_1, rfl, HA, HK1, HO_3, HB⟩ := hrel
    cases gk with
    | zero => exact absurd HA.out (by simp [sentryref4_Op.l0])
    | succ k1 =>
      have H := HA.out
      clear HA
      simp only [sentryref4_Op.l0] at H
      by_cases c4 : x4_1 < (y185.length : Int)
      · rw [if_pos c4] at H
        have c4b0 : decide (x4_1 < (y185.length : Int)) = true := decide_eq_true c4
        clear c4
        by_cases c5 : 0 ≤ x4_1
        · rw [if_pos c5] at H
          have c5b0 : decide (0 ≤ x4_1) = true := decide_eq_true c5
          clear c5
          by_cases c6 : (rdOf ByteArray.empty y185 x4_1).toList = a0.toList
          · rw [if_pos c6] at H
            have c6b0 : ((rdOf ByteArray.empty y185 x4_1).toList == a0.toList) = true := beq_iff_eq.mpr c6
            have c6b1 : ((rdOf ByteArray.empty y185 x4_1).toList != a0.toList) = false := bne_eq_false_iff_eq.mpr c6
            clear c6
            obtain rfl := Option.some.inj H
            obtain ⟨Ao7, co7, eo7⟩ := Kd.R_slice HO_3.out
            subst eo7
            have p188 : 0 ≤ (x4_1 : Int) := of_decide_eq_true (by first | (with_reducible assumption) | assumption)
            have q188 : x4_1 < (y185.length : Int) := of_decide_eq_true (by first | (with_reducible assumption) | assumption)
            obtain ⟨ad188, e188, hx188_0⟩ := Kd.at_string (Kd.R_reads' HO_3.out).2.2 x4_1 p188 q188
            cases e188
            replace p188 := eq_true p188
            replace q188 := eq_true q188
            go_wp2
            go_ret
            exact ⟨by first | rfl | (simp [errW_none, errW_some] <;> rfl) | (simp [*, errW_none, errW_some] <;> rfl), by repeat (first | (with_reducible first | exact HB.out | apply below_alloc | apply pw_below_drewN | apply below_drew1) | exact HB.out)⟩
          · rw [if_neg c6] at H
            have c6b0 : ((rdOf ByteArray.empty y185 x4_1).toList == a0.toList) = false := beq_eq_false_iff_ne.mpr c6
            have c6b1 : ((rdOf ByteArray.empty y185 x4_1).toList != a0.toList) = true := bne_iff_ne.mpr c6
            have H' := Aside0.mk H
            clear H
            obtain ⟨Ao8, co8, eo8⟩ := Kd.R_slice HO_3.out
            subst eo8
            have p188 : 0 ≤ (x4_1 : Int) := of_decide_eq_true (by first | (with_reducible assumption) | assumption)
            have q188 : x4_1 < (y185.length : Int) := of_decide_eq_true (by first | (with_reducible assumption) | assumption)
            obtain ⟨ad188, e188, hx188_0⟩ := Kd.at_string (Kd.R_reads' HO_3.out).2.2 x4_1 p188 q188
            cases e188
            replace p188 := eq_true p188
            replace q188 := eq_true q188
            go_wp2
            go_roundg k1
            case measure => have := HK1.out; omega
            case rel => exact ⟨(wrap64 (x4_1 + 1)), (by first | rfl | (simp; done) | (simp [*]; done)), H', ⟨by have := HK1.out; omega⟩, ⟨by (with_reducible repeat (first | apply Kd.R_alloc | apply Kd.R_drewN | apply Kd.R_drew)); exact HO_3.out⟩, ⟨by repeat (first | (with_reducible first | exact HB.out | apply below_alloc | apply pw_below_drewN | apply below_drew1) | exact HB.out)⟩⟩
        · rw [if_neg c5] at H
          exact absurd H (by simp)
      · rw [if_neg c4] at H
        have c4b0 : decide (x4_1 < (y185.length : Int)) = false := decide_eq_false c4
        clear c4
        obtain rfl := Option.some.inj H
        obtain ⟨Ao9, co9, eo9⟩ := Kd.R_slice HO_3.out
        subst eo9
        go_wp2
        go_ret
        exact ⟨by first | rfl | (simp [errW_none, errW_some] <;> rfl) | (simp [*, errW_none, errW_some] <;> rfl), by repeat (first | (with_reducible first | exact HB.out | apply below_alloc | apply pw_below_drewN | apply below_drew1) | exact HB.out)⟩
end Go.Proofs.Ytchellnfenekaaa.Pm
end
