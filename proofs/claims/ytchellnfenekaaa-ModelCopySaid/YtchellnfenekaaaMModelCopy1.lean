/- Walks and plain laws on the way to the law ModelCopy: several texts of this workplace and of the kit's printer, merged; what is not used is struck, by a program. No condition. -/
import Derived.Test.YtchellnfenekaaaMModelCopy0
import Derived.Deep.Slices
import Derived.Lib.SmallJoins
import Derived.SizedLaws
import Derived.Lib.Hide
import Derived.Lib.SliceRun
import Derived.Shelf.Abstract
section
namespace Go.Proofs.Ytchellnfenekaaa.Pm
open Go.RowKit Go.Proofs.YtchellnfenekaaaW.PrintWords Go.Proofs.YtchellnfenekaaaW.PrintLast Go.Proofs.YtchellnfenekaaaW.PrintMore
attribute [local go_sem] max2_int min2_int max_two min_two max_three min_three max_four min_four   -- for this text's walks alone
set_option linter.unusedVariables false
set_option linter.unusedSimpArgs false
def sentrylaw4_clone.l0 : Nat → Int → List ByteArray → List (S32) → List ByteArray → List (S32) → Option (List ByteArray × (List (S32)))
 | 0, _, _, _, _, _ => none
 | k + 1, x4, x335000, x335001, x343000, x343001 => if x4 < (x335001.length : Int) then (if 0 ≤ x4 then ((sentrylaw4_guards.f k ((rd_T32 x335001 x4).f5)).bind fun t345 => ((sentrylaw4_guards.f k ((rd_T32 x335001 x4).f6)).bind fun t348 => (if x343001.length < 1353245080339 then (sentrylaw4_clone.l0 k (wrap64 (x4 + 1)) x335000 x335001 x343000 (x343001 ++ [(⟨(rd_T32 x335001 x4).f0, (rd_T32 x335001 x4).f1, (rd_T32 x335001 x4).f2, (rd_T32 x335001 x4).f3, (rd_T32 x335001 x4).f4, t345, t348⟩ : S32)])) else (none)))) else (none)) else (some (x343000, x343001))
def sentrylaw4_clone.f (k : Nat) (l0_0 : List ByteArray) (l0_1 : List (S32)) : Option (List ByteArray × (List (S32))) := (some (([] : List ByteArray) : List ByteArray)).bind fun y336 => (if y336.length + l0_0.length < 8796093022208 then (sentrylaw4_clone.l0 k 0 l0_0 l0_1 (y336 ++ l0_0) ([] : List (S32))) else (none))
theorem sentrylaw4_clone.mono_l : ∀ k, (∀ y0 y1 y2 y3 y4, LeO (sentrylaw4_clone.l0 k y0 y1 y2 y3 y4) (sentrylaw4_clone.l0 (k + 1) y0 y1 y2 y3 y4))
 | 0 => fun _ _ _ _ _ r h => by simp [sentrylaw4_clone.l0] at h
 | k + 1 => by
  have ih0 := sentrylaw4_clone.mono_l k
  ·intro y0 y1 y2 y3 y4
   unfold sentrylaw4_clone.l0
   repeat' first
   | (with_reducible exact ih0 _ _ _ _ _)
   | (with_reducible exact sentrylaw4_guards.mono _ _)
   | (with_reducible exact LeO.refl _)
   | (with_reducible exact LeO.none _)
   | (with_reducible refine LeO.ite ?_ ?_)
   | (with_reducible refine LeO.bind ?_ (fun _ => ?_))
   | exact ih0 _ _ _ _ _
   | exact sentrylaw4_guards.mono _ _
   | exact LeO.none _
   | refine LeO.ite ?_ ?_
   | refine LeO.bind ?_ (fun _ => ?_)
theorem sentrylaw4_clone.mono : ∀ a0 a1 k, LeO (sentrylaw4_clone.f k a0 a1) (sentrylaw4_clone.f (k + 1) a0 a1) := by
 intro a0 a1 k
 have ih0 := sentrylaw4_clone.mono_l k
 unfold sentrylaw4_clone.f
 repeat' first
   | (with_reducible exact ih0 _ _ _ _ _)
   | (with_reducible exact sentrylaw4_guards.mono _ _)
   | (with_reducible exact LeO.refl _)
   | (with_reducible exact LeO.none _)
   | (with_reducible refine LeO.ite ?_ ?_)
   | (with_reducible refine LeO.bind ?_ (fun _ => ?_))
   | exact ih0 _ _ _ _ _
   | exact sentrylaw4_guards.mono _ _
   | exact LeO.none _
   | refine LeO.ite ?_ ?_
   | refine LeO.bind ?_ (fun _ => ?_)
def sentrylaw4_clone.T6 : Bool × List (List Nat × List Nat) := (true, [([], []), ([0], [0]), ([1], [1]), ([], []), ([3], [3]), ([4, 2], [4]), ([0, 1, 2, 3, 4], []), ([6, 2, 5, 0, 1, 2, 3, 4], [2, 6]), ([0, 1, 2, 3, 4, 5, 6, 7], []), ([8, 5, 7, 0, 1, 2, 3, 4, 5, 6, 7], [5, 8])])
def sentrylaw4_clone.B6 : List Nat := [0, 1, 3, 0, 8, 31, 31, 127, 255, 511]
theorem sentrylaw4_clone.tab6 : rtab .any (opsOf Try.f24 6) = sentrylaw4_clone.T6 := by kernel_rfl
theorem sentrylaw4_clone.bits6 : waitsOk sentrylaw4_clone.T6.2 sentrylaw4_clone.B6 = true := by kernel_rfl
set_option maxHeartbeats 8000000 in
set_option maxRecDepth 100000 in
theorem sentrylaw4_clone.calls (k : Nat) (A0_0 : Option Addr) (c0_0 : Nat) (l0_0 : List ByteArray) (A0_1 : Option Addr) (c0_1 : Nat) (l0_1 : List (S32)) (r1 : List ByteArray) (r2 : List (S32)) (w : World) (hr0_0 : Kd.C Kd.string w A0_0 l0_0.length l0_0) (hc0_0 : l0_0.length ≤ c0_0) (hr0_1 : Kd.C k32 w A0_1 l0_1.length l0_1) (hc0_1 : l0_1.length ≤ c0_1) (h : sentrylaw4_clone.f k l0_0 l0_1 = some (r1, r2)) :
  Calls Try.prog 24 #[.agg #[.slice A0_0 l0_0.length c0_0, .slice A0_1 l0_1.length c0_1]] w fun e w' => ∃ v0_ v1_ : Value, e = .returned (.agg #[v0_, v1_]) ∧ Kd.R Kd.string 9 w' w.heap.size (fun _ => True) v0_ r1 ∧ Kd.R k32 32 w' w.heap.size (fun _ => True) v1_ r2 ∧ Below w.heap.size w w' := by
 have hu36 := Try.underlying36
 have hu32 := Try.underlying32
 have HR0_0 := Aside0.mk hr0_0
 have HC0_0 := Aside0.mk hc0_0
 clear hr0_0 hc0_0
 have HR0_1 := Aside0.mk hr0_1
 have HC0_1 := Aside0.mk hc0_1
 clear hr0_1 hc0_1
 have HB := Aside0.mk (Below.refl w.heap.size w)
 have H : ((some (([] : List ByteArray) : List ByteArray)).bind fun y336 => (if y336.length + l0_0.length < 8796093022208 then (sentrylaw4_clone.l0 k 0 l0_0 l0_1 (y336 ++ l0_0) ([] : List (S32))) else (none))) = some (r1, r2) := h
 clear h
 obtain ⟨y336, hy336⟩ : ∃ y_ : List ByteArray, y_ = (([] : List ByteArray)) := ⟨_, rfl⟩
 replace H : (if y336.length + l0_0.length < 8796093022208 then (sentrylaw4_clone.l0 k 0 l0_0 l0_1 (y336 ++ l0_0) ([] : List (S32))) else (none)) = some (r1, r2) := by first | (rw [hy336]; with_reducible exact H) | (have H2_ := (Option.bind_some _ _).symm.trans H; rw [hy336]; with_reducible exact H2_) | (have H2_ := (Option.bind_some _ _).symm.trans H; with_reducible exact H2_) | with_reducible exact H | (rw [hy336]; exact H) | exact H
 have Ny336 := Aside0.mk hy336
 clear hy336
 by_cases c2 : y336.length + l0_0.length < 8796093022208
 ·rw [if_pos c2] at H
  have LMc2 := Aside0.mk c2
  clear c2
  obtain ⟨y339, hy339⟩ : ∃ y_ : List ByteArray, y_ = (y336 ++ l0_0) := ⟨_, rfl⟩
  replace H : (sentrylaw4_clone.l0 k 0 l0_0 l0_1 y339 ([] : List (S32))) = some (r1, r2) := by first | (rw [hy339]; with_reducible exact H) | (have H2_ := (Option.bind_some _ _).symm.trans H; rw [hy339]; with_reducible exact H2_) | (have H2_ := (Option.bind_some _ _).symm.trans H; with_reducible exact H2_) | with_reducible exact H | (rw [hy339]; exact H) | exact H
  have Ny339 := Aside0.mk hy339
  clear hy339
  have H' := Aside0.mk H
  clear H
  go_enter Try.func24, Try.ntmps24
  go_wp2_with (first | ((with_reducible refine gate_dst (N := 1) rfl ?_); refine box_event ?hg (N := 1) ?hd (cs := #[.slice A0_0 l0_0.length c0_0, .slice A0_1 l0_1.length c0_1]) (t := 36) ?hr ?_; (case hd => rfl); (case hg => rfl); (case hr => first | (go_simp; done) | (go_simp; rfl)); intro gb334 hg w3 hbox hb; have n0_ := hb_ HB hb; have n1_ := Aside0.mk (hbox); have n2_ := Aside0.mk ((by rw [hg]; exact (below_size (by repeat (first | (with_reducible first | exact HB.out | apply below_alloc | apply pw_below_drewN | apply below_drew1) | exact HB.out))) : w.heap.size ≤ gb334)); have n3_ := Aside0.mk ((by rw [hg]; exact (below_size (by repeat (first | (with_reducible first | exact HB.out | apply below_alloc | apply pw_below_drewN | apply below_drew1) | exact HB.out))) : w.heap.size ≤ gb334)); clear HB; have HB := n0_; have BK334 := n1_; have GW334 := n2_; have GE334 := n3_; clear n0_ n1_ n2_ n3_; clear hb hbox hg) | ((with_reducible refine gate_dst (N := 2) rfl ?_); refine box_event ?hg (N := 2) ?hd (cs := #[.slice none 0 0, .slice none 0 0]) (t := 36) ?hr ?_; (case hd => rfl); (case hg => rfl); (case hr => first | (go_simp; done) | (go_simp; rfl)); intro gb335 hg w4 hbox hb; have n0_ := bb_ BK334 hb; have n1_ := hb_ HB hb; have n2_ := Aside0.mk (hbox); have n3_ := Aside0.mk ((by rw [hg]; exact (below_size (by repeat (first | (with_reducible first | exact HB.out | apply below_alloc | apply pw_below_drewN | apply below_drew1 | refine below_set ?_ GE334.out) | exact HB.out))) : w.heap.size ≤ gb335)); have n4_ := Aside0.mk ((by rw [hg]; exact (below_size (by repeat (first | (with_reducible first | exact HB.out | apply below_alloc | apply pw_below_drewN | apply below_drew1 | refine below_set ?_ GE334.out) | exact HB.out))) : w.heap.size ≤ gb335)); have n5_ := Aside0.mk ((by rw [hg]; exact Nat.ne_of_lt (blk_lt (g := gb334) (o := .cells #[.slice A0_0 l0_0.length c0_0, .slice A0_1 l0_1.length c0_1] 36 (0, 0)) (by (with_reducible repeat (first | refine blk_drewN ?_ _ | refine blk_drew ?_ | refine blk_alloc ?_ _)); exact BK334.out)) : gb334 ≠ gb335)); have n6_ := Aside0.mk ((by rw [hg]; exact Nat.ne_of_gt (blk_lt (g := gb334) (o := .cells #[.slice A0_0 l0_0.length c0_0, .slice A0_1 l0_1.length c0_1] 36 (0, 0)) (by (with_reducible repeat (first | refine blk_drewN ?_ _ | refine blk_drew ?_ | refine blk_alloc ?_ _)); exact BK334.out)) : gb335 ≠ gb334)); clear BK334; clear HB; have BK334 := n0_; have HB := n1_; have BK335 := n2_; have GW335 := n3_; have GE335 := n4_; have NB334_335 := n5_; have NB335_334 := n6_; clear n0_ n1_ n2_ n3_ n4_ n5_ n6_; clear hb hbox hg) | ((with_reducible refine gate_dst (N := 6) rfl ?_); refine Kd.R_lit Kd.string _ 9 ?hg (N := 6) ?hd (xs := ([] : List ByteArray)) (inner := []) (ok := fun _ => True) (okp := fun _ => True) ?hr ?hp (fun _ hk => hk) trivial (Below.refl _ _) (Nat.le_refl _) (by simp) ?_; (case hd => rfl); (case hg => rfl); (case hr => first | (go_simp; done) | (go_simp; rfl)); (case hp => exact (Reps.none _ _)); intro v337 w5 ho6 hb hg_ hnew_; clear hg_ hnew_; (first | rw [← Ny336.out] at ho6 | (simp only [Int.reduceToNat] at ho6; rw [← Ny336.out] at ho6)); have n0_ := Aside0.mk (Kd.R_lower ho6 (below_size (by repeat (first | (with_reducible first | exact HB.out | apply below_alloc | apply pw_below_drewN | apply below_drew1 | refine below_set ?_ GE334.out | refine below_set ?_ GE335.out) | exact HB.out)))); have n1_ := bb_ BK334 hb; have n2_ := bb_ BK335 hb; have n3_ := hb_ HB hb; clear BK334; clear BK335; clear HB; have HO338 := n0_; have BK334 := n1_; have BK335 := n2_; have HB := n3_; clear n0_ n1_ n2_ n3_; clear hb ho6; have hnb7 := NB334_335.out; have hnc7 := NB335_334.out; obtain ⟨hcz8_0, hcz8_1, hfz8_0, hfz8_1⟩ := bs2_ BK334) | ((with_reducible refine gate_builtin (b := .append) (xs := #[.tmp 6, .tmp 8]) rfl ?_); at_builtin; refine Kd.R_append_rows Kd.string (w0 := w) w.heap.size rfl (.tmp 6) (.tmp 8) 33 9 (.string ⟨#[]⟩) 16 rfl Try.underlying33 info9 rfl (by decide) (by omega) v337 y336 l0_0 _ _ _ (fun _ => True) (fun _ => False) rfl rfl ?aO ?aR (fun _ _ h => h) (fun _ h => h.elim) ?aF ?aB ?aS ?aL ?_; (case aR => repeat (first | exact (Kd.C_below HR0_0.out HB.out) | (with_reducible refine Kd.C_alloc ?_ _) | (with_reducible refine Kd.C_drewN ?_ _) | (with_reducible refine Kd.C_drew ?_))); (case aB => exact (by repeat (first | (with_reducible first | exact HB.out | apply below_alloc | apply pw_below_drewN | apply below_drew1 | refine below_set ?_ GE334.out | refine below_set ?_ GE335.out) | exact HB.out))); (case aF => exact (fun _ _ => trivial)); (case aO => exact (by (with_reducible repeat (first | apply Kd.R_alloc | apply Kd.R_drewN | apply Kd.R_drew)); exact HO338.out)); (case aS => exact (below_size (by repeat (first | (with_reducible first | exact HB.out | apply below_alloc | apply pw_below_drewN | apply below_drew1 | refine below_set ?_ GE334.out | refine below_set ?_ GE335.out) | exact HB.out)))); (case aL => have := LMc2.out; omega); intro v340 w9 ho hb hg hat; rw [← Ny339.out] at ho; have n0_ := Aside0.mk (blk_grown (g := gb334) (o := .cells #[.slice A0_0 l0_0.length c0_0, .slice A0_1 l0_1.length c0_1] 36 (0, 0)) (by (with_reducible repeat (first | refine blk_drewN ?_ _ | refine blk_drew ?_ | refine blk_alloc ?_ _)); exact BK334.out) hg (Kd.R_ne HO338.out BK334.out (by decide))); have n1_ := Aside0.mk (blk_grown (g := gb335) (o := .cells #[.slice none 0 0, .slice none 0 0] 36 (0, 0)) (by (with_reducible repeat (first | refine blk_drewN ?_ _ | refine blk_drew ?_ | refine blk_alloc ?_ _)); exact BK335.out) hg (Kd.R_ne HO338.out BK335.out (by decide))); have n2_ := Aside0.mk (hb); have n3_ := Aside0.mk (ho); clear BK334; clear BK335; clear HB; clear HO338; have BK334 := n0_; have BK335 := n1_; have HB := n2_; have HO341 := n3_; clear n0_ n1_ n2_ n3_; clear ho hb hg hat; obtain ⟨Ao10, co10, eo10⟩ := Kd.R_slice HO341.out; subst eo10) | ((with_reducible refine gate_dst (N := 3) rfl ?_); refine box_event ?hg (N := 3) ?hd (cs := #[.slice none 0 0, .slice none 0 0]) (t := 36) ?hr ?_; (case hd => rfl); (case hg => rfl); (case hr => first | (go_simp; done) | (go_simp; rfl)); intro gb342 hg w11 hbox hb; have n0_ := Aside0.mk (Kd.R_below (by (with_reducible repeat (first | apply Kd.R_alloc | apply Kd.R_drewN | apply Kd.R_drew)); exact HO341.out) hb); have n1_ := bb_ BK334 hb; have n2_ := bb_ BK335 hb; have n3_ := hb_ HB hb; have n4_ := Aside0.mk (hbox); have n5_ := Aside0.mk ((by rw [hg]; exact (below_size (by repeat (first | (with_reducible first | exact HB.out | apply below_alloc | apply pw_below_drewN | apply below_drew1 | refine below_set ?_ GE334.out | refine below_set ?_ GE335.out) | exact HB.out))) : w.heap.size ≤ gb342)); have n6_ := Aside0.mk ((by rw [hg]; exact (below_size (by repeat (first | (with_reducible first | exact HB.out | apply below_alloc | apply pw_below_drewN | apply below_drew1 | refine below_set ?_ GE334.out | refine below_set ?_ GE335.out) | exact HB.out))) : w.heap.size ≤ gb342)); have n7_ := Aside0.mk ((by rw [hg]; exact Nat.ne_of_lt (blk_lt (g := gb334) (o := .cells #[.slice A0_0 l0_0.length c0_0, .slice A0_1 l0_1.length c0_1] 36 (0, 0)) (by (with_reducible repeat (first | refine blk_drewN ?_ _ | refine blk_drew ?_ | refine blk_alloc ?_ _)); exact BK334.out)) : gb334 ≠ gb342)); have n8_ := Aside0.mk ((by rw [hg]; exact Nat.ne_of_gt (blk_lt (g := gb334) (o := .cells #[.slice A0_0 l0_0.length c0_0, .slice A0_1 l0_1.length c0_1] 36 (0, 0)) (by (with_reducible repeat (first | refine blk_drewN ?_ _ | refine blk_drew ?_ | refine blk_alloc ?_ _)); exact BK334.out)) : gb342 ≠ gb334)); have n9_ := Aside0.mk ((by rw [hg]; exact Nat.ne_of_lt (blk_lt (g := gb335) (o := .cells #[.slice none 0 0, .slice none 0 0] 36 (0, 0)) (by (with_reducible repeat (first | refine blk_drewN ?_ _ | refine blk_drew ?_ | refine blk_alloc ?_ _)); exact BK335.out)) : gb335 ≠ gb342)); have n10_ := Aside0.mk ((by rw [hg]; exact Nat.ne_of_gt (blk_lt (g := gb335) (o := .cells #[.slice none 0 0, .slice none 0 0] 36 (0, 0)) (by (with_reducible repeat (first | refine blk_drewN ?_ _ | refine blk_drew ?_ | refine blk_alloc ?_ _)); exact BK335.out)) : gb342 ≠ gb335)); clear HO341; clear BK334; clear BK335; clear HB; have HO341 := n0_; have BK334 := n1_; have BK335 := n2_; have HB := n3_; have BK342 := n4_; have GW342 := n5_; have GE342 := n6_; have NB334_342 := n7_; have NB342_334 := n8_; have NB335_342 := n9_; have NB342_335 := n10_; clear n0_ n1_ n2_ n3_ n4_ n5_ n6_ n7_ n8_ n9_ n10_; clear hb hbox hg; have hnb12 := NB342_334.out; have hnc12 := NB334_342.out; have hnb13 := NB342_335.out; have hnc13 := NB335_342.out; obtain ⟨hcz14_0, hcz14_1, hfz14_0, hfz14_1⟩ := bs2_ BK342))
  go_loopg [4] k (fun kq v4 w' => ∃ (x4_1 : Int) (x343001_1 : List (S32)) (u343001 : Value), v4 = .int .i64 x4_1 ∧ Aside0 (sentrylaw4_clone.l0 kq x4_1 l0_0 l0_1 y339 x343001_1 = some (r1, r2)) ∧ Aside0 (kq ≤ k) ∧ Aside0 (Kd.R Kd.string 9 w' w.heap.size (fun _ => True) (.slice Ao10 y339.length co10) y339) ∧ Aside0 (Kd.R k32 32 w' w.heap.size (fun _ => True) u343001 x343001_1) ∧ Aside0 (w'.heap[gb334]? = some (.cells #[(.slice A0_0 l0_0.length c0_0), (.slice A0_1 l0_1.length c0_1)] 36 (0, 0))) ∧ Aside0 (w'.heap[gb335]? = some (.cells #[(.slice none 0 0), (.slice none 0 0)] 36 (0, 0))) ∧ Aside0 (w'.heap[gb342]? = some (.cells #[(.slice Ao10 y339.length co10), u343001] 36 (0, 0))) ∧ Aside0 (Below w.heap.size w w'))
  case atStart => exact ⟨(0), (([] : List (S32))), (.slice none 0 0), (by first | rfl | (simp; done) | (simp [*]; done)), H', ⟨Nat.le_refl _⟩, ⟨by (with_reducible repeat (first | apply Kd.R_alloc | apply Kd.R_drewN | apply Kd.R_drew)); exact Kd.R_mono (Kd.R_far (p := ⟨gb342, 1, none⟩) (Kd.R_far (p := ⟨gb342, 0, none⟩) (Kd.R_types HO341.out BK342.out (by decide)) (fun _ hk => hk.2) (.slice Ao10 y339.length co10)) (fun _ hk => hk.2) (.slice none 0 0)) (fun _ hk => trivial)⟩, ⟨by first | exact Kd.R_nil _ _ _ _ _ | exact Kd.N_nil _ _ _ _ _ | exact Kd.V_nil _ _ _ _ _ | exact Kd.Q_nil _ _ _ _ _ | exact Kd.S_nil _ _ _ _ _⟩, ⟨by (with_reducible repeat (first | refine blk_drewN ?_ _ | refine blk_drew ?_ | refine blk_alloc ?_ _)); refine blk_far ?_ NB334_342.out _; (with_reducible repeat (first | refine blk_drewN ?_ _ | refine blk_drew ?_ | refine blk_alloc ?_ _)); refine blk_far ?_ NB334_342.out _; (with_reducible repeat (first | refine blk_drewN ?_ _ | refine blk_drew ?_ | refine blk_alloc ?_ _)); exact BK334.out⟩, ⟨by (with_reducible repeat (first | refine blk_drewN ?_ _ | refine blk_drew ?_ | refine blk_alloc ?_ _)); refine blk_far ?_ NB335_342.out _; (with_reducible repeat (first | refine blk_drewN ?_ _ | refine blk_drew ?_ | refine blk_alloc ?_ _)); refine blk_far ?_ NB335_342.out _; (with_reducible repeat (first | refine blk_drewN ?_ _ | refine blk_drew ?_ | refine blk_alloc ?_ _)); exact BK335.out⟩, ⟨by (with_reducible repeat (first | refine blk_drewN ?_ _ | refine blk_drew ?_ | refine blk_alloc ?_ _)); refine blk_put (cs := #[.slice Ao10 y339.length co10, .slice none 0 0]) ?_ 1 _ rfl; (with_reducible repeat (first | refine blk_drewN ?_ _ | refine blk_drew ?_ | refine blk_alloc ?_ _)); refine blk_put (cs := #[.slice none 0 0, .slice none 0 0]) ?_ 0 _ rfl; (with_reducible repeat (first | refine blk_drewN ?_ _ | refine blk_drew ?_ | refine blk_alloc ?_ _)); exact BK342.out⟩, ⟨hf_⟩⟩
  case round =>
   clear H'
   (try clear c1); (try clear c2); (try clear p2); (try clear c7); (try clear c12); (try clear c13); (try clear hcz14_0); (try clear hcz14_1); (try clear hcz8_0); (try clear hcz8_1); (try clear hfz14_0); (try clear hfz14_1); (try clear hfz8_0); (try clear hfz8_1)
   obtain ⟨x4_1, x343001_1, u343001, rfl, HA, HK1, HO_343000, HO_343001, BK334, BK335, BK342, HB⟩ := hrel
   cases gk with
   | zero => exact absurd HA.out (by simp [sentrylaw4_clone.l0])
   | succ k1 =>
    have H := HA.out
    clear HA
    simp only [sentrylaw4_clone.l0] at H
    by_cases c15 : x4_1 < (l0_1.length : Int)
    ·rw [if_pos c15] at H
     have c15b0 : decide (x4_1 < (l0_1.length : Int)) = true := decide_eq_true c15
     clear c15
     by_cases c16 : 0 ≤ x4_1
     ·rw [if_pos c16] at H
      have c16b0 : decide (0 ≤ x4_1) = true := decide_eq_true c16
      clear c16
      replace H := Option.bind_eq_some_iff.mp H
      obtain ⟨t345, A170, H⟩ := H
      replace H : ((sentrylaw4_guards.f k1 ((rd_T32 l0_1 x4_1).f6)).bind fun t348 => (if x343001_1.length < 1353245080339 then (sentrylaw4_clone.l0 k1 (wrap64 (x4_1 + 1)) l0_0 l0_1 y339 (x343001_1 ++ [(⟨(rd_T32 l0_1 x4_1).f0, (rd_T32 l0_1 x4_1).f1, (rd_T32 l0_1 x4_1).f2, (rd_T32 l0_1 x4_1).f3, (rd_T32 l0_1 x4_1).f4, t345, t348⟩ : S32)])) else (none))) = some (r1, r2) := H
      have A17 := Aside0.mk A170
      clear A170
      replace H := Option.bind_eq_some_iff.mp H
      obtain ⟨t348, A180, H⟩ := H
      replace H : (if x343001_1.length < 1353245080339 then (sentrylaw4_clone.l0 k1 (wrap64 (x4_1 + 1)) l0_0 l0_1 y339 (x343001_1 ++ [(⟨(rd_T32 l0_1 x4_1).f0, (rd_T32 l0_1 x4_1).f1, (rd_T32 l0_1 x4_1).f2, (rd_T32 l0_1 x4_1).f3, (rd_T32 l0_1 x4_1).f4, t345, t348⟩ : S32)])) else (none)) = some (r1, r2) := H
      have A18 := Aside0.mk A180
      clear A180
      by_cases c19 : x343001_1.length < 1353245080339
      ·rw [if_pos c19] at H
       have LMc19 := Aside0.mk c19
       clear c19
       obtain ⟨y351, hy351⟩ : ∃ y_ : List (S32), y_ = (x343001_1 ++ [(⟨(rd_T32 l0_1 x4_1).f0, (rd_T32 l0_1 x4_1).f1, (rd_T32 l0_1 x4_1).f2, (rd_T32 l0_1 x4_1).f3, (rd_T32 l0_1 x4_1).f4, t345, t348⟩ : S32)]) := ⟨_, rfl⟩
       replace H : (sentrylaw4_clone.l0 k1 (wrap64 (x4_1 + 1)) l0_0 l0_1 y339 y351) = some (r1, r2) := by first | (rw [hy351]; with_reducible exact H) | (have H2_ := (Option.bind_some _ _).symm.trans H; rw [hy351]; with_reducible exact H2_) | (have H2_ := (Option.bind_some _ _).symm.trans H; with_reducible exact H2_) | with_reducible exact H | (rw [hy351]; exact H) | exact H
       have Ny351 := Aside0.mk hy351
       clear hy351
       have H' := Aside0.mk H
       clear H
       have hnb20 := NB334_335.out
       have hnc20 := NB335_334.out
       have hnb21 := NB334_342.out
       have hnc21 := NB342_334.out
       obtain ⟨hcz22_0, hcz22_1, hfz22_0, hfz22_1⟩ := bs2_ BK334
       have p343 : 0 ≤ (x4_1 : Int) := od_
       have q343 : x4_1 < (l0_1.length : Int) := od_
       obtain ⟨ad343, A343_5, c343_5, A343_6, c343_6, e343, hx343_0, hx343_1, hx343_2, hx343_3, hx343_4, hx343_5, hx343_6, hl343_5, hi343_5, hl343_6, hi343_6⟩ := at_T32 HR0_1.out x4_1 p343 q343
       cases e343
       replace hx343_0 := rr_ HB hx343_0
       replace hx343_1 := rr_ HB hx343_1
       replace hx343_2 := rr_ HB hx343_2
       replace hx343_3 := rr_ HB hx343_3
       replace hx343_4 := rr_ HB hx343_4
       replace hx343_5 := rr_ HB hx343_5
       replace hx343_6 := rr_ HB hx343_6
       have HR343_5 := Aside0.mk hi343_5
       have HC343_5 := Aside0.mk hl343_5
       clear hi343_5 hl343_5
       have HR343_6 := Aside0.mk hi343_6
       have HC343_6 := Aside0.mk hl343_6
       clear hi343_6 hl343_6
       replace p343 := eq_true p343
       replace q343 := eq_true q343
       try go_wp2_with (first | ((with_reducible refine gate_dst (N := 5) rfl ?_); refine box_event ?hg (N := 5) ?hd (cs := #[.string (⟨#[]⟩ : ByteArray), .int .i64 0, .string (⟨#[]⟩ : ByteArray), .bool false, .int .i64 0, .slice none 0 0, .slice none 0 0]) (t := 32) ?hr ?_; (case hd => rfl); (case hg => rfl); (case hr => first | (go_simp; done) | (go_simp; rfl)); intro gb344 hg w23 hbox hb; have n0_ := Aside0.mk (Kd.R_below (by (with_reducible repeat (first | apply Kd.R_alloc | apply Kd.R_drewN | apply Kd.R_drew)); exact HO_343000.out) hb); have n1_ := Aside0.mk (Kd.R_below (Kd.R_elderB (by (with_reducible repeat (first | apply Kd.R_alloc | apply Kd.R_drewN | apply Kd.R_drew)); exact HO_343001.out) gb344 (Nat.le_of_eq hg.symm)) hb); have n2_ := bb_ BK334 hb; have n3_ := bb_ BK335 hb; have n4_ := bb_ BK342 hb; have n5_ := hb_ HB hb; have n6_ := Aside0.mk (hbox); have n7_ := Aside0.mk ((by rw [hg]; exact (below_size (by repeat (first | (with_reducible first | exact HB.out | apply below_alloc | apply pw_below_drewN | apply below_drew1 | refine below_set ?_ GE334.out | refine below_set ?_ GE335.out | refine below_set ?_ GE342.out) | exact HB.out))) : w.heap.size ≤ gb344)); have n8_ := Aside0.mk ((by rw [hg]; exact (below_size (by repeat (first | (with_reducible first | exact HB.out | apply below_alloc | apply pw_below_drewN | apply below_drew1 | refine below_set ?_ GE334.out | refine below_set ?_ GE335.out | refine below_set ?_ GE342.out) | exact HB.out))) : w.heap.size ≤ gb344)); have n9_ := Aside0.mk ((by rw [hg]; exact Nat.ne_of_lt (blk_lt (g := gb334) (o := .cells #[.slice A0_0 l0_0.length c0_0, .slice (some ad343) l0_1.length c0_1] 36 (0, 0)) (by (with_reducible repeat (first | refine blk_drewN ?_ _ | refine blk_drew ?_ | refine blk_alloc ?_ _)); exact BK334.out)) : gb334 ≠ gb344)); have n10_ := Aside0.mk ((by rw [hg]; exact Nat.ne_of_gt (blk_lt (g := gb334) (o := .cells #[.slice A0_0 l0_0.length c0_0, .slice (some ad343) l0_1.length c0_1] 36 (0, 0)) (by (with_reducible repeat (first | refine blk_drewN ?_ _ | refine blk_drew ?_ | refine blk_alloc ?_ _)); exact BK334.out)) : gb344 ≠ gb334)); have n11_ := Aside0.mk ((by rw [hg]; exact Nat.ne_of_lt (blk_lt (g := gb335) (o := .cells #[.slice none 0 0, .slice none 0 0] 36 (0, 0)) (by (with_reducible repeat (first | refine blk_drewN ?_ _ | refine blk_drew ?_ | refine blk_alloc ?_ _)); exact BK335.out)) : gb335 ≠ gb344)); have n12_ := Aside0.mk ((by rw [hg]; exact Nat.ne_of_gt (blk_lt (g := gb335) (o := .cells #[.slice none 0 0, .slice none 0 0] 36 (0, 0)) (by (with_reducible repeat (first | refine blk_drewN ?_ _ | refine blk_drew ?_ | refine blk_alloc ?_ _)); exact BK335.out)) : gb344 ≠ gb335)); have n13_ := Aside0.mk ((by rw [hg]; exact Nat.ne_of_lt (blk_lt (g := gb342) (o := .cells #[.slice Ao10 y339.length co10, u343001] 36 (0, 0)) (by (with_reducible repeat (first | refine blk_drewN ?_ _ | refine blk_drew ?_ | refine blk_alloc ?_ _)); exact BK342.out)) : gb342 ≠ gb344)); have n14_ := Aside0.mk ((by rw [hg]; exact Nat.ne_of_gt (blk_lt (g := gb342) (o := .cells #[.slice Ao10 y339.length co10, u343001] 36 (0, 0)) (by (with_reducible repeat (first | refine blk_drewN ?_ _ | refine blk_drew ?_ | refine blk_alloc ?_ _)); exact BK342.out)) : gb344 ≠ gb342)); clear HO_343000; clear HO_343001; clear BK334; clear BK335; clear BK342; clear HB; have HO_343000 := n0_; have HO_343001 := n1_; have BK334 := n2_; have BK335 := n3_; have BK342 := n4_; have HB := n5_; have BK344 := n6_; have GW344 := n7_; have GE344 := n8_; have NB334_344 := n9_; have NB344_334 := n10_; have NB335_344 := n11_; have NB344_335 := n12_; have NB342_344 := n13_; have NB344_342 := n14_; clear n0_ n1_ n2_ n3_ n4_ n5_ n6_ n7_ n8_ n9_ n10_ n11_ n12_ n13_ n14_; clear hb hbox hg; have hnb24 := NB344_334.out; have hnc24 := NB334_344.out; have hnb25 := NB344_335.out; have hnc25 := NB335_344.out; have hnb26 := NB344_342.out; have hnc26 := NB342_344.out; obtain ⟨hcz27_0, hcz27_1, hcz27_2, hcz27_3, hcz27_4, hcz27_5, hcz27_6, hfz27_0, hfz27_1, hfz27_2, hfz27_3, hfz27_4, hfz27_5, hfz27_6⟩ := bs7_ BK344))
       have n0_ : Aside0 (Kd.R Kd.string 9 (((((((w23.setCell ⟨gb344, 0, none⟩ (.string ((rd_T32 l0_1 x4_1).f0))).setCell ⟨gb344, 1, none⟩ (.int .i64 ((rd_T32 l0_1 x4_1).f1))).setCell ⟨gb344, 2, none⟩ (.string ((rd_T32 l0_1 x4_1).f2))).setCell ⟨gb344, 3, none⟩ (.bool ((rd_T32 l0_1 x4_1).f3))).setCell ⟨gb344, 4, none⟩ (.int .i64 ((rd_T32 l0_1 x4_1).f4))).setCell ⟨gb344, 5, none⟩ (.slice A343_5 ((rd_T32 l0_1 x4_1).f5).length c343_5)).setCell ⟨gb344, 6, none⟩ (.slice A343_6 ((rd_T32 l0_1 x4_1).f6).length c343_6)) w.heap.size (fun _ => True) (.slice Ao10 y339.length co10) y339) := ⟨by (with_reducible repeat (first | apply Kd.R_alloc | apply Kd.R_drewN | apply Kd.R_drew)); exact Kd.R_mono (Kd.R_far (p := ⟨gb344, 6, none⟩) (Kd.R_far (p := ⟨gb344, 5, none⟩) (Kd.R_far (p := ⟨gb344, 4, none⟩) (Kd.R_far (p := ⟨gb344, 3, none⟩) (Kd.R_far (p := ⟨gb344, 2, none⟩) (Kd.R_far (p := ⟨gb344, 1, none⟩) (Kd.R_far (p := ⟨gb344, 0, none⟩) (Kd.R_types HO_343000.out BK344.out (by decide)) (fun _ hk => hk.2) (.string ((rd_T32 l0_1 x4_1).f0))) (fun _ hk => hk.2) (.int .i64 ((rd_T32 l0_1 x4_1).f1))) (fun _ hk => hk.2) (.string ((rd_T32 l0_1 x4_1).f2))) (fun _ hk => hk.2) (.bool ((rd_T32 l0_1 x4_1).f3))) (fun _ hk => hk.2) (.int .i64 ((rd_T32 l0_1 x4_1).f4))) (fun _ hk => hk.2) (.slice A343_5 ((rd_T32 l0_1 x4_1).f5).length c343_5)) (fun _ hk => hk.2) (.slice A343_6 ((rd_T32 l0_1 x4_1).f6).length c343_6)) (fun _ hk => trivial)⟩
       have n1_ : Aside0 (Kd.R k32 32 (((((((w23.setCell ⟨gb344, 0, none⟩ (.string ((rd_T32 l0_1 x4_1).f0))).setCell ⟨gb344, 1, none⟩ (.int .i64 ((rd_T32 l0_1 x4_1).f1))).setCell ⟨gb344, 2, none⟩ (.string ((rd_T32 l0_1 x4_1).f2))).setCell ⟨gb344, 3, none⟩ (.bool ((rd_T32 l0_1 x4_1).f3))).setCell ⟨gb344, 4, none⟩ (.int .i64 ((rd_T32 l0_1 x4_1).f4))).setCell ⟨gb344, 5, none⟩ (.slice A343_5 ((rd_T32 l0_1 x4_1).f5).length c343_5)).setCell ⟨gb344, 6, none⟩ (.slice A343_6 ((rd_T32 l0_1 x4_1).f6).length c343_6)) w.heap.size (fun k_ => k_ ≠ gb344) u343001 x343001_1) := ⟨by (with_reducible repeat (first | apply Kd.R_alloc | apply Kd.R_drewN | apply Kd.R_drew)); exact Kd.R_mono (Kd.R_far (p := ⟨gb344, 6, none⟩) (Kd.R_far (p := ⟨gb344, 5, none⟩) (Kd.R_far (p := ⟨gb344, 4, none⟩) (Kd.R_far (p := ⟨gb344, 3, none⟩) (Kd.R_far (p := ⟨gb344, 2, none⟩) (Kd.R_far (p := ⟨gb344, 1, none⟩) (Kd.R_far (p := ⟨gb344, 0, none⟩) (Kd.R_mono HO_343001.out (fun k_ hk => (⟨hk, hk.2⟩ : _ ∧ k_ ≠ gb344))) (fun _ hk => hk.2) (.string ((rd_T32 l0_1 x4_1).f0))) (fun _ hk => hk.2) (.int .i64 ((rd_T32 l0_1 x4_1).f1))) (fun _ hk => hk.2) (.string ((rd_T32 l0_1 x4_1).f2))) (fun _ hk => hk.2) (.bool ((rd_T32 l0_1 x4_1).f3))) (fun _ hk => hk.2) (.int .i64 ((rd_T32 l0_1 x4_1).f4))) (fun _ hk => hk.2) (.slice A343_5 ((rd_T32 l0_1 x4_1).f5).length c343_5)) (fun _ hk => hk.2) (.slice A343_6 ((rd_T32 l0_1 x4_1).f6).length c343_6)) (fun _ hk => hk.1.2)⟩
       have n2_ : Aside0 ((((((((w23.setCell ⟨gb344, 0, none⟩ (.string ((rd_T32 l0_1 x4_1).f0))).setCell ⟨gb344, 1, none⟩ (.int .i64 ((rd_T32 l0_1 x4_1).f1))).setCell ⟨gb344, 2, none⟩ (.string ((rd_T32 l0_1 x4_1).f2))).setCell ⟨gb344, 3, none⟩ (.bool ((rd_T32 l0_1 x4_1).f3))).setCell ⟨gb344, 4, none⟩ (.int .i64 ((rd_T32 l0_1 x4_1).f4))).setCell ⟨gb344, 5, none⟩ (.slice A343_5 ((rd_T32 l0_1 x4_1).f5).length c343_5)).setCell ⟨gb344, 6, none⟩ (.slice A343_6 ((rd_T32 l0_1 x4_1).f6).length c343_6)).heap[gb334]? = some (.cells #[.slice A0_0 l0_0.length c0_0, .slice (some ad343) l0_1.length c0_1] 36 (0, 0))) := ⟨by (with_reducible repeat (first | refine blk_drewN ?_ _ | refine blk_drew ?_ | refine blk_alloc ?_ _)); refine blk_far ?_ NB334_344.out _; (with_reducible repeat (first | refine blk_drewN ?_ _ | refine blk_drew ?_ | refine blk_alloc ?_ _)); refine blk_far ?_ NB334_344.out _; (with_reducible repeat (first | refine blk_drewN ?_ _ | refine blk_drew ?_ | refine blk_alloc ?_ _)); refine blk_far ?_ NB334_344.out _; (with_reducible repeat (first | refine blk_drewN ?_ _ | refine blk_drew ?_ | refine blk_alloc ?_ _)); refine blk_far ?_ NB334_344.out _; (with_reducible repeat (first | refine blk_drewN ?_ _ | refine blk_drew ?_ | refine blk_alloc ?_ _)); refine blk_far ?_ NB334_344.out _; (with_reducible repeat (first | refine blk_drewN ?_ _ | refine blk_drew ?_ | refine blk_alloc ?_ _)); refine blk_far ?_ NB334_344.out _; (with_reducible repeat (first | refine blk_drewN ?_ _ | refine blk_drew ?_ | refine blk_alloc ?_ _)); refine blk_far ?_ NB334_344.out _; (with_reducible repeat (first | refine blk_drewN ?_ _ | refine blk_drew ?_ | refine blk_alloc ?_ _)); exact BK334.out⟩
       have n3_ : Aside0 ((((((((w23.setCell ⟨gb344, 0, none⟩ (.string ((rd_T32 l0_1 x4_1).f0))).setCell ⟨gb344, 1, none⟩ (.int .i64 ((rd_T32 l0_1 x4_1).f1))).setCell ⟨gb344, 2, none⟩ (.string ((rd_T32 l0_1 x4_1).f2))).setCell ⟨gb344, 3, none⟩ (.bool ((rd_T32 l0_1 x4_1).f3))).setCell ⟨gb344, 4, none⟩ (.int .i64 ((rd_T32 l0_1 x4_1).f4))).setCell ⟨gb344, 5, none⟩ (.slice A343_5 ((rd_T32 l0_1 x4_1).f5).length c343_5)).setCell ⟨gb344, 6, none⟩ (.slice A343_6 ((rd_T32 l0_1 x4_1).f6).length c343_6)).heap[gb335]? = some (.cells #[.slice none 0 0, .slice none 0 0] 36 (0, 0))) := ⟨by (with_reducible repeat (first | refine blk_drewN ?_ _ | refine blk_drew ?_ | refine blk_alloc ?_ _)); refine blk_far ?_ NB335_344.out _; (with_reducible repeat (first | refine blk_drewN ?_ _ | refine blk_drew ?_ | refine blk_alloc ?_ _)); refine blk_far ?_ NB335_344.out _; (with_reducible repeat (first | refine blk_drewN ?_ _ | refine blk_drew ?_ | refine blk_alloc ?_ _)); refine blk_far ?_ NB335_344.out _; (with_reducible repeat (first | refine blk_drewN ?_ _ | refine blk_drew ?_ | refine blk_alloc ?_ _)); refine blk_far ?_ NB335_344.out _; (with_reducible repeat (first | refine blk_drewN ?_ _ | refine blk_drew ?_ | refine blk_alloc ?_ _)); refine blk_far ?_ NB335_344.out _; (with_reducible repeat (first | refine blk_drewN ?_ _ | refine blk_drew ?_ | refine blk_alloc ?_ _)); refine blk_far ?_ NB335_344.out _; (with_reducible repeat (first | refine blk_drewN ?_ _ | refine blk_drew ?_ | refine blk_alloc ?_ _)); refine blk_far ?_ NB335_344.out _; (with_reducible repeat (first | refine blk_drewN ?_ _ | refine blk_drew ?_ | refine blk_alloc ?_ _)); exact BK335.out⟩
       have n4_ : Aside0 ((((((((w23.setCell ⟨gb344, 0, none⟩ (.string ((rd_T32 l0_1 x4_1).f0))).setCell ⟨gb344, 1, none⟩ (.int .i64 ((rd_T32 l0_1 x4_1).f1))).setCell ⟨gb344, 2, none⟩ (.string ((rd_T32 l0_1 x4_1).f2))).setCell ⟨gb344, 3, none⟩ (.bool ((rd_T32 l0_1 x4_1).f3))).setCell ⟨gb344, 4, none⟩ (.int .i64 ((rd_T32 l0_1 x4_1).f4))).setCell ⟨gb344, 5, none⟩ (.slice A343_5 ((rd_T32 l0_1 x4_1).f5).length c343_5)).setCell ⟨gb344, 6, none⟩ (.slice A343_6 ((rd_T32 l0_1 x4_1).f6).length c343_6)).heap[gb342]? = some (.cells #[.slice Ao10 y339.length co10, u343001] 36 (0, 0))) := ⟨by (with_reducible repeat (first | refine blk_drewN ?_ _ | refine blk_drew ?_ | refine blk_alloc ?_ _)); refine blk_far ?_ NB342_344.out _; (with_reducible repeat (first | refine blk_drewN ?_ _ | refine blk_drew ?_ | refine blk_alloc ?_ _)); refine blk_far ?_ NB342_344.out _; (with_reducible repeat (first | refine blk_drewN ?_ _ | refine blk_drew ?_ | refine blk_alloc ?_ _)); refine blk_far ?_ NB342_344.out _; (with_reducible repeat (first | refine blk_drewN ?_ _ | refine blk_drew ?_ | refine blk_alloc ?_ _)); refine blk_far ?_ NB342_344.out _; (with_reducible repeat (first | refine blk_drewN ?_ _ | refine blk_drew ?_ | refine blk_alloc ?_ _)); refine blk_far ?_ NB342_344.out _; (with_reducible repeat (first | refine blk_drewN ?_ _ | refine blk_drew ?_ | refine blk_alloc ?_ _)); refine blk_far ?_ NB342_344.out _; (with_reducible repeat (first | refine blk_drewN ?_ _ | refine blk_drew ?_ | refine blk_alloc ?_ _)); refine blk_far ?_ NB342_344.out _; (with_reducible repeat (first | refine blk_drewN ?_ _ | refine blk_drew ?_ | refine blk_alloc ?_ _)); exact BK342.out⟩
       have n5_ : Aside0 ((((((((w23.setCell ⟨gb344, 0, none⟩ (.string ((rd_T32 l0_1 x4_1).f0))).setCell ⟨gb344, 1, none⟩ (.int .i64 ((rd_T32 l0_1 x4_1).f1))).setCell ⟨gb344, 2, none⟩ (.string ((rd_T32 l0_1 x4_1).f2))).setCell ⟨gb344, 3, none⟩ (.bool ((rd_T32 l0_1 x4_1).f3))).setCell ⟨gb344, 4, none⟩ (.int .i64 ((rd_T32 l0_1 x4_1).f4))).setCell ⟨gb344, 5, none⟩ (.slice A343_5 ((rd_T32 l0_1 x4_1).f5).length c343_5)).setCell ⟨gb344, 6, none⟩ (.slice A343_6 ((rd_T32 l0_1 x4_1).f6).length c343_6)).heap[gb344]? = some (.cells #[.string ((rd_T32 l0_1 x4_1).f0), .int .i64 ((rd_T32 l0_1 x4_1).f1), .string ((rd_T32 l0_1 x4_1).f2), .bool ((rd_T32 l0_1 x4_1).f3), .int .i64 ((rd_T32 l0_1 x4_1).f4), .slice A343_5 ((rd_T32 l0_1 x4_1).f5).length c343_5, .slice A343_6 ((rd_T32 l0_1 x4_1).f6).length c343_6] 32 (0, 0))) := ⟨by (with_reducible repeat (first | refine blk_drewN ?_ _ | refine blk_drew ?_ | refine blk_alloc ?_ _)); refine blk_put (cs := #[.string ((rd_T32 l0_1 x4_1).f0), .int .i64 ((rd_T32 l0_1 x4_1).f1), .string ((rd_T32 l0_1 x4_1).f2), .bool ((rd_T32 l0_1 x4_1).f3), .int .i64 ((rd_T32 l0_1 x4_1).f4), .slice A343_5 ((rd_T32 l0_1 x4_1).f5).length c343_5, .slice none 0 0]) ?_ 6 _ rfl; (with_reducible repeat (first | refine blk_drewN ?_ _ | refine blk_drew ?_ | refine blk_alloc ?_ _)); refine blk_put (cs := #[.string ((rd_T32 l0_1 x4_1).f0), .int .i64 ((rd_T32 l0_1 x4_1).f1), .string ((rd_T32 l0_1 x4_1).f2), .bool ((rd_T32 l0_1 x4_1).f3), .int .i64 ((rd_T32 l0_1 x4_1).f4), .slice none 0 0, .slice none 0 0]) ?_ 5 _ rfl; (with_reducible repeat (first | refine blk_drewN ?_ _ | refine blk_drew ?_ | refine blk_alloc ?_ _)); refine blk_put (cs := #[.string ((rd_T32 l0_1 x4_1).f0), .int .i64 ((rd_T32 l0_1 x4_1).f1), .string ((rd_T32 l0_1 x4_1).f2), .bool ((rd_T32 l0_1 x4_1).f3), .int .i64 0, .slice none 0 0, .slice none 0 0]) ?_ 4 _ rfl; (with_reducible repeat (first | refine blk_drewN ?_ _ | refine blk_drew ?_ | refine blk_alloc ?_ _)); refine blk_put (cs := #[.string ((rd_T32 l0_1 x4_1).f0), .int .i64 ((rd_T32 l0_1 x4_1).f1), .string ((rd_T32 l0_1 x4_1).f2), .bool false, .int .i64 0, .slice none 0 0, .slice none 0 0]) ?_ 3 _ rfl; (with_reducible repeat (first | refine blk_drewN ?_ _ | refine blk_drew ?_ | refine blk_alloc ?_ _)); refine blk_put (cs := #[.string ((rd_T32 l0_1 x4_1).f0), .int .i64 ((rd_T32 l0_1 x4_1).f1), .string (⟨#[]⟩ : ByteArray), .bool false, .int .i64 0, .slice none 0 0, .slice none 0 0]) ?_ 2 _ rfl; (with_reducible repeat (first | refine blk_drewN ?_ _ | refine blk_drew ?_ | refine blk_alloc ?_ _)); refine blk_put (cs := #[.string ((rd_T32 l0_1 x4_1).f0), .int .i64 0, .string (⟨#[]⟩ : ByteArray), .bool false, .int .i64 0, .slice none 0 0, .slice none 0 0]) ?_ 1 _ rfl; (with_reducible repeat (first | refine blk_drewN ?_ _ | refine blk_drew ?_ | refine blk_alloc ?_ _)); refine blk_put (cs := #[.string (⟨#[]⟩ : ByteArray), .int .i64 0, .string (⟨#[]⟩ : ByteArray), .bool false, .int .i64 0, .slice none 0 0, .slice none 0 0]) ?_ 0 _ rfl; (with_reducible repeat (first | refine blk_drewN ?_ _ | refine blk_drew ?_ | refine blk_alloc ?_ _)); exact BK344.out⟩
       have n6_ : Aside0 (Below w.heap.size w (((((((w23.setCell ⟨gb344, 0, none⟩ (.string ((rd_T32 l0_1 x4_1).f0))).setCell ⟨gb344, 1, none⟩ (.int .i64 ((rd_T32 l0_1 x4_1).f1))).setCell ⟨gb344, 2, none⟩ (.string ((rd_T32 l0_1 x4_1).f2))).setCell ⟨gb344, 3, none⟩ (.bool ((rd_T32 l0_1 x4_1).f3))).setCell ⟨gb344, 4, none⟩ (.int .i64 ((rd_T32 l0_1 x4_1).f4))).setCell ⟨gb344, 5, none⟩ (.slice A343_5 ((rd_T32 l0_1 x4_1).f5).length c343_5)).setCell ⟨gb344, 6, none⟩ (.slice A343_6 ((rd_T32 l0_1 x4_1).f6).length c343_6))) := ⟨hf_⟩
       (try clear HO_343000); (try clear HO_343001); (try clear BK334); (try clear BK335); (try clear BK342); (try clear BK344); (try clear HB)
       generalize (((((((w23.setCell ⟨gb344, 0, none⟩ (.string ((rd_T32 l0_1 x4_1).f0))).setCell ⟨gb344, 1, none⟩ (.int .i64 ((rd_T32 l0_1 x4_1).f1))).setCell ⟨gb344, 2, none⟩ (.string ((rd_T32 l0_1 x4_1).f2))).setCell ⟨gb344, 3, none⟩ (.bool ((rd_T32 l0_1 x4_1).f3))).setCell ⟨gb344, 4, none⟩ (.int .i64 ((rd_T32 l0_1 x4_1).f4))).setCell ⟨gb344, 5, none⟩ (.slice A343_5 ((rd_T32 l0_1 x4_1).f5).length c343_5)).setCell ⟨gb344, 6, none⟩ (.slice A343_6 ((rd_T32 l0_1 x4_1).f6).length c343_6)) = w28 at n0_ n1_ n2_ n3_ n4_ n5_ n6_ ⊢
       have HO_343000 := n0_
       have HO_343001 := n1_
       have BK334 := n2_
       have BK335 := n3_
       have BK342 := n4_
       have BK344 := n5_
       have HB := n6_
       clear n0_ n1_ n2_ n3_ n4_ n5_ n6_
       replace HO_343000 := Aside0.mk (Kd.R_drew HO_343000.out)
       replace HO_343001 := Aside0.mk (Kd.R_drew HO_343001.out)
       replace BK334 := Aside0.mk (blk_drew BK334.out)
       replace BK335 := Aside0.mk (blk_drew BK335.out)
       replace BK342 := Aside0.mk (blk_drew BK342.out)
       replace BK344 := Aside0.mk (blk_drew BK344.out)
       replace HB := Aside0.mk (below_drew1 HB.out)
       refine start_ (n := 10) (S := fun w' => w'.cell? ⟨gb344, 0, none⟩ = some (.string ((rd_T32 l0_1 x4_1).f0)) ∧ w'.cell? ⟨gb344, 1, none⟩ = some (.int .i64 ((rd_T32 l0_1 x4_1).f1)) ∧ w'.cell? ⟨gb344, 2, none⟩ = some (.string ((rd_T32 l0_1 x4_1).f2)) ∧ w'.cell? ⟨gb344, 3, none⟩ = some (.bool ((rd_T32 l0_1 x4_1).f3)) ∧ w'.cell? ⟨gb344, 4, none⟩ = some (.int .i64 ((rd_T32 l0_1 x4_1).f4)) ∧ w'.cell? ⟨gb344, 5, none⟩ = some (.slice A343_5 ((rd_T32 l0_1 x4_1).f5).length c343_5) ∧ w'.cell? ⟨gb344, 6, none⟩ = some (.slice A343_6 ((rd_T32 l0_1 x4_1).f6).length c343_6)) (ds := [7, 9]) #[false, false, false, false, false, false, false, false, false, false] (by kernel_rfl) rfl rfl ⟨(bk0_ BK344 :), (bk1_ BK344 :), (bk2_ BK344 :), (bk3_ BK344 :), (bk4_ BK344 :), (bk5_ BK344 :), (bk6_ BK344 :)⟩ (fun hHeld => ?_); refine with_tabW sentrylaw4_clone.tab6 sentrylaw4_clone.bits6 (fun HT_ HW_ => ?_)
       generalize w28.drew = w29 at HO_343000 HO_343001 BK334 BK335 BK342 BK344 HB hHeld ⊢
       refine pz_ 0 (some 23) (bits_ 10 1) HT_.out ?_
       refine pz_ 3 (some 26) (bits_ 10 9) HT_.out ?_
       refine tz_ 1 (some 24) (bits_ 10 11) HT_.out HW_.out hHeld ?_ (hy := by rintro w' ⟨s0, s1, s2, s3, s4, s5, s6⟩; go_simp; with_reducible rfl)
       refine tz_ 4 (some 27) (bits_ 10 27) HT_.out HW_.out hHeld ?_ (hy := by rintro w' ⟨s0, s1, s2, s3, s4, s5, s6⟩; go_simp; with_reducible rfl)
       refine oz_ 2 (some 25) (bits_ 10 31) HT_.out (fun K hK => ?_)
       refine go_s_ Try.func45 #[.slice A343_5 ((rd_T32 l0_1 x4_1).f5).length c343_5] ?_
       with_reducible refine (sentrylaw4_guards.calls k1 _ _ ((rd_T32 l0_1 x4_1).f5) t345 _ ?side1 ?side2 A17.out).mono ?_
       (case side1 => exact kc_ HR343_5 HB)
       (case side2 => exact HC343_5.out)
       rintro e w30 ⟨v346, rfl, ho0, hb⟩
       refine ⟨_, rfl, ?_⟩
       replace HO_343000 := Aside0.mk (Kd.R_below (by (with_reducible repeat (first | apply Kd.R_alloc | apply Kd.R_drewN | apply Kd.R_drew)); exact HO_343000.out) hb)
       replace HO_343001 := Aside0.mk (Kd.R_elder' (by (with_reducible repeat (first | apply Kd.R_alloc | apply Kd.R_drewN | apply Kd.R_drew)); exact HO_343001.out) (Kd.S_base ho0) hb)
       replace HO347 := Aside0.mk (Kd.S_lower ho0 (below_size (by repeat (first | (with_reducible first | exact HB.out | apply below_alloc | apply pw_below_drewN | apply below_drew1 | refine below_set ?_ GE334.out | refine below_set ?_ GE335.out | refine below_set ?_ GE342.out | refine below_set ?_ GE344.out) | exact HB.out))))
       replace BK334 := bb_ BK334 hb
       replace BK335 := bb_ BK335 hb
       replace BK342 := bb_ BK342 hb
       replace BK344 := bb_ BK344 hb
       replace HB := hb_ HB hb
       (try clear hb); (try clear hb2); (try clear hk); (try clear hi); (try clear ho0)
       refine hK.out _ _ ⟨(bk0_ BK344 :), (bk1_ BK344 :), (bk2_ BK344 :), (bk3_ BK344 :), (bk4_ BK344 :), (bk5_ BK344 :), (bk6_ BK344 :)⟩ (fun hHeld => ?_)
       clear hK K
       refine nz_ (some 25) ?_
       refine pz_ 6 (some 29) (bits_ 10 95) HT_.out ?_
       refine oz_ 5 (some 28) (bits_ 10 127) HT_.out (fun K hK => ?_)
       refine go_s_ Try.func45 #[.slice A343_6 ((rd_T32 l0_1 x4_1).f6).length c343_6] ?_
       with_reducible refine (sentrylaw4_guards.calls k1 _ _ ((rd_T32 l0_1 x4_1).f6) t348 _ ?side1 ?side2 A18.out).mono ?_
       (case side1 => exact kc_ HR343_6 HB)
       (case side2 => exact HC343_6.out)
       rintro e w31 ⟨v349, rfl, ho0, hb⟩
       refine ⟨_, rfl, ?_⟩
       have n0_ := Aside0.mk (Kd.R_below (by (with_reducible repeat (first | apply Kd.R_alloc | apply Kd.R_drewN | apply Kd.R_drew)); exact HO_343000.out) hb)
       have n1_ := Aside0.mk (Kd.R_elder' (by (with_reducible repeat (first | apply Kd.R_alloc | apply Kd.R_drewN | apply Kd.R_drew)); exact HO_343001.out) (Kd.S_base ho0) hb)
       have n2_ := Aside0.mk (Kd.S_elder' (by (with_reducible repeat (first | apply Kd.S_alloc | apply Kd.S_drewN | apply Kd.S_drew)); exact HO347.out) (Kd.S_base ho0) hb)
       have n3_ := Aside0.mk (Kd.S_lower (Kd.S_new' ho0 (Kd.S_lt (by (with_reducible repeat (first | apply Kd.S_alloc | apply Kd.S_drewN | apply Kd.S_drew)); exact HO347.out))) (below_size (by repeat (first | (with_reducible first | exact HB.out | apply below_alloc | apply pw_below_drewN | apply below_drew1 | refine below_set ?_ GE334.out | refine below_set ?_ GE335.out | refine below_set ?_ GE342.out | refine below_set ?_ GE344.out) | exact HB.out))))
       have n4_ := bb_ BK334 hb
       have n5_ := bb_ BK335 hb
       have n6_ := bb_ BK342 hb
       have n7_ := bb_ BK344 hb
       have n8_ := hb_ HB hb
       clear HO_343000
       clear HO_343001
       clear HO347
       clear BK334
       clear BK335
       clear BK342
       clear BK344
       clear HB
       have HO_343000 := n0_
       have HO_343001 := n1_
       have HO347 := n2_
       have HO350 := n3_
       have BK334 := n4_
       have BK335 := n5_
       have BK342 := n6_
       have BK344 := n7_
       have HB := n8_
       clear n0_ n1_ n2_ n3_ n4_ n5_ n6_ n7_ n8_
       (try clear hb); (try clear hb2); (try clear hk); (try clear hi); (try clear ho0)
       obtain ⟨Ao32, co32, eo32⟩ := Kd.S_slice HO347.out
       (first | subst eo32 | (injection eo32 with f1_ f2_ f3_; have f4_ := f1_.symm; have f5_ := f3_.symm; clear f1_ f2_ f3_; subst f4_; subst f5_))
       obtain ⟨Ao34, co34, eo34⟩ := Kd.S_slice HO350.out
       (first | subst eo34 | (injection eo34 with f1_ f2_ f3_; have f4_ := f1_.symm; have f5_ := f3_.symm; clear f1_ f2_ f3_; subst f4_; subst f5_))
       refine hK.out _ _ ⟨(bk0_ BK344 :), (bk1_ BK344 :), (bk2_ BK344 :), (bk3_ BK344 :), (bk4_ BK344 :), (bk5_ BK344 :), (bk6_ BK344 :)⟩ (fun hHeld => ?_)
       clear hK K
       refine nz_ (some 28) ?_
       refine last_ (i := 7) (N := none) #[true, true, true, true, true, true, true, true, false, false] rfl rfl (one_of HT_.out (by kernel_rfl)) (by decide) (fun K hK => ?_)
       have hs33 : w31.cell? ⟨gb344, 5, none⟩ = some (.slice A343_5 ((rd_T32 l0_1 x4_1).f5).length c343_5) := bk5_ BK344
       have hfs33 := blk_frozen BK344.out 5
       have hns33_0 := NB334_344.out
       have hns33_1 := NB335_344.out
       have hns33_2 := NB342_344.out
       have hms33_0 := NB344_334.out
       have hms33_1 := NB344_335.out
       have hms33_2 := NB344_342.out
       refine skip_ (w1 := ?_) (by rfl) rfl ?_ ?_
       rotate_left
       ·go_simp
        rfl
       refine hK.out _ _ ?_
       clear hK K
       refine pz_ 8 (some 30) (bits_ 10 511) HT_.out ?_
       refine last_ (i := 9) (N := none) #[true, true, true, true, true, true, true, true, true, true] rfl rfl (one_of HT_.out (by kernel_rfl)) (by decide) (fun K hK => ?_)
       have hs35 : w31.cell? ⟨gb344, 6, none⟩ = some (.slice A343_6 ((rd_T32 l0_1 x4_1).f6).length c343_6) := bk6_ BK344
       have hfs35 := blk_frozen BK344.out 6
       have hns35_0 := NB334_344.out
       have hns35_1 := NB335_344.out
       have hns35_2 := NB342_344.out
       have hms35_0 := NB344_334.out
       have hms35_1 := NB344_335.out
       have hms35_2 := NB344_342.out
       refine skip_ (w1 := ?_) (by rfl) rfl ?_ ?_
       rotate_left
       ·go_simp
        rfl
       refine hK.out _ _ ?_
       clear hK K
       refine done_ (done_of HT_.out (by kernel_rfl)) ?_
       have n0_ : Aside0 (Kd.R Kd.string 9 ((w31.setCell ⟨gb344, 5, none⟩ (.slice Ao32 t345.length co32)).setCell ⟨gb344, 6, none⟩ (.slice Ao34 t348.length co34)) w.heap.size (fun _ => True) (.slice Ao10 y339.length co10) y339) := ⟨by (with_reducible repeat (first | apply Kd.R_alloc | apply Kd.R_drewN | apply Kd.R_drew)); exact Kd.R_mono (Kd.R_far (p := ⟨gb344, 6, none⟩) (Kd.R_far (p := ⟨gb344, 5, none⟩) (Kd.R_types HO_343000.out BK344.out (by decide)) (fun _ hk => hk.2) (.slice Ao32 t345.length co32)) (fun _ hk => hk.2) (.slice Ao34 t348.length co34)) (fun _ hk => trivial)⟩
       have n1_ : Aside0 (Kd.R k32 32 ((w31.setCell ⟨gb344, 5, none⟩ (.slice Ao32 t345.length co32)).setCell ⟨gb344, 6, none⟩ (.slice Ao34 t348.length co34)) w.heap.size (fun k_ => some k_ ≠ (.slice Ao32 t345.length co32 : Value).ownBlock ∧ some k_ ≠ (.slice Ao34 t348.length co34 : Value).ownBlock ∧ k_ ≠ gb344) u343001 x343001_1) := ⟨by (with_reducible repeat (first | apply Kd.R_alloc | apply Kd.R_drewN | apply Kd.R_drew)); exact Kd.R_mono (Kd.R_far (p := ⟨gb344, 6, none⟩) (Kd.R_far (p := ⟨gb344, 5, none⟩) (Kd.R_mono HO_343001.out (fun k_ hk => (⟨hk, hk.1.1⟩ : _ ∧ k_ ≠ gb344))) (fun _ hk => hk.2) (.slice Ao32 t345.length co32)) (fun _ hk => hk.2) (.slice Ao34 t348.length co34)) (fun _ hk => ⟨hk.1.1.2, ⟨hk.1.2, hk.1.1.1⟩⟩)⟩
       have n2_ : Aside0 (Kd.S k29 29 ((w31.setCell ⟨gb344, 5, none⟩ (.slice Ao32 t345.length co32)).setCell ⟨gb344, 6, none⟩ (.slice Ao34 t348.length co34)) w.heap.size (fun k_ => some k_ ≠ (.slice Ao34 t348.length co34 : Value).ownBlock) (.slice Ao32 t345.length co32) t345) := ⟨by (with_reducible repeat (first | apply Kd.S_alloc | apply Kd.S_drewN | apply Kd.S_drew)); exact Kd.S_mono (Kd.S_far (p := ⟨gb344, 6, none⟩) (Kd.S_far (p := ⟨gb344, 5, none⟩) (Kd.S_types HO347.out BK344.out (by decide)) (fun _ hk => hk.2) (.slice Ao32 t345.length co32)) (fun _ hk => hk.2) (.slice Ao34 t348.length co34)) (fun _ hk => hk.1.2)⟩
       have n3_ : Aside0 (Kd.S k29 29 ((w31.setCell ⟨gb344, 5, none⟩ (.slice Ao32 t345.length co32)).setCell ⟨gb344, 6, none⟩ (.slice Ao34 t348.length co34)) w.heap.size (fun k_ => some k_ ≠ (.slice Ao32 t345.length co32 : Value).ownBlock) (.slice Ao34 t348.length co34) t348) := ⟨by (with_reducible repeat (first | apply Kd.S_alloc | apply Kd.S_drewN | apply Kd.S_drew)); exact Kd.S_mono (Kd.S_far (p := ⟨gb344, 6, none⟩) (Kd.S_far (p := ⟨gb344, 5, none⟩) (Kd.S_types HO350.out BK344.out (by decide)) (fun _ hk => hk.2) (.slice Ao32 t345.length co32)) (fun _ hk => hk.2) (.slice Ao34 t348.length co34)) (fun _ hk => hk.1.2)⟩
       have n4_ : Aside0 (((w31.setCell ⟨gb344, 5, none⟩ (.slice Ao32 t345.length co32)).setCell ⟨gb344, 6, none⟩ (.slice Ao34 t348.length co34)).heap[gb334]? = some (.cells #[.slice A0_0 l0_0.length c0_0, .slice (some ad343) l0_1.length c0_1] 36 (0, 0))) := ⟨by (with_reducible repeat (first | refine blk_drewN ?_ _ | refine blk_drew ?_ | refine blk_alloc ?_ _)); refine blk_far ?_ NB334_344.out _; (with_reducible repeat (first | refine blk_drewN ?_ _ | refine blk_drew ?_ | refine blk_alloc ?_ _)); refine blk_far ?_ NB334_344.out _; (with_reducible repeat (first | refine blk_drewN ?_ _ | refine blk_drew ?_ | refine blk_alloc ?_ _)); exact BK334.out⟩
       have n5_ : Aside0 (((w31.setCell ⟨gb344, 5, none⟩ (.slice Ao32 t345.length co32)).setCell ⟨gb344, 6, none⟩ (.slice Ao34 t348.length co34)).heap[gb335]? = some (.cells #[.slice none 0 0, .slice none 0 0] 36 (0, 0))) := ⟨by (with_reducible repeat (first | refine blk_drewN ?_ _ | refine blk_drew ?_ | refine blk_alloc ?_ _)); refine blk_far ?_ NB335_344.out _; (with_reducible repeat (first | refine blk_drewN ?_ _ | refine blk_drew ?_ | refine blk_alloc ?_ _)); refine blk_far ?_ NB335_344.out _; (with_reducible repeat (first | refine blk_drewN ?_ _ | refine blk_drew ?_ | refine blk_alloc ?_ _)); exact BK335.out⟩
       have n6_ : Aside0 (((w31.setCell ⟨gb344, 5, none⟩ (.slice Ao32 t345.length co32)).setCell ⟨gb344, 6, none⟩ (.slice Ao34 t348.length co34)).heap[gb342]? = some (.cells #[.slice Ao10 y339.length co10, u343001] 36 (0, 0))) := ⟨by (with_reducible repeat (first | refine blk_drewN ?_ _ | refine blk_drew ?_ | refine blk_alloc ?_ _)); refine blk_far ?_ NB342_344.out _; (with_reducible repeat (first | refine blk_drewN ?_ _ | refine blk_drew ?_ | refine blk_alloc ?_ _)); refine blk_far ?_ NB342_344.out _; (with_reducible repeat (first | refine blk_drewN ?_ _ | refine blk_drew ?_ | refine blk_alloc ?_ _)); exact BK342.out⟩
       have n7_ : Aside0 (((w31.setCell ⟨gb344, 5, none⟩ (.slice Ao32 t345.length co32)).setCell ⟨gb344, 6, none⟩ (.slice Ao34 t348.length co34)).heap[gb344]? = some (.cells #[.string ((rd_T32 l0_1 x4_1).f0), .int .i64 ((rd_T32 l0_1 x4_1).f1), .string ((rd_T32 l0_1 x4_1).f2), .bool ((rd_T32 l0_1 x4_1).f3), .int .i64 ((rd_T32 l0_1 x4_1).f4), .slice Ao32 t345.length co32, .slice Ao34 t348.length co34] 32 (0, 0))) := ⟨by (with_reducible repeat (first | refine blk_drewN ?_ _ | refine blk_drew ?_ | refine blk_alloc ?_ _)); refine blk_put (cs := #[.string ((rd_T32 l0_1 x4_1).f0), .int .i64 ((rd_T32 l0_1 x4_1).f1), .string ((rd_T32 l0_1 x4_1).f2), .bool ((rd_T32 l0_1 x4_1).f3), .int .i64 ((rd_T32 l0_1 x4_1).f4), .slice Ao32 t345.length co32, .slice A343_6 ((rd_T32 l0_1 x4_1).f6).length c343_6]) ?_ 6 _ rfl; (with_reducible repeat (first | refine blk_drewN ?_ _ | refine blk_drew ?_ | refine blk_alloc ?_ _)); refine blk_put (cs := #[.string ((rd_T32 l0_1 x4_1).f0), .int .i64 ((rd_T32 l0_1 x4_1).f1), .string ((rd_T32 l0_1 x4_1).f2), .bool ((rd_T32 l0_1 x4_1).f3), .int .i64 ((rd_T32 l0_1 x4_1).f4), .slice A343_5 ((rd_T32 l0_1 x4_1).f5).length c343_5, .slice A343_6 ((rd_T32 l0_1 x4_1).f6).length c343_6]) ?_ 5 _ rfl; (with_reducible repeat (first | refine blk_drewN ?_ _ | refine blk_drew ?_ | refine blk_alloc ?_ _)); exact BK344.out⟩
       have n8_ : Aside0 (Below w.heap.size w ((w31.setCell ⟨gb344, 5, none⟩ (.slice Ao32 t345.length co32)).setCell ⟨gb344, 6, none⟩ (.slice Ao34 t348.length co34))) := ⟨hf_⟩
       (try clear HO_343000); (try clear HO_343001); (try clear HO347); (try clear HO350); (try clear BK334); (try clear BK335); (try clear BK342); (try clear BK344); (try clear HB)
       generalize ((w31.setCell ⟨gb344, 5, none⟩ (.slice Ao32 t345.length co32)).setCell ⟨gb344, 6, none⟩ (.slice Ao34 t348.length co34)) = w36 at n0_ n1_ n2_ n3_ n4_ n5_ n6_ n7_ n8_ ⊢
       have HO_343000 := n0_
       have HO_343001 := n1_
       have HO347 := n2_
       have HO350 := n3_
       have BK334 := n4_
       have BK335 := n5_
       have BK342 := n6_
       have BK344 := n7_
       have HB := n8_
       clear n0_ n1_ n2_ n3_ n4_ n5_ n6_ n7_ n8_
       have hnb37 := NB342_335.out
       have hnc37 := NB335_342.out
       obtain ⟨hcz38_0, hcz38_1, hfz38_0, hfz38_1⟩ := bs2_ BK342
       obtain ⟨hcz39_0, hcz39_1, hcz39_2, hcz39_3, hcz39_4, hcz39_5, hcz39_6, hfz39_0, hfz39_1, hfz39_2, hfz39_3, hfz39_4, hfz39_5, hfz39_6⟩ := bs7_ BK344
       try go_wp2_with (first | ((with_reducible refine gate_builtin (b := .append) (xs := #[.tmp 32, .tmp 34]) rfl ?_); at_builtin; refine Kd.R_append k32 (w0 := w) w.heap.size rfl (.tmp 32) (.tmp 34) 34 32 (.agg #[(.string ⟨#[]⟩), (.int .i64 0), (.string ⟨#[]⟩), (.bool false), (.int .i64 0), (.slice none 0 0), (.slice none 0 0)]) 104 rfl Try.underlying34 info32 rfl (by decide) (by omega) u343001 x343001_1 (⟨(rd_T32 l0_1 x4_1).f0, (rd_T32 l0_1 x4_1).f1, (rd_T32 l0_1 x4_1).f2, (rd_T32 l0_1 x4_1).f3, (rd_T32 l0_1 x4_1).f4, t345, t348⟩ : S32) [.string ((rd_T32 l0_1 x4_1).f0), .int .i64 ((rd_T32 l0_1 x4_1).f1), .string ((rd_T32 l0_1 x4_1).f2), .bool ((rd_T32 l0_1 x4_1).f3), .int .i64 ((rd_T32 l0_1 x4_1).f4), .slice Ao32 t345.length co32, .slice Ao34 t348.length co34] (fun k_ => k_ ≠ gb344) (fun k_ => ((fun k_ => k_ ≠ gb344)) k_ ∧ some k_ ≠ (u343001 : Value).ownBlock) rfl rfl ?aP (fun _ hk => hk) ?aF ?aO ?aB ?aS ?aL ?_; (case aP => exact k32_mkM _ _ _ (⟨(rd_T32 l0_1 x4_1).f0, (rd_T32 l0_1 x4_1).f1, (rd_T32 l0_1 x4_1).f2, (rd_T32 l0_1 x4_1).f3, (rd_T32 l0_1 x4_1).f4, t345, t348⟩ : S32) (Kd.R_mono (Kd.R_types (Kd.R_apart' ((Kd.S_R HO347.out)) (Kd.R_typed HO_343001.out) (by decide)) BK344.out (by decide)) (fun k_ hk => ⟨hk.2, hk.1.2⟩)) (Kd.R_mono (Kd.R_types (Kd.R_apart' ((Kd.S_R HO350.out)) (Kd.R_typed HO_343001.out) (by decide)) BK344.out (by decide)) (fun k_ hk => ⟨hk.2, hk.1.2⟩))); (case aB => exact (by repeat (first | (with_reducible first | exact HB.out | apply below_alloc | apply pw_below_drewN | apply below_drew1 | refine below_set ?_ GE334.out | refine below_set ?_ GE335.out | refine below_set ?_ GE342.out | refine below_set ?_ GE344.out) | exact HB.out))); (case aF => exact (fun k_ hk => Kd.freshB (g := gb344) (o := .cells #[.string ((rd_T32 l0_1 x4_1).f0), .int .i64 ((rd_T32 l0_1 x4_1).f1), .string ((rd_T32 l0_1 x4_1).f2), .bool ((rd_T32 l0_1 x4_1).f3), .int .i64 ((rd_T32 l0_1 x4_1).f4), .slice Ao32 t345.length co32, .slice Ao34 t348.length co34] 32 (0, 0)) (by (with_reducible repeat (first | refine blk_drewN ?_ _ | refine blk_drew ?_ | refine blk_alloc ?_ _)); exact BK344.out) k_ hk)); (case aO => exact (by (with_reducible repeat (first | apply Kd.R_alloc | apply Kd.R_drewN | apply Kd.R_drew)); exact Kd.R_mono HO_343001.out (fun _ hk => hk.2.2))); (case aS => exact (below_size (by repeat (first | (with_reducible first | exact HB.out | apply below_alloc | apply pw_below_drewN | apply below_drew1 | refine below_set ?_ GE334.out | refine below_set ?_ GE335.out | refine below_set ?_ GE342.out | refine below_set ?_ GE344.out) | exact HB.out)))); (case aL => have := LMc19.out; omega); intro v352 w40 ho hb hg hat; rw [← Ny351.out] at ho; have n0_ := Aside0.mk (Kd.R_over' (by (with_reducible repeat (first | apply Kd.R_alloc | apply Kd.R_drewN | apply Kd.R_drew)); exact HO_343000.out) (Kd.R_typed (by (with_reducible repeat (first | apply Kd.R_alloc | apply Kd.R_drewN | apply Kd.R_drew)); exact HO_343001.out)) (by decide) hg); have n1_ := Aside0.mk (blk_grown (g := gb334) (o := .cells #[.slice A0_0 l0_0.length c0_0, .slice (some ad343) l0_1.length c0_1] 36 (0, 0)) (by (with_reducible repeat (first | refine blk_drewN ?_ _ | refine blk_drew ?_ | refine blk_alloc ?_ _)); exact BK334.out) hg (Kd.R_ne HO_343001.out BK334.out (by decide))); have n2_ := Aside0.mk (blk_grown (g := gb335) (o := .cells #[.slice none 0 0, .slice none 0 0] 36 (0, 0)) (by (with_reducible repeat (first | refine blk_drewN ?_ _ | refine blk_drew ?_ | refine blk_alloc ?_ _)); exact BK335.out) hg (Kd.R_ne HO_343001.out BK335.out (by decide))); have n3_ := Aside0.mk (blk_grown (g := gb342) (o := .cells #[.slice Ao10 y339.length co10, u343001] 36 (0, 0)) (by (with_reducible repeat (first | refine blk_drewN ?_ _ | refine blk_drew ?_ | refine blk_alloc ?_ _)); exact BK342.out) hg (Kd.R_ne HO_343001.out BK342.out (by decide))); have n4_ := Aside0.mk (blk_grown (g := gb344) (o := .cells #[.string ((rd_T32 l0_1 x4_1).f0), .int .i64 ((rd_T32 l0_1 x4_1).f1), .string ((rd_T32 l0_1 x4_1).f2), .bool ((rd_T32 l0_1 x4_1).f3), .int .i64 ((rd_T32 l0_1 x4_1).f4), .slice Ao32 t345.length co32, .slice Ao34 t348.length co34] 32 (0, 0)) (by (with_reducible repeat (first | refine blk_drewN ?_ _ | refine blk_drew ?_ | refine blk_alloc ?_ _)); exact BK344.out) hg (Kd.R_away HO_343001.out (fun _ hk => hk.2.2))); have n5_ := Aside0.mk (hb); have n6_ := Aside0.mk (ho); clear HO_343000; clear BK334; clear BK335; clear BK342; clear BK344; clear HB; clear HO_343001; clear HO347; clear HO350; have HO_343000 := n0_; have BK334 := n1_; have BK335 := n2_; have BK342 := n3_; have BK344 := n4_; have HB := n5_; have HO353 := n6_; clear n0_ n1_ n2_ n3_ n4_ n5_ n6_; clear ho hb hg hat; obtain ⟨Ao41, co41, eo41⟩ := Kd.R_slice HO353.out; subst eo41; obtain ⟨hcz42_0, hcz42_1, hfz42_0, hfz42_1⟩ := bs2_ BK342))
       go_roundg k1
       case measure => have := HK1.out; omega
       case rel => exact ⟨(wrap64 (x4_1 + 1)), (y351), (.slice Ao41 y351.length co41), (by first | rfl | (simp; done) | (simp [*]; done)), H', ⟨by have := HK1.out; omega⟩, ⟨by (with_reducible repeat (first | apply Kd.R_alloc | apply Kd.R_drewN | apply Kd.R_drew)); exact Kd.R_mono (Kd.R_far (p := ⟨gb342, 1, none⟩) (Kd.R_types HO_343000.out BK342.out (by decide)) (fun _ hk => hk.2) (.slice Ao41 y351.length co41)) (fun _ hk => trivial)⟩, ⟨by (with_reducible repeat (first | apply Kd.R_alloc | apply Kd.R_drewN | apply Kd.R_drew)); exact Kd.R_mono (Kd.R_far (p := ⟨gb342, 1, none⟩) (Kd.R_types HO353.out BK342.out (by decide)) (fun _ hk => hk.2) (.slice Ao41 y351.length co41)) (fun _ hk => trivial)⟩, ⟨by (with_reducible repeat (first | refine blk_drewN ?_ _ | refine blk_drew ?_ | refine blk_alloc ?_ _)); refine blk_far ?_ NB334_342.out _; (with_reducible repeat (first | refine blk_drewN ?_ _ | refine blk_drew ?_ | refine blk_alloc ?_ _)); exact BK334.out⟩, ⟨by (with_reducible repeat (first | refine blk_drewN ?_ _ | refine blk_drew ?_ | refine blk_alloc ?_ _)); refine blk_far ?_ NB335_342.out _; (with_reducible repeat (first | refine blk_drewN ?_ _ | refine blk_drew ?_ | refine blk_alloc ?_ _)); exact BK335.out⟩, ⟨by (with_reducible repeat (first | refine blk_drewN ?_ _ | refine blk_drew ?_ | refine blk_alloc ?_ _)); refine blk_put (cs := #[.slice Ao10 y339.length co10, u343001]) ?_ 1 _ rfl; (with_reducible repeat (first | refine blk_drewN ?_ _ | refine blk_drew ?_ | refine blk_alloc ?_ _)); exact BK342.out⟩, ⟨hf_⟩⟩
      ·rw [if_neg c19] at H
       exact absurd H (by simp)
     ·rw [if_neg c16] at H
      exact absurd H (by simp)
    ·rw [if_neg c15] at H
     have c15b0 : decide (x4_1 < (l0_1.length : Int)) = false := decide_eq_false c15
     clear c15
     simp only [Option.some.injEq, Prod.mk.injEq] at H
     obtain ⟨rfl, rfl⟩ := H
     have hnb43 := NB334_335.out
     have hnc43 := NB335_334.out
     have hnb44 := NB334_342.out
     have hnc44 := NB342_334.out
     obtain ⟨hcz45_0, hcz45_1, hfz45_0, hfz45_1⟩ := bs2_ BK334
     have hnb46 := NB342_335.out
     have hnc46 := NB335_342.out
     obtain ⟨hcz47_0, hcz47_1, hfz47_0, hfz47_1⟩ := bs2_ BK342
     obtain ⟨hcz48_0, hcz48_1, hfz48_0, hfz48_1⟩ := bs2_ BK335
     obtain ⟨Ao49, co49, eo49⟩ := Kd.R_slice HO_343001.out
     subst eo49
     go_wp2
     refine bodyPost_ret (results_cell_row rfl _ _ gb335 36 #[.slice Ao10 y339.length co10, .slice Ao49 x343001_1.length co49] (0, 0) _ rfl (by (with_reducible repeat (first | refine blk_drewN ?_ _ | refine blk_drew ?_ | refine blk_alloc ?_ _)); refine blk_put (cs := #[.slice Ao10 y339.length co10, .slice none 0 0]) ?_ 1 _ rfl; (with_reducible repeat (first | refine blk_drewN ?_ _ | refine blk_drew ?_ | refine blk_alloc ?_ _)); refine blk_put (cs := #[.slice none 0 0, .slice none 0 0]) ?_ 0 _ rfl; (with_reducible repeat (first | refine blk_drewN ?_ _ | refine blk_drew ?_ | refine blk_alloc ?_ _)); exact BK335.out) Try.underlying36 rfl (by kernel_rfl)) rfl ?_
     exact ⟨_, _, by first | rfl | (simp [errW_none, errW_some] <;> rfl) | (simp [*, errW_none, errW_some] <;> rfl), by (with_reducible repeat (first | apply Kd.R_alloc | apply Kd.R_drewN | apply Kd.R_drew)); exact Kd.R_mono (Kd.R_far (p := ⟨gb335, 1, none⟩) (Kd.R_far (p := ⟨gb335, 0, none⟩) (Kd.R_types HO_343000.out BK335.out (by decide)) (fun _ hk => hk.2) (.slice Ao10 y339.length co10)) (fun _ hk => hk.2) (.slice Ao49 x343001_1.length co49)) (fun _ hk => trivial), by (with_reducible repeat (first | apply Kd.R_alloc | apply Kd.R_drewN | apply Kd.R_drew)); exact Kd.R_mono (Kd.R_far (p := ⟨gb335, 1, none⟩) (Kd.R_far (p := ⟨gb335, 0, none⟩) (Kd.R_types HO_343001.out BK335.out (by decide)) (fun _ hk => hk.2) (.slice Ao10 y339.length co10)) (fun _ hk => hk.2) (.slice Ao49 x343001_1.length co49)) (fun _ hk => trivial), by repeat (first | (with_reducible first | exact HB.out | apply below_alloc | apply pw_below_drewN | apply below_drew1 | refine below_set ?_ GE334.out | refine below_set ?_ GE335.out | refine below_set ?_ GE342.out) | exact HB.out)⟩
 ·rw [if_neg c2] at H
  exact absurd H (by simp)
end Go.Proofs.Ytchellnfenekaaa.Pm
end
section
namespace Go.Proofs.Ytchellnfenekaaa.OpenKd
open Go Go.RowKit Go.ChangeShapes Go.WideShapes Go.Deep Go.Proofs.YtchellnfenekaaaW.PrintWords
set_option linter.unusedVariables false
set_option linter.unusedSectionVars false
section
variable {H : Type} {enc : TypeId × Value → H} {P : Program} {w : World} {α β : Type}
theorem weights_mem_all {e : TypeId} : ∀ {ds : List (DataW H)} {d : DataW H}, d ∈ ds → ∀ n ∈ d.weights P e, n ∈ DataW.weightsAll P e ds
  | [], _, h, _, _ => by simp at h
  | x :: ds, d, h, n, hn => by
    rcases List.mem_cons.1 h with rfl | h
    · simp [DataW.weightsAll, hn]
    · simp [DataW.weightsAll, weights_mem_all h n hn]
def Light (P : Program) (t : TypeId) (d : DataW H) : Prop := ∀ n ∈ d.weights P t, n ≤ reachBytes
/-- Whatever is read at type t is of the kind d, and good. -/
structure Opens (enc : TypeId × Value → H) (P : Program) (w : World) (t : TypeId) (d : Kd α) (good : α → Prop) : Prop where
  cells : P.cellsOf t = d.sz
  go : ∀ (fuel : Nat) (cs : List Value) (x : DataW H × List MemPlace), DataW.trod enc P w 0 (fun _ => true) true fuel t cs = some x → Light P t x.1 → ∃ a, d.K w a cs ∧ good a
theorem opens_int {t : TypeId} {k : IntKind} (hu : P.underlying t = some (.int k)) (hc : P.cellsOf t = 1) : Opens enc P w t (Kd.int k) (fun n => (Lit.int k n).wf = true) :=
  ⟨hc, fun fuel cs x h _ => by
    obtain ⟨n, rfl, _, hw⟩ := DataW.trod_int hu h
    exact ⟨n, rfl, hw⟩⟩
theorem opens_bool {t : TypeId} (hu : P.underlying t = some .bool) (hc : P.cellsOf t = 1) : Opens enc P w t Kd.bool (fun _ => True) :=
  ⟨hc, fun fuel cs x h _ => by
    obtain ⟨n, rfl, _⟩ := DataW.trod_bool hu h
    exact ⟨n, rfl, trivial⟩⟩
theorem opens_string {t : TypeId} (hu : P.underlying t = some .string) (hc : P.cellsOf t = 1) : Opens enc P w t Kd.string (fun s => s.size ≤ 140737488351232) :=
  ⟨hc, fun fuel cs x h hl => by
    obtain ⟨s, rfl, rfl, _⟩ := DataW.trod_string hu h
    refine ⟨s, rfl, ?_⟩
    have := hl s.data.toList.length (by simp [DataW.weights])
    simpa [reachBytes] using this⟩
theorem opens_slice {t e : TypeId} {d : Kd α} {good : α → Prop} (hu : P.underlying t = some (.slice e)) (hc : P.cellsOf t = 1) (h : Opens enc P w e d good) : Opens enc P w t (Kd.slice e d) (fun xs => xs.length * P.bytesOf e ≤ 140737488351232 ∧ ∀ x ∈ xs, good x) :=
  ⟨hc, fun fuel cs x hx hl => by
    rcases open_slice hu hx with ⟨rfl, rfl⟩ | ⟨a, len, cap, m, n, D, Pl, rfl, hb, hlc, hcm, hm, rfl, hel⟩
    · exact ⟨[], ⟨none, 0, rfl, Nat.le_refl _, ⟨rfl, by simp, fun h => by simp at h⟩⟩, by simp, by simp⟩
    · have hle : len ≤ m := by rw [hm]; split <;> omega
      have hmem : ∀ i, i < m → D i ∈ (List.range len).map D ∨ D i ∈ (List.range (m - len)).map fun j => D (len + j) := by
        intro i hi
        by_cases h1 : i < len
        · exact .inl (List.mem_map.2 ⟨i, List.mem_range.2 h1, rfl⟩)
        · exact .inr (List.mem_map.2 ⟨i - len, List.mem_range.2 (by omega), by congr 1; omega⟩)
      have hlight : ∀ i, i < m → Light P e (D i) := by
        intro i hi q hq
        refine hl q ?_
        simp only [DataW.weights, hu]
        rcases hmem i hi with h1 | h1
        · exact List.mem_cons_of_mem _ (List.mem_append_left _ (weights_mem_all h1 q hq))
        · exact List.mem_cons_of_mem _ (List.mem_append_right _ (weights_mem_all h1 q hq))
      have hall : ∀ i, i < len → ∃ x : α, good x ∧ ∃ c, c.length = d.sz ∧ d.K w x c ∧ ∀ j u, c[j]? = some u → w.cell? (a.add (i * d.sz + j)) = some u := by
        intro i hi
        obtain ⟨cs', hcs, htr⟩ := hel i (by omega)
        obtain ⟨y, hK, hg⟩ := h.go n cs' _ htr (hlight i (by omega))
        obtain ⟨_, hcl, hcc⟩ := World.cells?_some hcs
        refine ⟨y, hg, cs', by rw [hcl, h.cells], hK, fun j u hj => ?_⟩
        have hjl : j < P.cellsOf e := by rw [← hcl]; exact (List.getElem?_eq_some_iff.1 hj).1
        have := hcc j hjl
        rw [hj, Deep.add_add, h.cells] at this
        exact this
      have hlist : ∃ xs : List α, xs.length = len ∧ ∀ i (x : α), xs[i]? = some x → good x ∧ ∃ c, c.length = d.sz ∧ d.K w x c ∧ ∀ j u, c[j]? = some u → w.cell? (a.add (i * d.sz + j)) = some u := by
        clear hmem hlight hle hlc hl hel hx hm
        induction len with
        | zero => exact ⟨[], rfl, fun i x h => by simp at h⟩
        | succ len ih =>
          obtain ⟨xs, hxl, hxs⟩ := ih (fun i hi => hall i (by omega))
          obtain ⟨y, hy⟩ := hall len (by omega)
          refine ⟨xs ++ [y], by simp [hxl], fun i x hi => ?_⟩
          by_cases h1 : i < xs.length
          · rw [List.getElem?_append_left h1] at hi
            exact hxs i x hi
          · rw [List.getElem?_append_right (by omega)] at hi
            have h2 : i = xs.length := by
              have := (List.getElem?_eq_some_iff.1 hi).1
              simp at this
              omega
            subst h2
            simp at hi
            subst hi
            rw [hxl]
            exact hy
      obtain ⟨xs, hxl, hxs⟩ := hlist
      subst hxl
      refine ⟨xs, ⟨some a, cap, rfl, hlc, rfl, by have := hcm; unfold maxLen at this; omega, fun _ => ⟨a, rfl, fun j p hj => (hxs j p hj).2⟩⟩, ?_, fun x hx => ?_⟩
      · have hw := hl ((((List.range xs.length).map D).length + ((List.range (m - xs.length)).map fun j => D (xs.length + j)).length) * P.bytesOf e) (by simp [DataW.weights, hu])
        simp only [List.length_map, List.length_range] at hw
        have h2 : xs.length * P.bytesOf e ≤ (xs.length + (m - xs.length)) * P.bytesOf e := Nat.mul_le_mul_right _ (by omega)
        unfold reachBytes at hw
        omega
      · obtain ⟨i, hi, rfl⟩ := List.getElem_of_mem hx
        exact (hxs i _ (List.getElem?_eq_getElem hi)).1⟩
/-- Fields in line, from cell o on. -/
structure OpensF (enc : TypeId × Value → H) (P : Program) (w : World) (fs : List Field) (o : Nat) (d : Kd α) (good : α → Prop) : Prop where
  go : ∀ (n : Nat) (cs : List Value) (xs : List (DataW H × List MemPlace)), (∀ (i : Nat) (f : Field), fs[i]? = some f → DataW.trod enc P w 0 (fun _ => true) true n f.type ((cs.drop f.offset).take (P.cellsOf f.type)) = xs[i]?) →
    xs.length = fs.length → cs.length = o + d.sz → (∀ q ∈ DataW.weightsEach P (fs.map (·.type)) (xs.map (·.1)), q ≤ reachBytes) → ∃ a, d.K w a (cs.drop o) ∧ good a
theorem opens_last {f : Field} {o : Nat} {d : Kd α} {good : α → Prop} (ho : f.offset = o) (h : Opens enc P w f.type d good) : OpensF enc P w [f] o d good :=
  ⟨fun n cs xs hx hxl hcl hw => by
    match xs, hxl with
    | [x], _ =>
      have h0 := hx 0 f rfl
      rw [ho, h.cells, List.take_of_length_le (by rw [List.length_drop]; omega)] at h0
      exact h.go n _ x (by simpa using h0) (fun q hq => hw q (by simp [DataW.weightsEach, hq]))⟩
theorem opens_cons {f : Field} {fs : List Field} {o o2 : Nat} {a : Kd α} {b : Kd β} {ga : α → Prop} {gb : β → Prop} (ho : f.offset = o) (h : Opens enc P w f.type a ga) (ho2 : o2 = o + a.sz) (h2 : OpensF enc P w fs o2 b gb) :
    OpensF enc P w (f :: fs) o (Kd.pair a b) (fun p => ga p.1 ∧ gb p.2) :=
  ⟨fun n cs xs hx hxl hcl hw => by
    match xs, hxl with
    | x :: xs, hxl =>
      have h0 := hx 0 f rfl
      rw [ho, h.cells] at h0
      have hcl' : cs.length = o + (a.sz + b.sz) := hcl
      obtain ⟨x1, hK1, hg1⟩ := h.go n _ x (by simpa using h0) (fun q hq => hw q (by simp [DataW.weightsEach, hq]))
      obtain ⟨x2, hK2, hg2⟩ := h2.go n cs xs (fun i f' hf => by simpa using hx (i + 1) f' (by simpa using hf)) (by simpa using hxl) (by omega) (fun q hq => hw q (by
        simp only [List.map_cons, DataW.weightsEach]
        exact List.mem_append_right _ hq))
      refine ⟨(x1, x2), ⟨(cs.drop o).take a.sz, cs.drop o2, ?_, hK1, hK2⟩, hg1, hg2⟩
      have h3 := List.take_append_drop a.sz (cs.drop o)
      rw [List.drop_drop] at h3
      rw [ho2]
      exact h3.symm⟩
theorem opens_struct {t : TypeId} {fs : Array Field} {d : Kd α} {good : α → Prop} (hu : P.underlying t = some (.struct fs)) (hc : P.cellsOf t = d.sz) (h : OpensF enc P w fs.toList 0 d good) {f : β → α} (g : α → β) (hg : ∀ a, f (g a) = a) :
    Opens enc P w t (Kd.iso d f) (fun y => good (f y)) :=
  ⟨hc, fun fuel cs x hx hl => by
    obtain ⟨xs, n, _, rfl, hcl, hxl, hxs⟩ := DataW.trod_struct hu hx
    obtain ⟨a, hK, hga⟩ := h.go n cs xs (fun i f' hf => hxs i f' (by rw [← Array.getElem?_toList]; exact hf)) (by simpa using hxl) (by rw [hcl, hc]; omega) (fun q hq => hl q (by simpa [DataW.weights, hu] using hq))
    refine ⟨g a, ?_, by rw [hg]; exact hga⟩
    show d.K w (f (g a)) cs
    rw [hg]
    simpa using hK⟩
end
end Go.Proofs.Ytchellnfenekaaa.OpenKd
end
section
namespace Go.Proofs.Ytchellnfenekaaa.Pm
open Go.RowKit Go.Proofs.YtchellnfenekaaaW.PrintWords Go.Proofs.YtchellnfenekaaaW.PrintLast Go.Proofs.YtchellnfenekaaaW.PrintMore
attribute [local go_sem] max2_int min2_int max_two min_two max_three min_three max_four min_four   -- for this text's walks alone
set_option linter.unusedVariables false
set_option linter.unusedSimpArgs false
open OpenKd
def goodSentry (x : S29) : Prop := x.f0.length ≤ 140737488351232 ∧ x.f1.length ≤ 140737488351232
def goodItem (x : S32) : Prop := x.f0.size ≤ 140737488351232 ∧ x.f2.size ≤ 140737488351232 ∧ x.f5.length ≤ 140737488351232 ∧ x.f6.length ≤ 140737488351232 ∧ (∀ s ∈ x.f5, goodSentry s) ∧ ∀ s ∈ x.f6, goodSentry s
theorem Opens.imp {H : Type} {enc : TypeId × Value → H} {P : Program} {w : World} {t : TypeId} {α : Type} {d : Kd α} {g g' : α → Prop} (h : Opens enc P w t d g) (hg : ∀ x, g x → g' x) : Opens enc P w t d g' :=
  ⟨h.cells, fun n cs x hx hl => let ⟨a, hK, ha⟩ := h.go n cs x hx hl; ⟨a, hK, hg a ha⟩⟩
section
variable {H : Type} {enc : TypeId × Value → H} {w : World}
set_option maxRecDepth 100000 in
theorem opens_on : Opens enc Try.prog w 39 k39 (fun _ => True) :=
  Opens.imp (opens_struct Try.underlying39 (by kernel_rfl) (opens_cons rfl (opens_string Try.underlying9 (by kernel_rfl)) rfl (opens_last rfl (opens_int Try.underlying3 (by kernel_rfl)))) (fun a => ⟨a.1, a.2⟩) (fun _ => rfl)) (fun _ _ => trivial)
set_option maxRecDepth 100000 in
theorem opens_cond : Opens enc Try.prog w 25 k25 (fun _ => True) :=
  Opens.imp (opens_struct Try.underlying25 (by kernel_rfl) (opens_cons rfl (opens_string Try.underlying9 (by kernel_rfl)) rfl (opens_cons rfl (opens_string Try.underlying9 (by kernel_rfl)) rfl (opens_last rfl (opens_int Try.underlying3 (by kernel_rfl))))) (fun a => ⟨a.1, a.2.1, a.2.2⟩) (fun _ => rfl)) (fun _ _ => trivial)
set_option maxRecDepth 100000 in
theorem light_of {ts : List TypeId} {ds : List (DataW H)} (h : (DataW.weightsEach Try.prog ts ds).all (· ≤ reachBytes) = true) {j : Nat} {t : TypeId} {d : DataW H} (ht : ts[j]? = some t) (hd : ds[j]? = some d) : Light Try.prog t d := by
  intro n hn
  have := List.all_eq_true.1 h n (DataW.weights_mem_each ht hd n hn)
  simpa using this
end
end Go.Proofs.Ytchellnfenekaaa.Pm
end
section
namespace Go.Proofs.Ytchellnfenekaaa.Pm
open Go.RowKit Go.Proofs.YtchellnfenekaaaW.PrintWords Go.Proofs.YtchellnfenekaaaW.PrintLast Go.Proofs.YtchellnfenekaaaW.PrintMore
attribute [local go_sem] max2_int min2_int max_two min_two max_three min_three max_four min_four   -- for this text's walks alone
set_option linter.unusedVariables false
set_option linter.unusedSimpArgs false
theorem R_voidN {α : Type} (d : Kd α) (e base : Nat) (w : World) (ok : Nat → Prop) (hok : ok w.heap.size) (hb : base ≤ w.heap.size) : d.R e (w.alloc (.cells #[] e)) base ok (.slice (some ⟨w.heap.size, 0, none⟩) 0 0) [] := by
  refine ⟨fun k hk => ?_, [], ?_, ⟨by simp, fun j p hj => by simp at hj⟩⟩
  · have : w.heap.size = k := by simpa [Value.ownBlock] using hk
    subst this
    exact hok
  · have h2 := World.ownsRow_lit (base := base) (e := e) (size := d.sz) w #[] 0 hb (by simp [maxLen]) (by simp)
    simpa using h2
def kRaw (n : Nat) : Kd (List Value) where
  sz := n
  E := []
  K := fun _ x cs => cs = x ∧ x.length = n ∧ ∀ u ∈ x, u.oneCell' = true
  M := fun _ _ _ x cs => cs = x ∧ x.length = n ∧ ∀ u ∈ x, u.oneCell' = true
  K_len := fun h => by rw [h.1]; exact h.2.1
  K_one := fun h u hu => h.2.2 u (h.1 ▸ hu)
  K_below := fun _ h => h
  K_of_M := fun h => h
  M_mono := fun _ h => h
  M_bound := fun h => h
  M_move := fun _ h => h
  M_lower := fun _ h => h
theorem C_raw {α : Type} {d : Kd α} {w : World} {A : Option Addr} {n : Nat} {xs : List α} (h : Kd.C d w A n xs) : ∃ rows : List (List Value), rows.length = n ∧ Kd.C (kRaw d.sz) w A n rows ∧ ∀ (j : Nat) (p : α), xs[j]? = some p → ∃ cs, rows[j]? = some cs ∧ d.K w p cs := by
  obtain ⟨h1, h2, h3⟩ := h
  rcases Nat.eq_zero_or_pos n with rfl | hp
  · refine ⟨[], rfl, ⟨rfl, h2, fun hp => absurd hp (by omega)⟩, fun j p hj => ?_⟩
    have := (List.getElem?_eq_some_iff.1 hj).1
    omega
  · obtain ⟨ad, e, hc⟩ := h3 hp
    have hex : ∀ j : Nat, ∃ c : List Value, ∀ p, xs[j]? = some p → c.length = d.sz ∧ d.K w p c ∧ ∀ i u, c[i]? = some u → w.cell? (ad.add (j * d.sz + i)) = some u := by
      intro j
      cases hx : xs[j]? with
      | none => exact ⟨[], fun p hp => by cases hp⟩
      | some p =>
        obtain ⟨c, h⟩ := hc j p hx
        exact ⟨c, fun q hq => by cases hq; exact h⟩
    obtain ⟨f, hf⟩ := Classical.axiomOfChoice hex
    have hget : ∀ j, j < n → ((List.range n).map f)[j]? = some (f j) := fun j hj => by simp [hj]
    refine ⟨(List.range n).map f, by simp, ⟨by simp, h2, fun _ => ⟨ad, e, fun j p hj => ?_⟩⟩, fun j p hj => ?_⟩
    · have hjn : j < n := by have := (List.getElem?_eq_some_iff.1 hj).1; simpa using this
      rw [hget j hjn] at hj
      cases hj
      have hx : xs[j]? = some (xs[j]'(by omega)) := List.getElem?_eq_getElem _
      obtain ⟨a, b, c⟩ := hf j _ hx
      exact ⟨f j, a, ⟨rfl, a, d.K_one b⟩, c⟩
    · have hjn : j < n := by have := (List.getElem?_eq_some_iff.1 hj).1; omega
      exact ⟨f j, hget j hjn, (hf j p hj).2.1⟩
theorem iOn_ : (Try.prog.info? 39).map (fun i => (i.zero, i.size, i.bytes)) = some (some (.agg #[.string ⟨#[]⟩, .int .i64 0]), 2, 24) := by kernel_rfl
theorem iCond_ : (Try.prog.info? 25).map (fun i => (i.zero, i.size, i.bytes)) = some (some (.agg #[.string ⟨#[]⟩, .string ⟨#[]⟩, .int .i64 0]), 3, 40) := by kernel_rfl
theorem iSent_ : (Try.prog.info? 29).map (fun i => (i.zero, i.size, i.bytes)) = some (some (.agg #[.slice none 0 0, .slice none 0 0]), 2, 48) := by kernel_rfl
theorem iItem_ : (Try.prog.info? 32).map (fun i => (i.zero, i.size, i.bytes)) = some (some (.agg #[.string ⟨#[]⟩, .int .i64 0, .string ⟨#[]⟩, .bool false, .int .i64 0, .slice none 0 0, .slice none 0 0]), 7, 104) := by kernel_rfl
set_option maxHeartbeats 2000000 in
set_option maxRecDepth 100000 in
theorem cl_str (w : World) (A : Option Addr) (c : Nat) (l : List (ByteArray)) (hr : Kd.C Kd.string w A l.length l) (hc : l.length ≤ c) (hl : l.length * 16 ≤ 140737488355328) :
    Calls Try.prog 46 #[.slice A l.length c] w fun e w' => ∃ v, e = .returned v ∧ Kd.R Kd.string 9 w' w.heap.size (fun _ => True) v l ∧ Below w.heap.size w w' := by
  cases A with
  | none =>
    have h0 : l = [] := by
      rcases l with _ | ⟨a, l⟩
      · rfl
      · obtain ⟨ad, e, _⟩ := hr.2.2 (by simp)
        cases e
    subst h0
    clear hr
    have hz : ∀ W, (binOp .eql 33 (.slice none 0 c) (.slice none 0 0)).run Try.prog W = .ok (.bool true) W := fun W => Lib.run_eql_slice_nil W 33 9 none 0 c 0 0 Try.underlying33
    go_enter Try.func46, Try.ntmps46
    go_wp2
    go_ret
    exact ⟨_, rfl, Kd.R_nil _ _ _ _ _, Below.refl _ _⟩
  | some ad =>
    have HR := Lib.hid hr
    obtain ⟨n, hn⟩ : ∃ n, n = l.length := ⟨_, rfl⟩
    have HN := Lib.hid hn
    rw [← hn] at hc hl ⊢
    clear hr hn
    have hz : ∀ W, (binOp .eql 33 (.slice (some ad) n c) (.slice none 0 0)).run Try.prog W = .ok (.bool false) W := fun W => Lib.run_eql_slice_nil W 33 9 (some ad) n c 0 0 Try.underlying33
    go_enter Try.func46, Try.ntmps46
    go_wp2_with (first | ((with_reducible refine gate_builtin (b := .append) (xs := #[.tmp 5, .tmp 6]) rfl ?_); at_builtin; refine Kd.R_append_rows Kd.string (w0 := w) w.heap.size rfl (.tmp 5) (.tmp 6) 33 9 (.string ⟨#[]⟩) 16 rfl Try.underlying33 info9 rfl (by decide) (by omega) (.slice (some ⟨w.heap.size, 0, none⟩) 0 0) [] l _ _ _ (fun _ => True) (fun _ => False) rfl rfl (R_voidN Kd.string 9 w.heap.size w _ trivial (Nat.le_refl _)) (HN.out ▸ Kd.C_alloc HR.out _) (fun _ _ h => h) (fun _ h => h.elim) (fun _ _ => trivial) (below_alloc (Below.refl _ _) _) (below_alloc (Below.refl _ _) _).size (by simpa using hl) ?_; intro v2 w2 hR2 hB2 hg1 hg2; clear hg1 hg2))
    go_ret
    exact ⟨_, rfl, hR2, hB2⟩
set_option maxHeartbeats 2000000 in
set_option maxRecDepth 100000 in
theorem cl_on (w : World) (A : Option Addr) (c : Nat) (l : List (S39)) (hr : Kd.C k39 w A l.length l) (hc : l.length ≤ c) (hl : l.length * 24 ≤ 140737488355328) :
    Calls Try.prog 65 #[.slice A l.length c] w fun e w' => ∃ v, e = .returned v ∧ Kd.R k39 39 w' w.heap.size (fun _ => True) v l ∧ Below w.heap.size w w' := by
  cases A with
  | none =>
    have h0 : l = [] := by
      rcases l with _ | ⟨a, l⟩
      · rfl
      · obtain ⟨ad, e, _⟩ := hr.2.2 (by simp)
        cases e
    subst h0
    clear hr
    have hz : ∀ W, (binOp .eql 27 (.slice none 0 c) (.slice none 0 0)).run Try.prog W = .ok (.bool true) W := fun W => Lib.run_eql_slice_nil W 27 39 none 0 c 0 0 Try.underlying27
    go_enter Try.func65, Try.ntmps65
    go_wp2
    go_ret
    exact ⟨_, rfl, Kd.R_nil _ _ _ _ _, Below.refl _ _⟩
  | some ad =>
    have HR := Lib.hid hr
    obtain ⟨n, hn⟩ : ∃ n, n = l.length := ⟨_, rfl⟩
    have HN := Lib.hid hn
    rw [← hn] at hc hl ⊢
    clear hr hn
    have hz : ∀ W, (binOp .eql 27 (.slice (some ad) n c) (.slice none 0 0)).run Try.prog W = .ok (.bool false) W := fun W => Lib.run_eql_slice_nil W 27 39 (some ad) n c 0 0 Try.underlying27
    go_enter Try.func65, Try.ntmps65
    go_wp2_with (first | ((with_reducible refine gate_builtin (b := .append) (xs := #[.tmp 5, .tmp 6]) rfl ?_); at_builtin; refine Kd.R_append_rows k39 (w0 := w) w.heap.size rfl (.tmp 5) (.tmp 6) 27 39 (.agg #[.string ⟨#[]⟩, .int .i64 0]) 24 rfl Try.underlying27 iOn_ rfl (by decide) (by omega) (.slice (some ⟨w.heap.size, 0, none⟩) 0 0) [] l _ _ _ (fun _ => True) (fun _ => False) rfl rfl (R_voidN k39 39 w.heap.size w _ trivial (Nat.le_refl _)) (HN.out ▸ Kd.C_alloc HR.out _) (fun _ _ h => h) (fun _ h => h.elim) (fun _ _ => trivial) (below_alloc (Below.refl _ _) _) (below_alloc (Below.refl _ _) _).size (by simpa using hl) ?_; intro v2 w2 hR2 hB2 hg1 hg2; clear hg1 hg2))
    go_ret
    exact ⟨_, rfl, hR2, hB2⟩
set_option maxHeartbeats 2000000 in
set_option maxRecDepth 100000 in
theorem cl_cond (w : World) (A : Option Addr) (c : Nat) (l : List (S25)) (hr : Kd.C k25 w A l.length l) (hc : l.length ≤ c) (hl : l.length * 40 ≤ 140737488355328) :
    Calls Try.prog 66 #[.slice A l.length c] w fun e w' => ∃ v, e = .returned v ∧ Kd.R k25 25 w' w.heap.size (fun _ => True) v l ∧ Below w.heap.size w w' := by
  cases A with
  | none =>
    have h0 : l = [] := by
      rcases l with _ | ⟨a, l⟩
      · rfl
      · obtain ⟨ad, e, _⟩ := hr.2.2 (by simp)
        cases e
    subst h0
    clear hr
    have hz : ∀ W, (binOp .eql 26 (.slice none 0 c) (.slice none 0 0)).run Try.prog W = .ok (.bool true) W := fun W => Lib.run_eql_slice_nil W 26 25 none 0 c 0 0 Try.underlying26
    go_enter Try.func66, Try.ntmps66
    go_wp2
    go_ret
    exact ⟨_, rfl, Kd.R_nil _ _ _ _ _, Below.refl _ _⟩
  | some ad =>
    have HR := Lib.hid hr
    obtain ⟨n, hn⟩ : ∃ n, n = l.length := ⟨_, rfl⟩
    have HN := Lib.hid hn
    rw [← hn] at hc hl ⊢
    clear hr hn
    have hz : ∀ W, (binOp .eql 26 (.slice (some ad) n c) (.slice none 0 0)).run Try.prog W = .ok (.bool false) W := fun W => Lib.run_eql_slice_nil W 26 25 (some ad) n c 0 0 Try.underlying26
    go_enter Try.func66, Try.ntmps66
    go_wp2_with (first | ((with_reducible refine gate_builtin (b := .append) (xs := #[.tmp 5, .tmp 6]) rfl ?_); at_builtin; refine Kd.R_append_rows k25 (w0 := w) w.heap.size rfl (.tmp 5) (.tmp 6) 26 25 (.agg #[.string ⟨#[]⟩, .string ⟨#[]⟩, .int .i64 0]) 40 rfl Try.underlying26 iCond_ rfl (by decide) (by omega) (.slice (some ⟨w.heap.size, 0, none⟩) 0 0) [] l _ _ _ (fun _ => True) (fun _ => False) rfl rfl (R_voidN k25 25 w.heap.size w _ trivial (Nat.le_refl _)) (HN.out ▸ Kd.C_alloc HR.out _) (fun _ _ h => h) (fun _ h => h.elim) (fun _ _ => trivial) (below_alloc (Below.refl _ _) _) (below_alloc (Below.refl _ _) _).size (by simpa using hl) ?_; intro v2 w2 hR2 hB2 hg1 hg2; clear hg1 hg2))
    go_ret
    exact ⟨_, rfl, hR2, hB2⟩
set_option maxHeartbeats 2000000 in
set_option maxRecDepth 100000 in
theorem cl_sentry (w : World) (A : Option Addr) (c : Nat) (l : List (List Value)) (hr : Kd.C (kRaw 2) w A l.length l) (hc : l.length ≤ c) (hl : l.length * 48 ≤ 140737488355328) :
    Calls Try.prog 64 #[.slice A l.length c] w fun e w' => ∃ v, e = .returned v ∧ Kd.R (kRaw 2) 29 w' w.heap.size (fun _ => True) v l ∧ Below w.heap.size w w' := by
  cases A with
  | none =>
    have h0 : l = [] := by
      rcases l with _ | ⟨a, l⟩
      · rfl
      · obtain ⟨ad, e, _⟩ := hr.2.2 (by simp)
        cases e
    subst h0
    clear hr
    have hz : ∀ W, (binOp .eql 30 (.slice none 0 c) (.slice none 0 0)).run Try.prog W = .ok (.bool true) W := fun W => Lib.run_eql_slice_nil W 30 29 none 0 c 0 0 Try.underlying30
    go_enter Try.func64, Try.ntmps64
    go_wp2
    go_ret
    exact ⟨_, rfl, Kd.R_nil _ _ _ _ _, Below.refl _ _⟩
  | some ad =>
    have HR := Lib.hid hr
    obtain ⟨n, hn⟩ : ∃ n, n = l.length := ⟨_, rfl⟩
    have HN := Lib.hid hn
    rw [← hn] at hc hl ⊢
    clear hr hn
    have hz : ∀ W, (binOp .eql 30 (.slice (some ad) n c) (.slice none 0 0)).run Try.prog W = .ok (.bool false) W := fun W => Lib.run_eql_slice_nil W 30 29 (some ad) n c 0 0 Try.underlying30
    go_enter Try.func64, Try.ntmps64
    go_wp2_with (first | ((with_reducible refine gate_builtin (b := .append) (xs := #[.tmp 5, .tmp 6]) rfl ?_); at_builtin; refine Kd.R_append_rows (kRaw 2) (w0 := w) w.heap.size rfl (.tmp 5) (.tmp 6) 30 29 (.agg #[.slice none 0 0, .slice none 0 0]) 48 rfl Try.underlying30 iSent_ rfl (by decide) (by omega) (.slice (some ⟨w.heap.size, 0, none⟩) 0 0) [] l _ _ _ (fun _ => True) (fun _ => False) rfl rfl (R_voidN (kRaw 2) 29 w.heap.size w _ trivial (Nat.le_refl _)) (HN.out ▸ Kd.C_alloc HR.out _) (fun _ _ h => h) (fun _ h => h.elim) (fun _ _ => trivial) (below_alloc (Below.refl _ _) _) (below_alloc (Below.refl _ _) _).size (by simpa using hl) ?_; intro v2 w2 hR2 hB2 hg1 hg2; clear hg1 hg2))
    go_ret
    exact ⟨_, rfl, hR2, hB2⟩
set_option maxHeartbeats 2000000 in
set_option maxRecDepth 100000 in
theorem cl_item (w : World) (A : Option Addr) (c : Nat) (l : List (List Value)) (hr : Kd.C (kRaw 7) w A l.length l) (hc : l.length ≤ c) (hl : l.length * 104 ≤ 140737488355328) :
    Calls Try.prog 47 #[.slice A l.length c] w fun e w' => ∃ v, e = .returned v ∧ Kd.R (kRaw 7) 32 w' w.heap.size (fun _ => True) v l ∧ Below w.heap.size w w' := by
  cases A with
  | none =>
    have h0 : l = [] := by
      rcases l with _ | ⟨a, l⟩
      · rfl
      · obtain ⟨ad, e, _⟩ := hr.2.2 (by simp)
        cases e
    subst h0
    clear hr
    have hz : ∀ W, (binOp .eql 34 (.slice none 0 c) (.slice none 0 0)).run Try.prog W = .ok (.bool true) W := fun W => Lib.run_eql_slice_nil W 34 32 none 0 c 0 0 Try.underlying34
    go_enter Try.func47, Try.ntmps47
    go_wp2
    go_ret
    exact ⟨_, rfl, Kd.R_nil _ _ _ _ _, Below.refl _ _⟩
  | some ad =>
    have HR := Lib.hid hr
    obtain ⟨n, hn⟩ : ∃ n, n = l.length := ⟨_, rfl⟩
    have HN := Lib.hid hn
    rw [← hn] at hc hl ⊢
    clear hr hn
    have hz : ∀ W, (binOp .eql 34 (.slice (some ad) n c) (.slice none 0 0)).run Try.prog W = .ok (.bool false) W := fun W => Lib.run_eql_slice_nil W 34 32 (some ad) n c 0 0 Try.underlying34
    go_enter Try.func47, Try.ntmps47
    go_wp2_with (first | ((with_reducible refine gate_builtin (b := .append) (xs := #[.tmp 5, .tmp 6]) rfl ?_); at_builtin; refine Kd.R_append_rows (kRaw 7) (w0 := w) w.heap.size rfl (.tmp 5) (.tmp 6) 34 32 (.agg #[.string ⟨#[]⟩, .int .i64 0, .string ⟨#[]⟩, .bool false, .int .i64 0, .slice none 0 0, .slice none 0 0]) 104 rfl Try.underlying34 iItem_ rfl (by decide) (by omega) (.slice (some ⟨w.heap.size, 0, none⟩) 0 0) [] l _ _ _ (fun _ => True) (fun _ => False) rfl rfl (R_voidN (kRaw 7) 32 w.heap.size w _ trivial (Nat.le_refl _)) (HN.out ▸ Kd.C_alloc HR.out _) (fun _ _ h => h) (fun _ h => h.elim) (fun _ _ => trivial) (below_alloc (Below.refl _ _) _) (below_alloc (Below.refl _ _) _).size (by simpa using hl) ?_; intro v2 w2 hR2 hB2 hg1 hg2; clear hg1 hg2))
    go_ret
    exact ⟨_, rfl, hR2, hB2⟩
end Go.Proofs.Ytchellnfenekaaa.Pm
end
section
namespace Go.Proofs.Ytchellnfenekaaa.Pm
open Go.RowKit Go.Proofs.YtchellnfenekaaaW.PrintWords Go.Proofs.YtchellnfenekaaaW.PrintLast Go.Proofs.YtchellnfenekaaaW.PrintMore
attribute [local go_sem] max2_int min2_int max_two min_two max_three min_three max_four min_four   -- for this text's walks alone
set_option linter.unusedVariables false
set_option linter.unusedSimpArgs false
def bits (n m : Nat) : Array Bool := ((List.range n).map (fun i => m.testBit i)).toArray
section
variable {P : Program} {md : Region.Mode} {ops : Array Oper} {Q : Exit → Act → World → Prop} {S : World → Prop} {ds : List Nat}
theorem pu_ {n m fuel : Nat} {oi : Oper} {v : Value} {a a' : Act} {w : World} (i : Nat) (N : Option Tmp) (h : wpAnyLast P md ops Q S ds fuel (bits n (m ||| 1 <<< i)) a' w)
    (hi : ops[i]? = some oi := by exact rfl) (hN : oi.dst = N := by exact rfl) (hc : anyB md ops (bits n m) (bits n (m ||| 1 <<< i)) i = true := by kernel_rfl)
    (hw : Region.wanted oi (yielded ops a.tmps) = true := by exact rfl) (hy : ∀ w', (execOp a.eval oi).run P w' = .ok (.value v) w' := by (intro w'; go_simp; with_reducible rfl))
    (ha : a.put N v = a' := by (simp only [Act.put, List.setIfInBounds_toArray, List.set_cons_zero, List.set_cons_succ, i64_w, i32_w]; rfl))
    (hQ : ∀ c a w, Q (.panic c) (a.put oi.dst v) w → Q (.panic c) a w := by exact fun _ _ _ h => h) : wpAnyLast P md ops Q S ds (fuel + 1) (bits n m) a w :=
  pure_ _ hi hN hc hQ (Or.inl ⟨hw, hy⟩) ha h
theorem tk_ {n m fuel : Nat} {oi : Oper} {v : Value} {a a' : Act} {w : World} (i : Nat) (N : Option Tmp) (hS : S w) (h : wpAnyLast P md ops Q S ds fuel (bits n (m ||| 1 <<< i)) a' w)
    (hi : ops[i]? = some oi := by exact rfl) (hN : oi.dst = N := by exact rfl) (hc : takeB md ops ds (bits n m) (bits n (m ||| 1 <<< i)) i = true := by kernel_rfl)
    (hw : Region.wanted oi (yielded ops a.tmps) = true := by exact rfl) (hy : ∀ w', S w' → (execOp a.eval oi).run P w' = .ok (.value v) w')
    (ha : a.put N v = a' := by (simp only [Act.put, List.setIfInBounds_toArray, List.set_cons_zero, List.set_cons_succ, i64_w, i32_w]; rfl))
    (hQ : ∀ c a w, Q (.panic c) (a.put oi.dst v) w → Q (.panic c) a w := by exact fun _ _ _ h => h) : wpAnyLast P md ops Q S ds (fuel + 1) (bits n m) a w :=
  take_ _ hi hN hc hQ (Or.inl ⟨hw, hy⟩) hS ha h
/-- A call that alone may come up: its contract gives the answer v and a world in which S holds. -/
theorem ca_ {n m fuel : Nat} {oi : Oper} {a : Act} {w : World} {f : FuncId} {fn : Func} {os : Array Operand} {ts : Array TypeId} (i : Nat) (N : Option Tmp) (hf : P.funcs[f]? = some fn) (args : Array Value)
    (h : Calls P f args w fun e w' => ∃ v, e = .returned v ∧ S w' ∧ (S w' → ∃ a', a.put N v = a' ∧ wpAnyLast P md ops Q S ds fuel (bits n (m ||| 1 <<< i)) a' w'))
    (hi : ops[i]? = some oi := by exact rfl) (hN : oi.dst = N := by exact rfl) (hc : readyB md ops (bits n m) (bits n (m ||| 1 <<< i)) i = true := by kernel_rfl) (hd : i ∉ ds := by decide)
    (hop : oi.op = .call { callee := .value (.func f), args := os, argTypes := ts } := by exact rfl) (hargs : os.map a.eval = args := by ((try simp only [List.map_toArray, List.map_cons, List.map_nil]); first | done | rfl))
    (hw : Region.wanted oi (yielded ops a.tmps) = true := by exact rfl)
    (hname : (fn.name == "runtime.NumGoroutine") = false := by kernel_rfl) (hb : fn.body.isSome = true := by exact rfl) : wpAnyLast P md ops Q S ds (fuel + 1) (bits n m) a w :=
  one_ _ hi hN hc hd fun K hK => goes_ hf hname hb args hw hN hop hargs (h.mono fun e w' hh => by
    obtain ⟨v, rfl, hS, hW⟩ := hh
    refine ⟨v, rfl, hK.out _ _ hS fun hs => ?_⟩
    obtain ⟨a', rfl, h'⟩ := hW hs
    exact h')
theorem dn_ {n m : Nat} {a : Act} {w : World} {k : Nat} (h : Q .normal a w) (hr : (Region.ready md ops (bits n m) == []) = true := by kernel_rfl) : wpAnyLast P md ops Q S ds k (bits n m) a w := done_ hr h
end
end Go.Proofs.Ytchellnfenekaaa.Pm
end
section
namespace Go.Proofs.Ytchellnfenekaaa.Pm
open Go.RowKit Go.Proofs.YtchellnfenekaaaW.PrintWords Go.Proofs.YtchellnfenekaaaW.PrintLast Go.Proofs.YtchellnfenekaaaW.PrintMore
attribute [local go_sem] max2_int min2_int max_two min_two max_three min_three max_four min_four   -- for this text's walks alone
set_option linter.unusedVariables false
set_option linter.unusedSimpArgs false
section
variable {P : Program} {md : Region.Mode} {ops : Array Oper} {Q : Exit → Act → World → Prop} {S : World → Prop} {ds : List Nat}
theorem oN_ {n m fuel : Nat} {oi : Oper} {a : Act} {w : World} (i : Nat) (N : Option Tmp)
    (h : ∀ K : Act → World → Prop, Shut (∀ a' w', S w' → (S w' → wpAnyLast P md ops Q S ds fuel (bits n (m ||| 1 <<< i)) a' w') → K a' w') → if Region.wanted oi (yielded ops a.tmps) = true then Oper.wp P oi a w K Q else K (a.put N undef) w)
    (hi : ops[i]? = some oi := by exact rfl) (hN : oi.dst = N := by exact rfl) (hc : readyB md ops (bits n m) (bits n (m ||| 1 <<< i)) i = true := by kernel_rfl) (hd : i ∉ ds := by decide) : wpAnyLast P md ops Q S ds (fuel + 1) (bits n m) a w :=
  one_ _ hi hN hc hd h
theorem sD_ {id : Nat} {a : Act} {w : World} (ds : List Nat) (S : World → Prop) (n : Nat) (hS : S w.drew) (h : S w.drew → wpAnyLast P .any ops Q S ds n (bits n 0) a w.drew)
    (hm : P.follows .mixedOrders = true := by kernel_rfl) (hn : ops.size = n := by exact rfl) (hl : Array.replicate n false = bits n 0 := by kernel_rfl) : (Code.region id ops true).wp P Q a w :=
  start_ (bits n 0) hm hn hl hS h
theorem lA_ {n m fuel : Nat} {oi : Oper} {a : Act} {w : World} (i : Nat) (N : Option Tmp)
    (h : ∀ K : Act → World → Prop, Shut (∀ a' w', wpAnyLast P md ops Q S ds fuel (bits n (m ||| 1 <<< i)) a' w' → K a' w') → if Region.wanted oi (yielded ops a.tmps) = true then Oper.wp P oi a w K Q else K (a.put N undef) w)
    (hi : ops[i]? = some oi := by exact rfl) (hN : oi.dst = N := by exact rfl) (hc : readyB md ops (bits n m) (bits n (m ||| 1 <<< i)) i = true := by kernel_rfl) (hd : i ∈ ds := by decide) : wpAnyLast P md ops Q S ds (fuel + 1) (bits n m) a w :=
  last_ _ hi hN hc hd h
end
end Go.Proofs.Ytchellnfenekaaa.Pm
end
section
namespace Go.Proofs.Ytchellnfenekaaa.Pm
open Go.RowKit Go.Proofs.YtchellnfenekaaaW.PrintWords Go.Proofs.YtchellnfenekaaaW.PrintLast Go.Proofs.YtchellnfenekaaaW.PrintMore
attribute [local go_sem] max2_int min2_int max_two min_two max_three min_three max_four min_four   -- for this text's walks alone
set_option linter.unusedVariables false
set_option linter.unusedSimpArgs false
theorem eqA39 (d : Nat) (w : World) (x0 y0 : ByteArray) (x1 y1 : Int) :
    (Op.equalIn (d + 2) 39 (.agg #[.string x0, .int .i64 x1]) (.agg #[.string y0, .int .i64 y1])).run Try.prog w = .ok (x0.toList == y0.toList && (x1 == y1)) w := by
  refine eqA_of Try.underlying39 (by kernel_rfl) ?_
  refine eqf_cons (by rfl) (by go_simp; rfl) (by go_simp; rfl) (by go_simp) ?_
  exact eqf_last (by rfl) (by go_simp; rfl) (by go_simp; rfl) (by go_simp)
end Go.Proofs.Ytchellnfenekaaa.Pm
end
section
namespace Go.Proofs.Ytchellnfenekaaa.Pm
open Go.RowKit Go.Proofs.YtchellnfenekaaaW.PrintWords Go.Proofs.YtchellnfenekaaaW.PrintLast Go.Proofs.YtchellnfenekaaaW.PrintMore
attribute [local go_sem] max2_int min2_int max_two min_two max_three min_three max_four min_four   -- for this text's walks alone
set_option linter.unusedVariables false
set_option linter.unusedSimpArgs false
attribute [local go_sem high] eqA39
def api_On_81.l0 : Nat → List (S39) → Int → Int → ByteArray → Int → Option (Int)
 | 0, _, _, _, _, _ => none
 | k + 1, x0, x7, x8, x432000, x432001 => if x8 < x7 then (if 0 ≤ x8 then (if x8 < (x0.length : Int) then (if (x432000.toList == (((rd_T39 x0 x8).f0).toList) && (x432001 == ((rd_T39 x0 x8).f1))) = true then (some x8) else (api_On_81.l0 k x0 x7 (wrap64 (x8 + 1)) x432000 x432001)) else (none)) else (none)) else (some (-1))
def api_On_81.f (k : Nat) (l0 : List (S39)) (a1_0 : ByteArray) (a1_1 : Int) : Option (Int) := api_On_81.l0 k l0 (l0.length : Int) 0 a1_0 a1_1
theorem api_On_81.mono_l : ∀ k, (∀ y0 y1 y2 y3 y4, LeO (api_On_81.l0 k y0 y1 y2 y3 y4) (api_On_81.l0 (k + 1) y0 y1 y2 y3 y4))
 | 0 => fun _ _ _ _ _ r h => by simp [api_On_81.l0] at h
 | k + 1 => by
  have ih0 := api_On_81.mono_l k
  ·intro y0 y1 y2 y3 y4
   unfold api_On_81.l0
   repeat' first
   | (with_reducible exact ih0 _ _ _ _ _)
   | (with_reducible exact LeO.refl _)
   | (with_reducible exact LeO.none _)
   | (with_reducible refine LeO.ite ?_ ?_)
   | (with_reducible refine LeO.bind ?_ (fun _ => ?_))
   | exact ih0 _ _ _ _ _
   | exact LeO.none _
   | refine LeO.ite ?_ ?_
   | refine LeO.bind ?_ (fun _ => ?_)
theorem api_On_81.mono : ∀ a0 a1 a2 k, LeO (api_On_81.f k a0 a1 a2) (api_On_81.f (k + 1) a0 a1 a2) := by
 intro a0 a1 a2 k
 have ih0 := api_On_81.mono_l k
 unfold api_On_81.f
 repeat' first
   | (with_reducible exact ih0 _ _ _ _ _)
   | (with_reducible exact LeO.refl _)
   | (with_reducible exact LeO.none _)
   | (with_reducible refine LeO.ite ?_ ?_)
   | (with_reducible refine LeO.bind ?_ (fun _ => ?_))
   | exact ih0 _ _ _ _ _
   | exact LeO.none _
   | refine LeO.ite ?_ ?_
   | refine LeO.bind ?_ (fun _ => ?_)
set_option maxHeartbeats 8000000 in
set_option maxRecDepth 100000 in
theorem api_On_81.calls (k : Nat) (A0 : Option Addr) (c0 : Nat) (l0 : List (S39)) (a1_0 : ByteArray) (a1_1 : Int) (r : Int) (w : World) (hr0 : Kd.C k39 w A0 l0.length l0) (hc0 : l0.length ≤ c0) (h : api_On_81.f k l0 a1_0 a1_1 = some r) :
  Calls Try.prog 81 #[.slice A0 l0.length c0, .agg #[.string a1_0, .int .i64 a1_1]] w fun e w' => e = .returned (.int .i64 r) ∧ Below w.heap.size w w' := by
 have hu39 := Try.underlying39
 have HR0 := Aside0.mk hr0
 have HC0 := Aside0.mk hc0
 clear hr0 hc0
 have HB := Aside0.mk (Below.refl w.heap.size w)
 have H : (api_On_81.l0 k l0 (l0.length : Int) 0 a1_0 a1_1) = some r := h
 clear h
 have H' := Aside0.mk H
 clear H
 go_enter Try.func81, Try.ntmps81
 go_wp2_with (first | ((with_reducible refine gate_dst (N := 3) rfl ?_); refine box_event ?hg (N := 3) ?hd (cs := #[.string a1_0, .int .i64 a1_1]) (t := 39) ?hr ?_; (case hd => rfl); (case hg => rfl); (case hr => first | (go_simp; done) | (go_simp; rfl)); intro gb431 hg w3 hbox hb; have n0_ := hb_ HB hb; have n1_ := Aside0.mk (hbox); have n2_ := Aside0.mk ((by rw [hg]; exact (below_size (by repeat (first | (with_reducible first | exact HB.out | apply below_alloc | apply pw_below_drewN | apply below_drew1) | exact HB.out))) : w.heap.size ≤ gb431)); have n3_ := Aside0.mk ((by rw [hg]; exact (below_size (by repeat (first | (with_reducible first | exact HB.out | apply below_alloc | apply pw_below_drewN | apply below_drew1) | exact HB.out))) : w.heap.size ≤ gb431)); clear HB; have HB := n0_; have BK431 := n1_; have GW431 := n2_; have GE431 := n3_; clear n0_ n1_ n2_ n3_; clear hb hbox hg))
 repeat (go_quiet (first | ((with_reducible refine gate_dst (N := 3) rfl ?_); refine box_event ?hg (N := 3) ?hd (cs := #[.string a1_0, .int .i64 a1_1]) (t := 39) ?hr ?_; (case hd => rfl); (case hg => rfl); (case hr => first | (go_simp; done) | (go_simp; rfl)); intro gb431 hg w3 hbox hb; have n0_ := hb_ HB hb; have n1_ := Aside0.mk (hbox); have n2_ := Aside0.mk ((by rw [hg]; exact (below_size (by repeat (first | (with_reducible first | exact HB.out | apply below_alloc | apply pw_below_drewN | apply below_drew1) | exact HB.out))) : w.heap.size ≤ gb431)); have n3_ := Aside0.mk ((by rw [hg]; exact (below_size (by repeat (first | (with_reducible first | exact HB.out | apply below_alloc | apply pw_below_drewN | apply below_drew1) | exact HB.out))) : w.heap.size ≤ gb431)); clear HB; have HB := n0_; have BK431 := n1_; have GW431 := n2_; have GE431 := n3_; clear n0_ n1_ n2_ n3_; clear hb hbox hg)); try go_wp2_with (first | ((with_reducible refine gate_dst (N := 3) rfl ?_); refine box_event ?hg (N := 3) ?hd (cs := #[.string a1_0, .int .i64 a1_1]) (t := 39) ?hr ?_; (case hd => rfl); (case hg => rfl); (case hr => first | (go_simp; done) | (go_simp; rfl)); intro gb431 hg w3 hbox hb; have n0_ := hb_ HB hb; have n1_ := Aside0.mk (hbox); have n2_ := Aside0.mk ((by rw [hg]; exact (below_size (by repeat (first | (with_reducible first | exact HB.out | apply below_alloc | apply pw_below_drewN | apply below_drew1) | exact HB.out))) : w.heap.size ≤ gb431)); have n3_ := Aside0.mk ((by rw [hg]; exact (below_size (by repeat (first | (with_reducible first | exact HB.out | apply below_alloc | apply pw_below_drewN | apply below_drew1) | exact HB.out))) : w.heap.size ≤ gb431)); clear HB; have HB := n0_; have BK431 := n1_; have GW431 := n2_; have GE431 := n3_; clear n0_ n1_ n2_ n3_; clear hb hbox hg)))
 go_loopg [8] k (fun kq v8 w' => ∃ (x8_1 : Int), v8 = .int .i64 x8_1 ∧ Aside0 (api_On_81.l0 kq l0 (l0.length : Int) x8_1 a1_0 a1_1 = some r) ∧ Aside0 (kq ≤ k) ∧ Aside0 (w'.heap[gb431]? = some (.cells #[.string a1_0, .int .i64 a1_1] 39 (0, 0))) ∧ Aside0 (Below w.heap.size w w'))
 case atStart => exact ⟨(0), (by first | rfl | (simp; done) | (simp [*]; done)), H', ⟨Nat.le_refl _⟩, ⟨gx_ BK431⟩, ⟨hf_⟩⟩
 case round =>
  clear H'
  try clear p2
  obtain ⟨x8_1, rfl, HA, HK1, BK431, HB⟩ := hrel
  cases gk with
  | zero => exact absurd HA.out (by simp [api_On_81.l0])
  | succ k1 =>
   have H := HA.out
   clear HA
   simp only [api_On_81.l0] at H
   by_cases c4 : x8_1 < (l0.length : Int)
   ·rw [if_pos c4] at H
    have c4b0 : decide (x8_1 < (l0.length : Int)) = true := decide_eq_true c4
    clear c4
    by_cases c5 : 0 ≤ x8_1
    ·rw [if_pos c5] at H
     have c5b0 : decide (0 ≤ x8_1) = true := decide_eq_true c5
     clear c5
     by_cases c6 : x8_1 < (l0.length : Int)
     ·rw [if_pos c6] at H
      have c6b0 : decide (x8_1 < (l0.length : Int)) = true := decide_eq_true c6
      clear c6
      by_cases c7 : (a1_0.toList == (((rd_T39 l0 x8_1).f0).toList) && (a1_1 == ((rd_T39 l0 x8_1).f1))) = true
      ·rw [if_pos c7] at H
       have c7b0 : (a1_0.toList == (((rd_T39 l0 x8_1).f0).toList) && (a1_1 == ((rd_T39 l0 x8_1).f1))) = true := c7
       (try (have c7b1 : decide (a1_0.toList = (((rd_T39 l0 x8_1).f0).toList) && (a1_1 == ((rd_T39 l0 x8_1).f1))) = true := by simpa using c7))
       (try (have c7b2 : (a1_0.toList == (((rd_T39 l0 x8_1).f0).toList) && (a1_1 == ((rd_T39 l0 x8_1).f1))) = true := by simpa using c7))
       clear c7
       obtain rfl := Option.some.inj H
       obtain ⟨hcz8_0, hcz8_1, hfz8_0, hfz8_1⟩ := bs2_ BK431
       have p432 : 0 ≤ (x8_1 : Int) := od_
       have q432 : x8_1 < (l0.length : Int) := od_
       obtain ⟨ad432, e432, hx432_0, hx432_1⟩ := at_T39 HR0.out x8_1 p432 q432
       cases e432
       replace hx432_0 := rr_ HB hx432_0
       replace hx432_1 := rr_ HB hx432_1
       replace p432 := eq_true p432
       replace q432 := eq_true q432
       go_wp2
       repeat (go_quiet (fail); try go_wp2)
       go_ret
       exact ⟨er_, hf_⟩
      ·rw [if_neg c7] at H
       have c7b0 : (a1_0.toList == (((rd_T39 l0 x8_1).f0).toList) && (a1_1 == ((rd_T39 l0 x8_1).f1))) = false := by simpa using c7
       (try (have c7b1 : decide (a1_0.toList = (((rd_T39 l0 x8_1).f0).toList) && (a1_1 == ((rd_T39 l0 x8_1).f1))) = false := by simpa using c7))
       (try (have c7b2 : (a1_0.toList == (((rd_T39 l0 x8_1).f0).toList) && (a1_1 == ((rd_T39 l0 x8_1).f1))) = false := by simpa using c7))
       (try (have c7b3 : ¬ (a1_0.toList = (((rd_T39 l0 x8_1).f0).toList) && (a1_1 == ((rd_T39 l0 x8_1).f1))) := by simpa using c7))
       clear c7
       have H' := Aside0.mk H
       clear H
       obtain ⟨hcz9_0, hcz9_1, hfz9_0, hfz9_1⟩ := bs2_ BK431
       have p432 : 0 ≤ (x8_1 : Int) := od_
       have q432 : x8_1 < (l0.length : Int) := od_
       obtain ⟨ad432, e432, hx432_0, hx432_1⟩ := at_T39 HR0.out x8_1 p432 q432
       cases e432
       replace hx432_0 := rr_ HB hx432_0
       replace hx432_1 := rr_ HB hx432_1
       replace p432 := eq_true p432
       replace q432 := eq_true q432
       go_wp2
       repeat (go_quiet (fail); try go_wp2)
       go_roundg k1
       case measure => have := HK1.out; omega
       case rel => exact ⟨(wrap64 (x8_1 + 1)), (by first | rfl | (simp; done) | (simp [*]; done)), H', ⟨by have := HK1.out; omega⟩, ⟨gx_ BK431⟩, ⟨hf_⟩⟩
     ·rw [if_neg c6] at H
      exact absurd H (by simp)
    ·rw [if_neg c5] at H
     exact absurd H (by simp)
   ·rw [if_neg c4] at H
    have c4b0 : decide (x8_1 < (l0.length : Int)) = false := decide_eq_false c4
    clear c4
    obtain rfl := Option.some.inj H
    go_wp2
    repeat (go_quiet (fail); try go_wp2)
    go_ret
    exact ⟨er_, hf_⟩
end Go.Proofs.Ytchellnfenekaaa.Pm
end
section
namespace Go.Proofs.Ytchellnfenekaaa.Pm
open Go.RowKit Go.Proofs.YtchellnfenekaaaW.PrintWords Go.Proofs.YtchellnfenekaaaW.PrintLast Go.Proofs.YtchellnfenekaaaW.PrintMore
attribute [local go_sem] max2_int min2_int max_two min_two max_three min_three max_four min_four   -- for this text's walks alone
set_option linter.unusedVariables false
set_option linter.unusedSimpArgs false
def api_On_77.f (k : Nat) (l0 : List (S39)) (a1_0 : ByteArray) (a1_1 : Int) : Option (Bool) := (api_On_81.f k l0 a1_0 a1_1).bind fun t434 => (some (decide (t434 ≥ 0)))
theorem api_On_77.mono : ∀ a0 a1 a2 k, LeO (api_On_77.f k a0 a1 a2) (api_On_77.f (k + 1) a0 a1 a2) := by
 intro a0 a1 a2 k
 unfold api_On_77.f
 repeat' first
   | (with_reducible exact api_On_81.mono _ _ _ _)
   | (with_reducible exact LeO.refl _)
   | (with_reducible exact LeO.none _)
   | (with_reducible refine LeO.ite ?_ ?_)
   | (with_reducible refine LeO.bind ?_ (fun _ => ?_))
   | exact api_On_81.mono _ _ _ _
   | exact LeO.none _
   | refine LeO.ite ?_ ?_
   | refine LeO.bind ?_ (fun _ => ?_)
set_option maxHeartbeats 8000000 in
set_option maxRecDepth 100000 in
theorem api_On_77.calls (k : Nat) (A0 : Option Addr) (c0 : Nat) (l0 : List (S39)) (a1_0 : ByteArray) (a1_1 : Int) (r : Bool) (w : World) (hr0 : Kd.C k39 w A0 l0.length l0) (hc0 : l0.length ≤ c0) (h : api_On_77.f k l0 a1_0 a1_1 = some r) :
  Calls Try.prog 77 #[.slice A0 l0.length c0, .agg #[.string a1_0, .int .i64 a1_1]] w fun e w' => e = .returned (.bool r) ∧ Below w.heap.size w w' := by
 have hu39 := Try.underlying39
 have HR0 := Aside0.mk hr0
 have HC0 := Aside0.mk hc0
 clear hr0 hc0
 have HB := Aside0.mk (Below.refl w.heap.size w)
 have H : ((api_On_81.f k l0 a1_0 a1_1).bind fun t434 => (some (decide (t434 ≥ 0)))) = some r := h
 clear h
 replace H := Option.bind_eq_some_iff.mp H
 obtain ⟨t434, A30, H⟩ := H
 replace H : (some (decide (t434 ≥ 0))) = some r := H
 have A3 := Aside0.mk A30
 clear A30
 obtain rfl := Option.some.inj H
 go_enter Try.func77, Try.ntmps77
 go_wp2_with (first | ((with_reducible refine gate_dst (N := 3) rfl ?_); refine box_event ?hg (N := 3) ?hd (cs := #[.string a1_0, .int .i64 a1_1]) (t := 39) ?hr ?_; (case hd => rfl); (case hg => rfl); (case hr => first | (go_simp; done) | (go_simp; rfl)); intro gb433 hg w4 hbox hb; have n0_ := hb_ HB hb; have n1_ := Aside0.mk (hbox); have n2_ := Aside0.mk ((by rw [hg]; exact (below_size (by repeat (first | (with_reducible first | exact HB.out | apply below_alloc | apply pw_below_drewN | apply below_drew1) | exact HB.out))) : w.heap.size ≤ gb433)); have n3_ := Aside0.mk ((by rw [hg]; exact (below_size (by repeat (first | (with_reducible first | exact HB.out | apply below_alloc | apply pw_below_drewN | apply below_drew1) | exact HB.out))) : w.heap.size ≤ gb433)); clear HB; have HB := n0_; have BK433 := n1_; have GW433 := n2_; have GE433 := n3_; clear n0_ n1_ n2_ n3_; clear hb hbox hg; obtain ⟨hcz5_0, hcz5_1, hfz5_0, hfz5_1⟩ := bs2_ BK433) | ((with_reducible refine gate_callee (f := 81) rfl ?_); refine gl_ (some 7) Try.func81 #[.slice A0 l0.length c0, .agg #[.string a1_0, .int .i64 a1_1]] ?_; (with_reducible refine (api_On_81.calls k _ _ l0 a1_0 a1_1 t434 _ ?side1 ?side2 A3.out).mono ?_); (case side1 => exact kc_ HR0 HB); (case side2 => exact HC0.out); rintro e w6 ⟨rfl, hb⟩; refine ⟨_, rfl, ?_⟩; have n0_ := bb_ BK433 hb; have n1_ := hb_ HB hb; clear BK433; clear HB; have BK433 := n0_; have HB := n1_; clear n0_ n1_; (try clear hb); (try clear hb2); (try clear hk); (try clear hi)))
 go_ret
 exact ⟨er_, hf_⟩
end Go.Proofs.Ytchellnfenekaaa.Pm
end
section
namespace Go.Proofs.Ytchellnfenekaaa.Pm
open Go.RowKit Go.Proofs.YtchellnfenekaaaW.PrintWords Go.Proofs.YtchellnfenekaaaW.PrintLast Go.Proofs.YtchellnfenekaaaW.PrintMore
attribute [local go_sem] max2_int min2_int max_two min_two max_three min_three max_four min_four   -- for this text's walks alone
set_option linter.unusedVariables false
set_option linter.unusedSimpArgs false
def slices_Index_string_string.l0 : Nat → List ByteArray → ByteArray → Int → Int → Option (Int)
 | 0, _, _, _, _ => none
 | k + 1, x0, x1, x7, x8 => if x8 < x7 then (if 0 ≤ x8 then (if x8 < (x0.length : Int) then (if x1.toList = (rdOf ByteArray.empty x0 x8).toList then (some x8) else (slices_Index_string_string.l0 k x0 x1 x7 (wrap64 (x8 + 1)))) else (none)) else (none)) else (some (-1))
def slices_Index_string_string.f (k : Nat) (l0 : List ByteArray) (a1 : ByteArray) : Option (Int) := slices_Index_string_string.l0 k l0 a1 (l0.length : Int) 0
theorem slices_Index_string_string.mono_l : ∀ k, (∀ y0 y1 y2 y3, LeO (slices_Index_string_string.l0 k y0 y1 y2 y3) (slices_Index_string_string.l0 (k + 1) y0 y1 y2 y3))
 | 0 => fun _ _ _ _ r h => by simp [slices_Index_string_string.l0] at h
 | k + 1 => by
  have ih0 := slices_Index_string_string.mono_l k
  ·intro y0 y1 y2 y3
   unfold slices_Index_string_string.l0
   repeat' first
   | (with_reducible exact ih0 _ _ _ _)
   | (with_reducible exact LeO.refl _)
   | (with_reducible exact LeO.none _)
   | (with_reducible refine LeO.ite ?_ ?_)
   | (with_reducible refine LeO.bind ?_ (fun _ => ?_))
   | exact ih0 _ _ _ _
   | exact LeO.none _
   | refine LeO.ite ?_ ?_
   | refine LeO.bind ?_ (fun _ => ?_)
theorem slices_Index_string_string.mono : ∀ a0 a1 k, LeO (slices_Index_string_string.f k a0 a1) (slices_Index_string_string.f (k + 1) a0 a1) := by
 intro a0 a1 k
 have ih0 := slices_Index_string_string.mono_l k
 unfold slices_Index_string_string.f
 repeat' first
   | (with_reducible exact ih0 _ _ _ _)
   | (with_reducible exact LeO.refl _)
   | (with_reducible exact LeO.none _)
   | (with_reducible refine LeO.ite ?_ ?_)
   | (with_reducible refine LeO.bind ?_ (fun _ => ?_))
   | exact ih0 _ _ _ _
   | exact LeO.none _
   | refine LeO.ite ?_ ?_
   | refine LeO.bind ?_ (fun _ => ?_)
set_option maxHeartbeats 8000000 in
set_option maxRecDepth 100000 in
theorem slices_Index_string_string.calls (k : Nat) (A0 : Option Addr) (c0 : Nat) (l0 : List ByteArray) (a1 : ByteArray) (r : Int) (w : World) (hr0 : Kd.C Kd.string w A0 l0.length l0) (hc0 : l0.length ≤ c0) (h : slices_Index_string_string.f k l0 a1 = some r) :
  Calls Try.prog 57 #[.slice A0 l0.length c0, .string a1] w fun e w' => e = .returned (.int .i64 r) ∧ Drawn0 w w' := by
 have HR0 := Aside0.mk hr0
 have HC0 := Aside0.mk hc0
 clear hr0 hc0
 have H : (slices_Index_string_string.l0 k l0 a1 (l0.length : Int) 0) = some r := h
 clear h
 have H' := Aside0.mk H
 clear H
 go_enter Try.func57, Try.ntmps57
 go_wp2
 go_loopg [8] k (fun kq v8 w' => ∃ (x8_1 : Int), v8 = .int .i64 x8_1 ∧ Aside0 (slices_Index_string_string.l0 kq l0 a1 (l0.length : Int) x8_1 = some r) ∧ Aside0 (kq ≤ k) ∧ Drawn0 w w')
 case atStart => exact ⟨(0), (by first | rfl | (simp; done) | (simp [*]; done)), H', ⟨Nat.le_refl _⟩, by repeat (first | exact Drawn0.refl _ | apply Drawn0.step)⟩
 case round =>
  clear H'
  try clear p2
  obtain ⟨x8_1, rfl, HA, HK1, ⟨m1, rfl⟩⟩ := hrel
  cases gk with
  | zero => exact absurd HA.out (by simp [slices_Index_string_string.l0])
  | succ k1 =>
   have H := HA.out
   clear HA
   simp only [slices_Index_string_string.l0] at H
   by_cases c3 : x8_1 < (l0.length : Int)
   ·rw [if_pos c3] at H
    have c3b0 : decide (x8_1 < (l0.length : Int)) = true := decide_eq_true c3
    clear c3
    by_cases c4 : 0 ≤ x8_1
    ·rw [if_pos c4] at H
     have c4b0 : decide (0 ≤ x8_1) = true := decide_eq_true c4
     clear c4
     by_cases c5 : x8_1 < (l0.length : Int)
     ·rw [if_pos c5] at H
      have c5b0 : decide (x8_1 < (l0.length : Int)) = true := decide_eq_true c5
      clear c5
      by_cases c6 : a1.toList = (rdOf ByteArray.empty l0 x8_1).toList
      ·rw [if_pos c6] at H
       have c6b0 : (a1.toList == (rdOf ByteArray.empty l0 x8_1).toList) = true := beq_iff_eq.mpr c6
       have c6b1 : (a1.toList != (rdOf ByteArray.empty l0 x8_1).toList) = false := bne_eq_false_iff_eq.mpr c6
       clear c6
       obtain rfl := Option.some.inj H
       have p102 : 0 ≤ (x8_1 : Int) := od_
       have q102 : x8_1 < (l0.length : Int) := od_
       obtain ⟨ad102, e102, hx102_0⟩ := Kd.at_string HR0.out x8_1 p102 q102
       cases e102
       replace p102 := eq_true p102
       replace q102 := eq_true q102
       go_wp2
       go_ret
       exact ⟨by first | rfl | (simp; done) | (simp [*]; done), by repeat (first | exact Drawn0.refl _ | apply Drawn0.step)⟩
      ·rw [if_neg c6] at H
       have c6b0 : (a1.toList == (rdOf ByteArray.empty l0 x8_1).toList) = false := beq_eq_false_iff_ne.mpr c6
       have c6b1 : (a1.toList != (rdOf ByteArray.empty l0 x8_1).toList) = true := bne_iff_ne.mpr c6
       have H' := Aside0.mk H
       clear H
       have p102 : 0 ≤ (x8_1 : Int) := od_
       have q102 : x8_1 < (l0.length : Int) := od_
       obtain ⟨ad102, e102, hx102_0⟩ := Kd.at_string HR0.out x8_1 p102 q102
       cases e102
       replace p102 := eq_true p102
       replace q102 := eq_true q102
       go_wp2
       go_roundg k1
       case measure => have := HK1.out; omega
       case rel => exact ⟨(wrap64 (x8_1 + 1)), (by first | rfl | (simp; done) | (simp [*]; done)), H', ⟨by have := HK1.out; omega⟩, by repeat (first | exact Drawn0.refl _ | apply Drawn0.step)⟩
     ·rw [if_neg c5] at H
      exact absurd H (by simp)
    ·rw [if_neg c4] at H
     exact absurd H (by simp)
   ·rw [if_neg c3] at H
    have c3b0 : decide (x8_1 < (l0.length : Int)) = false := decide_eq_false c3
    clear c3
    obtain rfl := Option.some.inj H
    go_wp2
    go_ret
    exact ⟨by first | rfl | (simp; done) | (simp [*]; done), by repeat (first | exact Drawn0.refl _ | apply Drawn0.step)⟩
end Go.Proofs.Ytchellnfenekaaa.Pm
end
section
namespace Go.Proofs.Ytchellnfenekaaa.Pm
open Go.RowKit Go.Proofs.YtchellnfenekaaaW.PrintWords Go.Proofs.YtchellnfenekaaaW.PrintLast Go.Proofs.YtchellnfenekaaaW.PrintMore
attribute [local go_sem] max2_int min2_int max_two min_two max_three min_three max_four min_four   -- for this text's walks alone
set_option linter.unusedVariables false
set_option linter.unusedSimpArgs false
def slices_Contains_string_string.f (k : Nat) (l0 : List ByteArray) (a1 : ByteArray) : Option (Bool) := (slices_Index_string_string.f k l0 a1).bind fun t103 => (some (decide (t103 ≥ 0)))
theorem slices_Contains_string_string.mono : ∀ a0 a1 k, LeO (slices_Contains_string_string.f k a0 a1) (slices_Contains_string_string.f (k + 1) a0 a1) := by
 intro a0 a1 k
 unfold slices_Contains_string_string.f
 repeat' first
   | (with_reducible exact slices_Index_string_string.mono _ _ _)
   | (with_reducible exact LeO.refl _)
   | (with_reducible exact LeO.none _)
   | (with_reducible refine LeO.ite ?_ ?_)
   | (with_reducible refine LeO.bind ?_ (fun _ => ?_))
   | exact slices_Index_string_string.mono _ _ _
   | exact LeO.none _
   | refine LeO.ite ?_ ?_
   | refine LeO.bind ?_ (fun _ => ?_)
set_option maxHeartbeats 8000000 in
set_option maxRecDepth 100000 in
theorem slices_Contains_string_string.calls (k : Nat) (A0 : Option Addr) (c0 : Nat) (l0 : List ByteArray) (a1 : ByteArray) (r : Bool) (w : World) (hr0 : Kd.C Kd.string w A0 l0.length l0) (hc0 : l0.length ≤ c0) (h : slices_Contains_string_string.f k l0 a1 = some r) :
  Calls Try.prog 56 #[.slice A0 l0.length c0, .string a1] w fun e w' => e = .returned (.bool r) ∧ Drawn0 w w' := by
 have HR0 := Aside0.mk hr0
 have HC0 := Aside0.mk hc0
 clear hr0 hc0
 have H : ((slices_Index_string_string.f k l0 a1).bind fun t103 => (some (decide (t103 ≥ 0)))) = some r := h
 clear h
 replace H := Option.bind_eq_some_iff.mp H
 obtain ⟨t103, A30, H⟩ := H
 replace H : (some (decide (t103 ≥ 0))) = some r := H
 have A3 := Aside0.mk A30
 clear A30
 obtain rfl := Option.some.inj H
 go_enter Try.func56, Try.ntmps56
 go_wp2_with (first | ((with_reducible refine gate_callee (f := 57) rfl ?_); refine gl_ (some 7) Try.func57 #[.slice A0 l0.length c0, .string a1] ?_; (with_reducible refine (slices_Index_string_string.calls k _ _ l0 a1 t103 _ ?side1 ?side2 A3.out).mono ?_); (case side1 => repeat (first | exact HR0.out | (with_reducible refine Kd.C_alloc ?_ _) | (with_reducible refine Kd.C_drewN ?_ _) | (with_reducible refine Kd.C_drew ?_))); (case side2 => exact HC0.out); rintro e w' ⟨rfl, ⟨nd, rfl⟩⟩; refine ⟨_, rfl, ?_⟩))
 go_ret
 exact ⟨by first | rfl | (simp; done) | (simp [*]; done), by repeat (first | exact Drawn0.refl _ | apply Drawn0.step)⟩
end Go.Proofs.Ytchellnfenekaaa.Pm
end
section
namespace Go.Proofs.Ytchellnfenekaaa.Pm
open Go.RowKit Go.Proofs.YtchellnfenekaaaW.PrintWords Go.Proofs.YtchellnfenekaaaW.PrintLast Go.Proofs.YtchellnfenekaaaW.PrintMore
attribute [local go_sem] max2_int min2_int max_two min_two max_three min_three max_four min_four   -- for this text's walks alone
set_option linter.unusedVariables false
set_option linter.unusedSimpArgs false
def model_isIf.f (k : Nat) (l0_0 : List ByteArray) (l0_1 : List (S32)) (a1_0 : ByteArray) (a1_1 : ByteArray) (a1_2 : Int) : Option (Bool) := (slices_Contains_string_string.f k (([(⟨#[60]⟩ : ByteArray), (⟨#[60, 61]⟩ : ByteArray), (⟨#[61]⟩ : ByteArray), (⟨#[33, 61]⟩ : ByteArray), (⟨#[62, 61]⟩ : ByteArray), (⟨#[62]⟩ : ByteArray)] : List ByteArray)) a1_1).bind fun t420 => (if t420 = true then ((slices_Contains_string_string.f k l0_0 a1_0).bind fun t421 => (if t421 = true then (if a1_2 ≥ (-1000000) then (some (decide (a1_2 ≤ 1000000))) else (some false)) else (some false))) else (some false))
theorem model_isIf.mono : ∀ a0 a1 a2 a3 a4 k, LeO (model_isIf.f k a0 a1 a2 a3 a4) (model_isIf.f (k + 1) a0 a1 a2 a3 a4) := by
 intro a0 a1 a2 a3 a4 k
 unfold model_isIf.f
 repeat' first
   | (with_reducible exact slices_Contains_string_string.mono _ _ _)
   | (with_reducible exact LeO.refl _)
   | (with_reducible exact LeO.none _)
   | (with_reducible refine LeO.ite ?_ ?_)
   | (with_reducible refine LeO.bind ?_ (fun _ => ?_))
   | exact slices_Contains_string_string.mono _ _ _
   | exact LeO.none _
   | refine LeO.ite ?_ ?_
   | refine LeO.bind ?_ (fun _ => ?_)
set_option maxHeartbeats 8000000 in
set_option maxRecDepth 100000 in
theorem model_isIf.calls (k : Nat) (A0_0 : Option Addr) (c0_0 : Nat) (l0_0 : List ByteArray) (A0_1 : Option Addr) (c0_1 : Nat) (l0_1 : List (S32)) (a1_0 : ByteArray) (a1_1 : ByteArray) (a1_2 : Int) (r : Bool) (w : World) (hr0_0 : Kd.C Kd.string w A0_0 l0_0.length l0_0) (hc0_0 : l0_0.length ≤ c0_0) (hr0_1 : Kd.C k32 w A0_1 l0_1.length l0_1) (hc0_1 : l0_1.length ≤ c0_1) (h : model_isIf.f k l0_0 l0_1 a1_0 a1_1 a1_2 = some r) :
  Calls Try.prog 80 #[.agg #[.slice A0_0 l0_0.length c0_0, .slice A0_1 l0_1.length c0_1], .agg #[.string a1_0, .string a1_1, .int .i64 a1_2]] w fun e w' => e = .returned (.bool r) ∧ Below w.heap.size w w' := by
 have hu36 := Try.underlying36
 have hu25 := Try.underlying25
 have HR0_0 := Aside0.mk hr0_0
 have HC0_0 := Aside0.mk hc0_0
 clear hr0_0 hc0_0
 have HR0_1 := Aside0.mk hr0_1
 have HC0_1 := Aside0.mk hc0_1
 clear hr0_1 hc0_1
 have HB := Aside0.mk (Below.refl w.heap.size w)
 have H : ((slices_Contains_string_string.f k (([(⟨#[60]⟩ : ByteArray), (⟨#[60, 61]⟩ : ByteArray), (⟨#[61]⟩ : ByteArray), (⟨#[33, 61]⟩ : ByteArray), (⟨#[62, 61]⟩ : ByteArray), (⟨#[62]⟩ : ByteArray)] : List ByteArray)) a1_1).bind fun t420 => (if t420 = true then ((slices_Contains_string_string.f k l0_0 a1_0).bind fun t421 => (if t421 = true then (if a1_2 ≥ (-1000000) then (some (decide (a1_2 ≤ 1000000))) else (some false)) else (some false))) else (some false))) = some r := h
 clear h
 obtain ⟨y417, hy417⟩ : ∃ y_ : List ByteArray, y_ = (([(⟨#[60]⟩ : ByteArray), (⟨#[60, 61]⟩ : ByteArray), (⟨#[61]⟩ : ByteArray), (⟨#[33, 61]⟩ : ByteArray), (⟨#[62, 61]⟩ : ByteArray), (⟨#[62]⟩ : ByteArray)] : List ByteArray)) := ⟨_, rfl⟩
 replace H : ((slices_Contains_string_string.f k y417 a1_1).bind fun t420 => (if t420 = true then ((slices_Contains_string_string.f k l0_0 a1_0).bind fun t421 => (if t421 = true then (if a1_2 ≥ (-1000000) then (some (decide (a1_2 ≤ 1000000))) else (some false)) else (some false))) else (some false))) = some r := by first | (rw [hy417]; with_reducible exact H) | (have H2_ := (Option.bind_some _ _).symm.trans H; rw [hy417]; with_reducible exact H2_) | (have H2_ := (Option.bind_some _ _).symm.trans H; with_reducible exact H2_) | with_reducible exact H | (rw [hy417]; exact H) | exact H
 have Ny417 := Aside0.mk hy417
 clear hy417
 replace H := Option.bind_eq_some_iff.mp H
 obtain ⟨t420, A30, H⟩ := H
 replace H : (if t420 = true then ((slices_Contains_string_string.f k l0_0 a1_0).bind fun t421 => (if t421 = true then (if a1_2 ≥ (-1000000) then (some (decide (a1_2 ≤ 1000000))) else (some false)) else (some false))) else (some false)) = some r := H
 have A3 := Aside0.mk A30
 clear A30
 by_cases c4 : t420 = true
 ·subst c4
  have H1 : ((slices_Contains_string_string.f k l0_0 a1_0).bind fun t421 => (if t421 = true then (if a1_2 ≥ (-1000000) then (some (decide (a1_2 ≤ 1000000))) else (some false)) else (some false))) = some r := by rw [if_pos rfl] at H; exact H
  clear H
  have H := H1
  clear H1
  replace H := Option.bind_eq_some_iff.mp H
  obtain ⟨t421, A50, H⟩ := H
  replace H : (if t421 = true then (if a1_2 ≥ (-1000000) then (some (decide (a1_2 ≤ 1000000))) else (some false)) else (some false)) = some r := H
  have A5 := Aside0.mk A50
  clear A50
  by_cases c6 : t421 = true
  ·subst c6
   have H1 : (if a1_2 ≥ (-1000000) then (some (decide (a1_2 ≤ 1000000))) else (some false)) = some r := by rw [if_pos rfl] at H; exact H
   clear H
   have H := H1
   clear H1
   by_cases c7 : a1_2 ≥ (-1000000)
   ·rw [if_pos c7] at H
    have c7b0 : decide ((-1000000) ≤ a1_2) = true := decide_eq_true c7
    clear c7
    obtain rfl := Option.some.inj H
    go_enter Try.func80, Try.ntmps80
    go_wp2_with (first | ((with_reducible refine gate_dst (N := 2) rfl ?_); refine box_event ?hg (N := 2) ?hd (cs := #[.slice A0_0 l0_0.length c0_0, .slice A0_1 l0_1.length c0_1]) (t := 36) ?hr ?_; (case hd => rfl); (case hg => rfl); (case hr => first | (go_simp; done) | (go_simp; rfl)); intro gb415 hg w8 hbox hb; have n0_ := hb_ HB hb; have n1_ := Aside0.mk (hbox); have n2_ := Aside0.mk ((by rw [hg]; exact (below_size (by repeat (first | (with_reducible first | exact HB.out | apply below_alloc | apply pw_below_drewN | apply below_drew1) | exact HB.out))) : w.heap.size ≤ gb415)); have n3_ := Aside0.mk ((by rw [hg]; exact (below_size (by repeat (first | (with_reducible first | exact HB.out | apply below_alloc | apply pw_below_drewN | apply below_drew1) | exact HB.out))) : w.heap.size ≤ gb415)); clear HB; have HB := n0_; have BK415 := n1_; have GW415 := n2_; have GE415 := n3_; clear n0_ n1_ n2_ n3_; clear hb hbox hg) | ((with_reducible refine gate_dst (N := 3) rfl ?_); refine box_event ?hg (N := 3) ?hd (cs := #[.string a1_0, .string a1_1, .int .i64 a1_2]) (t := 25) ?hr ?_; (case hd => rfl); (case hg => rfl); (case hr => first | (go_simp; done) | (go_simp; rfl)); intro gb416 hg w9 hbox hb; have n0_ := bb_ BK415 hb; have n1_ := hb_ HB hb; have n2_ := Aside0.mk (hbox); have n3_ := Aside0.mk ((by rw [hg]; exact (below_size (by repeat (first | (with_reducible first | exact HB.out | apply below_alloc | apply pw_below_drewN | apply below_drew1 | refine below_set ?_ GE415.out) | exact HB.out))) : w.heap.size ≤ gb416)); have n4_ := Aside0.mk ((by rw [hg]; exact (below_size (by repeat (first | (with_reducible first | exact HB.out | apply below_alloc | apply pw_below_drewN | apply below_drew1 | refine below_set ?_ GE415.out) | exact HB.out))) : w.heap.size ≤ gb416)); have n5_ := Aside0.mk ((by rw [hg]; exact Nat.ne_of_lt (blk_lt (g := gb415) (o := .cells #[.slice A0_0 l0_0.length c0_0, .slice A0_1 l0_1.length c0_1] 36 (0, 0)) (by (with_reducible repeat (first | refine blk_drewN ?_ _ | refine blk_drew ?_ | refine blk_alloc ?_ _)); exact BK415.out)) : gb415 ≠ gb416)); have n6_ := Aside0.mk ((by rw [hg]; exact Nat.ne_of_gt (blk_lt (g := gb415) (o := .cells #[.slice A0_0 l0_0.length c0_0, .slice A0_1 l0_1.length c0_1] 36 (0, 0)) (by (with_reducible repeat (first | refine blk_drewN ?_ _ | refine blk_drew ?_ | refine blk_alloc ?_ _)); exact BK415.out)) : gb416 ≠ gb415)); clear BK415; clear HB; have BK415 := n0_; have HB := n1_; have BK416 := n2_; have GW416 := n3_; have GE416 := n4_; have NB415_416 := n5_; have NB416_415 := n6_; clear n0_ n1_ n2_ n3_ n4_ n5_ n6_; clear hb hbox hg) | ((with_reducible refine gate_dst (N := 6) rfl ?_); refine Kd.R_lit Kd.string _ 9 ?hg (N := 6) ?hd (xs := ([(⟨#[60]⟩ : ByteArray), (⟨#[60, 61]⟩ : ByteArray), (⟨#[61]⟩ : ByteArray), (⟨#[33, 61]⟩ : ByteArray), (⟨#[62, 61]⟩ : ByteArray), (⟨#[62]⟩ : ByteArray)] : List ByteArray)) (inner := [.string (⟨#[60]⟩ : ByteArray), .string (⟨#[60, 61]⟩ : ByteArray), .string (⟨#[61]⟩ : ByteArray), .string (⟨#[33, 61]⟩ : ByteArray), .string (⟨#[62, 61]⟩ : ByteArray), .string (⟨#[62]⟩ : ByteArray)]) (ok := fun _ => True) (okp := fun _ => True) ?hr ?hp (fun _ hk => hk) trivial (Below.refl _ _) (Nat.le_refl _) (by simp) ?_; (case hd => rfl); (case hg => rfl); (case hr => first | (go_simp; done) | (go_simp; rfl)); (case hp => exact (Reps.one (show Kd.M Kd.string _ _ _ (⟨#[60]⟩ : ByteArray) [.string (⟨#[60]⟩ : ByteArray)] from rfl) (Reps.one (show Kd.M Kd.string _ _ _ (⟨#[60, 61]⟩ : ByteArray) [.string (⟨#[60, 61]⟩ : ByteArray)] from rfl) (Reps.one (show Kd.M Kd.string _ _ _ (⟨#[61]⟩ : ByteArray) [.string (⟨#[61]⟩ : ByteArray)] from rfl) (Reps.one (show Kd.M Kd.string _ _ _ (⟨#[33, 61]⟩ : ByteArray) [.string (⟨#[33, 61]⟩ : ByteArray)] from rfl) (Reps.one (show Kd.M Kd.string _ _ _ (⟨#[62, 61]⟩ : ByteArray) [.string (⟨#[62, 61]⟩ : ByteArray)] from rfl) (Reps.one (show Kd.M Kd.string _ _ _ (⟨#[62]⟩ : ByteArray) [.string (⟨#[62]⟩ : ByteArray)] from rfl) (Reps.none _ _)))))))); intro v418 w10 ho11 hb hg_ hnew_; clear hg_ hnew_; (first | rw [← Ny417.out] at ho11 | (simp only [Int.reduceToNat] at ho11; rw [← Ny417.out] at ho11)); have n0_ := Aside0.mk (Kd.R_lower ho11 (below_size (by repeat (first | (with_reducible first | exact HB.out | apply below_alloc | apply pw_below_drewN | apply below_drew1 | refine below_set ?_ GE415.out | refine below_set ?_ GE416.out) | exact HB.out)))); have n1_ := bb_ BK415 hb; have n2_ := bb_ BK416 hb; have n3_ := hb_ HB hb; clear BK415; clear BK416; clear HB; have HO419 := n0_; have BK415 := n1_; have BK416 := n2_; have HB := n3_; clear n0_ n1_ n2_ n3_; clear hb ho11; have hnb12 := NB416_415.out; have hnc12 := NB415_416.out; obtain ⟨hcz13_0, hcz13_1, hcz13_2, hfz13_0, hfz13_1, hfz13_2⟩ := bs3_ BK416; obtain ⟨Ao14, co14, eo14⟩ := Kd.R_slice HO419.out; subst eo14) | ((with_reducible refine gate_callee (f := 56) rfl ?_); refine gl_ (some 9) Try.func56 #[.slice Ao14 y417.length co14, .string a1_1] ?_; (with_reducible refine (slices_Contains_string_string.calls k _ _ y417 a1_1 true _ ?side1 ?side2 A3.out).mono ?_); (case side1 => repeat (first | exact (Kd.R_reads' HO419.out).2.2 | (with_reducible refine Kd.C_alloc ?_ _) | (with_reducible refine Kd.C_drewN ?_ _) | (with_reducible refine Kd.C_drew ?_))); (case side2 => exact (Kd.R_reads' HO419.out).2.1); rintro e w' ⟨rfl, ⟨nd, rfl⟩⟩; refine ⟨_, rfl, ?_⟩; obtain ⟨hcz15_0, hcz15_1, hfz15_0, hfz15_1⟩ := bs2_ BK415) | (go_at_call 56; (with_reducible refine (slices_Contains_string_string.calls k _ _ l0_0 a1_0 true _ ?side1 ?side2 A5.out).mono ?_); (case side1 => repeat (first | exact (Kd.C_below HR0_0.out (by repeat (first | (with_reducible first | exact HB.out | apply below_alloc | apply pw_below_drewN | apply below_drew1 | refine below_set ?_ GE415.out | refine below_set ?_ GE416.out) | exact HB.out))) | (with_reducible refine Kd.C_alloc ?_ _) | (with_reducible refine Kd.C_drewN ?_ _) | (with_reducible refine Kd.C_drew ?_))); (case side2 => exact HC0_0.out); rintro e w' ⟨rfl, ⟨nd, rfl⟩⟩))
    go_ret
    exact ⟨er_, hf_⟩
   ·rw [if_neg c7] at H
    have c7b0 : decide ((-1000000) ≤ a1_2) = false := decide_eq_false c7
    clear c7
    obtain rfl := Option.some.inj H
    go_enter Try.func80, Try.ntmps80
    go_wp2_with (first | ((with_reducible refine gate_dst (N := 2) rfl ?_); refine box_event ?hg (N := 2) ?hd (cs := #[.slice A0_0 l0_0.length c0_0, .slice A0_1 l0_1.length c0_1]) (t := 36) ?hr ?_; (case hd => rfl); (case hg => rfl); (case hr => first | (go_simp; done) | (go_simp; rfl)); intro gb415 hg w16 hbox hb; have n0_ := hb_ HB hb; have n1_ := Aside0.mk (hbox); have n2_ := Aside0.mk ((by rw [hg]; exact (below_size (by repeat (first | (with_reducible first | exact HB.out | apply below_alloc | apply pw_below_drewN | apply below_drew1) | exact HB.out))) : w.heap.size ≤ gb415)); have n3_ := Aside0.mk ((by rw [hg]; exact (below_size (by repeat (first | (with_reducible first | exact HB.out | apply below_alloc | apply pw_below_drewN | apply below_drew1) | exact HB.out))) : w.heap.size ≤ gb415)); clear HB; have HB := n0_; have BK415 := n1_; have GW415 := n2_; have GE415 := n3_; clear n0_ n1_ n2_ n3_; clear hb hbox hg) | ((with_reducible refine gate_dst (N := 3) rfl ?_); refine box_event ?hg (N := 3) ?hd (cs := #[.string a1_0, .string a1_1, .int .i64 a1_2]) (t := 25) ?hr ?_; (case hd => rfl); (case hg => rfl); (case hr => first | (go_simp; done) | (go_simp; rfl)); intro gb416 hg w17 hbox hb; have n0_ := bb_ BK415 hb; have n1_ := hb_ HB hb; have n2_ := Aside0.mk (hbox); have n3_ := Aside0.mk ((by rw [hg]; exact (below_size (by repeat (first | (with_reducible first | exact HB.out | apply below_alloc | apply pw_below_drewN | apply below_drew1 | refine below_set ?_ GE415.out) | exact HB.out))) : w.heap.size ≤ gb416)); have n4_ := Aside0.mk ((by rw [hg]; exact (below_size (by repeat (first | (with_reducible first | exact HB.out | apply below_alloc | apply pw_below_drewN | apply below_drew1 | refine below_set ?_ GE415.out) | exact HB.out))) : w.heap.size ≤ gb416)); have n5_ := Aside0.mk ((by rw [hg]; exact Nat.ne_of_lt (blk_lt (g := gb415) (o := .cells #[.slice A0_0 l0_0.length c0_0, .slice A0_1 l0_1.length c0_1] 36 (0, 0)) (by (with_reducible repeat (first | refine blk_drewN ?_ _ | refine blk_drew ?_ | refine blk_alloc ?_ _)); exact BK415.out)) : gb415 ≠ gb416)); have n6_ := Aside0.mk ((by rw [hg]; exact Nat.ne_of_gt (blk_lt (g := gb415) (o := .cells #[.slice A0_0 l0_0.length c0_0, .slice A0_1 l0_1.length c0_1] 36 (0, 0)) (by (with_reducible repeat (first | refine blk_drewN ?_ _ | refine blk_drew ?_ | refine blk_alloc ?_ _)); exact BK415.out)) : gb416 ≠ gb415)); clear BK415; clear HB; have BK415 := n0_; have HB := n1_; have BK416 := n2_; have GW416 := n3_; have GE416 := n4_; have NB415_416 := n5_; have NB416_415 := n6_; clear n0_ n1_ n2_ n3_ n4_ n5_ n6_; clear hb hbox hg) | ((with_reducible refine gate_dst (N := 6) rfl ?_); refine Kd.R_lit Kd.string _ 9 ?hg (N := 6) ?hd (xs := ([(⟨#[60]⟩ : ByteArray), (⟨#[60, 61]⟩ : ByteArray), (⟨#[61]⟩ : ByteArray), (⟨#[33, 61]⟩ : ByteArray), (⟨#[62, 61]⟩ : ByteArray), (⟨#[62]⟩ : ByteArray)] : List ByteArray)) (inner := [.string (⟨#[60]⟩ : ByteArray), .string (⟨#[60, 61]⟩ : ByteArray), .string (⟨#[61]⟩ : ByteArray), .string (⟨#[33, 61]⟩ : ByteArray), .string (⟨#[62, 61]⟩ : ByteArray), .string (⟨#[62]⟩ : ByteArray)]) (ok := fun _ => True) (okp := fun _ => True) ?hr ?hp (fun _ hk => hk) trivial (Below.refl _ _) (Nat.le_refl _) (by simp) ?_; (case hd => rfl); (case hg => rfl); (case hr => first | (go_simp; done) | (go_simp; rfl)); (case hp => exact (Reps.one (show Kd.M Kd.string _ _ _ (⟨#[60]⟩ : ByteArray) [.string (⟨#[60]⟩ : ByteArray)] from rfl) (Reps.one (show Kd.M Kd.string _ _ _ (⟨#[60, 61]⟩ : ByteArray) [.string (⟨#[60, 61]⟩ : ByteArray)] from rfl) (Reps.one (show Kd.M Kd.string _ _ _ (⟨#[61]⟩ : ByteArray) [.string (⟨#[61]⟩ : ByteArray)] from rfl) (Reps.one (show Kd.M Kd.string _ _ _ (⟨#[33, 61]⟩ : ByteArray) [.string (⟨#[33, 61]⟩ : ByteArray)] from rfl) (Reps.one (show Kd.M Kd.string _ _ _ (⟨#[62, 61]⟩ : ByteArray) [.string (⟨#[62, 61]⟩ : ByteArray)] from rfl) (Reps.one (show Kd.M Kd.string _ _ _ (⟨#[62]⟩ : ByteArray) [.string (⟨#[62]⟩ : ByteArray)] from rfl) (Reps.none _ _)))))))); intro v418 w18 ho19 hb hg_ hnew_; clear hg_ hnew_; (first | rw [← Ny417.out] at ho19 | (simp only [Int.reduceToNat] at ho19; rw [← Ny417.out] at ho19)); have n0_ := Aside0.mk (Kd.R_lower ho19 (below_size (by repeat (first | (with_reducible first | exact HB.out | apply below_alloc | apply pw_below_drewN | apply below_drew1 | refine below_set ?_ GE415.out | refine below_set ?_ GE416.out) | exact HB.out)))); have n1_ := bb_ BK415 hb; have n2_ := bb_ BK416 hb; have n3_ := hb_ HB hb; clear BK415; clear BK416; clear HB; have HO419 := n0_; have BK415 := n1_; have BK416 := n2_; have HB := n3_; clear n0_ n1_ n2_ n3_; clear hb ho19; have hnb20 := NB416_415.out; have hnc20 := NB415_416.out; obtain ⟨hcz21_0, hcz21_1, hcz21_2, hfz21_0, hfz21_1, hfz21_2⟩ := bs3_ BK416; obtain ⟨Ao22, co22, eo22⟩ := Kd.R_slice HO419.out; subst eo22) | ((with_reducible refine gate_callee (f := 56) rfl ?_); refine gl_ (some 9) Try.func56 #[.slice Ao22 y417.length co22, .string a1_1] ?_; (with_reducible refine (slices_Contains_string_string.calls k _ _ y417 a1_1 true _ ?side1 ?side2 A3.out).mono ?_); (case side1 => repeat (first | exact (Kd.R_reads' HO419.out).2.2 | (with_reducible refine Kd.C_alloc ?_ _) | (with_reducible refine Kd.C_drewN ?_ _) | (with_reducible refine Kd.C_drew ?_))); (case side2 => exact (Kd.R_reads' HO419.out).2.1); rintro e w' ⟨rfl, ⟨nd, rfl⟩⟩; refine ⟨_, rfl, ?_⟩; obtain ⟨hcz23_0, hcz23_1, hfz23_0, hfz23_1⟩ := bs2_ BK415) | (go_at_call 56; (with_reducible refine (slices_Contains_string_string.calls k _ _ l0_0 a1_0 true _ ?side1 ?side2 A5.out).mono ?_); (case side1 => repeat (first | exact (Kd.C_below HR0_0.out (by repeat (first | (with_reducible first | exact HB.out | apply below_alloc | apply pw_below_drewN | apply below_drew1 | refine below_set ?_ GE415.out | refine below_set ?_ GE416.out) | exact HB.out))) | (with_reducible refine Kd.C_alloc ?_ _) | (with_reducible refine Kd.C_drewN ?_ _) | (with_reducible refine Kd.C_drew ?_))); (case side2 => exact HC0_0.out); rintro e w' ⟨rfl, ⟨nd, rfl⟩⟩))
    go_ret
    exact ⟨er_, hf_⟩
  ·replace c6 := Bool.eq_false_iff.mpr c6
   subst c6
   have H1 : (some false) = some r := by rw [if_neg (show ¬ (false = true) by decide)] at H; exact H
   clear H
   have H := H1
   clear H1
   obtain rfl := Option.some.inj H
   go_enter Try.func80, Try.ntmps80
   go_wp2_with (first | ((with_reducible refine gate_dst (N := 2) rfl ?_); refine box_event ?hg (N := 2) ?hd (cs := #[.slice A0_0 l0_0.length c0_0, .slice A0_1 l0_1.length c0_1]) (t := 36) ?hr ?_; (case hd => rfl); (case hg => rfl); (case hr => first | (go_simp; done) | (go_simp; rfl)); intro gb415 hg w24 hbox hb; have n0_ := hb_ HB hb; have n1_ := Aside0.mk (hbox); have n2_ := Aside0.mk ((by rw [hg]; exact (below_size (by repeat (first | (with_reducible first | exact HB.out | apply below_alloc | apply pw_below_drewN | apply below_drew1) | exact HB.out))) : w.heap.size ≤ gb415)); have n3_ := Aside0.mk ((by rw [hg]; exact (below_size (by repeat (first | (with_reducible first | exact HB.out | apply below_alloc | apply pw_below_drewN | apply below_drew1) | exact HB.out))) : w.heap.size ≤ gb415)); clear HB; have HB := n0_; have BK415 := n1_; have GW415 := n2_; have GE415 := n3_; clear n0_ n1_ n2_ n3_; clear hb hbox hg) | ((with_reducible refine gate_dst (N := 3) rfl ?_); refine box_event ?hg (N := 3) ?hd (cs := #[.string a1_0, .string a1_1, .int .i64 a1_2]) (t := 25) ?hr ?_; (case hd => rfl); (case hg => rfl); (case hr => first | (go_simp; done) | (go_simp; rfl)); intro gb416 hg w25 hbox hb; have n0_ := bb_ BK415 hb; have n1_ := hb_ HB hb; have n2_ := Aside0.mk (hbox); have n3_ := Aside0.mk ((by rw [hg]; exact (below_size (by repeat (first | (with_reducible first | exact HB.out | apply below_alloc | apply pw_below_drewN | apply below_drew1 | refine below_set ?_ GE415.out) | exact HB.out))) : w.heap.size ≤ gb416)); have n4_ := Aside0.mk ((by rw [hg]; exact (below_size (by repeat (first | (with_reducible first | exact HB.out | apply below_alloc | apply pw_below_drewN | apply below_drew1 | refine below_set ?_ GE415.out) | exact HB.out))) : w.heap.size ≤ gb416)); have n5_ := Aside0.mk ((by rw [hg]; exact Nat.ne_of_lt (blk_lt (g := gb415) (o := .cells #[.slice A0_0 l0_0.length c0_0, .slice A0_1 l0_1.length c0_1] 36 (0, 0)) (by (with_reducible repeat (first | refine blk_drewN ?_ _ | refine blk_drew ?_ | refine blk_alloc ?_ _)); exact BK415.out)) : gb415 ≠ gb416)); have n6_ := Aside0.mk ((by rw [hg]; exact Nat.ne_of_gt (blk_lt (g := gb415) (o := .cells #[.slice A0_0 l0_0.length c0_0, .slice A0_1 l0_1.length c0_1] 36 (0, 0)) (by (with_reducible repeat (first | refine blk_drewN ?_ _ | refine blk_drew ?_ | refine blk_alloc ?_ _)); exact BK415.out)) : gb416 ≠ gb415)); clear BK415; clear HB; have BK415 := n0_; have HB := n1_; have BK416 := n2_; have GW416 := n3_; have GE416 := n4_; have NB415_416 := n5_; have NB416_415 := n6_; clear n0_ n1_ n2_ n3_ n4_ n5_ n6_; clear hb hbox hg) | ((with_reducible refine gate_dst (N := 6) rfl ?_); refine Kd.R_lit Kd.string _ 9 ?hg (N := 6) ?hd (xs := ([(⟨#[60]⟩ : ByteArray), (⟨#[60, 61]⟩ : ByteArray), (⟨#[61]⟩ : ByteArray), (⟨#[33, 61]⟩ : ByteArray), (⟨#[62, 61]⟩ : ByteArray), (⟨#[62]⟩ : ByteArray)] : List ByteArray)) (inner := [.string (⟨#[60]⟩ : ByteArray), .string (⟨#[60, 61]⟩ : ByteArray), .string (⟨#[61]⟩ : ByteArray), .string (⟨#[33, 61]⟩ : ByteArray), .string (⟨#[62, 61]⟩ : ByteArray), .string (⟨#[62]⟩ : ByteArray)]) (ok := fun _ => True) (okp := fun _ => True) ?hr ?hp (fun _ hk => hk) trivial (Below.refl _ _) (Nat.le_refl _) (by simp) ?_; (case hd => rfl); (case hg => rfl); (case hr => first | (go_simp; done) | (go_simp; rfl)); (case hp => exact (Reps.one (show Kd.M Kd.string _ _ _ (⟨#[60]⟩ : ByteArray) [.string (⟨#[60]⟩ : ByteArray)] from rfl) (Reps.one (show Kd.M Kd.string _ _ _ (⟨#[60, 61]⟩ : ByteArray) [.string (⟨#[60, 61]⟩ : ByteArray)] from rfl) (Reps.one (show Kd.M Kd.string _ _ _ (⟨#[61]⟩ : ByteArray) [.string (⟨#[61]⟩ : ByteArray)] from rfl) (Reps.one (show Kd.M Kd.string _ _ _ (⟨#[33, 61]⟩ : ByteArray) [.string (⟨#[33, 61]⟩ : ByteArray)] from rfl) (Reps.one (show Kd.M Kd.string _ _ _ (⟨#[62, 61]⟩ : ByteArray) [.string (⟨#[62, 61]⟩ : ByteArray)] from rfl) (Reps.one (show Kd.M Kd.string _ _ _ (⟨#[62]⟩ : ByteArray) [.string (⟨#[62]⟩ : ByteArray)] from rfl) (Reps.none _ _)))))))); intro v418 w26 ho27 hb hg_ hnew_; clear hg_ hnew_; (first | rw [← Ny417.out] at ho27 | (simp only [Int.reduceToNat] at ho27; rw [← Ny417.out] at ho27)); have n0_ := Aside0.mk (Kd.R_lower ho27 (below_size (by repeat (first | (with_reducible first | exact HB.out | apply below_alloc | apply pw_below_drewN | apply below_drew1 | refine below_set ?_ GE415.out | refine below_set ?_ GE416.out) | exact HB.out)))); have n1_ := bb_ BK415 hb; have n2_ := bb_ BK416 hb; have n3_ := hb_ HB hb; clear BK415; clear BK416; clear HB; have HO419 := n0_; have BK415 := n1_; have BK416 := n2_; have HB := n3_; clear n0_ n1_ n2_ n3_; clear hb ho27; have hnb28 := NB416_415.out; have hnc28 := NB415_416.out; obtain ⟨hcz29_0, hcz29_1, hcz29_2, hfz29_0, hfz29_1, hfz29_2⟩ := bs3_ BK416; obtain ⟨Ao30, co30, eo30⟩ := Kd.R_slice HO419.out; subst eo30) | ((with_reducible refine gate_callee (f := 56) rfl ?_); refine gl_ (some 9) Try.func56 #[.slice Ao30 y417.length co30, .string a1_1] ?_; (with_reducible refine (slices_Contains_string_string.calls k _ _ y417 a1_1 true _ ?side1 ?side2 A3.out).mono ?_); (case side1 => repeat (first | exact (Kd.R_reads' HO419.out).2.2 | (with_reducible refine Kd.C_alloc ?_ _) | (with_reducible refine Kd.C_drewN ?_ _) | (with_reducible refine Kd.C_drew ?_))); (case side2 => exact (Kd.R_reads' HO419.out).2.1); rintro e w' ⟨rfl, ⟨nd, rfl⟩⟩; refine ⟨_, rfl, ?_⟩; obtain ⟨hcz31_0, hcz31_1, hfz31_0, hfz31_1⟩ := bs2_ BK415) | (go_at_call 56; (with_reducible refine (slices_Contains_string_string.calls k _ _ l0_0 a1_0 false _ ?side1 ?side2 A5.out).mono ?_); (case side1 => repeat (first | exact (Kd.C_below HR0_0.out (by repeat (first | (with_reducible first | exact HB.out | apply below_alloc | apply pw_below_drewN | apply below_drew1 | refine below_set ?_ GE415.out | refine below_set ?_ GE416.out) | exact HB.out))) | (with_reducible refine Kd.C_alloc ?_ _) | (with_reducible refine Kd.C_drewN ?_ _) | (with_reducible refine Kd.C_drew ?_))); (case side2 => exact HC0_0.out); rintro e w' ⟨rfl, ⟨nd, rfl⟩⟩))
   go_ret
   exact ⟨er_, hf_⟩
 ·replace c4 := Bool.eq_false_iff.mpr c4
  subst c4
  have H1 : (some false) = some r := by rw [if_neg (show ¬ (false = true) by decide)] at H; exact H
  clear H
  have H := H1
  clear H1
  obtain rfl := Option.some.inj H
  go_enter Try.func80, Try.ntmps80
  go_wp2_with (first | ((with_reducible refine gate_dst (N := 2) rfl ?_); refine box_event ?hg (N := 2) ?hd (cs := #[.slice A0_0 l0_0.length c0_0, .slice A0_1 l0_1.length c0_1]) (t := 36) ?hr ?_; (case hd => rfl); (case hg => rfl); (case hr => first | (go_simp; done) | (go_simp; rfl)); intro gb415 hg w32 hbox hb; have n0_ := hb_ HB hb; have n1_ := Aside0.mk (hbox); have n2_ := Aside0.mk ((by rw [hg]; exact (below_size (by repeat (first | (with_reducible first | exact HB.out | apply below_alloc | apply pw_below_drewN | apply below_drew1) | exact HB.out))) : w.heap.size ≤ gb415)); have n3_ := Aside0.mk ((by rw [hg]; exact (below_size (by repeat (first | (with_reducible first | exact HB.out | apply below_alloc | apply pw_below_drewN | apply below_drew1) | exact HB.out))) : w.heap.size ≤ gb415)); clear HB; have HB := n0_; have BK415 := n1_; have GW415 := n2_; have GE415 := n3_; clear n0_ n1_ n2_ n3_; clear hb hbox hg) | ((with_reducible refine gate_dst (N := 3) rfl ?_); refine box_event ?hg (N := 3) ?hd (cs := #[.string a1_0, .string a1_1, .int .i64 a1_2]) (t := 25) ?hr ?_; (case hd => rfl); (case hg => rfl); (case hr => first | (go_simp; done) | (go_simp; rfl)); intro gb416 hg w33 hbox hb; have n0_ := bb_ BK415 hb; have n1_ := hb_ HB hb; have n2_ := Aside0.mk (hbox); have n3_ := Aside0.mk ((by rw [hg]; exact (below_size (by repeat (first | (with_reducible first | exact HB.out | apply below_alloc | apply pw_below_drewN | apply below_drew1 | refine below_set ?_ GE415.out) | exact HB.out))) : w.heap.size ≤ gb416)); have n4_ := Aside0.mk ((by rw [hg]; exact (below_size (by repeat (first | (with_reducible first | exact HB.out | apply below_alloc | apply pw_below_drewN | apply below_drew1 | refine below_set ?_ GE415.out) | exact HB.out))) : w.heap.size ≤ gb416)); have n5_ := Aside0.mk ((by rw [hg]; exact Nat.ne_of_lt (blk_lt (g := gb415) (o := .cells #[.slice A0_0 l0_0.length c0_0, .slice A0_1 l0_1.length c0_1] 36 (0, 0)) (by (with_reducible repeat (first | refine blk_drewN ?_ _ | refine blk_drew ?_ | refine blk_alloc ?_ _)); exact BK415.out)) : gb415 ≠ gb416)); have n6_ := Aside0.mk ((by rw [hg]; exact Nat.ne_of_gt (blk_lt (g := gb415) (o := .cells #[.slice A0_0 l0_0.length c0_0, .slice A0_1 l0_1.length c0_1] 36 (0, 0)) (by (with_reducible repeat (first | refine blk_drewN ?_ _ | refine blk_drew ?_ | refine blk_alloc ?_ _)); exact BK415.out)) : gb416 ≠ gb415)); clear BK415; clear HB; have BK415 := n0_; have HB := n1_; have BK416 := n2_; have GW416 := n3_; have GE416 := n4_; have NB415_416 := n5_; have NB416_415 := n6_; clear n0_ n1_ n2_ n3_ n4_ n5_ n6_; clear hb hbox hg) | ((with_reducible refine gate_dst (N := 6) rfl ?_); refine Kd.R_lit Kd.string _ 9 ?hg (N := 6) ?hd (xs := ([(⟨#[60]⟩ : ByteArray), (⟨#[60, 61]⟩ : ByteArray), (⟨#[61]⟩ : ByteArray), (⟨#[33, 61]⟩ : ByteArray), (⟨#[62, 61]⟩ : ByteArray), (⟨#[62]⟩ : ByteArray)] : List ByteArray)) (inner := [.string (⟨#[60]⟩ : ByteArray), .string (⟨#[60, 61]⟩ : ByteArray), .string (⟨#[61]⟩ : ByteArray), .string (⟨#[33, 61]⟩ : ByteArray), .string (⟨#[62, 61]⟩ : ByteArray), .string (⟨#[62]⟩ : ByteArray)]) (ok := fun _ => True) (okp := fun _ => True) ?hr ?hp (fun _ hk => hk) trivial (Below.refl _ _) (Nat.le_refl _) (by simp) ?_; (case hd => rfl); (case hg => rfl); (case hr => first | (go_simp; done) | (go_simp; rfl)); (case hp => exact (Reps.one (show Kd.M Kd.string _ _ _ (⟨#[60]⟩ : ByteArray) [.string (⟨#[60]⟩ : ByteArray)] from rfl) (Reps.one (show Kd.M Kd.string _ _ _ (⟨#[60, 61]⟩ : ByteArray) [.string (⟨#[60, 61]⟩ : ByteArray)] from rfl) (Reps.one (show Kd.M Kd.string _ _ _ (⟨#[61]⟩ : ByteArray) [.string (⟨#[61]⟩ : ByteArray)] from rfl) (Reps.one (show Kd.M Kd.string _ _ _ (⟨#[33, 61]⟩ : ByteArray) [.string (⟨#[33, 61]⟩ : ByteArray)] from rfl) (Reps.one (show Kd.M Kd.string _ _ _ (⟨#[62, 61]⟩ : ByteArray) [.string (⟨#[62, 61]⟩ : ByteArray)] from rfl) (Reps.one (show Kd.M Kd.string _ _ _ (⟨#[62]⟩ : ByteArray) [.string (⟨#[62]⟩ : ByteArray)] from rfl) (Reps.none _ _)))))))); intro v418 w34 ho35 hb hg_ hnew_; clear hg_ hnew_; (first | rw [← Ny417.out] at ho35 | (simp only [Int.reduceToNat] at ho35; rw [← Ny417.out] at ho35)); have n0_ := Aside0.mk (Kd.R_lower ho35 (below_size (by repeat (first | (with_reducible first | exact HB.out | apply below_alloc | apply pw_below_drewN | apply below_drew1 | refine below_set ?_ GE415.out | refine below_set ?_ GE416.out) | exact HB.out)))); have n1_ := bb_ BK415 hb; have n2_ := bb_ BK416 hb; have n3_ := hb_ HB hb; clear BK415; clear BK416; clear HB; have HO419 := n0_; have BK415 := n1_; have BK416 := n2_; have HB := n3_; clear n0_ n1_ n2_ n3_; clear hb ho35; have hnb36 := NB416_415.out; have hnc36 := NB415_416.out; obtain ⟨hcz37_0, hcz37_1, hcz37_2, hfz37_0, hfz37_1, hfz37_2⟩ := bs3_ BK416; obtain ⟨Ao38, co38, eo38⟩ := Kd.R_slice HO419.out; subst eo38) | ((with_reducible refine gate_callee (f := 56) rfl ?_); refine gl_ (some 9) Try.func56 #[.slice Ao38 y417.length co38, .string a1_1] ?_; (with_reducible refine (slices_Contains_string_string.calls k _ _ y417 a1_1 false _ ?side1 ?side2 A3.out).mono ?_); (case side1 => repeat (first | exact (Kd.R_reads' HO419.out).2.2 | (with_reducible refine Kd.C_alloc ?_ _) | (with_reducible refine Kd.C_drewN ?_ _) | (with_reducible refine Kd.C_drew ?_))); (case side2 => exact (Kd.R_reads' HO419.out).2.1); rintro e w' ⟨rfl, ⟨nd, rfl⟩⟩; refine ⟨_, rfl, ?_⟩))
  go_ret
  exact ⟨er_, hf_⟩
end Go.Proofs.Ytchellnfenekaaa.Pm
end
section
namespace Go.Proofs.Ytchellnfenekaaa.Pm
open Go.RowKit Go.Proofs.YtchellnfenekaaaW.PrintWords Go.Proofs.YtchellnfenekaaaW.PrintLast Go.Proofs.YtchellnfenekaaaW.PrintMore
attribute [local go_sem] max2_int min2_int max_two min_two max_three min_three max_four min_four   -- for this text's walks alone
set_option linter.unusedVariables false
set_option linter.unusedSimpArgs false
mutual
def model_Legal.j0 : Nat → Int → Int → Bool → Option (Bool)
 | 0, _, _, _ => none
 | k + 1, x0, x5, x6 => if x6 = true then (if x0 ≥ 1 then (some (decide (x0 ≤ 5))) else (some false)) else (if x5 = 2 then (model_Legal.j1 k x0 x5 (x5 == 2)) else (model_Legal.j1 k x0 x5 (x5 == 3)))
def model_Legal.j1 : Nat → Int → Int → Bool → Option (Bool)
 | 0, _, _, _ => none
 | k + 1, x0, x5, x15 => if x15 = true then (if x0 = 1 then (some true) else (some (x0 == 2))) else (if x5 = 4 then (if x0 ≥ 3 then (some (decide (x0 ≤ 5))) else (some false)) else (some false))
end
def model_Legal.f (k : Nat) (a0 : Int) (a1 : Int) : Option (Bool) := if a1 = 1 then (model_Legal.j0 k a0 a1 (a1 == 1)) else (model_Legal.j0 k a0 a1 (a1 == 5))
theorem model_Legal.mono_l : ∀ k, (∀ y0 y1 y2, LeO (model_Legal.j0 k y0 y1 y2) (model_Legal.j0 (k + 1) y0 y1 y2)) ∧ (∀ y0 y1 y2, LeO (model_Legal.j1 k y0 y1 y2) (model_Legal.j1 (k + 1) y0 y1 y2))
 | 0 => ⟨fun _ _ _ r h => by simp [model_Legal.j0] at h, fun _ _ _ r h => by simp [model_Legal.j1] at h⟩
 | k + 1 => by
  obtain ⟨ih0, ih1⟩ := model_Legal.mono_l k
  refine ⟨?_, ?_⟩
  intro y0 y1 y2
  unfold model_Legal.j0
  rotate_left
  intro y0 y1 y2
  unfold model_Legal.j1
  rotate_left
  all_goals repeat' first
   | (with_reducible exact ih0 _ _ _)
   | (with_reducible exact ih1 _ _ _)
   | (with_reducible exact LeO.refl _)
   | (with_reducible exact LeO.none _)
   | (with_reducible refine LeO.ite ?_ ?_)
   | (with_reducible refine LeO.bind ?_ (fun _ => ?_))
   | exact ih0 _ _ _
   | exact ih1 _ _ _
   | exact LeO.none _
   | refine LeO.ite ?_ ?_
   | refine LeO.bind ?_ (fun _ => ?_)
theorem model_Legal.mono : ∀ a0 a1 k, LeO (model_Legal.f k a0 a1) (model_Legal.f (k + 1) a0 a1) := by
 intro a0 a1 k
 obtain ⟨ih0, ih1⟩ := model_Legal.mono_l k
 unfold model_Legal.f
 repeat' first
   | (with_reducible exact ih0 _ _ _)
   | (with_reducible exact ih1 _ _ _)
   | (with_reducible exact LeO.refl _)
   | (with_reducible exact LeO.none _)
   | (with_reducible refine LeO.ite ?_ ?_)
   | (with_reducible refine LeO.bind ?_ (fun _ => ?_))
   | exact ih0 _ _ _
   | exact ih1 _ _ _
   | exact LeO.none _
   | refine LeO.ite ?_ ?_
   | refine LeO.bind ?_ (fun _ => ?_)
set_option maxHeartbeats 8000000 in
set_option maxRecDepth 100000 in
theorem model_Legal.calls (k : Nat) (a0 : Int) (a1 : Int) (r : Bool) (w : World) (h : model_Legal.f k a0 a1 = some r) :
  Calls Try.prog 12 #[.int .i64 a0, .int .i64 a1] w fun e w' => e = .returned (.bool r) ∧ Drawn0 w w' := by
 have H : (if a1 = 1 then (model_Legal.j0 k a0 a1 (a1 == 1)) else (model_Legal.j0 k a0 a1 (a1 == 5))) = some r := h
 clear h
 have HC3 := Aside0.mk H
 clear H
 go_enter Try.func12, Try.ntmps12
 go_upto_if 6 with (fail)
 go_cut [6] (fun v6 wc => ∃ (kq : Nat) (x6_2 : Bool), v6 = .bool x6_2 ∧ Aside0 (model_Legal.j0 kq a0 a1 x6_2 = some r) ∧ Aside0 (kq ≤ k) ∧ Drawn0 w wc)
 case first =>
  have H := HC3.out
  clear HC3
  by_cases c4 : a1 = 1
  ·rw [if_pos c4] at H
   have c4b0 : (a1 == 1) = true := beq_iff_eq.mpr c4
   have c4b1 : (a1 != 1) = false := bne_eq_false_iff_eq.mpr c4
   clear c4
   (first | rw [c4b0] | (simp only [i64_w, i32_w]; rw [c4b0]) | skip)
   have H' := Aside0.mk H
   clear H
   go_wp2
   go_meet
   case rel => exact ⟨_, ((a1 == 1)), (by first | rfl | (simp; done) | (simp [*]; done)), H', ⟨by first | omega | exact Nat.le_refl _⟩, by repeat (first | exact Drawn0.refl _ | apply Drawn0.step)⟩
  ·rw [if_neg c4] at H
   have c4b0 : (a1 == 1) = false := beq_eq_false_iff_ne.mpr c4
   have c4b1 : (a1 != 1) = true := bne_iff_ne.mpr c4
   (first | rw [c4b0] | (simp only [i64_w, i32_w]; rw [c4b0]) | skip)
   have H' := Aside0.mk H
   clear H
   go_wp2
   go_meet
   case rel => exact ⟨_, ((a1 == 5)), (by first | rfl | (simp; done) | (simp [*]; done)), H', ⟨by first | omega | exact Nat.le_refl _⟩, by repeat (first | exact Drawn0.refl _ | apply Drawn0.step)⟩
 case rest =>
  clear HC3
  (try clear c1); (try clear p2); (try clear c4); (try clear c4b0); (try clear c4b1)
  obtain ⟨kq, x6_2, rfl, HA, HJ2, ⟨mc2, rfl⟩⟩ := hcut
  cases kq with
  | zero => exact absurd HA.out (by simp [model_Legal.j0])
  | succ kj2 =>
   have H := HA.out
   clear HA
   simp only [model_Legal.j0] at H
   by_cases c5 : x6_2 = true
   ·subst c5
    have H1 : (if a0 ≥ 1 then (some (decide (a0 ≤ 5))) else (some false)) = some r := by rw [if_pos rfl] at H; exact H
    clear H
    have H := H1
    clear H1
    by_cases c6 : a0 ≥ 1
    ·rw [if_pos c6] at H
     have c6b0 : decide (1 ≤ a0) = true := decide_eq_true c6
     clear c6
     obtain rfl := Option.some.inj H
     go_wp2
     go_ret
     exact ⟨by first | rfl | (simp; done) | (simp [*]; done), by repeat (first | exact Drawn0.refl _ | apply Drawn0.step)⟩
    ·rw [if_neg c6] at H
     have c6b0 : decide (1 ≤ a0) = false := decide_eq_false c6
     clear c6
     obtain rfl := Option.some.inj H
     go_wp2
     go_ret
     exact ⟨by first | rfl | (simp; done) | (simp [*]; done), by repeat (first | exact Drawn0.refl _ | apply Drawn0.step)⟩
   ·replace c5 := Bool.eq_false_iff.mpr c5
    subst c5
    have H1 : (if a1 = 2 then (model_Legal.j1 kj2 a0 a1 (a1 == 2)) else (model_Legal.j1 kj2 a0 a1 (a1 == 3))) = some r := by rw [if_neg (show ¬ (false = true) by decide)] at H; exact H
    clear H
    have H := H1
    clear H1
    have HC7 := Aside0.mk H
    clear H
    go_upto_if 15 with (fail)
    go_cut [15] (fun v15 wc => ∃ (kq : Nat) (x15_6 : Bool), v15 = .bool x15_6 ∧ Aside0 (model_Legal.j1 kq a0 a1 x15_6 = some r) ∧ Aside0 (kq ≤ kj2) ∧ Drawn0 w wc)
    case first =>
     have H := HC7.out
     clear HC7
     by_cases c8 : a1 = 2
     ·rw [if_pos c8] at H
      have c8b0 : (a1 == 2) = true := beq_iff_eq.mpr c8
      have c8b1 : (a1 != 2) = false := bne_eq_false_iff_eq.mpr c8
      clear c8
      (first | rw [c8b0] | (simp only [i64_w, i32_w]; rw [c8b0]) | skip)
      have H' := Aside0.mk H
      clear H
      go_wp2
      go_meet
      case rel => exact ⟨_, ((a1 == 2)), (by first | rfl | (simp; done) | (simp [*]; done)), H', ⟨by have := HJ2.out; first | omega | exact Nat.le_refl _⟩, by repeat (first | exact Drawn0.refl _ | apply Drawn0.step)⟩
     ·rw [if_neg c8] at H
      have c8b0 : (a1 == 2) = false := beq_eq_false_iff_ne.mpr c8
      have c8b1 : (a1 != 2) = true := bne_iff_ne.mpr c8
      (first | rw [c8b0] | (simp only [i64_w, i32_w]; rw [c8b0]) | skip)
      have H' := Aside0.mk H
      clear H
      go_wp2
      go_meet
      case rel => exact ⟨_, ((a1 == 3)), (by first | rfl | (simp; done) | (simp [*]; done)), H', ⟨by have := HJ2.out; first | omega | exact Nat.le_refl _⟩, by repeat (first | exact Drawn0.refl _ | apply Drawn0.step)⟩
    case rest =>
     clear HC7
     (try clear c1); (try clear c2); (try clear p2); (try clear c4); (try clear c4b0); (try clear c4b1); (try clear c5); (try clear c6); (try clear c6b0); (try clear c8); (try clear c8b0); (try clear c8b1); (try clear p2)
     obtain ⟨kq, x15_6, rfl, HA, HJ6, ⟨mc6, rfl⟩⟩ := hcut
     cases kq with
     | zero => exact absurd HA.out (by simp [model_Legal.j1])
     | succ kj6 =>
      have H := HA.out
      clear HA
      simp only [model_Legal.j1] at H
      by_cases c9 : x15_6 = true
      ·subst c9
       have H1 : (if a0 = 1 then (some true) else (some (a0 == 2))) = some r := by rw [if_pos rfl] at H; exact H
       clear H
       have H := H1
       clear H1
       by_cases c10 : a0 = 1
       ·rw [if_pos c10] at H
        have c10b0 : (a0 == 1) = true := beq_iff_eq.mpr c10
        have c10b1 : (a0 != 1) = false := bne_eq_false_iff_eq.mpr c10
        clear c10
        obtain rfl := Option.some.inj H
        go_wp2
        go_ret
        exact ⟨by first | rfl | (simp; done) | (simp [*]; done), by repeat (first | exact Drawn0.refl _ | apply Drawn0.step)⟩
       ·rw [if_neg c10] at H
        have c10b0 : (a0 == 1) = false := beq_eq_false_iff_ne.mpr c10
        have c10b1 : (a0 != 1) = true := bne_iff_ne.mpr c10
        obtain rfl := Option.some.inj H
        go_wp2
        go_ret
        exact ⟨by first | rfl | (simp; done) | (simp [*]; done), by repeat (first | exact Drawn0.refl _ | apply Drawn0.step)⟩
      ·replace c9 := Bool.eq_false_iff.mpr c9
       subst c9
       have H1 : (if a1 = 4 then (if a0 ≥ 3 then (some (decide (a0 ≤ 5))) else (some false)) else (some false)) = some r := by rw [if_neg (show ¬ (false = true) by decide)] at H; exact H
       clear H
       have H := H1
       clear H1
       by_cases c11 : a1 = 4
       ·rw [if_pos c11] at H
        have c11b0 : (a1 == 4) = true := beq_iff_eq.mpr c11
        have c11b1 : (a1 != 4) = false := bne_eq_false_iff_eq.mpr c11
        clear c11
        by_cases c12 : a0 ≥ 3
        ·rw [if_pos c12] at H
         have c12b0 : decide (3 ≤ a0) = true := decide_eq_true c12
         clear c12
         obtain rfl := Option.some.inj H
         go_wp2
         go_ret
         exact ⟨by first | rfl | (simp; done) | (simp [*]; done), by repeat (first | exact Drawn0.refl _ | apply Drawn0.step)⟩
        ·rw [if_neg c12] at H
         have c12b0 : decide (3 ≤ a0) = false := decide_eq_false c12
         clear c12
         obtain rfl := Option.some.inj H
         go_wp2
         go_ret
         exact ⟨by first | rfl | (simp; done) | (simp [*]; done), by repeat (first | exact Drawn0.refl _ | apply Drawn0.step)⟩
       ·rw [if_neg c11] at H
        have c11b0 : (a1 == 4) = false := beq_eq_false_iff_ne.mpr c11
        have c11b1 : (a1 != 4) = true := bne_iff_ne.mpr c11
        obtain rfl := Option.some.inj H
        go_wp2
        go_ret
        exact ⟨by first | rfl | (simp; done) | (simp [*]; done), by repeat (first | exact Drawn0.refl _ | apply Drawn0.step)⟩
end Go.Proofs.Ytchellnfenekaaa.Pm
end
section
namespace Go.Proofs.Ytchellnfenekaaa.Pm
open Go.RowKit Go.Proofs.YtchellnfenekaaaW.PrintWords Go.Proofs.YtchellnfenekaaaW.PrintLast Go.Proofs.YtchellnfenekaaaW.PrintMore
attribute [local go_sem] max2_int min2_int max_two min_two max_three min_three max_four min_four   -- for this text's walks alone
set_option linter.unusedVariables false
set_option linter.unusedSimpArgs false
def fidx {α : Type} (p : α → Bool) (l : List α) : Int := match l.findIdx? p with | some i => (i : Int) | none => -1
theorem fidx_hit {α : Type} (p : α → Bool) (l : List α) (k : Nat) (z : α) (hk : k < l.length) (h : p (l.getD k z) = true) (hn : ∀ j, j < k → p (l.getD j z) = false) : fidx p l = k := by
  have e : l.findIdx? p = some k := by
    rw [List.findIdx?_eq_some_iff_getElem]
    refine ⟨hk, ?_, fun j hj => ?_⟩
    · rw [List.getD_eq_getElem?_getD, List.getElem?_eq_getElem hk] at h; exact h
    · have := hn j hj
      rw [List.getD_eq_getElem?_getD, List.getElem?_eq_getElem (by omega)] at this
      simpa using this
  unfold fidx
  rw [e]
theorem fidx_miss {α : Type} (p : α → Bool) (l : List α) (z : α) (hn : ∀ j, j < l.length → p (l.getD j z) = false) : fidx p l = -1 := by
  have e : l.findIdx? p = none := by
    rw [List.findIdx?_eq_none_iff]
    intro x hx
    obtain ⟨j, hj, rfl⟩ := List.getElem_of_mem hx
    have := hn j hj
    rw [List.getD_eq_getElem?_getD, List.getElem?_eq_getElem hj] at this
    simpa using this
  unfold fidx
  rw [e]
theorem fidx_any {α : Type} (p : α → Bool) (l : List α) : decide (fidx p l ≥ 0) = l.any p := by
  unfold fidx
  cases h : l.findIdx? p with
  | none =>
    have := List.findIdx?_eq_none_iff.1 h
    have e : l.any p = false := by rw [List.any_eq_false]; intro x hx; simp [this x hx]
    rw [e]; rfl
  | some i =>
    obtain ⟨hi, hp, _⟩ := List.findIdx?_eq_some_iff_getElem.1 h
    have e : l.any p = true := List.any_eq_true.2 ⟨_, List.getElem_mem hi, hp⟩
    rw [e]; exact decide_eq_true (show (i : Int) ≥ 0 by omega)
/-- What is asked of a predicate on what stands in l. -/
def PaysItem (g : Nat) (lb : Array Value) (p : S32 → Bool) (l : List S32) (w : World) : Prop :=
  ∀ (W : World) (x : S32) (cs : List Value), x ∈ l → Below w.heap.size w W → Kd.K k32 W x cs → Calls Try.prog g (#[.agg cs.toArray] ++ lb) W fun e w' => e = .returned (.bool (p x)) ∧ Below W.heap.size W w'
set_option maxHeartbeats 4000000 in
set_option maxRecDepth 100000 in
theorem idxItem (A : Option Addr) (c : Nat) (l : List S32) (w : World) (hr : Kd.C k32 w A l.length l) (hc : l.length ≤ c) (g : Nat) (lb : Array Value) (eg : ∀ args w, (callFunc g args).run Try.prog w = .ok (.enter g args) w) (p : S32 → Bool) (hp : PaysItem g lb p l w) :
    Calls Try.prog 43 #[.slice A l.length c, .func (.func g) #[] lb] w fun e w' => e = .returned (.int .i64 (fidx p l)) ∧ Below w.heap.size w w' := by
  have HR := Lib.hid hr
  have HP := Lib.hid hp
  clear hr hp
  obtain ⟨n, hn⟩ : ∃ n, n = l.length := ⟨_, rfl⟩
  have HN := Lib.hid hn
  rw [← hn] at hc ⊢
  clear hn
  have hbig : n ≤ 9223372036854775807 := by have := HR.out.2.1; have := HN.out; omega
  go_enter Try.func43, Try.ntmps43
  go_wp2
  go_loopg [5, 8] n (fun gg _ s8 wr => ∃ kk : Nat, kk ≤ n ∧ n - kk ≤ gg ∧ s8 = .int .i64 kk ∧ Aside (Below w.heap.size w wr) ∧ Aside (∀ j, j < kk → p (l.getD j z32) = false))
  case atStart => exact ⟨0, Nat.zero_le _, by omega, rfl, Below.refl _ w, fun j hj => absurd hj (Nat.not_lt_zero _)⟩
  case round =>
    obtain ⟨kk, hkk, hg, rfl, BW, A⟩ := hrel
    by_cases hlt : kk < n
    · have hltz : (kk : Int) < (n : Int) := by omega
      obtain ⟨ad, A5, c5, A6, c6, e, hx0, hx1, hx2, hx3, hx4, hx5, hx6, l5, g5, l6, g6⟩ := at_T32 HR.out (kk : Int) (by omega) (by have := HN.out; omega)
      cases e
      have hcall := HP.out wr (l.getD kk z32) [.string (rd_T32 l kk).f0, .int .i64 (rd_T32 l kk).f1, .string (rd_T32 l kk).f2, .bool (rd_T32 l kk).f3, .int .i64 (rd_T32 l kk).f4, .slice A5 (rd_T32 l kk).f5.length c5, .slice A6 (rd_T32 l kk).f6.length c6] (by rw [List.getD_eq_getElem?_getD, List.getElem?_eq_getElem (show kk < l.length by have := HN.out; omega)]; exact List.getElem_mem _) BW.out (k32_mk _ _ l5 (Kd.C_below g5 BW.out) l6 (Kd.C_below g6 BW.out))
      simp only [Int.toNat_natCast] at hx0 hx1 hx2 hx3 hx4 hx5 hx6
      replace hx0 := (BW.out.cell (World.block_lt_of_cell? w _ hx0)).trans hx0
      replace hx1 := (BW.out.cell (World.block_lt_of_cell? w _ hx1)).trans hx1
      replace hx2 := (BW.out.cell (World.block_lt_of_cell? w _ hx2)).trans hx2
      replace hx3 := (BW.out.cell (World.block_lt_of_cell? w _ hx3)).trans hx3
      replace hx4 := (BW.out.cell (World.block_lt_of_cell? w _ hx4)).trans hx4
      replace hx5 := (BW.out.cell (World.block_lt_of_cell? w _ hx5)).trans hx5
      replace hx6 := (BW.out.cell (World.block_lt_of_cell? w _ hx6)).trans hx6
      have B := Lib.hid (show p (l.getD kk z32) = p (l.getD kk z32) from rfl)
      cases hq : p (l.getD kk z32) with
      | true =>
        rw [hq] at hcall
        have HQ := Lib.hid hq
        clear hq
        go_wp2_with (go_at_fn g; refine hcall.mono ?_; rintro e w' ⟨rfl, hb'⟩)
        go_ret
        refine ⟨?_, below_then BW.out BW.out.size hb'⟩
        rw [fidx_hit p l kk z32 (by have := HN.out; omega) HQ.out A.out]
        rfl
      | false =>
        rw [hq] at hcall
        have HQ := Lib.hid hq
        clear hq
        go_wp2_with (go_at_fn g; refine hcall.mono ?_; rintro e w' ⟨rfl, hb'⟩)
        go_roundg (n - (kk + 1))
        case measure => omega
        case rel =>
          refine ⟨kk + 1, by omega, by omega, by go_num, below_then BW.out BW.out.size hb', (show Aside _ from fun j hj => ?_)⟩
          by_cases e : j = kk
          · subst e
            exact HQ.out
          · exact A.out j (by omega)
    · have hltz : ¬ (kk : Int) < (n : Int) := by omega
      obtain rfl : kk = n := by omega
      go_wp2
      go_ret
      refine ⟨?_, BW.out⟩
      rw [fidx_miss p l z32 (by rw [← HN.out]; exact A.out)]
      rfl
set_option maxHeartbeats 4000000 in
theorem anyItem (A : Option Addr) (c : Nat) (l : List S32) (w : World) (hr : Kd.C k32 w A l.length l) (hc : l.length ≤ c) (g : Nat) (lb : Array Value) (eg : ∀ args w, (callFunc g args).run Try.prog w = .ok (.enter g args) w) (p : S32 → Bool) (hp : PaysItem g lb p l w) :
    Calls Try.prog 36 #[.slice A l.length c, .func (.func g) #[] lb] w fun e w' => e = .returned (.bool (l.any p)) ∧ Below w.heap.size w w' := by
  have h := idxItem A c l w hr hc g lb eg p hp
  rw [← fidx_any]
  clear hr hp eg
  obtain ⟨n, hn⟩ : ∃ n : Int, n = fidx p l := ⟨_, rfl⟩
  rw [← hn] at h ⊢
  clear hn
  go_enter Try.func36, Try.ntmps36
  go_wp2_with (go_at_call 43; refine h.mono ?_; rintro e w' ⟨rfl, hb⟩)
  go_ret
  exact ⟨rfl, hb⟩
/-- What is asked of a predicate on what stands in l. -/
def PaysSentry (g : Nat) (lb : Array Value) (p : S29 → Bool) (l : List S29) (w : World) : Prop :=
  ∀ (W : World) (x : S29) (cs : List Value), x ∈ l → Below w.heap.size w W → Kd.K k29 W x cs → Calls Try.prog g (#[.agg cs.toArray] ++ lb) W fun e w' => e = .returned (.bool (p x)) ∧ Below W.heap.size W w'
set_option maxHeartbeats 4000000 in
set_option maxRecDepth 100000 in
theorem idxSentry (A : Option Addr) (c : Nat) (l : List S29) (w : World) (hr : Kd.C k29 w A l.length l) (hc : l.length ≤ c) (g : Nat) (lb : Array Value) (eg : ∀ args w, (callFunc g args).run Try.prog w = .ok (.enter g args) w) (p : S29 → Bool) (hp : PaysSentry g lb p l w) :
    Calls Try.prog 75 #[.slice A l.length c, .func (.func g) #[] lb] w fun e w' => e = .returned (.int .i64 (fidx p l)) ∧ Below w.heap.size w w' := by
  have HR := Lib.hid hr
  have HP := Lib.hid hp
  clear hr hp
  obtain ⟨n, hn⟩ : ∃ n, n = l.length := ⟨_, rfl⟩
  have HN := Lib.hid hn
  rw [← hn] at hc ⊢
  clear hn
  have hbig : n ≤ 9223372036854775807 := by have := HR.out.2.1; have := HN.out; omega
  go_enter Try.func75, Try.ntmps75
  go_wp2
  go_loopg [5, 8] n (fun gg _ s8 wr => ∃ kk : Nat, kk ≤ n ∧ n - kk ≤ gg ∧ s8 = .int .i64 kk ∧ Aside (Below w.heap.size w wr) ∧ Aside (∀ j, j < kk → p (l.getD j z29) = false))
  case atStart => exact ⟨0, Nat.zero_le _, by omega, rfl, Below.refl _ w, fun j hj => absurd hj (Nat.not_lt_zero _)⟩
  case round =>
    obtain ⟨kk, hkk, hg, rfl, BW, A⟩ := hrel
    by_cases hlt : kk < n
    · have hltz : (kk : Int) < (n : Int) := by omega
      obtain ⟨ad, A0, c0, A1, c1, e, hx0, hx1, l0, g0, l1, g1⟩ := at_T29 HR.out (kk : Int) (by omega) (by have := HN.out; omega)
      cases e
      have hcall := HP.out wr (l.getD kk z29) [.slice A0 (rd_T29 l kk).f0.length c0, .slice A1 (rd_T29 l kk).f1.length c1] (by rw [List.getD_eq_getElem?_getD, List.getElem?_eq_getElem (show kk < l.length by have := HN.out; omega)]; exact List.getElem_mem _) BW.out (k29_mk _ _ l0 (Kd.C_below g0 BW.out) l1 (Kd.C_below g1 BW.out))
      simp only [Int.toNat_natCast] at hx0 hx1
      replace hx0 := (BW.out.cell (World.block_lt_of_cell? w _ hx0)).trans hx0
      replace hx1 := (BW.out.cell (World.block_lt_of_cell? w _ hx1)).trans hx1
      have B := Lib.hid (show p (l.getD kk z29) = p (l.getD kk z29) from rfl)
      cases hq : p (l.getD kk z29) with
      | true =>
        rw [hq] at hcall
        have HQ := Lib.hid hq
        clear hq
        go_wp2_with (go_at_fn g; refine hcall.mono ?_; rintro e w' ⟨rfl, hb'⟩)
        go_ret
        refine ⟨?_, below_then BW.out BW.out.size hb'⟩
        rw [fidx_hit p l kk z29 (by have := HN.out; omega) HQ.out A.out]
        rfl
      | false =>
        rw [hq] at hcall
        have HQ := Lib.hid hq
        clear hq
        go_wp2_with (go_at_fn g; refine hcall.mono ?_; rintro e w' ⟨rfl, hb'⟩)
        go_roundg (n - (kk + 1))
        case measure => omega
        case rel =>
          refine ⟨kk + 1, by omega, by omega, by go_num, below_then BW.out BW.out.size hb', (show Aside _ from fun j hj => ?_)⟩
          by_cases e : j = kk
          · subst e
            exact HQ.out
          · exact A.out j (by omega)
    · have hltz : ¬ (kk : Int) < (n : Int) := by omega
      obtain rfl : kk = n := by omega
      go_wp2
      go_ret
      refine ⟨?_, BW.out⟩
      rw [fidx_miss p l z29 (by rw [← HN.out]; exact A.out)]
      rfl
set_option maxHeartbeats 4000000 in
theorem anySentry (A : Option Addr) (c : Nat) (l : List S29) (w : World) (hr : Kd.C k29 w A l.length l) (hc : l.length ≤ c) (g : Nat) (lb : Array Value) (eg : ∀ args w, (callFunc g args).run Try.prog w = .ok (.enter g args) w) (p : S29 → Bool) (hp : PaysSentry g lb p l w) :
    Calls Try.prog 71 #[.slice A l.length c, .func (.func g) #[] lb] w fun e w' => e = .returned (.bool (l.any p)) ∧ Below w.heap.size w w' := by
  have h := idxSentry A c l w hr hc g lb eg p hp
  rw [← fidx_any]
  clear hr hp eg
  obtain ⟨n, hn⟩ : ∃ n : Int, n = fidx p l := ⟨_, rfl⟩
  rw [← hn] at h ⊢
  clear hn
  go_enter Try.func71, Try.ntmps71
  go_wp2_with (go_at_call 75; refine h.mono ?_; rintro e w' ⟨rfl, hb⟩)
  go_ret
  exact ⟨rfl, hb⟩
/-- What is asked of a predicate on what stands in l. -/
def PaysCond (g : Nat) (lb : Array Value) (p : S25 → Bool) (l : List S25) (w : World) : Prop :=
  ∀ (W : World) (x : S25) (cs : List Value), x ∈ l → Below w.heap.size w W → Kd.K k25 W x cs → Calls Try.prog g (#[.agg cs.toArray] ++ lb) W fun e w' => e = .returned (.bool (p x)) ∧ Below W.heap.size W w'
set_option maxHeartbeats 4000000 in
set_option maxRecDepth 100000 in
theorem idxCond (A : Option Addr) (c : Nat) (l : List S25) (w : World) (hr : Kd.C k25 w A l.length l) (hc : l.length ≤ c) (g : Nat) (lb : Array Value) (eg : ∀ args w, (callFunc g args).run Try.prog w = .ok (.enter g args) w) (p : S25 → Bool) (hp : PaysCond g lb p l w) :
    Calls Try.prog 82 #[.slice A l.length c, .func (.func g) #[] lb] w fun e w' => e = .returned (.int .i64 (fidx p l)) ∧ Below w.heap.size w w' := by
  have HR := Lib.hid hr
  have HP := Lib.hid hp
  clear hr hp
  obtain ⟨n, hn⟩ : ∃ n, n = l.length := ⟨_, rfl⟩
  have HN := Lib.hid hn
  rw [← hn] at hc ⊢
  clear hn
  have hbig : n ≤ 9223372036854775807 := by have := HR.out.2.1; have := HN.out; omega
  go_enter Try.func82, Try.ntmps82
  go_wp2
  go_loopg [5, 8] n (fun gg _ s8 wr => ∃ kk : Nat, kk ≤ n ∧ n - kk ≤ gg ∧ s8 = .int .i64 kk ∧ Aside (Below w.heap.size w wr) ∧ Aside (∀ j, j < kk → p (l.getD j z25) = false))
  case atStart => exact ⟨0, Nat.zero_le _, by omega, rfl, Below.refl _ w, fun j hj => absurd hj (Nat.not_lt_zero _)⟩
  case round =>
    obtain ⟨kk, hkk, hg, rfl, BW, A⟩ := hrel
    by_cases hlt : kk < n
    · have hltz : (kk : Int) < (n : Int) := by omega
      obtain ⟨ad, e, hx0, hx1, hx2⟩ := at_T25 HR.out (kk : Int) (by omega) (by have := HN.out; omega)
      cases e
      have hcall := HP.out wr (l.getD kk z25) [.string (rd_T25 l kk).f0, .string (rd_T25 l kk).f1, .int .i64 (rd_T25 l kk).f2] (by rw [List.getD_eq_getElem?_getD, List.getElem?_eq_getElem (show kk < l.length by have := HN.out; omega)]; exact List.getElem_mem _) BW.out (k25_mk _ _)
      simp only [Int.toNat_natCast] at hx0 hx1 hx2
      replace hx0 := (BW.out.cell (World.block_lt_of_cell? w _ hx0)).trans hx0
      replace hx1 := (BW.out.cell (World.block_lt_of_cell? w _ hx1)).trans hx1
      replace hx2 := (BW.out.cell (World.block_lt_of_cell? w _ hx2)).trans hx2
      have B := Lib.hid (show p (l.getD kk z25) = p (l.getD kk z25) from rfl)
      cases hq : p (l.getD kk z25) with
      | true =>
        rw [hq] at hcall
        have HQ := Lib.hid hq
        clear hq
        go_wp2_with (go_at_fn g; refine hcall.mono ?_; rintro e w' ⟨rfl, hb'⟩)
        go_ret
        refine ⟨?_, below_then BW.out BW.out.size hb'⟩
        rw [fidx_hit p l kk z25 (by have := HN.out; omega) HQ.out A.out]
        rfl
      | false =>
        rw [hq] at hcall
        have HQ := Lib.hid hq
        clear hq
        go_wp2_with (go_at_fn g; refine hcall.mono ?_; rintro e w' ⟨rfl, hb'⟩)
        go_roundg (n - (kk + 1))
        case measure => omega
        case rel =>
          refine ⟨kk + 1, by omega, by omega, by go_num, below_then BW.out BW.out.size hb', (show Aside _ from fun j hj => ?_)⟩
          by_cases e : j = kk
          · subst e
            exact HQ.out
          · exact A.out j (by omega)
    · have hltz : ¬ (kk : Int) < (n : Int) := by omega
      obtain rfl : kk = n := by omega
      go_wp2
      go_ret
      refine ⟨?_, BW.out⟩
      rw [fidx_miss p l z25 (by rw [← HN.out]; exact A.out)]
      rfl
set_option maxHeartbeats 4000000 in
theorem anyCond (A : Option Addr) (c : Nat) (l : List S25) (w : World) (hr : Kd.C k25 w A l.length l) (hc : l.length ≤ c) (g : Nat) (lb : Array Value) (eg : ∀ args w, (callFunc g args).run Try.prog w = .ok (.enter g args) w) (p : S25 → Bool) (hp : PaysCond g lb p l w) :
    Calls Try.prog 78 #[.slice A l.length c, .func (.func g) #[] lb] w fun e w' => e = .returned (.bool (l.any p)) ∧ Below w.heap.size w w' := by
  have h := idxCond A c l w hr hc g lb eg p hp
  rw [← fidx_any]
  clear hr hp eg
  obtain ⟨n, hn⟩ : ∃ n : Int, n = fidx p l := ⟨_, rfl⟩
  rw [← hn] at h ⊢
  clear hn
  go_enter Try.func78, Try.ntmps78
  go_wp2_with (go_at_call 82; refine h.mono ?_; rintro e w' ⟨rfl, hb⟩)
  go_ret
  exact ⟨rfl, hb⟩
end Go.Proofs.Ytchellnfenekaaa.Pm
end
section
namespace Go.Proofs.Ytchellnfenekaaa.Pm
open Go.RowKit Go.Proofs.YtchellnfenekaaaW.PrintWords Go.Proofs.YtchellnfenekaaaW.PrintLast Go.Proofs.YtchellnfenekaaaW.PrintMore
attribute [local go_sem] max2_int min2_int max_two min_two max_three min_three max_four min_four   -- for this text's walks alone
set_option linter.unusedVariables false
set_option linter.unusedSimpArgs false
def model_Place.p (a1 : ByteArray) (x : S32) : Bool := x.f0.toList == a1.toList
def model_Place.f (l0_0 : List ByteArray) (l0_1 : List (S32)) (a1 : ByteArray) : Option Int := some (fidx (model_Place.p a1) l0_1)
set_option maxHeartbeats 2000000 in
theorem model_Place.closure (b : Nat) (id : ByteArray) (W : World) (hc : W.cell? ⟨b, 0, none⟩ = some (.string id)) (x : S32) (cs : List Value) (hK : Kd.K k32 W x cs) :
    Calls Try.prog 44 (#[.agg cs.toArray] ++ #[.pointer (some ⟨b, 0, none⟩)]) W fun e w' => e = .returned (.bool (model_Place.p id x)) ∧ Below W.heap.size W w' := by
  obtain ⟨A5, c5, A6, c6, rfl, _⟩ := k32_open hK
  unfold model_Place.p
  have hb := World.block_lt_of_cell? W _ hc
  simp only at hb
  have hu := Try.underlying32
  go_enter Try.func44, Try.ntmps44
  go_wp2
  go_ret
  exact ⟨rfl, below_alloc (Below.refl _ _) _⟩
theorem model_Place.eg : ∀ args w, (callFunc 44 args).run Try.prog w = .ok (.enter 44 args) w := enters_of Try.func44 (by kernel_rfl) rfl
set_option maxHeartbeats 2000000 in
theorem model_Place.calls (A0_0 : Option Addr) (c0_0 : Nat) (l0_0 : List ByteArray) (A0_1 : Option Addr) (c0_1 : Nat) (l0_1 : List (S32)) (a1 : ByteArray) (r : Int) (w : World) (hr0_0 : Kd.C Kd.string w A0_0 l0_0.length l0_0) (hc0_0 : l0_0.length ≤ c0_0) (hr0_1 : Kd.C k32 w A0_1 l0_1.length l0_1) (hc0_1 : l0_1.length ≤ c0_1) (h : model_Place.f l0_0 l0_1 a1 = some r) :
    Calls Try.prog 19 #[.agg #[.slice A0_0 l0_0.length c0_0, .slice A0_1 l0_1.length c0_1], .string a1] w fun e w' => e = .returned (.int .i64 r) ∧ Below w.heap.size w w' := by
  obtain rfl := Option.some.inj h
  have W1 := below_alloc (below_alloc (Below.refl w.heap.size w) (.cells #[.slice A0_0 l0_0.length c0_0, .slice A0_1 l0_1.length c0_1] 36)) (.cells #[.string a1] 9)
  have hcell : ((w.alloc (.cells #[.slice A0_0 l0_0.length c0_0, .slice A0_1 l0_1.length c0_1] 36)).alloc (.cells #[.string a1] 9)).cell? ⟨w.heap.size + 1, 0, none⟩ = some (.string a1) := by simp
  have hsz : ((w.alloc (.cells #[.slice A0_0 l0_0.length c0_0, .slice A0_1 l0_1.length c0_1] 36)).alloc (.cells #[.string a1] 9)).heap.size = w.heap.size + 2 := by simp
  have hi := idxItem A0_1 c0_1 l0_1 _ (Kd.C_below hr0_1 W1) hc0_1 44 #[.pointer (some ⟨w.heap.size + 1, 0, none⟩)] model_Place.eg (model_Place.p a1) (fun W x cs hx hb hK => model_Place.closure _ a1 W ((hb.cell (by rw [hsz]; simp)).trans hcell) x cs hK)
  have H := Lib.hid W1
  clear hr0_0 hr0_1 W1 hcell h hsz
  obtain ⟨n, hn⟩ : ∃ n : Int, n = fidx (model_Place.p a1) l0_1 := ⟨_, rfl⟩
  rw [← hn] at hi ⊢
  clear hn
  have hu := Try.underlying36
  go_enter Try.func19, Try.ntmps19
  go_wp2_with (go_at_call 43; refine hi.mono ?_; rintro e w' ⟨rfl, hb⟩)
  go_ret
  exact ⟨rfl, below_then H.out H.out.size hb⟩
end Go.Proofs.Ytchellnfenekaaa.Pm
end
section
namespace Go.Proofs.Ytchellnfenekaaa.Pm
open Go.RowKit Go.Proofs.YtchellnfenekaaaW.PrintWords Go.Proofs.YtchellnfenekaaaW.PrintLast Go.Proofs.YtchellnfenekaaaW.PrintMore
attribute [local go_sem] max2_int min2_int max_two min_two max_three min_three max_four min_four   -- for this text's walks alone
set_option linter.unusedVariables false
set_option linter.unusedSimpArgs false
def model_isOn.f (k : Nat) (l0_0 : List ByteArray) (l0_1 : List (S32)) (a1_0 : ByteArray) (a1_1 : Int) : Option (Bool) := (model_Place.f l0_0 l0_1 a1_0).bind fun t424 => (if t424 ≥ 0 then (if 0 ≤ t424 then (if t424 < (l0_1.length : Int) then ((model_Legal.f k ((rd_T32 l0_1 t424).f1) a1_1).bind fun t426 => (some t426)) else (none)) else (none)) else (some false))
theorem model_isOn.mono : ∀ a0 a1 a2 a3 k, LeO (model_isOn.f k a0 a1 a2 a3) (model_isOn.f (k + 1) a0 a1 a2 a3) := by
 intro a0 a1 a2 a3 k
 unfold model_isOn.f
 repeat' first
   | (with_reducible exact model_Legal.mono _ _ _)
   | (with_reducible exact LeO.refl _)
   | (with_reducible exact LeO.none _)
   | (with_reducible refine LeO.ite ?_ ?_)
   | (with_reducible refine LeO.bind ?_ (fun _ => ?_))
   | exact model_Legal.mono _ _ _
   | exact LeO.none _
   | refine LeO.ite ?_ ?_
   | refine LeO.bind ?_ (fun _ => ?_)
set_option maxHeartbeats 8000000 in
set_option maxRecDepth 100000 in
theorem model_isOn.calls (k : Nat) (A0_0 : Option Addr) (c0_0 : Nat) (l0_0 : List ByteArray) (A0_1 : Option Addr) (c0_1 : Nat) (l0_1 : List (S32)) (a1_0 : ByteArray) (a1_1 : Int) (r : Bool) (w : World) (hr0_0 : Kd.C Kd.string w A0_0 l0_0.length l0_0) (hc0_0 : l0_0.length ≤ c0_0) (hr0_1 : Kd.C k32 w A0_1 l0_1.length l0_1) (hc0_1 : l0_1.length ≤ c0_1) (h : model_isOn.f k l0_0 l0_1 a1_0 a1_1 = some r) :
  Calls Try.prog 76 #[.agg #[.slice A0_0 l0_0.length c0_0, .slice A0_1 l0_1.length c0_1], .agg #[.string a1_0, .int .i64 a1_1]] w fun e w' => e = .returned (.bool r) ∧ Below w.heap.size w w' := by
 have hu36 := Try.underlying36
 have hu39 := Try.underlying39
 have HR0_0 := Aside0.mk hr0_0
 have HC0_0 := Aside0.mk hc0_0
 clear hr0_0 hc0_0
 have HR0_1 := Aside0.mk hr0_1
 have HC0_1 := Aside0.mk hc0_1
 clear hr0_1 hc0_1
 have HB := Aside0.mk (Below.refl w.heap.size w)
 have H : ((model_Place.f l0_0 l0_1 a1_0).bind fun t424 => (if t424 ≥ 0 then (if 0 ≤ t424 then (if t424 < (l0_1.length : Int) then ((model_Legal.f k ((rd_T32 l0_1 t424).f1) a1_1).bind fun t426 => (some t426)) else (none)) else (none)) else (some false))) = some r := h
 clear h
 replace H := Option.bind_eq_some_iff.mp H
 obtain ⟨t424, A30, H⟩ := H
 replace H : (if t424 ≥ 0 then (if 0 ≤ t424 then (if t424 < (l0_1.length : Int) then ((model_Legal.f k ((rd_T32 l0_1 t424).f1) a1_1).bind fun t426 => (some t426)) else (none)) else (none)) else (some false)) = some r := H
 have A3 := Aside0.mk A30
 clear A30
 by_cases c4 : t424 ≥ 0
 ·rw [if_pos c4] at H
  have c4b0 : decide (0 ≤ t424) = true := decide_eq_true c4
  clear c4
  by_cases c5 : 0 ≤ t424
  ·rw [if_pos c5] at H
   have c5b0 : decide (0 ≤ t424) = true := decide_eq_true c5
   clear c5
   by_cases c6 : t424 < (l0_1.length : Int)
   ·rw [if_pos c6] at H
    have c6b0 : decide (t424 < (l0_1.length : Int)) = true := decide_eq_true c6
    clear c6
    replace H := Option.bind_eq_some_iff.mp H
    obtain ⟨t426, A70, H⟩ := H
    replace H : (some t426) = some r := H
    have A7 := Aside0.mk A70
    clear A70
    obtain rfl := Option.some.inj H
    go_enter Try.func76, Try.ntmps76
    go_wp2_with (first | ((with_reducible refine gate_dst (N := 2) rfl ?_); refine box_event ?hg (N := 2) ?hd (cs := #[.slice A0_0 l0_0.length c0_0, .slice A0_1 l0_1.length c0_1]) (t := 36) ?hr ?_; (case hd => rfl); (case hg => rfl); (case hr => first | (go_simp; done) | (go_simp; rfl)); intro gb422 hg w8 hbox hb; have n0_ := hb_ HB hb; have n1_ := Aside0.mk (hbox); have n2_ := Aside0.mk ((by rw [hg]; exact (below_size (by repeat (first | (with_reducible first | exact HB.out | apply below_alloc | apply pw_below_drewN | apply below_drew1) | exact HB.out))) : w.heap.size ≤ gb422)); have n3_ := Aside0.mk ((by rw [hg]; exact (below_size (by repeat (first | (with_reducible first | exact HB.out | apply below_alloc | apply pw_below_drewN | apply below_drew1) | exact HB.out))) : w.heap.size ≤ gb422)); clear HB; have HB := n0_; have BK422 := n1_; have GW422 := n2_; have GE422 := n3_; clear n0_ n1_ n2_ n3_; clear hb hbox hg) | ((with_reducible refine gate_dst (N := 3) rfl ?_); refine box_event ?hg (N := 3) ?hd (cs := #[.string a1_0, .int .i64 a1_1]) (t := 39) ?hr ?_; (case hd => rfl); (case hg => rfl); (case hr => first | (go_simp; done) | (go_simp; rfl)); intro gb423 hg w9 hbox hb; have n0_ := bb_ BK422 hb; have n1_ := hb_ HB hb; have n2_ := Aside0.mk (hbox); have n3_ := Aside0.mk ((by rw [hg]; exact (below_size (by repeat (first | (with_reducible first | exact HB.out | apply below_alloc | apply pw_below_drewN | apply below_drew1 | refine below_set ?_ GE422.out) | exact HB.out))) : w.heap.size ≤ gb423)); have n4_ := Aside0.mk ((by rw [hg]; exact (below_size (by repeat (first | (with_reducible first | exact HB.out | apply below_alloc | apply pw_below_drewN | apply below_drew1 | refine below_set ?_ GE422.out) | exact HB.out))) : w.heap.size ≤ gb423)); have n5_ := Aside0.mk ((by rw [hg]; exact Nat.ne_of_lt (blk_lt (g := gb422) (o := .cells #[.slice A0_0 l0_0.length c0_0, .slice A0_1 l0_1.length c0_1] 36 (0, 0)) (by (with_reducible repeat (first | refine blk_drewN ?_ _ | refine blk_drew ?_ | refine blk_alloc ?_ _)); exact BK422.out)) : gb422 ≠ gb423)); have n6_ := Aside0.mk ((by rw [hg]; exact Nat.ne_of_gt (blk_lt (g := gb422) (o := .cells #[.slice A0_0 l0_0.length c0_0, .slice A0_1 l0_1.length c0_1] 36 (0, 0)) (by (with_reducible repeat (first | refine blk_drewN ?_ _ | refine blk_drew ?_ | refine blk_alloc ?_ _)); exact BK422.out)) : gb423 ≠ gb422)); clear BK422; clear HB; have BK422 := n0_; have HB := n1_; have BK423 := n2_; have GW423 := n3_; have GE423 := n4_; have NB422_423 := n5_; have NB423_422 := n6_; clear n0_ n1_ n2_ n3_ n4_ n5_ n6_; clear hb hbox hg; have hnb10 := NB422_423.out; have hnc10 := NB423_422.out; obtain ⟨hcz11_0, hcz11_1, hfz11_0, hfz11_1⟩ := bs2_ BK422; obtain ⟨hcz12_0, hcz12_1, hfz12_0, hfz12_1⟩ := bs2_ BK423) | (go_at_call 19; (with_reducible refine (model_Place.calls _ _ l0_0 _ _ l0_1 a1_0 t424 _ ?side1 ?side2 ?side3 ?side4 A3.out).mono ?_); (case side1 => exact kc_ HR0_0 HB); (case side2 => exact HC0_0.out); (case side3 => exact kc_ HR0_1 HB); (case side4 => exact HC0_1.out); rintro e w13 ⟨rfl, hb⟩; have n0_ := bb_ BK422 hb; have n1_ := bb_ BK423 hb; have n2_ := hb_ HB hb; clear BK422; clear BK423; clear HB; have BK422 := n0_; have BK423 := n1_; have HB := n2_; clear n0_ n1_ n2_; (try clear hb); (try clear hb2); (try clear hk); (try clear hi); obtain ⟨hcz14_0, hcz14_1, hfz14_0, hfz14_1⟩ := bs2_ BK422; have p425 : 0 ≤ (t424 : Int) := od_; have q425 : t424 < (l0_1.length : Int) := od_; obtain ⟨ad425, A425_5, c425_5, A425_6, c425_6, e425, hx425_0, hx425_1, hx425_2, hx425_3, hx425_4, hx425_5, hx425_6, hl425_5, hi425_5, hl425_6, hi425_6⟩ := at_T32 HR0_1.out t424 p425 q425; cases e425; replace hx425_0 := rr_ HB hx425_0; replace hx425_1 := rr_ HB hx425_1; replace hx425_2 := rr_ HB hx425_2; replace hx425_3 := rr_ HB hx425_3; replace hx425_4 := rr_ HB hx425_4; replace hx425_5 := rr_ HB hx425_5; replace hx425_6 := rr_ HB hx425_6; have HR425_5 := Aside0.mk hi425_5; have HC425_5 := Aside0.mk hl425_5; clear hi425_5 hl425_5; have HR425_6 := Aside0.mk hi425_6; have HC425_6 := Aside0.mk hl425_6; clear hi425_6 hl425_6; replace p425 := eq_true p425; replace q425 := eq_true q425; obtain ⟨hcz15_0, hcz15_1, hfz15_0, hfz15_1⟩ := bs2_ BK423) | (go_at_call 12; (with_reducible refine (model_Legal.calls k ((rd_T32 l0_1 t424).f1) a1_1 t426 _ A7.out).mono ?_); rintro e w' ⟨rfl, ⟨nd, rfl⟩⟩; (try first | exact ⟨rfl, _, World.drewN_drewN _ _ _⟩ | exact ⟨rfl, _, Eq.trans (World.drewN_drewN _ _ _) (congrArg (World.drewN _) (Nat.add_assoc _ _ _))⟩)))
    repeat (go_quiet (first | ((with_reducible refine gate_dst (N := 2) rfl ?_); refine box_event ?hg (N := 2) ?hd (cs := #[.slice A0_0 l0_0.length c0_0, .slice A0_1 l0_1.length c0_1]) (t := 36) ?hr ?_; (case hd => rfl); (case hg => rfl); (case hr => first | (go_simp; done) | (go_simp; rfl)); intro gb422 hg w8 hbox hb; have n0_ := hb_ HB hb; have n1_ := Aside0.mk (hbox); have n2_ := Aside0.mk ((by rw [hg]; exact (below_size (by repeat (first | (with_reducible first | exact HB.out | apply below_alloc | apply pw_below_drewN | apply below_drew1) | exact HB.out))) : w.heap.size ≤ gb422)); have n3_ := Aside0.mk ((by rw [hg]; exact (below_size (by repeat (first | (with_reducible first | exact HB.out | apply below_alloc | apply pw_below_drewN | apply below_drew1) | exact HB.out))) : w.heap.size ≤ gb422)); clear HB; have HB := n0_; have BK422 := n1_; have GW422 := n2_; have GE422 := n3_; clear n0_ n1_ n2_ n3_; clear hb hbox hg) | ((with_reducible refine gate_dst (N := 3) rfl ?_); refine box_event ?hg (N := 3) ?hd (cs := #[.string a1_0, .int .i64 a1_1]) (t := 39) ?hr ?_; (case hd => rfl); (case hg => rfl); (case hr => first | (go_simp; done) | (go_simp; rfl)); intro gb423 hg w9 hbox hb; have n0_ := bb_ BK422 hb; have n1_ := hb_ HB hb; have n2_ := Aside0.mk (hbox); have n3_ := Aside0.mk ((by rw [hg]; exact (below_size (by repeat (first | (with_reducible first | exact HB.out | apply below_alloc | apply pw_below_drewN | apply below_drew1 | refine below_set ?_ GE422.out) | exact HB.out))) : w.heap.size ≤ gb423)); have n4_ := Aside0.mk ((by rw [hg]; exact (below_size (by repeat (first | (with_reducible first | exact HB.out | apply below_alloc | apply pw_below_drewN | apply below_drew1 | refine below_set ?_ GE422.out) | exact HB.out))) : w.heap.size ≤ gb423)); have n5_ := Aside0.mk ((by rw [hg]; exact Nat.ne_of_lt (blk_lt (g := gb422) (o := .cells #[.slice A0_0 l0_0.length c0_0, .slice A0_1 l0_1.length c0_1] 36 (0, 0)) (by (with_reducible repeat (first | refine blk_drewN ?_ _ | refine blk_drew ?_ | refine blk_alloc ?_ _)); exact BK422.out)) : gb422 ≠ gb423)); have n6_ := Aside0.mk ((by rw [hg]; exact Nat.ne_of_gt (blk_lt (g := gb422) (o := .cells #[.slice A0_0 l0_0.length c0_0, .slice A0_1 l0_1.length c0_1] 36 (0, 0)) (by (with_reducible repeat (first | refine blk_drewN ?_ _ | refine blk_drew ?_ | refine blk_alloc ?_ _)); exact BK422.out)) : gb423 ≠ gb422)); clear BK422; clear HB; have BK422 := n0_; have HB := n1_; have BK423 := n2_; have GW423 := n3_; have GE423 := n4_; have NB422_423 := n5_; have NB423_422 := n6_; clear n0_ n1_ n2_ n3_ n4_ n5_ n6_; clear hb hbox hg; have hnb10 := NB422_423.out; have hnc10 := NB423_422.out; obtain ⟨hcz11_0, hcz11_1, hfz11_0, hfz11_1⟩ := bs2_ BK422; obtain ⟨hcz12_0, hcz12_1, hfz12_0, hfz12_1⟩ := bs2_ BK423) | (go_at_call 19; (with_reducible refine (model_Place.calls _ _ l0_0 _ _ l0_1 a1_0 t424 _ ?side1 ?side2 ?side3 ?side4 A3.out).mono ?_); (case side1 => exact kc_ HR0_0 HB); (case side2 => exact HC0_0.out); (case side3 => exact kc_ HR0_1 HB); (case side4 => exact HC0_1.out); rintro e w13 ⟨rfl, hb⟩; have n0_ := bb_ BK422 hb; have n1_ := bb_ BK423 hb; have n2_ := hb_ HB hb; clear BK422; clear BK423; clear HB; have BK422 := n0_; have BK423 := n1_; have HB := n2_; clear n0_ n1_ n2_; (try clear hb); (try clear hb2); (try clear hk); (try clear hi); obtain ⟨hcz14_0, hcz14_1, hfz14_0, hfz14_1⟩ := bs2_ BK422; have p425 : 0 ≤ (t424 : Int) := od_; have q425 : t424 < (l0_1.length : Int) := od_; obtain ⟨ad425, A425_5, c425_5, A425_6, c425_6, e425, hx425_0, hx425_1, hx425_2, hx425_3, hx425_4, hx425_5, hx425_6, hl425_5, hi425_5, hl425_6, hi425_6⟩ := at_T32 HR0_1.out t424 p425 q425; cases e425; replace hx425_0 := rr_ HB hx425_0; replace hx425_1 := rr_ HB hx425_1; replace hx425_2 := rr_ HB hx425_2; replace hx425_3 := rr_ HB hx425_3; replace hx425_4 := rr_ HB hx425_4; replace hx425_5 := rr_ HB hx425_5; replace hx425_6 := rr_ HB hx425_6; have HR425_5 := Aside0.mk hi425_5; have HC425_5 := Aside0.mk hl425_5; clear hi425_5 hl425_5; have HR425_6 := Aside0.mk hi425_6; have HC425_6 := Aside0.mk hl425_6; clear hi425_6 hl425_6; replace p425 := eq_true p425; replace q425 := eq_true q425; obtain ⟨hcz15_0, hcz15_1, hfz15_0, hfz15_1⟩ := bs2_ BK423) | (go_at_call 12; (with_reducible refine (model_Legal.calls k ((rd_T32 l0_1 t424).f1) a1_1 t426 _ A7.out).mono ?_); rintro e w' ⟨rfl, ⟨nd, rfl⟩⟩; (try first | exact ⟨rfl, _, World.drewN_drewN _ _ _⟩ | exact ⟨rfl, _, Eq.trans (World.drewN_drewN _ _ _) (congrArg (World.drewN _) (Nat.add_assoc _ _ _))⟩))); try go_wp2_with (first | ((with_reducible refine gate_dst (N := 2) rfl ?_); refine box_event ?hg (N := 2) ?hd (cs := #[.slice A0_0 l0_0.length c0_0, .slice A0_1 l0_1.length c0_1]) (t := 36) ?hr ?_; (case hd => rfl); (case hg => rfl); (case hr => first | (go_simp; done) | (go_simp; rfl)); intro gb422 hg w8 hbox hb; have n0_ := hb_ HB hb; have n1_ := Aside0.mk (hbox); have n2_ := Aside0.mk ((by rw [hg]; exact (below_size (by repeat (first | (with_reducible first | exact HB.out | apply below_alloc | apply pw_below_drewN | apply below_drew1) | exact HB.out))) : w.heap.size ≤ gb422)); have n3_ := Aside0.mk ((by rw [hg]; exact (below_size (by repeat (first | (with_reducible first | exact HB.out | apply below_alloc | apply pw_below_drewN | apply below_drew1) | exact HB.out))) : w.heap.size ≤ gb422)); clear HB; have HB := n0_; have BK422 := n1_; have GW422 := n2_; have GE422 := n3_; clear n0_ n1_ n2_ n3_; clear hb hbox hg) | ((with_reducible refine gate_dst (N := 3) rfl ?_); refine box_event ?hg (N := 3) ?hd (cs := #[.string a1_0, .int .i64 a1_1]) (t := 39) ?hr ?_; (case hd => rfl); (case hg => rfl); (case hr => first | (go_simp; done) | (go_simp; rfl)); intro gb423 hg w9 hbox hb; have n0_ := bb_ BK422 hb; have n1_ := hb_ HB hb; have n2_ := Aside0.mk (hbox); have n3_ := Aside0.mk ((by rw [hg]; exact (below_size (by repeat (first | (with_reducible first | exact HB.out | apply below_alloc | apply pw_below_drewN | apply below_drew1 | refine below_set ?_ GE422.out) | exact HB.out))) : w.heap.size ≤ gb423)); have n4_ := Aside0.mk ((by rw [hg]; exact (below_size (by repeat (first | (with_reducible first | exact HB.out | apply below_alloc | apply pw_below_drewN | apply below_drew1 | refine below_set ?_ GE422.out) | exact HB.out))) : w.heap.size ≤ gb423)); have n5_ := Aside0.mk ((by rw [hg]; exact Nat.ne_of_lt (blk_lt (g := gb422) (o := .cells #[.slice A0_0 l0_0.length c0_0, .slice A0_1 l0_1.length c0_1] 36 (0, 0)) (by (with_reducible repeat (first | refine blk_drewN ?_ _ | refine blk_drew ?_ | refine blk_alloc ?_ _)); exact BK422.out)) : gb422 ≠ gb423)); have n6_ := Aside0.mk ((by rw [hg]; exact Nat.ne_of_gt (blk_lt (g := gb422) (o := .cells #[.slice A0_0 l0_0.length c0_0, .slice A0_1 l0_1.length c0_1] 36 (0, 0)) (by (with_reducible repeat (first | refine blk_drewN ?_ _ | refine blk_drew ?_ | refine blk_alloc ?_ _)); exact BK422.out)) : gb423 ≠ gb422)); clear BK422; clear HB; have BK422 := n0_; have HB := n1_; have BK423 := n2_; have GW423 := n3_; have GE423 := n4_; have NB422_423 := n5_; have NB423_422 := n6_; clear n0_ n1_ n2_ n3_ n4_ n5_ n6_; clear hb hbox hg; have hnb10 := NB422_423.out; have hnc10 := NB423_422.out; obtain ⟨hcz11_0, hcz11_1, hfz11_0, hfz11_1⟩ := bs2_ BK422; obtain ⟨hcz12_0, hcz12_1, hfz12_0, hfz12_1⟩ := bs2_ BK423) | (go_at_call 19; (with_reducible refine (model_Place.calls _ _ l0_0 _ _ l0_1 a1_0 t424 _ ?side1 ?side2 ?side3 ?side4 A3.out).mono ?_); (case side1 => exact kc_ HR0_0 HB); (case side2 => exact HC0_0.out); (case side3 => exact kc_ HR0_1 HB); (case side4 => exact HC0_1.out); rintro e w13 ⟨rfl, hb⟩; have n0_ := bb_ BK422 hb; have n1_ := bb_ BK423 hb; have n2_ := hb_ HB hb; clear BK422; clear BK423; clear HB; have BK422 := n0_; have BK423 := n1_; have HB := n2_; clear n0_ n1_ n2_; (try clear hb); (try clear hb2); (try clear hk); (try clear hi); obtain ⟨hcz14_0, hcz14_1, hfz14_0, hfz14_1⟩ := bs2_ BK422; have p425 : 0 ≤ (t424 : Int) := od_; have q425 : t424 < (l0_1.length : Int) := od_; obtain ⟨ad425, A425_5, c425_5, A425_6, c425_6, e425, hx425_0, hx425_1, hx425_2, hx425_3, hx425_4, hx425_5, hx425_6, hl425_5, hi425_5, hl425_6, hi425_6⟩ := at_T32 HR0_1.out t424 p425 q425; cases e425; replace hx425_0 := rr_ HB hx425_0; replace hx425_1 := rr_ HB hx425_1; replace hx425_2 := rr_ HB hx425_2; replace hx425_3 := rr_ HB hx425_3; replace hx425_4 := rr_ HB hx425_4; replace hx425_5 := rr_ HB hx425_5; replace hx425_6 := rr_ HB hx425_6; have HR425_5 := Aside0.mk hi425_5; have HC425_5 := Aside0.mk hl425_5; clear hi425_5 hl425_5; have HR425_6 := Aside0.mk hi425_6; have HC425_6 := Aside0.mk hl425_6; clear hi425_6 hl425_6; replace p425 := eq_true p425; replace q425 := eq_true q425; obtain ⟨hcz15_0, hcz15_1, hfz15_0, hfz15_1⟩ := bs2_ BK423) | (go_at_call 12; (with_reducible refine (model_Legal.calls k ((rd_T32 l0_1 t424).f1) a1_1 t426 _ A7.out).mono ?_); rintro e w' ⟨rfl, ⟨nd, rfl⟩⟩; (try first | exact ⟨rfl, _, World.drewN_drewN _ _ _⟩ | exact ⟨rfl, _, Eq.trans (World.drewN_drewN _ _ _) (congrArg (World.drewN _) (Nat.add_assoc _ _ _))⟩))))
    go_ret
    exact ⟨er_, hf_⟩
   ·rw [if_neg c6] at H
    exact absurd H (by simp)
  ·rw [if_neg c5] at H
   exact absurd H (by simp)
 ·rw [if_neg c4] at H
  have c4b0 : decide (0 ≤ t424) = false := decide_eq_false c4
  clear c4
  obtain rfl := Option.some.inj H
  go_enter Try.func76, Try.ntmps76
  go_wp2_with (first | ((with_reducible refine gate_dst (N := 2) rfl ?_); refine box_event ?hg (N := 2) ?hd (cs := #[.slice A0_0 l0_0.length c0_0, .slice A0_1 l0_1.length c0_1]) (t := 36) ?hr ?_; (case hd => rfl); (case hg => rfl); (case hr => first | (go_simp; done) | (go_simp; rfl)); intro gb422 hg w16 hbox hb; have n0_ := hb_ HB hb; have n1_ := Aside0.mk (hbox); have n2_ := Aside0.mk ((by rw [hg]; exact (below_size (by repeat (first | (with_reducible first | exact HB.out | apply below_alloc | apply pw_below_drewN | apply below_drew1) | exact HB.out))) : w.heap.size ≤ gb422)); have n3_ := Aside0.mk ((by rw [hg]; exact (below_size (by repeat (first | (with_reducible first | exact HB.out | apply below_alloc | apply pw_below_drewN | apply below_drew1) | exact HB.out))) : w.heap.size ≤ gb422)); clear HB; have HB := n0_; have BK422 := n1_; have GW422 := n2_; have GE422 := n3_; clear n0_ n1_ n2_ n3_; clear hb hbox hg) | ((with_reducible refine gate_dst (N := 3) rfl ?_); refine box_event ?hg (N := 3) ?hd (cs := #[.string a1_0, .int .i64 a1_1]) (t := 39) ?hr ?_; (case hd => rfl); (case hg => rfl); (case hr => first | (go_simp; done) | (go_simp; rfl)); intro gb423 hg w17 hbox hb; have n0_ := bb_ BK422 hb; have n1_ := hb_ HB hb; have n2_ := Aside0.mk (hbox); have n3_ := Aside0.mk ((by rw [hg]; exact (below_size (by repeat (first | (with_reducible first | exact HB.out | apply below_alloc | apply pw_below_drewN | apply below_drew1 | refine below_set ?_ GE422.out) | exact HB.out))) : w.heap.size ≤ gb423)); have n4_ := Aside0.mk ((by rw [hg]; exact (below_size (by repeat (first | (with_reducible first | exact HB.out | apply below_alloc | apply pw_below_drewN | apply below_drew1 | refine below_set ?_ GE422.out) | exact HB.out))) : w.heap.size ≤ gb423)); have n5_ := Aside0.mk ((by rw [hg]; exact Nat.ne_of_lt (blk_lt (g := gb422) (o := .cells #[.slice A0_0 l0_0.length c0_0, .slice A0_1 l0_1.length c0_1] 36 (0, 0)) (by (with_reducible repeat (first | refine blk_drewN ?_ _ | refine blk_drew ?_ | refine blk_alloc ?_ _)); exact BK422.out)) : gb422 ≠ gb423)); have n6_ := Aside0.mk ((by rw [hg]; exact Nat.ne_of_gt (blk_lt (g := gb422) (o := .cells #[.slice A0_0 l0_0.length c0_0, .slice A0_1 l0_1.length c0_1] 36 (0, 0)) (by (with_reducible repeat (first | refine blk_drewN ?_ _ | refine blk_drew ?_ | refine blk_alloc ?_ _)); exact BK422.out)) : gb423 ≠ gb422)); clear BK422; clear HB; have BK422 := n0_; have HB := n1_; have BK423 := n2_; have GW423 := n3_; have GE423 := n4_; have NB422_423 := n5_; have NB423_422 := n6_; clear n0_ n1_ n2_ n3_ n4_ n5_ n6_; clear hb hbox hg; have hnb18 := NB422_423.out; have hnc18 := NB423_422.out; obtain ⟨hcz19_0, hcz19_1, hfz19_0, hfz19_1⟩ := bs2_ BK422; obtain ⟨hcz20_0, hcz20_1, hfz20_0, hfz20_1⟩ := bs2_ BK423) | (go_at_call 19; (with_reducible refine (model_Place.calls _ _ l0_0 _ _ l0_1 a1_0 t424 _ ?side1 ?side2 ?side3 ?side4 A3.out).mono ?_); (case side1 => exact kc_ HR0_0 HB); (case side2 => exact HC0_0.out); (case side3 => exact kc_ HR0_1 HB); (case side4 => exact HC0_1.out); rintro e w21 ⟨rfl, hb⟩; have n0_ := bb_ BK422 hb; have n1_ := bb_ BK423 hb; have n2_ := hb_ HB hb; clear BK422; clear BK423; clear HB; have BK422 := n0_; have BK423 := n1_; have HB := n2_; clear n0_ n1_ n2_; (try clear hb); (try clear hb2); (try clear hk); (try clear hi)))
  repeat (go_quiet (first | ((with_reducible refine gate_dst (N := 2) rfl ?_); refine box_event ?hg (N := 2) ?hd (cs := #[.slice A0_0 l0_0.length c0_0, .slice A0_1 l0_1.length c0_1]) (t := 36) ?hr ?_; (case hd => rfl); (case hg => rfl); (case hr => first | (go_simp; done) | (go_simp; rfl)); intro gb422 hg w16 hbox hb; have n0_ := hb_ HB hb; have n1_ := Aside0.mk (hbox); have n2_ := Aside0.mk ((by rw [hg]; exact (below_size (by repeat (first | (with_reducible first | exact HB.out | apply below_alloc | apply pw_below_drewN | apply below_drew1) | exact HB.out))) : w.heap.size ≤ gb422)); have n3_ := Aside0.mk ((by rw [hg]; exact (below_size (by repeat (first | (with_reducible first | exact HB.out | apply below_alloc | apply pw_below_drewN | apply below_drew1) | exact HB.out))) : w.heap.size ≤ gb422)); clear HB; have HB := n0_; have BK422 := n1_; have GW422 := n2_; have GE422 := n3_; clear n0_ n1_ n2_ n3_; clear hb hbox hg) | ((with_reducible refine gate_dst (N := 3) rfl ?_); refine box_event ?hg (N := 3) ?hd (cs := #[.string a1_0, .int .i64 a1_1]) (t := 39) ?hr ?_; (case hd => rfl); (case hg => rfl); (case hr => first | (go_simp; done) | (go_simp; rfl)); intro gb423 hg w17 hbox hb; have n0_ := bb_ BK422 hb; have n1_ := hb_ HB hb; have n2_ := Aside0.mk (hbox); have n3_ := Aside0.mk ((by rw [hg]; exact (below_size (by repeat (first | (with_reducible first | exact HB.out | apply below_alloc | apply pw_below_drewN | apply below_drew1 | refine below_set ?_ GE422.out) | exact HB.out))) : w.heap.size ≤ gb423)); have n4_ := Aside0.mk ((by rw [hg]; exact (below_size (by repeat (first | (with_reducible first | exact HB.out | apply below_alloc | apply pw_below_drewN | apply below_drew1 | refine below_set ?_ GE422.out) | exact HB.out))) : w.heap.size ≤ gb423)); have n5_ := Aside0.mk ((by rw [hg]; exact Nat.ne_of_lt (blk_lt (g := gb422) (o := .cells #[.slice A0_0 l0_0.length c0_0, .slice A0_1 l0_1.length c0_1] 36 (0, 0)) (by (with_reducible repeat (first | refine blk_drewN ?_ _ | refine blk_drew ?_ | refine blk_alloc ?_ _)); exact BK422.out)) : gb422 ≠ gb423)); have n6_ := Aside0.mk ((by rw [hg]; exact Nat.ne_of_gt (blk_lt (g := gb422) (o := .cells #[.slice A0_0 l0_0.length c0_0, .slice A0_1 l0_1.length c0_1] 36 (0, 0)) (by (with_reducible repeat (first | refine blk_drewN ?_ _ | refine blk_drew ?_ | refine blk_alloc ?_ _)); exact BK422.out)) : gb423 ≠ gb422)); clear BK422; clear HB; have BK422 := n0_; have HB := n1_; have BK423 := n2_; have GW423 := n3_; have GE423 := n4_; have NB422_423 := n5_; have NB423_422 := n6_; clear n0_ n1_ n2_ n3_ n4_ n5_ n6_; clear hb hbox hg; have hnb18 := NB422_423.out; have hnc18 := NB423_422.out; obtain ⟨hcz19_0, hcz19_1, hfz19_0, hfz19_1⟩ := bs2_ BK422; obtain ⟨hcz20_0, hcz20_1, hfz20_0, hfz20_1⟩ := bs2_ BK423) | (go_at_call 19; (with_reducible refine (model_Place.calls _ _ l0_0 _ _ l0_1 a1_0 t424 _ ?side1 ?side2 ?side3 ?side4 A3.out).mono ?_); (case side1 => exact kc_ HR0_0 HB); (case side2 => exact HC0_0.out); (case side3 => exact kc_ HR0_1 HB); (case side4 => exact HC0_1.out); rintro e w21 ⟨rfl, hb⟩; have n0_ := bb_ BK422 hb; have n1_ := bb_ BK423 hb; have n2_ := hb_ HB hb; clear BK422; clear BK423; clear HB; have BK422 := n0_; have BK423 := n1_; have HB := n2_; clear n0_ n1_ n2_; (try clear hb); (try clear hb2); (try clear hk); (try clear hi))); try go_wp2_with (first | ((with_reducible refine gate_dst (N := 2) rfl ?_); refine box_event ?hg (N := 2) ?hd (cs := #[.slice A0_0 l0_0.length c0_0, .slice A0_1 l0_1.length c0_1]) (t := 36) ?hr ?_; (case hd => rfl); (case hg => rfl); (case hr => first | (go_simp; done) | (go_simp; rfl)); intro gb422 hg w16 hbox hb; have n0_ := hb_ HB hb; have n1_ := Aside0.mk (hbox); have n2_ := Aside0.mk ((by rw [hg]; exact (below_size (by repeat (first | (with_reducible first | exact HB.out | apply below_alloc | apply pw_below_drewN | apply below_drew1) | exact HB.out))) : w.heap.size ≤ gb422)); have n3_ := Aside0.mk ((by rw [hg]; exact (below_size (by repeat (first | (with_reducible first | exact HB.out | apply below_alloc | apply pw_below_drewN | apply below_drew1) | exact HB.out))) : w.heap.size ≤ gb422)); clear HB; have HB := n0_; have BK422 := n1_; have GW422 := n2_; have GE422 := n3_; clear n0_ n1_ n2_ n3_; clear hb hbox hg) | ((with_reducible refine gate_dst (N := 3) rfl ?_); refine box_event ?hg (N := 3) ?hd (cs := #[.string a1_0, .int .i64 a1_1]) (t := 39) ?hr ?_; (case hd => rfl); (case hg => rfl); (case hr => first | (go_simp; done) | (go_simp; rfl)); intro gb423 hg w17 hbox hb; have n0_ := bb_ BK422 hb; have n1_ := hb_ HB hb; have n2_ := Aside0.mk (hbox); have n3_ := Aside0.mk ((by rw [hg]; exact (below_size (by repeat (first | (with_reducible first | exact HB.out | apply below_alloc | apply pw_below_drewN | apply below_drew1 | refine below_set ?_ GE422.out) | exact HB.out))) : w.heap.size ≤ gb423)); have n4_ := Aside0.mk ((by rw [hg]; exact (below_size (by repeat (first | (with_reducible first | exact HB.out | apply below_alloc | apply pw_below_drewN | apply below_drew1 | refine below_set ?_ GE422.out) | exact HB.out))) : w.heap.size ≤ gb423)); have n5_ := Aside0.mk ((by rw [hg]; exact Nat.ne_of_lt (blk_lt (g := gb422) (o := .cells #[.slice A0_0 l0_0.length c0_0, .slice A0_1 l0_1.length c0_1] 36 (0, 0)) (by (with_reducible repeat (first | refine blk_drewN ?_ _ | refine blk_drew ?_ | refine blk_alloc ?_ _)); exact BK422.out)) : gb422 ≠ gb423)); have n6_ := Aside0.mk ((by rw [hg]; exact Nat.ne_of_gt (blk_lt (g := gb422) (o := .cells #[.slice A0_0 l0_0.length c0_0, .slice A0_1 l0_1.length c0_1] 36 (0, 0)) (by (with_reducible repeat (first | refine blk_drewN ?_ _ | refine blk_drew ?_ | refine blk_alloc ?_ _)); exact BK422.out)) : gb423 ≠ gb422)); clear BK422; clear HB; have BK422 := n0_; have HB := n1_; have BK423 := n2_; have GW423 := n3_; have GE423 := n4_; have NB422_423 := n5_; have NB423_422 := n6_; clear n0_ n1_ n2_ n3_ n4_ n5_ n6_; clear hb hbox hg; have hnb18 := NB422_423.out; have hnc18 := NB423_422.out; obtain ⟨hcz19_0, hcz19_1, hfz19_0, hfz19_1⟩ := bs2_ BK422; obtain ⟨hcz20_0, hcz20_1, hfz20_0, hfz20_1⟩ := bs2_ BK423) | (go_at_call 19; (with_reducible refine (model_Place.calls _ _ l0_0 _ _ l0_1 a1_0 t424 _ ?side1 ?side2 ?side3 ?side4 A3.out).mono ?_); (case side1 => exact kc_ HR0_0 HB); (case side2 => exact HC0_0.out); (case side3 => exact kc_ HR0_1 HB); (case side4 => exact HC0_1.out); rintro e w21 ⟨rfl, hb⟩; have n0_ := bb_ BK422 hb; have n1_ := bb_ BK423 hb; have n2_ := hb_ HB hb; clear BK422; clear BK423; clear HB; have BK422 := n0_; have BK423 := n1_; have HB := n2_; clear n0_ n1_ n2_; (try clear hb); (try clear hb2); (try clear hk); (try clear hi))))
  go_ret
  exact ⟨er_, hf_⟩
end Go.Proofs.Ytchellnfenekaaa.Pm
end
section
namespace Go.Proofs.Ytchellnfenekaaa.Pm
open Go.RowKit Go.Proofs.YtchellnfenekaaaW.PrintWords Go.Proofs.YtchellnfenekaaaW.PrintLast Go.Proofs.YtchellnfenekaaaW.PrintMore
attribute [local go_sem] max2_int min2_int max_two min_two max_three min_three max_four min_four   -- for this text's walks alone
set_option linter.unusedVariables false
set_option linter.unusedSimpArgs false
def legalB (kind event : Int) : Bool :=
  if event = 1 ∨ event = 5 then decide (1 ≤ kind ∧ kind ≤ 5) else if event = 2 ∨ event = 3 then decide (kind = 1 ∨ kind = 2) else if event = 4 then decide (3 ≤ kind ∧ kind ≤ 5) else false
theorem legal_eq (a b : Int) : model_Legal.f 2 a b = some (legalB a b) := by
  unfold model_Legal.f legalB
  by_cases h1 : b = 1
  · subst h1; simp only [model_Legal.j0]; by_cases h2 : a ≥ 1 <;> by_cases h3 : a ≤ 5 <;> simp [h2, h3]
  by_cases h5 : b = 5
  · subst h5; simp only [model_Legal.j0]; by_cases h2 : a ≥ 1 <;> by_cases h3 : a ≤ 5 <;> simp [h2, h3]
  rw [if_neg h1, show (b == 5) = false by simpa using h5]
  simp only [model_Legal.j0, Bool.false_eq_true, if_false]
  have h15 : ¬ (b = 1 ∨ b = 5) := by omega
  rw [if_neg h15]
  by_cases h2 : b = 2
  · subst h2; simp only [model_Legal.j1]; by_cases h3 : a = 1 <;> by_cases h4 : a = 2 <;> simp [h3, h4]
  by_cases h3 : b = 3
  · subst h3; simp only [model_Legal.j1]; by_cases h3 : a = 1 <;> by_cases h4 : a = 2 <;> simp [h3, h4]
  rw [if_neg h2, show (b == 3) = false by simpa using h3]
  simp only [model_Legal.j1, Bool.false_eq_true, if_false]
  have h23 : ¬ (b = 2 ∨ b = 3) := by omega
  rw [if_neg h23]
  by_cases h4 : b = 4
  · subst h4; by_cases h2 : a ≥ 3 <;> by_cases h3 : a ≤ 5 <;> simp [h2, h3]
  · simp [h4]
theorem wrap_lt {i n : Int} (h0 : 0 ≤ i) (h : i < n) (hn : n ≤ 9223372036854775807) : wrap64 (i + 1) = i + 1 := by
  unfold wrap64
  omega
def memB (l : List ByteArray) (s : ByteArray) : Bool := l.any (fun x => s.toList == x.toList)
theorem rdOf_get {α : Type} (z : α) (l : List α) (i : Nat) (h : i < l.length) : rdOf z l (i : Int) = l[i] := by
  simp [rdOf, List.getD_eq_getElem?_getD, List.getElem?_eq_getElem h]
theorem index_any (l : List ByteArray) (s : ByteArray) (hn : l.length ≤ 9223372036854775807) (d : Nat) : ∀ (i k : Nat), i + d = l.length → d < k → ∃ r, slices_Index_string_string.l0 k l s l.length i = some r ∧ decide (r ≥ 0) = (l.drop i).any (fun x => s.toList == x.toList) := by
  induction d with
  | zero =>
    intro i k hi hk
    obtain ⟨k, rfl⟩ : ∃ m, k = m + 1 := ⟨k - 1, by omega⟩
    refine ⟨-1, ?_, ?_⟩
    · simp only [slices_Index_string_string.l0]
      rw [if_neg (by omega)]
    · rw [List.drop_of_length_le (by omega)]
      rfl
  | succ d ih =>
    intro i k hi hk
    obtain ⟨k, rfl⟩ : ∃ m, k = m + 1 := ⟨k - 1, by omega⟩
    have hlt : i < l.length := by omega
    simp only [slices_Index_string_string.l0]
    rw [if_pos (by omega), if_pos (by omega), if_pos (by omega), rdOf_get _ _ _ hlt, List.drop_eq_getElem_cons hlt, List.any_cons]
    by_cases he : s.toList = l[i].toList
    · rw [if_pos he]
      refine ⟨i, rfl, ?_⟩
      rw [show (s.toList == l[i].toList) = true by simpa using he]
      simp
    · rw [if_neg he, show (s.toList == l[i].toList) = false by simpa using he, Bool.false_or, wrap_lt (n := (l.length : Int)) (by omega) (by omega) (by omega)]
      exact ih (i + 1) k (by omega) (by omega)
theorem contains_eq (l : List ByteArray) (s : ByteArray) (hn : l.length ≤ 9223372036854775807) (k : Nat) (hk : l.length < k) : slices_Contains_string_string.f k l s = some (memB l s) := by
  obtain ⟨r, hr, hd⟩ := index_any l s hn l.length 0 k (by omega) hk
  unfold slices_Contains_string_string.f slices_Index_string_string.f
  have hr' : _ = some r := hr
  simp only [Int.natCast_zero, Int.ofNat_eq_natCast, Int.cast_ofNat_Int] at hr'
  rw [hr', Option.bind_some, hd]
  rfl
abbrev hasOn_p (a : ByteArray) (b : Int) (x : S39) : Bool := a.toList == x.f0.toList && (b == x.f1)
def hasOn (l : List (S39)) (a : ByteArray) (b : Int) : Bool := l.any (hasOn_p a b)
theorem hasOn_any (l : List (S39)) (a : ByteArray) (b : Int) (hn : l.length ≤ 9223372036854775807) (d : Nat) : ∀ (i k : Nat), i + d = l.length → d < k → ∃ r, api_On_81.l0 k l l.length i a b = some r ∧ decide (r ≥ 0) = (l.drop i).any (hasOn_p a b) := by
  induction d with
  | zero =>
    intro i k hi hk
    obtain ⟨k, rfl⟩ : ∃ m, k = m + 1 := ⟨k - 1, by omega⟩
    refine ⟨-1, ?_, ?_⟩
    · simp only [api_On_81.l0]
      rw [if_neg (by omega)]
    · rw [List.drop_of_length_le (by omega)]
      rfl
  | succ d ih =>
    intro i k hi hk
    obtain ⟨k, rfl⟩ : ∃ m, k = m + 1 := ⟨k - 1, by omega⟩
    have hlt : i < l.length := by omega
    have hrd : rd_T39 l (i : Int) = l[i] := by simp [rd_T39, List.getD_eq_getElem?_getD, List.getElem?_eq_getElem hlt]
    simp only [api_On_81.l0]
    rw [if_pos (by omega), if_pos (by omega), if_pos (by omega), hrd, List.drop_eq_getElem_cons hlt, List.any_cons]
    cases he : hasOn_p a b l[i] with
    | true =>
      rw [if_pos he]
      exact ⟨i, rfl, by simp⟩
    | false =>
      rw [if_neg (show ¬ (hasOn_p a b l[i]) = true by rw [he]; simp), Bool.false_or, wrap_lt (n := (l.length : Int)) (by omega) (by omega) (by omega)]
      exact ih (i + 1) k (by omega) (by omega)
theorem hasOn_eq (l : List (S39)) (a : ByteArray) (b : Int) (hn : l.length ≤ 9223372036854775807) (k : Nat) (hk : l.length < k) : api_On_77.f k l a b = some (hasOn l a b) := by
  obtain ⟨r, hr, hd⟩ := hasOn_any l a b hn l.length 0 k (by omega) hk
  unfold api_On_77.f api_On_81.f
  have hr' : _ = some r := hr
  simp only [Int.natCast_zero, Int.ofNat_eq_natCast, Int.cast_ofNat_Int] at hr'
  rw [hr', Option.bind_some, hd]
  rfl
def placeI (l : List (S32)) (id : ByteArray) : Int := fidx (model_Place.p id) l
theorem fidx_lt {α : Type} (p : α → Bool) (l : List α) : fidx p l < l.length := by
  unfold fidx
  cases h : l.findIdx? p with
  | none => show (-1 : Int) < _; omega
  | some i =>
    obtain ⟨hi, _⟩ := List.findIdx?_eq_some_iff_getElem.1 h
    show (i : Int) < _
    omega
theorem placeI_lt (l : List (S32)) (id : ByteArray) : placeI l id < l.length := fidx_lt _ _
def onB (l : List (S32)) (a : ByteArray) (b : Int) : Bool := if 0 ≤ placeI l a then legalB (rd_T32 l (placeI l a)).f1 b else false
theorem isOn_eq (fs : List ByteArray) (l : List (S32)) (a : ByteArray) (b : Int) : model_isOn.f 2 fs l a b = some (onB l a b) := by
  unfold model_isOn.f onB model_Place.f
  rw [show fidx (model_Place.p a) l = placeI l a from rfl, Option.bind_some]
  by_cases h : 0 ≤ placeI l a
  · rw [if_pos h, if_pos h, if_pos (placeI_lt l a), legal_eq, if_pos h]
    rfl
  · rw [if_neg h, if_neg h]
def opsL : List ByteArray := [(⟨#[60]⟩ : ByteArray), (⟨#[60, 61]⟩ : ByteArray), (⟨#[61]⟩ : ByteArray), (⟨#[33, 61]⟩ : ByteArray), (⟨#[62, 61]⟩ : ByteArray), (⟨#[62]⟩ : ByteArray)]
def ifB (fs : List ByteArray) (file op : ByteArray) (n : Int) : Bool := memB opsL op && (memB fs file && decide (-1000000 ≤ n ∧ n ≤ 1000000))
theorem isIf_eq (fs : List ByteArray) (l : List (S32)) (a b : ByteArray) (c : Int) (hn : fs.length ≤ 9223372036854775807) (k : Nat) (hk : fs.length < k) (hk6 : 6 < k) : model_isIf.f k fs l a b c = some (ifB fs a b c) := by
  unfold model_isIf.f ifB
  rw [show ([(⟨#[60]⟩ : ByteArray), (⟨#[60, 61]⟩ : ByteArray), (⟨#[61]⟩ : ByteArray), (⟨#[33, 61]⟩ : ByteArray), (⟨#[62, 61]⟩ : ByteArray), (⟨#[62]⟩ : ByteArray)] : List ByteArray) = opsL by rfl, contains_eq opsL b (by decide) k hk6, contains_eq fs a hn k hk, Option.bind_some, Option.bind_some]
  cases memB opsL b <;> cases memB fs a <;> simp
  by_cases h : c ≥ -1000000 <;> by_cases h2 : c ≤ 1000000 <;> simp [h, h2] <;> omega
end Go.Proofs.Ytchellnfenekaaa.Pm
end
