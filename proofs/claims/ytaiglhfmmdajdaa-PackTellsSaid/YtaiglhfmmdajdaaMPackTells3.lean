/- Walks and plain laws on the way to the law PackTells: several texts of this workplace and of the kit's printer, merged; what is not used is struck, by a program. No condition. -/
import Derived.Test.YtaiglhfmmdajdaaMPackTells0
import Derived.Test.YtaiglhfmmdajdaaMPackTells1
import Derived.Test.YtaiglhfmmdajdaaMPackTells2
import Derived.Lib.Hide
section
namespace Go.Proofs.Ytaiglhfmmdajdaa.Pm
open Go.RowKit Go.Proofs.YtaiglhfmmdajdaaW.PrintWords Go.Proofs.YtaiglhfmmdajdaaW.PrintLast Go.Proofs.YtaiglhfmmdajdaaW.PrintMore
attribute [local go_sem] max2_int min2_int max_two min_two max_three min_three max_four min_four   -- for this text's walks alone
set_option linter.unusedVariables false
set_option linter.unusedSimpArgs false
mutual
def sentryref6_sentries.l0 : Nat → List (S54) → List Int → Int → List ByteArray → List (S48) → Option (List Int)
 | 0, _, _, _, _, _ => none
 | k + 1, x1, x5, x6, x175000, x175001 => if x6 < (x1.length : Int) then (if 0 ≤ x6 then ((sentryref6_num.f k (((rd_T54 x1 x6).f0).length : Int)).bind fun t179 => (if x5.length + t179.length < 140737488355328 then (sentryref6_sentries.l1 k x1 (x5 ++ t179) x6 0 x175000 x175001) else (none))) else (none)) else (some x5)
def sentryref6_sentries.l1 : Nat → List (S54) → List Int → Int → Int → List ByteArray → List (S48) → Option (List Int)
 | 0, _, _, _, _, _, _ => none
 | k + 1, x1, x5, x6, x7, x175000, x175001 => if 0 ≤ x6 then (if x6 < (x1.length : Int) then (if x7 < (((rd_T54 x1 x6).f0).length : Int) then (if 0 ≤ x7 then ((sentryref4_Place.f k x175000 x175001 ((rd_T103 ((rd_T54 x1 x6).f0) x7).f0)).bind fun t188 => ((sentryref6_num.f k t188).bind fun t189 => (if x5.length + t189.length < 140737488355328 then ((some (x5 ++ t189 : List Int)).bind fun y192 => ((sentryref6_num.f k ((rd_T103 ((rd_T54 x1 x6).f0) x7).f1)).bind fun t197 => (if y192.length + t197.length < 140737488355328 then (sentryref6_sentries.l1 k x1 (y192 ++ t197) x6 (wrap64 (x7 + 1)) x175000 x175001) else (none)))) else (none)))) else (none)) else ((sentryref6_num.f k (((rd_T54 x1 x6).f1).length : Int)).bind fun t204 => (if x5.length + t204.length < 140737488355328 then (sentryref6_sentries.l2 k x1 (x5 ++ t204) x6 0 x175000 x175001) else (none)))) else (none)) else (none)
def sentryref6_sentries.l2 : Nat → List (S54) → List Int → Int → Int → List ByteArray → List (S48) → Option (List Int)
 | 0, _, _, _, _, _, _ => none
 | k + 1, x1, x5, x6, x8, x175000, x175001 => if 0 ≤ x6 then (if x6 < (x1.length : Int) then (if x8 < (((rd_T54 x1 x6).f1).length : Int) then (if 0 ≤ x8 then (sentryref6_sentries.l3 k x1 x5 x6 x8 0 x175000 x175001 ((rd_T50 ((rd_T54 x1 x6).f1) x8).f0) ((rd_T50 ((rd_T54 x1 x6).f1) x8).f1) ((rd_T50 ((rd_T54 x1 x6).f1) x8).f2)) else (none)) else (sentryref6_sentries.l0 k x1 x5 (wrap64 (x6 + 1)) x175000 x175001)) else (none)) else (none)
def sentryref6_sentries.j4 : Nat → List (S54) → List Int → Int → Int → Int → List ByteArray → List (S48) → ByteArray → ByteArray → Int → Option (List Int)
 | 0, _, _, _, _, _, _, _, _, _, _ => none
 | k + 1, x1, x5, x6, x8, x10, x175000, x175001, x214000, x214001, x214002 => (sentryref6_num.f k x10).bind fun t215 => (if x5.length + t215.length < 140737488355328 then ((some (x5 ++ t215 : List Int)).bind fun y218 => ((sentryref4_Op.f k x214001).bind fun t221 => ((sentryref6_num.f k t221).bind fun t222 => (if y218.length + t222.length < 140737488355328 then ((some (y218 ++ t222 : List Int)).bind fun y225 => ((sentryref6_signed.f k x214002).bind fun t228 => (if y225.length + t228.length < 140737488355328 then (sentryref6_sentries.l2 k x1 (y225 ++ t228) x6 (wrap64 (x8 + 1)) x175000 x175001) else (none)))) else (none))))) else (none))
def sentryref6_sentries.l3 : Nat → List (S54) → List Int → Int → Int → Int → List ByteArray → List (S48) → ByteArray → ByteArray → Int → Option (List Int)
 | 0, _, _, _, _, _, _, _, _, _, _ => none
 | k + 1, x1, x5, x6, x8, x10, x175000, x175001, x214000, x214001, x214002 => if x10 < (x175000.length : Int) then (if 0 ≤ x10 then (if (rdOf ByteArray.empty x175000 x10).toList = x214000.toList then (sentryref6_sentries.j4 k x1 x5 x6 x8 x10 x175000 x175001 x214000 x214001 x214002) else (sentryref6_sentries.l3 k x1 x5 x6 x8 (wrap64 (x10 + 1)) x175000 x175001 x214000 x214001 x214002)) else (none)) else (sentryref6_sentries.j4 k x1 x5 x6 x8 x10 x175000 x175001 x214000 x214001 x214002)
end
def sentryref6_sentries.f (k : Nat) (l0_0 : List ByteArray) (l0_1 : List (S48)) (l1 : List (S54)) : Option (List Int) := (sentryref6_num.f k (l1.length : Int)).bind fun t175 => (sentryref6_sentries.l0 k l1 t175 0 l0_0 l0_1)
theorem sentryref6_sentries.mono_l : ∀ k, (∀ y0 y1 y2 y3 y4, LeO (sentryref6_sentries.l0 k y0 y1 y2 y3 y4) (sentryref6_sentries.l0 (k + 1) y0 y1 y2 y3 y4)) ∧ (∀ y0 y1 y2 y3 y4 y5, LeO (sentryref6_sentries.l1 k y0 y1 y2 y3 y4 y5) (sentryref6_sentries.l1 (k + 1) y0 y1 y2 y3 y4 y5)) ∧ (∀ y0 y1 y2 y3 y4 y5, LeO (sentryref6_sentries.l2 k y0 y1 y2 y3 y4 y5) (sentryref6_sentries.l2 (k + 1) y0 y1 y2 y3 y4 y5)) ∧ (∀ y0 y1 y2 y3 y4 y5 y6 y7 y8 y9, LeO (sentryref6_sentries.j4 k y0 y1 y2 y3 y4 y5 y6 y7 y8 y9) (sentryref6_sentries.j4 (k + 1) y0 y1 y2 y3 y4 y5 y6 y7 y8 y9)) ∧ (∀ y0 y1 y2 y3 y4 y5 y6 y7 y8 y9, LeO (sentryref6_sentries.l3 k y0 y1 y2 y3 y4 y5 y6 y7 y8 y9) (sentryref6_sentries.l3 (k + 1) y0 y1 y2 y3 y4 y5 y6 y7 y8 y9))
 | 0 => ⟨fun _ _ _ _ _ r h => by simp [sentryref6_sentries.l0] at h, fun _ _ _ _ _ _ r h => by simp [sentryref6_sentries.l1] at h, fun _ _ _ _ _ _ r h => by simp [sentryref6_sentries.l2] at h, fun _ _ _ _ _ _ _ _ _ _ r h => by simp [sentryref6_sentries.j4] at h, fun _ _ _ _ _ _ _ _ _ _ r h => by simp [sentryref6_sentries.l3] at h⟩
 | k + 1 => by
  obtain ⟨ih0, ih1, ih2, ih3, ih4⟩ := sentryref6_sentries.mono_l k
  refine ⟨?_, ?_, ?_, ?_, ?_⟩
  intro y0 y1 y2 y3 y4
  unfold sentryref6_sentries.l0
  rotate_left
  intro y0 y1 y2 y3 y4 y5
  unfold sentryref6_sentries.l1
  rotate_left
  intro y0 y1 y2 y3 y4 y5
  unfold sentryref6_sentries.l2
  rotate_left
  intro y0 y1 y2 y3 y4 y5 y6 y7 y8 y9
  unfold sentryref6_sentries.j4
  rotate_left
  intro y0 y1 y2 y3 y4 y5 y6 y7 y8 y9
  unfold sentryref6_sentries.l3
  rotate_left
  all_goals repeat' first
   | (with_reducible exact ih0 _ _ _ _ _)
   | (with_reducible exact ih1 _ _ _ _ _ _)
   | (with_reducible exact ih2 _ _ _ _ _ _)
   | (with_reducible exact ih3 _ _ _ _ _ _ _ _ _ _)
   | (with_reducible exact ih4 _ _ _ _ _ _ _ _ _ _)
   | (with_reducible exact sentryref4_Op.mono _ _)
   | (with_reducible exact sentryref4_Place.mono _ _ _ _)
   | (with_reducible exact sentryref6_num.mono _ _)
   | (with_reducible exact sentryref6_signed.mono _ _)
   | (with_reducible exact LeO.refl _)
   | (with_reducible exact LeO.none _)
   | (with_reducible refine LeO.ite ?_ ?_)
   | (with_reducible refine LeO.bind ?_ (fun _ => ?_))
   | exact ih0 _ _ _ _ _
   | exact ih1 _ _ _ _ _ _
   | exact ih2 _ _ _ _ _ _
   | exact ih3 _ _ _ _ _ _ _ _ _ _
   | exact ih4 _ _ _ _ _ _ _ _ _ _
   | exact sentryref4_Op.mono _ _
   | exact sentryref4_Place.mono _ _ _ _
   | exact sentryref6_num.mono _ _
   | exact sentryref6_signed.mono _ _
   | exact LeO.none _
   | refine LeO.ite ?_ ?_
   | refine LeO.bind ?_ (fun _ => ?_)
theorem sentryref6_sentries.mono : ∀ a0 a1 a2 k, LeO (sentryref6_sentries.f k a0 a1 a2) (sentryref6_sentries.f (k + 1) a0 a1 a2) := by
 intro a0 a1 a2 k
 obtain ⟨ih0, ih1, ih2, ih3, ih4⟩ := sentryref6_sentries.mono_l k
 unfold sentryref6_sentries.f
 repeat' first
   | (with_reducible exact ih0 _ _ _ _ _)
   | (with_reducible exact ih1 _ _ _ _ _ _)
   | (with_reducible exact ih2 _ _ _ _ _ _)
   | (with_reducible exact ih3 _ _ _ _ _ _ _ _ _ _)
   | (with_reducible exact ih4 _ _ _ _ _ _ _ _ _ _)
   | (with_reducible exact sentryref4_Op.mono _ _)
   | (with_reducible exact sentryref4_Place.mono _ _ _ _)
   | (with_reducible exact sentryref6_num.mono _ _)
   | (with_reducible exact sentryref6_signed.mono _ _)
   | (with_reducible exact LeO.refl _)
   | (with_reducible exact LeO.none _)
   | (with_reducible refine LeO.ite ?_ ?_)
   | (with_reducible refine LeO.bind ?_ (fun _ => ?_))
   | exact ih0 _ _ _ _ _
   | exact ih1 _ _ _ _ _ _
   | exact ih2 _ _ _ _ _ _
   | exact ih3 _ _ _ _ _ _ _ _ _ _
   | exact ih4 _ _ _ _ _ _ _ _ _ _
   | exact sentryref4_Op.mono _ _
   | exact sentryref4_Place.mono _ _ _ _
   | exact sentryref6_num.mono _ _
   | exact sentryref6_signed.mono _ _
   | exact LeO.none _
   | refine LeO.ite ?_ ?_
   | refine LeO.bind ?_ (fun _ => ?_)
def sentryref6_sentries.T9 : Bool × List (List Nat × List Nat) := (true, [([], []), ([], []), ([], []), ([], []), ([2, 3], [2, 3]), ([4], [4]), ([5], [5]), ([], []), ([6, 7], [6, 7]), ([8], [8]), ([9], [9]), ([1, 10], [1, 10]), ([11, 11], [11]), ([0, 12, 12], [0, 12]), ([], []), ([], []), ([14, 15], [14, 15]), ([16], [16]), ([17], [17]), ([], []), ([18, 19], [18, 19]), ([20], [20]), ([21], [21]), ([22, 13], [22]), ([13, 23, 23], [13, 23]), ([24, 24, 0, 1, 2, 3, 4, 5, 6, 7, 8, 9, 10, 11, 12, 13, 14, 15, 16, 17, 18, 19, 20, 21, 22, 23, 24], [0, 24])])
def sentryref6_sentries.B9 : List Nat := [0, 0, 0, 0, 12, 28, 60, 0, 252, 508, 1020, 2046, 4094, 8191, 0, 0, 49152, 114688, 245760, 0, 1032192, 2080768, 4177920, 8388607, 16777215, 33554431]
theorem sentryref6_sentries.tab9 : rtab .any (opsOf Try.f55 9) = sentryref6_sentries.T9 := by kernel_rfl
theorem sentryref6_sentries.bits9 : waitsOk sentryref6_sentries.T9.2 sentryref6_sentries.B9 = true := by kernel_rfl
def sentryref6_sentries.T16 : Bool × List (List Nat × List Nat) := (true, [([], []), ([], []), ([1], [1]), ([2], [2]), ([0, 3], [0, 3]), ([4], [4]), ([5], [5]), ([6, 5], [5, 6]), ([5], [5]), ([7, 8, 5], [5, 7, 8]), ([9, 5], [5, 9]), ([5], [5]), ([11, 5], [5, 11]), ([10, 12, 5], [5, 10, 12]), ([5, 13], [5, 13])])
def sentryref6_sentries.B16 : List Nat := [0, 0, 2, 6, 15, 31, 63, 127, 63, 511, 1023, 63, 2111, 8191, 16383]
theorem sentryref6_sentries.tab16 : rtab .any (opsOf Try.f55 16) = sentryref6_sentries.T16 := by kernel_rfl
theorem sentryref6_sentries.bits16 : waitsOk sentryref6_sentries.T16.2 sentryref6_sentries.B16 = true := by kernel_rfl
def sentryref6_sentries.T18 : Bool × List (List Nat × List Nat) := (true, [([], []), ([], []), ([1], [1]), ([0, 2, 2], [0, 2]), ([], []), ([4], [4]), ([5, 3], [5]), ([6, 6], [6]), ([3, 7, 7], [3, 7]), ([], []), ([9], [9]), ([10, 8], [10]), ([8, 11, 11], [8, 11]), ([12, 12, 0, 1, 2, 3, 4, 5, 6, 7, 8, 9, 10, 11, 12], [0, 12])])
def sentryref6_sentries.B18 : List Nat := [0, 0, 2, 7, 0, 16, 63, 127, 255, 0, 512, 2047, 4095, 8191]
theorem sentryref6_sentries.tab18 : rtab .any (opsOf Try.f55 18) = sentryref6_sentries.T18 := by kernel_rfl
theorem sentryref6_sentries.bits18 : waitsOk sentryref6_sentries.T18.2 sentryref6_sentries.B18 = true := by kernel_rfl
set_option maxHeartbeats 8000000 in
set_option maxRecDepth 100000 in
theorem sentryref6_sentries.calls (k : Nat) (A0_0 : Option Addr) (c0_0 : Nat) (l0_0 : List ByteArray) (A0_1 : Option Addr) (c0_1 : Nat) (l0_1 : List (S48)) (A1 : Option Addr) (c1 : Nat) (l1 : List (S54)) (r : List Int) (w : World) (hr0_0 : Kd.C Kd.string w A0_0 l0_0.length l0_0) (hc0_0 : l0_0.length ≤ c0_0) (hr0_1 : Kd.C k48 w A0_1 l0_1.length l0_1) (hc0_1 : l0_1.length ≤ c0_1) (hr1 : Kd.C k54 w A1 l1.length l1) (hc1 : l1.length ≤ c1) (h : sentryref6_sentries.f k l0_0 l0_1 l1 = some r) :
  Calls Try.prog 55 #[.agg #[.slice A0_0 l0_0.length c0_0, .slice A0_1 l0_1.length c0_1], .slice A1 l1.length c1] w fun e w' => ∃ v0_ : Value, e = .returned (v0_) ∧ Kd.R (Kd.int .u8) 5 w' w.heap.size (fun _ => True) v0_ r ∧ Below w.heap.size w w' := by
 have hu25 := Try.underlying25
 have hu50 := Try.underlying50
 have HR0_0 := Aside0.mk hr0_0
 have HC0_0 := Aside0.mk hc0_0
 clear hr0_0 hc0_0
 have HR0_1 := Aside0.mk hr0_1
 have HC0_1 := Aside0.mk hc0_1
 clear hr0_1 hc0_1
 have HR1 := Aside0.mk hr1
 have HC1 := Aside0.mk hc1
 clear hr1 hc1
 have HB := Aside0.mk (Below.refl w.heap.size w)
 have H : ((sentryref6_num.f k (l1.length : Int)).bind fun t175 => (sentryref6_sentries.l0 k l1 t175 0 l0_0 l0_1)) = some r := h
 clear h
 replace H := Option.bind_eq_some_iff.mp H
 obtain ⟨t175, A30, H⟩ := H
 replace H : (sentryref6_sentries.l0 k l1 t175 0 l0_0 l0_1) = some r := H
 have A3 := Aside0.mk A30
 clear A30
 have H' := Aside0.mk H
 clear H
 go_enter Try.func55, Try.ntmps55
 go_wp2_with (first | ((with_reducible refine gate_dst (N := 2) rfl ?_); refine box_event ?hg (N := 2) ?hd (cs := #[.slice A0_0 l0_0.length c0_0, .slice A0_1 l0_1.length c0_1]) (t := 25) ?hr ?_; (case hd => rfl); (case hg => rfl); (case hr => first | (go_simp; done) | (go_simp; rfl)); intro gb174 hg w4 hbox hb; have n0_ := hb_ HB hb; have n1_ := Aside0.mk (hbox); have n2_ := Aside0.mk ((by rw [hg]; exact (below_size (by repeat (first | (with_reducible first | exact HB.out | apply below_alloc | apply pw_below_drewN | apply below_drew1) | exact HB.out))) : w.heap.size ≤ gb174)); have n3_ := Aside0.mk ((by rw [hg]; exact (below_size (by repeat (first | (with_reducible first | exact HB.out | apply below_alloc | apply pw_below_drewN | apply below_drew1) | exact HB.out))) : w.heap.size ≤ gb174)); clear HB; have HB := n0_; have BK174 := n1_; have GW174 := n2_; have GE174 := n3_; clear n0_ n1_ n2_ n3_; clear hb hbox hg) | ((with_reducible refine gate_callee (f := 52) rfl ?_); refine gl_ (some 13) Try.func52 #[.int .i64 (l1.length : Int)] ?_; (with_reducible refine (sentryref6_num.calls k (l1.length : Int) t175 _ A3.out).mono ?_); rintro e w5 ⟨v176, rfl, ho0, hb⟩; refine ⟨_, rfl, ?_⟩; have n0_ := Aside0.mk (Kd.R_lower ho0 (below_size (by repeat (first | (with_reducible first | exact HB.out | apply below_alloc | apply pw_below_drewN | apply below_drew1 | refine below_set ?_ GE174.out) | exact HB.out)))); have n1_ := bb_ BK174 hb; have n2_ := hb_ HB hb; clear BK174; clear HB; have HO177 := n0_; have BK174 := n1_; have HB := n2_; clear n0_ n1_ n2_; (try clear hb); (try clear hb2); (try clear hk); (try clear hi); (try clear ho0)))
 go_loopg [5, 6] k (fun kq v5 v6 w' => ∃ (x5_1 : List Int) (x6_1 : Int), v6 = .int .i64 x6_1 ∧ Aside0 (sentryref6_sentries.l0 kq l1 x5_1 x6_1 l0_0 l0_1 = some r) ∧ Aside0 (kq ≤ k) ∧ Aside0 (Kd.R (Kd.int .u8) 5 w' w.heap.size (fun _ => True) v5 x5_1) ∧ Aside0 (w'.heap[gb174]? = some (.cells #[(.slice A0_0 l0_0.length c0_0), (.slice A0_1 l0_1.length c0_1)] 25 (0, 0))) ∧ Aside0 (Below w.heap.size w w'))
 case atStart => exact ⟨(t175), (0), (by first | rfl | (simp; done) | (simp [*]; done)), H', ⟨Nat.le_refl _⟩, ⟨by (with_reducible repeat (first | apply Kd.R_alloc | apply Kd.R_drewN | apply Kd.R_drew)); exact HO177.out⟩, ⟨gx_ BK174⟩, ⟨hf_⟩⟩
 case round =>
  clear H'
  (try clear c1); (try clear p2); (try clear c5)
  obtain ⟨x5_1, x6_1, rfl, HA, HK1, HO_5, BK174, HB⟩ := hrel
  cases gk with
  | zero => exact absurd HA.out (by simp [sentryref6_sentries.l0])
  | succ k1 =>
   have H := HA.out
   clear HA
   simp only [sentryref6_sentries.l0] at H
   by_cases c6 : x6_1 < (l1.length : Int)
   ·rw [if_pos c6] at H
    have c6b0 : decide (x6_1 < (l1.length : Int)) = true := decide_eq_true c6
    clear c6
    by_cases c7 : 0 ≤ x6_1
    ·rw [if_pos c7] at H
     have c7b0 : decide (0 ≤ x6_1) = true := decide_eq_true c7
     clear c7
     replace H := Option.bind_eq_some_iff.mp H
     obtain ⟨t179, A80, H⟩ := H
     replace H : (if x5_1.length + t179.length < 140737488355328 then (sentryref6_sentries.l1 k1 l1 (x5_1 ++ t179) x6_1 0 l0_0 l0_1) else (none)) = some r := H
     have A8 := Aside0.mk A80
     clear A80
     by_cases c9 : x5_1.length + t179.length < 140737488355328
     ·rw [if_pos c9] at H
      have LMc9 := Aside0.mk c9
      clear c9
      obtain ⟨y182, hy182⟩ : ∃ y_ : List Int, y_ = (x5_1 ++ t179) := ⟨_, rfl⟩
      replace H : (sentryref6_sentries.l1 k1 l1 y182 x6_1 0 l0_0 l0_1) = some r := by first | (rw [hy182]; with_reducible exact H) | (have H2_ := (Option.bind_some _ _).symm.trans H; rw [hy182]; with_reducible exact H2_) | (have H2_ := (Option.bind_some _ _).symm.trans H; with_reducible exact H2_) | with_reducible exact H | (rw [hy182]; exact H) | exact H
      have Ny182 := Aside0.mk hy182
      clear hy182
      have H' := Aside0.mk H
      clear H
      have p178 : 0 ≤ (x6_1 : Int) := od_
      have q178 : x6_1 < (l1.length : Int) := od_
      obtain ⟨ad178, A178_0, c178_0, A178_1, c178_1, e178, hx178_0, hx178_1, hl178_0, hi178_0, hl178_1, hi178_1⟩ := at_T54 HR1.out x6_1 p178 q178
      cases e178
      replace hx178_0 := rr_ HB hx178_0
      replace hx178_1 := rr_ HB hx178_1
      have HR178_0 := Aside0.mk hi178_0
      have HC178_0 := Aside0.mk hl178_0
      clear hi178_0 hl178_0
      have HR178_1 := Aside0.mk hi178_1
      have HC178_1 := Aside0.mk hl178_1
      clear hi178_1 hl178_1
      replace p178 := eq_true p178
      replace q178 := eq_true q178
      go_wp2_with (first | ((with_reducible refine gate_callee (f := 52) rfl ?_); refine gl_ (some 27) Try.func52 #[.int .i64 (((rd_T54 l1 x6_1).f0).length : Int)] ?_; (with_reducible refine (sentryref6_num.calls k1 (((rd_T54 l1 x6_1).f0).length : Int) t179 _ A8.out).mono ?_); rintro e w10 ⟨v180, rfl, ho0, hb⟩; refine ⟨_, rfl, ?_⟩; have n0_ := Aside0.mk (Kd.R_elder' (by (with_reducible repeat (first | apply Kd.R_alloc | apply Kd.R_drewN | apply Kd.R_drew)); exact HO_5.out) (Kd.R_base ho0) hb); have n1_ := Aside0.mk (Kd.R_lower (Kd.R_new' ho0 (Kd.R_lt (by (with_reducible repeat (first | apply Kd.R_alloc | apply Kd.R_drewN | apply Kd.R_drew)); exact HO_5.out))) (below_size (by repeat (first | (with_reducible first | exact HB.out | apply below_alloc | apply pw_below_drewN | apply below_drew1 | refine below_set ?_ GE174.out) | exact HB.out)))); have n2_ := bb_ BK174 hb; have n3_ := hb_ HB hb; clear HO_5; clear BK174; clear HB; have HO_5 := n0_; have HO181 := n1_; have BK174 := n2_; have HB := n3_; clear n0_ n1_ n2_ n3_; (try clear hb); (try clear hb2); (try clear hk); (try clear hi); (try clear ho0); obtain ⟨Ao12, co12, eo12⟩ := Kd.R_slice HO181.out; subst eo12) | ((with_reducible refine gate_builtin (b := .append) (xs := #[.tmp 20, .tmp 27]) rfl ?_); at_builtin; refine Kd.R_append_rows (Kd.int .u8) (w0 := w) w.heap.size rfl (.tmp 20) (.tmp 27) 26 5 (.int .u8 0) 1 rfl Try.underlying26 info5 rfl (by decide) (by omega) u5 x5_1 t179 _ _ _ (fun k_ => some k_ ≠ (.slice Ao12 t179.length co12 : Value).ownBlock) (fun _ => False) rfl rfl ?aO ?aR (fun _ _ h => h) (fun _ h => h.elim) ?aF ?aB ?aS ?aL ?_; (case aR => repeat (first | exact (Kd.R_reads' HO181.out).2.2 | (with_reducible refine Kd.C_alloc ?_ _) | (with_reducible refine Kd.C_drewN ?_ _) | (with_reducible refine Kd.C_drew ?_))); (case aB => exact (by repeat (first | (with_reducible first | exact HB.out | apply below_alloc | apply pw_below_drewN | apply below_drew1 | refine below_set ?_ GE174.out) | exact HB.out))); (case aF => exact (fun k_ hk => Kd.fresh' (Kd.R_lt (by (with_reducible repeat (first | apply Kd.R_alloc | apply Kd.R_drewN | apply Kd.R_drew)); exact HO181.out)) k_ hk)); (case aO => exact (by (with_reducible repeat (first | apply Kd.R_alloc | apply Kd.R_drewN | apply Kd.R_drew)); exact Kd.R_mono HO_5.out (fun _ hk => hk.2))); (case aS => exact (below_size (by repeat (first | (with_reducible first | exact HB.out | apply below_alloc | apply pw_below_drewN | apply below_drew1 | refine below_set ?_ GE174.out) | exact HB.out)))); (case aL => have := LMc9.out; omega); intro v183 w11 ho hb hg hat; rw [← Ny182.out] at ho; have n0_ := Aside0.mk (blk_grown (g := gb174) (o := .cells #[.slice A0_0 l0_0.length c0_0, .slice A0_1 l0_1.length c0_1] 25 (0, 0)) (by (with_reducible repeat (first | refine blk_drewN ?_ _ | refine blk_drew ?_ | refine blk_alloc ?_ _)); exact BK174.out) hg (Kd.R_ne HO_5.out BK174.out (by decide))); have n1_ := Aside0.mk (Kd.R_after (ok := (fun _ => True)) (by (with_reducible repeat (first | apply Kd.R_alloc | apply Kd.R_drewN | apply Kd.R_drew)); exact HO181.out) hg hat); have n2_ := Aside0.mk (hb); have n3_ := Aside0.mk (ho); clear BK174; clear HO181; clear HB; clear HO_5; have BK174 := n0_; have HO181 := n1_; have HB := n2_; have HO184 := n3_; clear n0_ n1_ n2_ n3_; clear ho hb hg hat))
      go_loopg [5, 7] k1 (fun kq v5 v7 w' => ∃ (x5_2 : List Int) (x7_2 : Int), v7 = .int .i64 x7_2 ∧ Aside0 (sentryref6_sentries.l1 kq l1 x5_2 x6_1 x7_2 l0_0 l0_1 = some r) ∧ Aside0 (kq ≤ k1) ∧ Aside0 (Kd.R (Kd.int .u8) 5 w' w.heap.size (fun _ => True) v5 x5_2) ∧ Aside0 (w'.heap[gb174]? = some (.cells #[(.slice A0_0 l0_0.length c0_0), (.slice A0_1 l0_1.length c0_1)] 25 (0, 0))) ∧ Aside0 (Below w.heap.size w w'))
      case atStart => exact ⟨(y182), (0), (by first | rfl | (simp; done) | (simp [*]; done)), H', ⟨Nat.le_refl _⟩, ⟨by (with_reducible repeat (first | apply Kd.R_alloc | apply Kd.R_drewN | apply Kd.R_drew)); exact Kd.R_mono HO184.out (fun _ hk => trivial)⟩, ⟨gx_ BK174⟩, ⟨hf_⟩⟩
      case round =>
       clear H'
       (try clear c1); (try clear p1); (try clear q1); (try clear hx1); (try clear p2); (try clear c5); (try clear c6); (try clear c6b0); (try clear c7); (try clear c7b0); (try clear c9); (try clear hx178_0); (try clear hx178_1); (try clear p178); (try clear p2); (try clear q178)
       obtain ⟨x5_2, x7_2, rfl, HA, HK2, HO_5, BK174, HB⟩ := hrel
       cases gk with
       | zero => exact absurd HA.out (by simp [sentryref6_sentries.l1])
       | succ k2 =>
        have H := HA.out
        clear HA
        simp only [sentryref6_sentries.l1] at H
        by_cases c13 : 0 ≤ x6_1
        ·rw [if_pos c13] at H
         have c13b0 : decide (0 ≤ x6_1) = true := decide_eq_true c13
         clear c13
         by_cases c14 : x6_1 < (l1.length : Int)
         ·rw [if_pos c14] at H
          have c14b0 : decide (x6_1 < (l1.length : Int)) = true := decide_eq_true c14
          clear c14
          by_cases c15 : x7_2 < (((rd_T54 l1 x6_1).f0).length : Int)
          ·rw [if_pos c15] at H
           have c15b0 : decide (x7_2 < (((rd_T54 l1 x6_1).f0).length : Int)) = true := decide_eq_true c15
           clear c15
           by_cases c16 : 0 ≤ x7_2
           ·rw [if_pos c16] at H
            have c16b0 : decide (0 ≤ x7_2) = true := decide_eq_true c16
            clear c16
            replace H := Option.bind_eq_some_iff.mp H
            obtain ⟨t188, A170, H⟩ := H
            replace H : ((sentryref6_num.f k2 t188).bind fun t189 => (if x5_2.length + t189.length < 140737488355328 then ((some (x5_2 ++ t189 : List Int)).bind fun y192 => ((sentryref6_num.f k2 ((rd_T103 ((rd_T54 l1 x6_1).f0) x7_2).f1)).bind fun t197 => (if y192.length + t197.length < 140737488355328 then (sentryref6_sentries.l1 k2 l1 (y192 ++ t197) x6_1 (wrap64 (x7_2 + 1)) l0_0 l0_1) else (none)))) else (none))) = some r := H
            have A17 := Aside0.mk A170
            clear A170
            replace H := Option.bind_eq_some_iff.mp H
            obtain ⟨t189, A180, H⟩ := H
            replace H : (if x5_2.length + t189.length < 140737488355328 then ((some (x5_2 ++ t189 : List Int)).bind fun y192 => ((sentryref6_num.f k2 ((rd_T103 ((rd_T54 l1 x6_1).f0) x7_2).f1)).bind fun t197 => (if y192.length + t197.length < 140737488355328 then (sentryref6_sentries.l1 k2 l1 (y192 ++ t197) x6_1 (wrap64 (x7_2 + 1)) l0_0 l0_1) else (none)))) else (none)) = some r := H
            have A18 := Aside0.mk A180
            clear A180
            by_cases c19 : x5_2.length + t189.length < 140737488355328
            ·rw [if_pos c19] at H
             have LMc19 := Aside0.mk c19
             clear c19
             obtain ⟨y192, hy192⟩ : ∃ y_ : List Int, y_ = (x5_2 ++ t189) := ⟨_, rfl⟩
             replace H : ((sentryref6_num.f k2 ((rd_T103 ((rd_T54 l1 x6_1).f0) x7_2).f1)).bind fun t197 => (if y192.length + t197.length < 140737488355328 then (sentryref6_sentries.l1 k2 l1 (y192 ++ t197) x6_1 (wrap64 (x7_2 + 1)) l0_0 l0_1) else (none))) = some r := by first | (rw [hy192]; with_reducible exact H) | (have H2_ := (Option.bind_some _ _).symm.trans H; rw [hy192]; with_reducible exact H2_) | (have H2_ := (Option.bind_some _ _).symm.trans H; with_reducible exact H2_) | with_reducible exact H | (rw [hy192]; exact H) | exact H
             have Ny192 := Aside0.mk hy192
             clear hy192
             replace H := Option.bind_eq_some_iff.mp H
             obtain ⟨t197, A200, H⟩ := H
             replace H : (if y192.length + t197.length < 140737488355328 then (sentryref6_sentries.l1 k2 l1 (y192 ++ t197) x6_1 (wrap64 (x7_2 + 1)) l0_0 l0_1) else (none)) = some r := H
             have A20 := Aside0.mk A200
             clear A200
             by_cases c21 : y192.length + t197.length < 140737488355328
             ·rw [if_pos c21] at H
              have LMc21 := Aside0.mk c21
              clear c21
              obtain ⟨y200, hy200⟩ : ∃ y_ : List Int, y_ = (y192 ++ t197) := ⟨_, rfl⟩
              replace H : (sentryref6_sentries.l1 k2 l1 y200 x6_1 (wrap64 (x7_2 + 1)) l0_0 l0_1) = some r := by first | (rw [hy200]; with_reducible exact H) | (have H2_ := (Option.bind_some _ _).symm.trans H; rw [hy200]; with_reducible exact H2_) | (have H2_ := (Option.bind_some _ _).symm.trans H; with_reducible exact H2_) | with_reducible exact H | (rw [hy200]; exact H) | exact H
              have Ny200 := Aside0.mk hy200
              clear hy200
              have H' := Aside0.mk H
              clear H
              have p185 : 0 ≤ (x6_1 : Int) := od_
              have q185 : x6_1 < (l1.length : Int) := od_
              obtain ⟨ad185, A185_0, c185_0, A185_1, c185_1, e185, hx185_0, hx185_1, hl185_0, hi185_0, hl185_1, hi185_1⟩ := at_T54 HR1.out x6_1 p185 q185
              obtain rfl : ad178 = ad185 := (by injection e185)
              replace hx185_0 := rr_ HB hx185_0
              replace hx185_1 := rr_ HB hx185_1
              have HR185_0 := Aside0.mk hi185_0
              have HC185_0 := Aside0.mk hl185_0
              clear hi185_0 hl185_0
              have HR185_1 := Aside0.mk hi185_1
              have HC185_1 := Aside0.mk hl185_1
              clear hi185_1 hl185_1
              replace p185 := eq_true p185
              replace q185 := eq_true q185
              try go_wp2
              replace HO_5 := Aside0.mk (Kd.R_drew HO_5.out)
              replace BK174 := Aside0.mk (blk_drew BK174.out)
              replace HB := Aside0.mk (below_drew1 HB.out)
              have p186 : 0 ≤ (x6_1 : Int) := od_
              have q186 : x6_1 < (l1.length : Int) := od_
              obtain ⟨ad186, A186_0, c186_0, A186_1, c186_1, e186, hx186_0, hx186_1, hl186_0, hi186_0, hl186_1, hi186_1⟩ := at_T54 HR1.out x6_1 p186 q186
              have hw186_1 := hx186_1
              have hw186_0 := hx186_0
              obtain rfl : ad178 = ad186 := (by injection e186)
              replace hx186_0 := rr_ HB hx186_0
              replace hx186_1 := rr_ HB hx186_1
              have HR186_0 := Aside0.mk hi186_0
              have HC186_0 := Aside0.mk hl186_0
              clear hi186_0 hl186_0
              have HR186_1 := Aside0.mk hi186_1
              have HC186_1 := Aside0.mk hl186_1
              clear hi186_1 hl186_1
              replace p186 := eq_true p186
              replace q186 := eq_true q186
              have p187 : 0 ≤ (x7_2 : Int) := od_
              have q187 : x7_2 < (((rd_T54 l1 x6_1).f0).length : Int) := od_
              obtain ⟨ad187, e187, hx187_0, hx187_1⟩ := at_T103 HR186_0.out x7_2 p187 q187
              have hw187_1 := hx187_1
              have hw187_0 := hx187_0
              cases e187
              replace hx187_0 := rr_ HB hx187_0
              replace hx187_1 := rr_ HB hx187_1
              replace p187 := eq_true p187
              replace q187 := eq_true q187
              have p195 : 0 ≤ (x6_1 : Int) := od_
              have q195 : x6_1 < (l1.length : Int) := od_
              obtain ⟨ad195, A195_0, c195_0, A195_1, c195_1, e195, hx195_0, hx195_1, hl195_0, hi195_0, hl195_1, hi195_1⟩ := at_T54 HR1.out x6_1 p195 q195
              have hw195_1 := hx195_1
              have hw195_0 := hx195_0
              obtain rfl : ad178 = ad195 := (by injection e195)
              replace hx195_0 := rr_ HB hx195_0
              replace hx195_1 := rr_ HB hx195_1
              have HR195_0 := Aside0.mk hi195_0
              have HC195_0 := Aside0.mk hl195_0
              clear hi195_0 hl195_0
              have HR195_1 := Aside0.mk hi195_1
              have HC195_1 := Aside0.mk hl195_1
              clear hi195_1 hl195_1
              replace p195 := eq_true p195
              replace q195 := eq_true q195
              have ea_ := Option.some.inj (hx186_0.symm.trans hx195_0)
              injection ea_ with ea_ en_ ec_
              subst ea_
              subst ec_
              clear en_
              have ea_ := Option.some.inj (hx186_1.symm.trans hx195_1)
              injection ea_ with ea_ en_ ec_
              subst ea_
              subst ec_
              clear en_
              have p196 : 0 ≤ (x7_2 : Int) := od_
              have q196 : x7_2 < (((rd_T54 l1 x6_1).f0).length : Int) := od_
              obtain ⟨ad196, e196, hx196_0, hx196_1⟩ := at_T103 HR195_0.out x7_2 p196 q196
              have hw196_1 := hx196_1
              have hw196_0 := hx196_0
              cases e196
              replace hx196_0 := rr_ HB hx196_0
              replace hx196_1 := rr_ HB hx196_1
              replace p196 := eq_true p196
              replace q196 := eq_true q196
              refine start_ (n := 26) (S := fun w' => w'.cell? ⟨gb174, 0, none⟩ = some (.slice A0_0 l0_0.length c0_0) ∧ w'.cell? ⟨gb174, 1, none⟩ = some (.slice A0_1 l0_1.length c0_1) ∧ w'.cell? (ad178.add ((x6_1).toNat * 2)) = some (.slice (some ad187) ((rd_T54 l1 x6_1).f0).length c186_0) ∧ w'.cell? ⟨(ad178.add ((x6_1).toNat * 2)).block, (ad178.add ((x6_1).toNat * 2)).off + 1, none⟩ = some (.slice A186_1 ((rd_T54 l1 x6_1).f1).length c186_1) ∧ w'.cell? (ad187.add ((x7_2).toNat * 2)) = some (.string ((rd_T103 ((rd_T54 l1 x6_1).f0) x7_2).f0)) ∧ w'.cell? ⟨(ad187.add ((x7_2).toNat * 2)).block, (ad187.add ((x7_2).toNat * 2)).off + 1, none⟩ = some (.int .i64 ((rd_T103 ((rd_T54 l1 x6_1).f0) x7_2).f1)) ∧ w'.cell? (ad178.add ((x6_1).toNat * 2)) = some (.slice (some ad187) ((rd_T54 l1 x6_1).f0).length c186_0) ∧ w'.cell? ⟨(ad178.add ((x6_1).toNat * 2)).block, (ad178.add ((x6_1).toNat * 2)).off + 1, none⟩ = some (.slice A186_1 ((rd_T54 l1 x6_1).f1).length c186_1) ∧ w'.cell? (ad187.add ((x7_2).toNat * 2)) = some (.string ((rd_T103 ((rd_T54 l1 x6_1).f0) x7_2).f0)) ∧ w'.cell? ⟨(ad187.add ((x7_2).toNat * 2)).block, (ad187.add ((x7_2).toNat * 2)).off + 1, none⟩ = some (.int .i64 ((rd_T103 ((rd_T54 l1 x6_1).f0) x7_2).f1))) (ds := []) #[false, false, false, false, false, false, false, false, false, false, false, false, false, false, false, false, false, false, false, false, false, false, false, false, false, false] (by kernel_rfl) rfl rfl ⟨(bk0_ BK174 :), (bk1_ BK174 :), (rr_ HB hw186_0 :), (rr_ HB hw186_1 :), (rr_ HB hw187_0 :), (rr_ HB hw187_1 :), (rr_ HB hw195_0 :), (rr_ HB hw195_1 :), (rr_ HB hw196_0 :), (rr_ HB hw196_1 :)⟩ (fun hHeld => ?_); refine with_tabW sentryref6_sentries.tab9 sentryref6_sentries.bits9 (fun HT_ HW_ => ?_)
              generalize wr.drew = w22 at HO_5 BK174 HB HR186_0 HR186_1 HR195_0 HR195_1 hx186_0 hx186_1 hx187_0 hx187_1 hx195_0 hx195_1 hx196_0 hx196_1 hHeld ⊢
              refine pz_ 0 (some 39) (bits_ 26 1) HT_.out ?_
              refine pz_ 2 (some 41) (bits_ 26 5) HT_.out ?_
              refine pz_ 3 (some 42) (bits_ 26 13) HT_.out ?_
              refine pz_ 4 (some 43) (bits_ 26 29) HT_.out ?_
              refine pz_ 5 (some 44) (bits_ 26 61) HT_.out ?_
              refine pz_ 7 (some 46) (bits_ 26 189) HT_.out ?_
              refine pz_ 14 (some 53) (bits_ 26 16573) HT_.out ?_
              refine pz_ 15 (some 54) (bits_ 26 49341) HT_.out ?_
              refine pz_ 16 (some 55) (bits_ 26 114877) HT_.out ?_
              refine pz_ 17 (some 56) (bits_ 26 245949) HT_.out ?_
              refine pz_ 19 (some 58) (bits_ 26 770237) HT_.out ?_
              refine tz_ 1 (some 40) (bits_ 26 770239) HT_.out HW_.out hHeld ?_ (hy := by rintro w' ⟨s0, s1, s2, s3, s4, s5, s6, s7, s8, s9⟩; go_simp; with_reducible rfl)
              refine tz_ 6 (some 45) (bits_ 26 770303) HT_.out HW_.out hHeld ?_ (hy := by rintro w' ⟨s0, s1, s2, s3, s4, s5, s6, s7, s8, s9⟩; go_simp; with_reducible rfl)
              refine pz_ 8 (some 47) (bits_ 26 770559) HT_.out ?_
              refine pz_ 9 (some 48) (bits_ 26 771071) HT_.out ?_
              refine tz_ 10 (some 49) (bits_ 26 772095) HT_.out HW_.out hHeld ?_ (hy := by rintro w' ⟨s0, s1, s2, s3, s4, s5, s6, s7, s8, s9⟩; go_simp; with_reducible rfl)
              refine tz_ 18 (some 57) (bits_ 26 1034239) HT_.out HW_.out hHeld ?_ (hy := by rintro w' ⟨s0, s1, s2, s3, s4, s5, s6, s7, s8, s9⟩; go_simp; with_reducible rfl)
              refine pz_ 20 (some 59) (bits_ 26 2082815) HT_.out ?_
              refine pz_ 21 (some 60) (bits_ 26 4179967) HT_.out ?_
              refine tz_ 22 (some 61) (bits_ 26 8374271) HT_.out HW_.out hHeld ?_ (hy := by rintro w' ⟨s0, s1, s2, s3, s4, s5, s6, s7, s8, s9⟩; go_simp; with_reducible rfl)
              refine oz_ 11 (some 50) (bits_ 26 8376319) HT_.out (fun K hK => ?_)
              refine go_s_ Try.func54 #[.agg #[.slice A0_0 l0_0.length c0_0, .slice A0_1 l0_1.length c0_1], .string ((rd_T103 ((rd_T54 l1 x6_1).f0) x7_2).f0)] ?_
              with_reducible refine (sentryref4_Place.calls k2 _ _ l0_0 _ _ l0_1 ((rd_T103 ((rd_T54 l1 x6_1).f0) x7_2).f0) t188 _ ?side1 ?side2 ?side3 ?side4 A17.out).mono ?_
              (case side1 => exact kc_ HR0_0 HB)
              (case side2 => exact HC0_0.out)
              (case side3 => exact kc_ HR0_1 HB)
              (case side4 => exact HC0_1.out)
              rintro e w23 ⟨rfl, hb⟩
              refine ⟨_, rfl, ?_⟩
              replace HO_5 := Aside0.mk (Kd.R_below (by (with_reducible repeat (first | apply Kd.R_alloc | apply Kd.R_drewN | apply Kd.R_drew)); exact HO_5.out) hb)
              replace BK174 := bb_ BK174 hb
              replace HB := hb_ HB hb
              (try clear hb); (try clear hb2); (try clear hk); (try clear hi)
              refine hK.out _ _ ⟨(bk0_ BK174 :), (bk1_ BK174 :), (rr_ HB hw186_0 :), (rr_ HB hw186_1 :), (rr_ HB hw187_0 :), (rr_ HB hw187_1 :), (rr_ HB hw195_0 :), (rr_ HB hw195_1 :), (rr_ HB hw196_0 :), (rr_ HB hw196_1 :)⟩ (fun hHeld => ?_)
              clear hK K
              refine nz_ (some 50) ?_
              refine oz_ 12 (some 51) (bits_ 26 8380415) HT_.out (fun K hK => ?_)
              refine go_s_ Try.func52 #[.int .i64 t188] ?_
              with_reducible refine (sentryref6_num.calls k2 t188 t189 _ A18.out).mono ?_
              rintro e w24 ⟨v190, rfl, ho0, hb⟩
              refine ⟨_, rfl, ?_⟩
              have n0_ := Aside0.mk (Kd.R_elder' (by (with_reducible repeat (first | apply Kd.R_alloc | apply Kd.R_drewN | apply Kd.R_drew)); exact HO_5.out) (Kd.R_base ho0) hb)
              have n1_ := Aside0.mk (Kd.R_lower (Kd.R_new' ho0 (Kd.R_lt (by (with_reducible repeat (first | apply Kd.R_alloc | apply Kd.R_drewN | apply Kd.R_drew)); exact HO_5.out))) (below_size (by repeat (first | (with_reducible first | exact HB.out | apply below_alloc | apply pw_below_drewN | apply below_drew1 | refine below_set ?_ GE174.out) | exact HB.out))))
              have n2_ := bb_ BK174 hb
              have n3_ := hb_ HB hb
              clear HO_5
              clear BK174
              clear HB
              have HO_5 := n0_
              have HO191 := n1_
              have BK174 := n2_
              have HB := n3_
              clear n0_ n1_ n2_ n3_
              (try clear hb); (try clear hb2); (try clear hk); (try clear hi); (try clear ho0)
              obtain ⟨Ao26, co26, eo26⟩ := Kd.R_slice HO191.out
              (first | subst eo26 | (injection eo26 with f1_ f2_ f3_; have f4_ := f1_.symm; have f5_ := f3_.symm; clear f1_ f2_ f3_; subst f4_; subst f5_))
              refine hK.out _ _ ⟨(bk0_ BK174 :), (bk1_ BK174 :), (rr_ HB hw186_0 :), (rr_ HB hw186_1 :), (rr_ HB hw187_0 :), (rr_ HB hw187_1 :), (rr_ HB hw195_0 :), (rr_ HB hw195_1 :), (rr_ HB hw196_0 :), (rr_ HB hw196_1 :)⟩ (fun hHeld => ?_)
              clear hK K
              refine nz_ (some 51) ?_
              refine oz_ 13 (some 52) (bits_ 26 8388607) HT_.out (fun K hK => ?_)
              refine Kd.R_append_rows_step (Kd.int .u8) (w0 := w) w.heap.size (by rfl) (.tmp 39) (.tmp 51) 26 5 (.int .u8 0) 1 rfl Try.underlying26 info5 rfl (by decide) (by omega) u5 x5_2 t189 _ _ _ (fun k_ => some k_ ≠ (.slice Ao26 t189.length co26 : Value).ownBlock) (fun _ => False) rfl rfl ?aO ?aR (fun _ _ h => h) (fun _ h => h.elim) ?aF ?aB ?aS ?aL ?_
              (case aR => repeat (first | exact (Kd.R_reads' HO191.out).2.2 | (with_reducible refine Kd.C_alloc ?_ _) | (with_reducible refine Kd.C_drewN ?_ _) | (with_reducible refine Kd.C_drew ?_)))
              (case aB => exact (by repeat (first | (with_reducible first | exact HB.out | apply below_alloc | apply pw_below_drewN | apply below_drew1 | refine below_set ?_ GE174.out) | exact HB.out)))
              (case aF => exact (fun k_ hk => Kd.fresh' (Kd.R_lt (by (with_reducible repeat (first | apply Kd.R_alloc | apply Kd.R_drewN | apply Kd.R_drew)); exact HO191.out)) k_ hk))
              (case aO => exact (by (with_reducible repeat (first | apply Kd.R_alloc | apply Kd.R_drewN | apply Kd.R_drew)); exact Kd.R_mono HO_5.out (fun _ hk => hk.2)))
              (case aS => exact (below_size (by repeat (first | (with_reducible first | exact HB.out | apply below_alloc | apply pw_below_drewN | apply below_drew1 | refine below_set ?_ GE174.out) | exact HB.out))))
              (case aL => have := LMc19.out; omega)
              intro v193 w25 ho hb hg hat
              rw [← Ny192.out] at ho
              replace BK174 := Aside0.mk (blk_grown (g := gb174) (o := .cells #[.slice A0_0 l0_0.length c0_0, .slice A0_1 l0_1.length c0_1] 25 (0, 0)) (by (with_reducible repeat (first | refine blk_drewN ?_ _ | refine blk_drew ?_ | refine blk_alloc ?_ _)); exact BK174.out) hg (Kd.R_ne HO_5.out BK174.out (by decide)))
              replace HO191 := Aside0.mk (Kd.R_after (ok := (fun _ => True)) (by (with_reducible repeat (first | apply Kd.R_alloc | apply Kd.R_drewN | apply Kd.R_drew)); exact HO191.out) hg hat)
              replace HB := Aside0.mk (hb)
              replace HO194 := Aside0.mk (ho)
              clear ho hb hg hat
              refine hK.out _ _ ⟨(bk0_ BK174 :), (bk1_ BK174 :), (rr_ HB hw186_0 :), (rr_ HB hw186_1 :), (rr_ HB hw187_0 :), (rr_ HB hw187_1 :), (rr_ HB hw195_0 :), (rr_ HB hw195_1 :), (rr_ HB hw196_0 :), (rr_ HB hw196_1 :)⟩ (fun hHeld => ?_)
              clear hK K
              refine nz_ (some 52) ?_
              refine oz_ 23 (some 62) (bits_ 26 16777215) HT_.out (fun K hK => ?_)
              refine go_s_ Try.func52 #[.int .i64 ((rd_T103 ((rd_T54 l1 x6_1).f0) x7_2).f1)] ?_
              with_reducible refine (sentryref6_num.calls k2 ((rd_T103 ((rd_T54 l1 x6_1).f0) x7_2).f1) t197 _ A20.out).mono ?_
              rintro e w27 ⟨v198, rfl, ho0, hb⟩
              refine ⟨_, rfl, ?_⟩
              have n0_ := Aside0.mk (Kd.R_elder' (by (with_reducible repeat (first | apply Kd.R_alloc | apply Kd.R_drewN | apply Kd.R_drew)); exact HO191.out) (Kd.R_base ho0) hb)
              have n1_ := Aside0.mk (Kd.R_elder' (by (with_reducible repeat (first | apply Kd.R_alloc | apply Kd.R_drewN | apply Kd.R_drew)); exact HO194.out) (Kd.R_base ho0) hb)
              have n2_ := Aside0.mk (Kd.R_lower (Kd.R_new' (Kd.R_new' ho0 (Kd.R_lt (by (with_reducible repeat (first | apply Kd.R_alloc | apply Kd.R_drewN | apply Kd.R_drew)); exact HO191.out))) (Kd.R_lt (by (with_reducible repeat (first | apply Kd.R_alloc | apply Kd.R_drewN | apply Kd.R_drew)); exact HO194.out))) (below_size (by repeat (first | (with_reducible first | exact HB.out | apply below_alloc | apply pw_below_drewN | apply below_drew1 | refine below_set ?_ GE174.out) | exact HB.out))))
              have n3_ := bb_ BK174 hb
              have n4_ := hb_ HB hb
              clear HO191
              clear HO194
              clear BK174
              clear HB
              have HO191 := n0_
              have HO194 := n1_
              have HO199 := n2_
              have BK174 := n3_
              have HB := n4_
              clear n0_ n1_ n2_ n3_ n4_
              (try clear hb); (try clear hb2); (try clear hk); (try clear hi); (try clear ho0)
              obtain ⟨Ao29, co29, eo29⟩ := Kd.R_slice HO199.out
              (first | subst eo29 | (injection eo29 with f1_ f2_ f3_; have f4_ := f1_.symm; have f5_ := f3_.symm; clear f1_ f2_ f3_; subst f4_; subst f5_))
              refine hK.out _ _ ⟨(bk0_ BK174 :), (bk1_ BK174 :), (rr_ HB hw186_0 :), (rr_ HB hw186_1 :), (rr_ HB hw187_0 :), (rr_ HB hw187_1 :), (rr_ HB hw195_0 :), (rr_ HB hw195_1 :), (rr_ HB hw196_0 :), (rr_ HB hw196_1 :)⟩ (fun hHeld => ?_)
              clear hK K
              refine nz_ (some 62) ?_
              refine oz_ 24 (some 63) (bits_ 26 33554431) HT_.out (fun K hK => ?_)
              refine Kd.R_append_rows_step (Kd.int .u8) (w0 := w) w.heap.size (by rfl) (.tmp 52) (.tmp 62) 26 5 (.int .u8 0) 1 rfl Try.underlying26 info5 rfl (by decide) (by omega) v193 y192 t197 _ _ _ (fun k_ => some k_ ≠ (.slice Ao26 t189.length co26 : Value).ownBlock ∧ some k_ ≠ (.slice Ao29 t197.length co29 : Value).ownBlock) (fun _ => False) rfl rfl ?aO ?aR (fun _ _ h => h) (fun _ h => h.elim) ?aF ?aB ?aS ?aL ?_
              (case aR => repeat (first | exact (Kd.R_reads' HO199.out).2.2 | (with_reducible refine Kd.C_alloc ?_ _) | (with_reducible refine Kd.C_drewN ?_ _) | (with_reducible refine Kd.C_drew ?_)))
              (case aB => exact (by repeat (first | (with_reducible first | exact HB.out | apply below_alloc | apply pw_below_drewN | apply below_drew1 | refine below_set ?_ GE174.out) | exact HB.out)))
              (case aF => exact (fun k_ hk => ⟨Kd.fresh' (Kd.R_lt (by (with_reducible repeat (first | apply Kd.R_alloc | apply Kd.R_drewN | apply Kd.R_drew)); exact HO191.out)) k_ hk, Kd.fresh' (Kd.R_lt (by (with_reducible repeat (first | apply Kd.R_alloc | apply Kd.R_drewN | apply Kd.R_drew)); exact HO199.out)) k_ hk⟩))
              (case aO => exact (by (with_reducible repeat (first | apply Kd.R_alloc | apply Kd.R_drewN | apply Kd.R_drew)); exact HO194.out))
              (case aS => exact (below_size (by repeat (first | (with_reducible first | exact HB.out | apply below_alloc | apply pw_below_drewN | apply below_drew1 | refine below_set ?_ GE174.out) | exact HB.out))))
              (case aL => have := LMc21.out; omega)
              intro v201 w28 ho hb hg hat
              rw [← Ny200.out] at ho
              replace BK174 := Aside0.mk (blk_grown (g := gb174) (o := .cells #[.slice A0_0 l0_0.length c0_0, .slice A0_1 l0_1.length c0_1] 25 (0, 0)) (by (with_reducible repeat (first | refine blk_drewN ?_ _ | refine blk_drew ?_ | refine blk_alloc ?_ _)); exact BK174.out) hg (Kd.R_ne HO194.out BK174.out (by decide)))
              replace HO191 := Aside0.mk (Kd.R_after (ok := (fun k_ => some k_ ≠ (.slice Ao29 t197.length co29 : Value).ownBlock)) (by (with_reducible repeat (first | apply Kd.R_alloc | apply Kd.R_drewN | apply Kd.R_drew)); exact Kd.R_mono HO191.out (fun _ hk => ⟨hk.2, hk.1.2⟩)) hg hat)
              replace HO199 := Aside0.mk (Kd.R_after (ok := (fun k_ => some k_ ≠ (.slice Ao26 t189.length co26 : Value).ownBlock)) (by (with_reducible repeat (first | apply Kd.R_alloc | apply Kd.R_drewN | apply Kd.R_drew)); exact Kd.R_mono HO199.out (fun _ hk => ⟨hk.1.2, hk.2⟩)) hg hat)
              replace HB := Aside0.mk (hb)
              replace HO202 := Aside0.mk (ho)
              clear ho hb hg hat
              refine hK.out _ _ ⟨(bk0_ BK174 :), (bk1_ BK174 :), (rr_ HB hw186_0 :), (rr_ HB hw186_1 :), (rr_ HB hw187_0 :), (rr_ HB hw187_1 :), (rr_ HB hw195_0 :), (rr_ HB hw195_1 :), (rr_ HB hw196_0 :), (rr_ HB hw196_1 :)⟩ (fun hHeld => ?_)
              clear hK K
              refine nz_ (some 63) ?_
              refine pz_ 25 (some 5) (bits_ 26 67108863) HT_.out ?_
              refine done_ (done_of HT_.out (by kernel_rfl)) ?_
              try go_wp2
              go_roundg k2
              case measure => have := HK1.out; have := HK2.out; omega
              case rel => exact ⟨(y200), (wrap64 (x7_2 + 1)), (by first | rfl | (simp; done) | (simp [*]; done)), H', ⟨by have := HK1.out; have := HK2.out; omega⟩, ⟨by (with_reducible repeat (first | apply Kd.R_alloc | apply Kd.R_drewN | apply Kd.R_drew)); exact Kd.R_mono HO202.out (fun _ hk => trivial)⟩, ⟨gx_ BK174⟩, ⟨hf_⟩⟩
             ·rw [if_neg c21] at H
              exact absurd H (by simp)
            ·rw [if_neg c19] at H
             exact absurd H (by simp)
           ·rw [if_neg c16] at H
            exact absurd H (by simp)
          ·rw [if_neg c15] at H
           have c15b0 : decide (x7_2 < (((rd_T54 l1 x6_1).f0).length : Int)) = false := decide_eq_false c15
           clear c15
           replace H := Option.bind_eq_some_iff.mp H
           obtain ⟨t204, A300, H⟩ := H
           replace H : (if x5_2.length + t204.length < 140737488355328 then (sentryref6_sentries.l2 k2 l1 (x5_2 ++ t204) x6_1 0 l0_0 l0_1) else (none)) = some r := H
           have A30 := Aside0.mk A300
           clear A300
           by_cases c31 : x5_2.length + t204.length < 140737488355328
           ·rw [if_pos c31] at H
            have LMc31 := Aside0.mk c31
            clear c31
            obtain ⟨y207, hy207⟩ : ∃ y_ : List Int, y_ = (x5_2 ++ t204) := ⟨_, rfl⟩
            replace H : (sentryref6_sentries.l2 k2 l1 y207 x6_1 0 l0_0 l0_1) = some r := by first | (rw [hy207]; with_reducible exact H) | (have H2_ := (Option.bind_some _ _).symm.trans H; rw [hy207]; with_reducible exact H2_) | (have H2_ := (Option.bind_some _ _).symm.trans H; with_reducible exact H2_) | with_reducible exact H | (rw [hy207]; exact H) | exact H
            have Ny207 := Aside0.mk hy207
            clear hy207
            have H' := Aside0.mk H
            clear H
            have p185 : 0 ≤ (x6_1 : Int) := od_
            have q185 : x6_1 < (l1.length : Int) := od_
            obtain ⟨ad185, A185_0, c185_0, A185_1, c185_1, e185, hx185_0, hx185_1, hl185_0, hi185_0, hl185_1, hi185_1⟩ := at_T54 HR1.out x6_1 p185 q185
            obtain rfl : ad178 = ad185 := (by injection e185)
            replace hx185_0 := rr_ HB hx185_0
            replace hx185_1 := rr_ HB hx185_1
            have HR185_0 := Aside0.mk hi185_0
            have HC185_0 := Aside0.mk hl185_0
            clear hi185_0 hl185_0
            have HR185_1 := Aside0.mk hi185_1
            have HC185_1 := Aside0.mk hl185_1
            clear hi185_1 hl185_1
            replace p185 := eq_true p185
            replace q185 := eq_true q185
            have p203 : 0 ≤ (x6_1 : Int) := od_
            have q203 : x6_1 < (l1.length : Int) := od_
            obtain ⟨ad203, A203_0, c203_0, A203_1, c203_1, e203, hx203_0, hx203_1, hl203_0, hi203_0, hl203_1, hi203_1⟩ := at_T54 HR1.out x6_1 p203 q203
            obtain rfl : ad178 = ad203 := (by injection e203)
            replace hx203_0 := rr_ HB hx203_0
            replace hx203_1 := rr_ HB hx203_1
            have HR203_0 := Aside0.mk hi203_0
            have HC203_0 := Aside0.mk hl203_0
            clear hi203_0 hl203_0
            have HR203_1 := Aside0.mk hi203_1
            have HC203_1 := Aside0.mk hl203_1
            clear hi203_1 hl203_1
            replace p203 := eq_true p203
            replace q203 := eq_true q203
            have ea_ := Option.some.inj (hx185_0.symm.trans hx203_0)
            injection ea_ with ea_ en_ ec_
            subst ea_
            subst ec_
            clear en_
            have ea_ := Option.some.inj (hx185_1.symm.trans hx203_1)
            injection ea_ with ea_ en_ ec_
            subst ea_
            subst ec_
            clear en_
            go_wp2_with (first | ((with_reducible refine gate_callee (f := 52) rfl ?_); refine gl_ (some 71) Try.func52 #[.int .i64 (((rd_T54 l1 x6_1).f1).length : Int)] ?_; (with_reducible refine (sentryref6_num.calls k2 (((rd_T54 l1 x6_1).f1).length : Int) t204 _ A30.out).mono ?_); rintro e w32 ⟨v205, rfl, ho0, hb⟩; refine ⟨_, rfl, ?_⟩; have n0_ := Aside0.mk (Kd.R_elder' (by (with_reducible repeat (first | apply Kd.R_alloc | apply Kd.R_drewN | apply Kd.R_drew)); exact HO_5.out) (Kd.R_base ho0) hb); have n1_ := Aside0.mk (Kd.R_lower (Kd.R_new' ho0 (Kd.R_lt (by (with_reducible repeat (first | apply Kd.R_alloc | apply Kd.R_drewN | apply Kd.R_drew)); exact HO_5.out))) (below_size (by repeat (first | (with_reducible first | exact HB.out | apply below_alloc | apply pw_below_drewN | apply below_drew1 | refine below_set ?_ GE174.out) | exact HB.out)))); have n2_ := bb_ BK174 hb; have n3_ := hb_ HB hb; clear HO_5; clear BK174; clear HB; have HO_5 := n0_; have HO206 := n1_; have BK174 := n2_; have HB := n3_; clear n0_ n1_ n2_ n3_; (try clear hb); (try clear hb2); (try clear hk); (try clear hi); (try clear ho0); obtain ⟨Ao34, co34, eo34⟩ := Kd.R_slice HO206.out; subst eo34) | ((with_reducible refine gate_builtin (b := .append) (xs := #[.tmp 64, .tmp 71]) rfl ?_); at_builtin; refine Kd.R_append_rows (Kd.int .u8) (w0 := w) w.heap.size rfl (.tmp 64) (.tmp 71) 26 5 (.int .u8 0) 1 rfl Try.underlying26 info5 rfl (by decide) (by omega) u5 x5_2 t204 _ _ _ (fun k_ => some k_ ≠ (.slice Ao34 t204.length co34 : Value).ownBlock) (fun _ => False) rfl rfl ?aO ?aR (fun _ _ h => h) (fun _ h => h.elim) ?aF ?aB ?aS ?aL ?_; (case aR => repeat (first | exact (Kd.R_reads' HO206.out).2.2 | (with_reducible refine Kd.C_alloc ?_ _) | (with_reducible refine Kd.C_drewN ?_ _) | (with_reducible refine Kd.C_drew ?_))); (case aB => exact (by repeat (first | (with_reducible first | exact HB.out | apply below_alloc | apply pw_below_drewN | apply below_drew1 | refine below_set ?_ GE174.out) | exact HB.out))); (case aF => exact (fun k_ hk => Kd.fresh' (Kd.R_lt (by (with_reducible repeat (first | apply Kd.R_alloc | apply Kd.R_drewN | apply Kd.R_drew)); exact HO206.out)) k_ hk)); (case aO => exact (by (with_reducible repeat (first | apply Kd.R_alloc | apply Kd.R_drewN | apply Kd.R_drew)); exact Kd.R_mono HO_5.out (fun _ hk => hk.2))); (case aS => exact (below_size (by repeat (first | (with_reducible first | exact HB.out | apply below_alloc | apply pw_below_drewN | apply below_drew1 | refine below_set ?_ GE174.out) | exact HB.out)))); (case aL => have := LMc31.out; omega); intro v208 w33 ho hb hg hat; rw [← Ny207.out] at ho; have n0_ := Aside0.mk (blk_grown (g := gb174) (o := .cells #[.slice A0_0 l0_0.length c0_0, .slice A0_1 l0_1.length c0_1] 25 (0, 0)) (by (with_reducible repeat (first | refine blk_drewN ?_ _ | refine blk_drew ?_ | refine blk_alloc ?_ _)); exact BK174.out) hg (Kd.R_ne HO_5.out BK174.out (by decide))); have n1_ := Aside0.mk (Kd.R_after (ok := (fun _ => True)) (by (with_reducible repeat (first | apply Kd.R_alloc | apply Kd.R_drewN | apply Kd.R_drew)); exact HO206.out) hg hat); have n2_ := Aside0.mk (hb); have n3_ := Aside0.mk (ho); clear BK174; clear HO206; clear HB; clear HO_5; have BK174 := n0_; have HO206 := n1_; have HB := n2_; have HO209 := n3_; clear n0_ n1_ n2_ n3_; clear ho hb hg hat))
            go_loopg [5, 8] k2 (fun kq v5 v8 w' => ∃ (x5_3 : List Int) (x8_3 : Int), v8 = .int .i64 x8_3 ∧ Aside0 (sentryref6_sentries.l2 kq l1 x5_3 x6_1 x8_3 l0_0 l0_1 = some r) ∧ Aside0 (kq ≤ k2) ∧ Aside0 (Kd.R (Kd.int .u8) 5 w' w.heap.size (fun _ => True) v5 x5_3) ∧ Aside0 (w'.heap[gb174]? = some (.cells #[(.slice A0_0 l0_0.length c0_0), (.slice A0_1 l0_1.length c0_1)] 25 (0, 0))) ∧ Aside0 (Below w.heap.size w w'))
            case atStart => exact ⟨(y207), (0), (by first | rfl | (simp; done) | (simp [*]; done)), H', ⟨Nat.le_refl _⟩, ⟨by (with_reducible repeat (first | apply Kd.R_alloc | apply Kd.R_drewN | apply Kd.R_drew)); exact Kd.R_mono HO209.out (fun _ hk => trivial)⟩, ⟨gx_ BK174⟩, ⟨hf_⟩⟩
            case round =>
             clear H'
             (try clear c1); (try clear p1); (try clear q1); (try clear hx1); (try clear c2); (try clear p2); (try clear q2); (try clear hx2); (try clear c3); (try clear c5); (try clear c6); (try clear c6b0); (try clear p6); (try clear c7); (try clear c7b0); (try clear c9); (try clear c13); (try clear c13b0); (try clear c14); (try clear c14b0); (try clear c15); (try clear c15b0); (try clear c16); (try clear c16b0); (try clear c17); (try clear p17); (try clear q17); (try clear hx17); (try clear c18); (try clear p18); (try clear q18); (try clear hx18); (try clear c19); (try clear p19); (try clear q19); (try clear hx19); (try clear c20); (try clear p20); (try clear q20); (try clear hx20); (try clear c21); (try clear c31); (try clear hx178_0); (try clear hx178_1); (try clear hx185_0); (try clear hx185_1); (try clear hx186_0); (try clear hx186_1); (try clear hx187_0); (try clear hx187_1); (try clear hx195_0); (try clear hx195_1); (try clear hx196_0); (try clear hx196_1); (try clear hx203_0); (try clear hx203_1); (try clear p1); (try clear p178); (try clear p185); (try clear p186); (try clear p187); (try clear p195); (try clear p196); (try clear p2); (try clear p203); (try clear q1); (try clear q178); (try clear q185); (try clear q186); (try clear q187); (try clear q195); (try clear q196); (try clear q203)
             obtain ⟨x5_3, x8_3, rfl, HA, HK3, HO_5, BK174, HB⟩ := hrel
             cases gk with
             | zero => exact absurd HA.out (by simp [sentryref6_sentries.l2])
             | succ k3 =>
              have H := HA.out
              clear HA
              simp only [sentryref6_sentries.l2] at H
              by_cases c35 : 0 ≤ x6_1
              ·rw [if_pos c35] at H
               have c35b0 : decide (0 ≤ x6_1) = true := decide_eq_true c35
               clear c35
               by_cases c36 : x6_1 < (l1.length : Int)
               ·rw [if_pos c36] at H
                have c36b0 : decide (x6_1 < (l1.length : Int)) = true := decide_eq_true c36
                clear c36
                by_cases c37 : x8_3 < (((rd_T54 l1 x6_1).f1).length : Int)
                ·rw [if_pos c37] at H
                 have c37b0 : decide (x8_3 < (((rd_T54 l1 x6_1).f1).length : Int)) = true := decide_eq_true c37
                 clear c37
                 by_cases c38 : 0 ≤ x8_3
                 ·rw [if_pos c38] at H
                  have c38b0 : decide (0 ≤ x8_3) = true := decide_eq_true c38
                  clear c38
                  have HC39 := Aside0.mk H
                  clear H
                  have p210 : 0 ≤ (x6_1 : Int) := od_
                  have q210 : x6_1 < (l1.length : Int) := od_
                  obtain ⟨ad210, A210_0, c210_0, A210_1, c210_1, e210, hx210_0, hx210_1, hl210_0, hi210_0, hl210_1, hi210_1⟩ := at_T54 HR1.out x6_1 p210 q210
                  obtain rfl : ad178 = ad210 := (by injection e210)
                  replace hx210_0 := rr_ HB hx210_0
                  replace hx210_1 := rr_ HB hx210_1
                  have HR210_0 := Aside0.mk hi210_0
                  have HC210_0 := Aside0.mk hl210_0
                  clear hi210_0 hl210_0
                  have HR210_1 := Aside0.mk hi210_1
                  have HC210_1 := Aside0.mk hl210_1
                  clear hi210_1 hl210_1
                  replace p210 := eq_true p210
                  replace q210 := eq_true q210
                  have p211 : 0 ≤ (x6_1 : Int) := od_
                  have q211 : x6_1 < (l1.length : Int) := od_
                  obtain ⟨ad211, A211_0, c211_0, A211_1, c211_1, e211, hx211_0, hx211_1, hl211_0, hi211_0, hl211_1, hi211_1⟩ := at_T54 HR1.out x6_1 p211 q211
                  obtain rfl : ad178 = ad211 := (by injection e211)
                  replace hx211_0 := rr_ HB hx211_0
                  replace hx211_1 := rr_ HB hx211_1
                  have HR211_0 := Aside0.mk hi211_0
                  have HC211_0 := Aside0.mk hl211_0
                  clear hi211_0 hl211_0
                  have HR211_1 := Aside0.mk hi211_1
                  have HC211_1 := Aside0.mk hl211_1
                  clear hi211_1 hl211_1
                  replace p211 := eq_true p211
                  replace q211 := eq_true q211
                  have ea_ := Option.some.inj (hx210_0.symm.trans hx211_0)
                  injection ea_ with ea_ en_ ec_
                  subst ea_
                  subst ec_
                  clear en_
                  have ea_ := Option.some.inj (hx210_1.symm.trans hx211_1)
                  injection ea_ with ea_ en_ ec_
                  subst ea_
                  subst ec_
                  clear en_
                  have p212 : 0 ≤ (x8_3 : Int) := od_
                  have q212 : x8_3 < (((rd_T54 l1 x6_1).f1).length : Int) := od_
                  obtain ⟨ad212, e212, hx212_0, hx212_1, hx212_2⟩ := at_T50 HR211_1.out x8_3 p212 q212
                  cases e212
                  replace hx212_0 := rr_ HB hx212_0
                  replace hx212_1 := rr_ HB hx212_1
                  replace hx212_2 := rr_ HB hx212_2
                  replace p212 := eq_true p212
                  replace q212 := eq_true q212
                  go_upto_block 6 with (first | ((with_reducible refine gate_dst (N := 9) rfl ?_); refine box_event ?hg (N := 9) ?hd (cs := #[.string (⟨#[]⟩ : ByteArray), .string (⟨#[]⟩ : ByteArray), .int .i64 0]) (t := 50) ?hr ?_; (case hd => rfl); (case hg => rfl); (case hr => first | (go_simp; done) | (go_simp; rfl)); intro gb213 hg w40 hbox hb; have n0_ := Aside0.mk (Kd.R_below (by (with_reducible repeat (first | apply Kd.R_alloc | apply Kd.R_drewN | apply Kd.R_drew)); exact HO_5.out) hb); have n1_ := bb_ BK174 hb; have n2_ := hb_ HB hb; have n3_ := Aside0.mk (hbox); have n4_ := Aside0.mk ((by rw [hg]; exact (below_size (by repeat (first | (with_reducible first | exact HB.out | apply below_alloc | apply pw_below_drewN | apply below_drew1 | refine below_set ?_ GE174.out) | exact HB.out))) : w.heap.size ≤ gb213)); have n5_ := Aside0.mk ((by rw [hg]; exact (below_size (by repeat (first | (with_reducible first | exact HB.out | apply below_alloc | apply pw_below_drewN | apply below_drew1 | refine below_set ?_ GE174.out) | exact HB.out))) : w.heap.size ≤ gb213)); have n6_ := Aside0.mk ((by rw [hg]; exact Nat.ne_of_lt (blk_lt (g := gb174) (o := .cells #[.slice A0_0 l0_0.length c0_0, .slice A0_1 l0_1.length c0_1] 25 (0, 0)) (by (with_reducible repeat (first | refine blk_drewN ?_ _ | refine blk_drew ?_ | refine blk_alloc ?_ _)); exact BK174.out)) : gb174 ≠ gb213)); have n7_ := Aside0.mk ((by rw [hg]; exact Nat.ne_of_gt (blk_lt (g := gb174) (o := .cells #[.slice A0_0 l0_0.length c0_0, .slice A0_1 l0_1.length c0_1] 25 (0, 0)) (by (with_reducible repeat (first | refine blk_drewN ?_ _ | refine blk_drew ?_ | refine blk_alloc ?_ _)); exact BK174.out)) : gb213 ≠ gb174)); clear HO_5; clear BK174; clear HB; have HO_5 := n0_; have BK174 := n1_; have HB := n2_; have BK213 := n3_; have GW213 := n4_; have GE213 := n5_; have NB174_213 := n6_; have NB213_174 := n7_; clear n0_ n1_ n2_ n3_ n4_ n5_ n6_ n7_; clear hb hbox hg; have hnb41 := NB213_174.out; have hnc41 := NB174_213.out; obtain ⟨hcz42_0, hcz42_1, hcz42_2, hfz42_0, hfz42_1, hfz42_2⟩ := bs3_ BK213))
                  (try simp only [Act.put, List.setIfInBounds_toArray, List.set_cons_zero, List.set_cons_succ])
                  go_cut [10] (fun v10 wc => ∃ (kq : Nat) (x10_38 : Int), v10 = .int .i64 x10_38 ∧ Aside0 (sentryref6_sentries.j4 kq l1 x5_3 x6_1 x8_3 x10_38 l0_0 l0_1 ((rd_T50 ((rd_T54 l1 x6_1).f1) x8_3).f0) ((rd_T50 ((rd_T54 l1 x6_1).f1) x8_3).f1) ((rd_T50 ((rd_T54 l1 x6_1).f1) x8_3).f2) = some r) ∧ Aside0 (kq ≤ k3) ∧ Aside0 (Kd.R (Kd.int .u8) 5 wc w.heap.size (fun _ => True) u5 x5_3) ∧ Aside0 (wc.heap[gb174]? = some (.cells #[(.slice A0_0 l0_0.length c0_0), (.slice A0_1 l0_1.length c0_1)] 25 (0, 0))) ∧ Aside0 (wc.heap[gb213]? = some (.cells #[.string ((rd_T50 ((rd_T54 l1 x6_1).f1) x8_3).f0), .string ((rd_T50 ((rd_T54 l1 x6_1).f1) x8_3).f1), .int .i64 ((rd_T50 ((rd_T54 l1 x6_1).f1) x8_3).f2)] 50 (0, 0))) ∧ Aside0 (Below w.heap.size w wc))
                  case first =>
                   have H := HC39.out
                   clear HC39
                   have H' := Aside0.mk H
                   clear H
                   go_wp2
                   go_loopg [10] k3 (fun kq v10 w' => ∃ (x10_4 : Int), v10 = .int .i64 x10_4 ∧ Aside0 (sentryref6_sentries.l3 kq l1 x5_3 x6_1 x8_3 x10_4 l0_0 l0_1 ((rd_T50 ((rd_T54 l1 x6_1).f1) x8_3).f0) ((rd_T50 ((rd_T54 l1 x6_1).f1) x8_3).f1) ((rd_T50 ((rd_T54 l1 x6_1).f1) x8_3).f2) = some r) ∧ Aside0 (kq ≤ k3) ∧ Aside0 (Kd.R (Kd.int .u8) 5 w' w.heap.size (fun _ => True) u5 x5_3) ∧ Aside0 (w'.heap[gb174]? = some (.cells #[(.slice A0_0 l0_0.length c0_0), (.slice A0_1 l0_1.length c0_1)] 25 (0, 0))) ∧ Aside0 (w'.heap[gb213]? = some (.cells #[.string ((rd_T50 ((rd_T54 l1 x6_1).f1) x8_3).f0), .string ((rd_T50 ((rd_T54 l1 x6_1).f1) x8_3).f1), .int .i64 ((rd_T50 ((rd_T54 l1 x6_1).f1) x8_3).f2)] 50 (0, 0))) ∧ Aside0 (Below w.heap.size w w'))
                   case atStart => exact ⟨(0), (by first | rfl | (simp; done) | (simp [*]; done)), H', ⟨Nat.le_refl _⟩, ⟨by (with_reducible repeat (first | apply Kd.R_alloc | apply Kd.R_drewN | apply Kd.R_drew)); exact Kd.R_mono (Kd.R_far (p := ⟨gb213, 2, none⟩) (Kd.R_far (p := ⟨gb213, 1, none⟩) (Kd.R_far (p := ⟨gb213, 0, none⟩) (Kd.R_types HO_5.out BK213.out (by decide)) (fun _ hk => hk.2) (.string ((rd_T50 ((rd_T54 l1 x6_1).f1) x8_3).f0))) (fun _ hk => hk.2) (.string ((rd_T50 ((rd_T54 l1 x6_1).f1) x8_3).f1))) (fun _ hk => hk.2) (.int .i64 ((rd_T50 ((rd_T54 l1 x6_1).f1) x8_3).f2))) (fun _ hk => trivial)⟩, ⟨by (with_reducible repeat (first | refine blk_drewN ?_ _ | refine blk_drew ?_ | refine blk_alloc ?_ _)); refine blk_far ?_ NB174_213.out _; (with_reducible repeat (first | refine blk_drewN ?_ _ | refine blk_drew ?_ | refine blk_alloc ?_ _)); refine blk_far ?_ NB174_213.out _; (with_reducible repeat (first | refine blk_drewN ?_ _ | refine blk_drew ?_ | refine blk_alloc ?_ _)); refine blk_far ?_ NB174_213.out _; (with_reducible repeat (first | refine blk_drewN ?_ _ | refine blk_drew ?_ | refine blk_alloc ?_ _)); exact BK174.out⟩, ⟨by (with_reducible repeat (first | refine blk_drewN ?_ _ | refine blk_drew ?_ | refine blk_alloc ?_ _)); refine blk_put (cs := #[.string ((rd_T50 ((rd_T54 l1 x6_1).f1) x8_3).f0), .string ((rd_T50 ((rd_T54 l1 x6_1).f1) x8_3).f1), .int .i64 0]) ?_ 2 _ rfl; (with_reducible repeat (first | refine blk_drewN ?_ _ | refine blk_drew ?_ | refine blk_alloc ?_ _)); refine blk_put (cs := #[.string ((rd_T50 ((rd_T54 l1 x6_1).f1) x8_3).f0), .string (⟨#[]⟩ : ByteArray), .int .i64 0]) ?_ 1 _ rfl; (with_reducible repeat (first | refine blk_drewN ?_ _ | refine blk_drew ?_ | refine blk_alloc ?_ _)); refine blk_put (cs := #[.string (⟨#[]⟩ : ByteArray), .string (⟨#[]⟩ : ByteArray), .int .i64 0]) ?_ 0 _ rfl; (with_reducible repeat (first | refine blk_drewN ?_ _ | refine blk_drew ?_ | refine blk_alloc ?_ _)); exact BK213.out⟩, ⟨hf_⟩⟩
                   case round =>
                    clear H'
                    (try clear c1); (try clear p1); (try clear q1); (try clear hx1); (try clear c2); (try clear p2); (try clear q2); (try clear hx2); (try clear c3); (try clear c4); (try clear c5); (try clear c6); (try clear c6b0); (try clear p6); (try clear c7); (try clear c7b0); (try clear c9); (try clear c13); (try clear c13b0); (try clear c14); (try clear c14b0); (try clear c15); (try clear c15b0); (try clear c16); (try clear c16b0); (try clear c17); (try clear p17); (try clear q17); (try clear hx17); (try clear c18); (try clear p18); (try clear q18); (try clear hx18); (try clear c19); (try clear p19); (try clear q19); (try clear hx19); (try clear c20); (try clear p20); (try clear q20); (try clear hx20); (try clear c21); (try clear p21); (try clear q21); (try clear hx21); (try clear c31); (try clear c35); (try clear c35b0); (try clear c36); (try clear c36b0); (try clear c37); (try clear c37b0); (try clear c38); (try clear c38b0); (try clear c41); (try clear hcz42_0); (try clear hcz42_1); (try clear hcz42_2); (try clear hfz42_0); (try clear hfz42_1); (try clear hfz42_2); (try clear hx178_0); (try clear hx178_1); (try clear hx185_0); (try clear hx185_1); (try clear hx186_0); (try clear hx186_1); (try clear hx187_0); (try clear hx187_1); (try clear hx195_0); (try clear hx195_1); (try clear hx196_0); (try clear hx196_1); (try clear hx203_0); (try clear hx203_1); (try clear hx210_0); (try clear hx210_1); (try clear hx211_0); (try clear hx211_1); (try clear hx212_0); (try clear hx212_1); (try clear hx212_2); (try clear p1); (try clear p17); (try clear p178); (try clear p18); (try clear p185); (try clear p186); (try clear p187); (try clear p19); (try clear p195); (try clear p196); (try clear p2); (try clear p20); (try clear p203); (try clear p210); (try clear p211); (try clear p212); (try clear p6); (try clear q1); (try clear q17); (try clear q178); (try clear q18); (try clear q185); (try clear q186); (try clear q187); (try clear q19); (try clear q195); (try clear q196); (try clear q2); (try clear q20); (try clear q203); (try clear q210); (try clear q211); (try clear q212)
                    obtain ⟨x10_4, rfl, HA, HK4, HO_5, BK174, BK213, HB⟩ := hrel
                    cases gk with
                    | zero => exact absurd HA.out (by simp [sentryref6_sentries.l3])
                    | succ k4 =>
                     have H := HA.out
                     clear HA
                     simp only [sentryref6_sentries.l3] at H
                     by_cases c43 : x10_4 < (l0_0.length : Int)
                     ·rw [if_pos c43] at H
                      have c43b0 : decide (x10_4 < (l0_0.length : Int)) = true := decide_eq_true c43
                      clear c43
                      (first | rw [c43b0] | (simp only [i64_w, i32_w]; rw [c43b0]) | skip)
                      by_cases c44 : 0 ≤ x10_4
                      ·rw [if_pos c44] at H
                       have c44b0 : decide (0 ≤ x10_4) = true := decide_eq_true c44
                       clear c44
                       by_cases c45 : (rdOf ByteArray.empty l0_0 x10_4).toList = ((rd_T50 ((rd_T54 l1 x6_1).f1) x8_3).f0).toList
                       ·rw [if_pos c45] at H
                        have c45b0 : ((rdOf ByteArray.empty l0_0 x10_4).toList == ((rd_T50 ((rd_T54 l1 x6_1).f1) x8_3).f0).toList) = true := beq_iff_eq.mpr c45
                        have c45b1 : ((rdOf ByteArray.empty l0_0 x10_4).toList != ((rd_T50 ((rd_T54 l1 x6_1).f1) x8_3).f0).toList) = false := bne_eq_false_iff_eq.mpr c45
                        clear c45
                        have H' := Aside0.mk H
                        clear H
                        try go_wp2
                        replace HO_5 := Aside0.mk (Kd.R_drew HO_5.out)
                        replace BK174 := Aside0.mk (blk_drew BK174.out)
                        replace BK213 := Aside0.mk (blk_drew BK213.out)
                        replace HB := Aside0.mk (below_drew1 HB.out)
                        have p214 : 0 ≤ (x10_4 : Int) := od_
                        have q214 : x10_4 < (l0_0.length : Int) := od_
                        obtain ⟨ad214, e214, hx214_0⟩ := Kd.at_string HR0_0.out x10_4 p214 q214
                        have hw214_0 := hx214_0
                        cases e214
                        replace hx214_0 := rr_ HB hx214_0
                        replace p214 := eq_true p214
                        replace q214 := eq_true q214
                        refine start_ (n := 15) (S := fun w' => w'.cell? ⟨gb174, 0, none⟩ = some (.slice (some ad214) l0_0.length c0_0) ∧ w'.cell? ⟨gb174, 1, none⟩ = some (.slice A0_1 l0_1.length c0_1) ∧ w'.cell? ⟨gb213, 0, none⟩ = some (.string ((rd_T50 ((rd_T54 l1 x6_1).f1) x8_3).f0)) ∧ w'.cell? ⟨gb213, 1, none⟩ = some (.string ((rd_T50 ((rd_T54 l1 x6_1).f1) x8_3).f1)) ∧ w'.cell? ⟨gb213, 2, none⟩ = some (.int .i64 ((rd_T50 ((rd_T54 l1 x6_1).f1) x8_3).f2)) ∧ w'.cell? (ad214.add (x10_4).toNat) = some (.string (rdOf ByteArray.empty l0_0 x10_4))) (ds := []) #[false, false, false, false, false, false, false, false, false, false, false, false, false, false, false] (by kernel_rfl) rfl rfl ⟨(bk0_ BK174 :), (bk1_ BK174 :), (bk0_ BK213 :), (bk1_ BK213 :), (bk2_ BK213 :), (rr_ HB hw214_0 :)⟩ (fun hHeld => ?_); refine with_tabW sentryref6_sentries.tab16 sentryref6_sentries.bits16 (fun HT_ HW_ => ?_)
                        generalize wr.drew = w46 at HO_5 BK174 BK213 HB hx214_0 hHeld ⊢
                        refine pz_ 0 (some 91) (bits_ 15 1) HT_.out ?_
                        refine pz_ 1 (some 92) (bits_ 15 3) HT_.out ?_
                        refine tz_ 2 (some 93) (bits_ 15 7) HT_.out HW_.out hHeld ?_ (hy := by rintro w' ⟨s0, s1, s2, s3, s4, s5⟩; go_simp; with_reducible rfl)
                        refine pz_ 3 (some 94) (bits_ 15 15) HT_.out ?_
                        refine pz_ 4 (some 95) (bits_ 15 31) HT_.out ?_
                        refine pz_ 5 (some 96) (bits_ 15 63) HT_.out ?_
                        refine pz_ 6 (some 97) (bits_ 15 127) HT_.out ?_
                        refine pz_ 8 (some 99) (bits_ 15 383) HT_.out ?_
                        refine pz_ 11 (some 102) (bits_ 15 2431) HT_.out ?_
                        refine tz_ 7 (some 98) (bits_ 15 2559) HT_.out HW_.out hHeld ?_ (hy := by rintro w' ⟨s0, s1, s2, s3, s4, s5⟩; go_simp; with_reducible rfl)
                        refine pz_ 9 (some 100) (bits_ 15 3071) HT_.out ?_
                        refine tz_ 10 (some 101) (bits_ 15 4095) HT_.out HW_.out hHeld ?_ (hy := by rintro w' ⟨s0, s1, s2, s3, s4, s5⟩; go_simp; with_reducible rfl)
                        refine tz_ 12 (some 103) (bits_ 15 8191) HT_.out HW_.out hHeld ?_ (hy := by rintro w' ⟨s0, s1, s2, s3, s4, s5⟩; go_simp; with_reducible rfl)
                        refine pz_ 13 (some 104) (bits_ 15 16383) HT_.out ?_
                        refine pz_ 14 (some 105) (bits_ 15 32767) HT_.out ?_
                        refine done_ (done_of HT_.out (by kernel_rfl)) ?_
                        try go_wp2
                        go_meet
                        case rel => exact ⟨_, (x10_4), (by first | rfl | (simp; done) | (simp [*]; done)), H', ⟨by have := HK1.out; have := HK2.out; have := HK3.out; have := HK4.out; first | omega | exact Nat.le_refl _⟩, ⟨by (with_reducible repeat (first | apply Kd.R_alloc | apply Kd.R_drewN | apply Kd.R_drew)); exact HO_5.out⟩, ⟨gx_ BK174⟩, ⟨gx_ BK213⟩, ⟨hf_⟩⟩
                       ·rw [if_neg c45] at H
                        have c45b0 : ((rdOf ByteArray.empty l0_0 x10_4).toList == ((rd_T50 ((rd_T54 l1 x6_1).f1) x8_3).f0).toList) = false := beq_eq_false_iff_ne.mpr c45
                        have c45b1 : ((rdOf ByteArray.empty l0_0 x10_4).toList != ((rd_T50 ((rd_T54 l1 x6_1).f1) x8_3).f0).toList) = true := bne_iff_ne.mpr c45
                        have H' := Aside0.mk H
                        clear H
                        try go_wp2
                        replace HO_5 := Aside0.mk (Kd.R_drew HO_5.out)
                        replace BK174 := Aside0.mk (blk_drew BK174.out)
                        replace BK213 := Aside0.mk (blk_drew BK213.out)
                        replace HB := Aside0.mk (below_drew1 HB.out)
                        have p214 : 0 ≤ (x10_4 : Int) := od_
                        have q214 : x10_4 < (l0_0.length : Int) := od_
                        obtain ⟨ad214, e214, hx214_0⟩ := Kd.at_string HR0_0.out x10_4 p214 q214
                        have hw214_0 := hx214_0
                        cases e214
                        replace hx214_0 := rr_ HB hx214_0
                        replace p214 := eq_true p214
                        replace q214 := eq_true q214
                        refine start_ (n := 15) (S := fun w' => w'.cell? ⟨gb174, 0, none⟩ = some (.slice (some ad214) l0_0.length c0_0) ∧ w'.cell? ⟨gb174, 1, none⟩ = some (.slice A0_1 l0_1.length c0_1) ∧ w'.cell? ⟨gb213, 0, none⟩ = some (.string ((rd_T50 ((rd_T54 l1 x6_1).f1) x8_3).f0)) ∧ w'.cell? ⟨gb213, 1, none⟩ = some (.string ((rd_T50 ((rd_T54 l1 x6_1).f1) x8_3).f1)) ∧ w'.cell? ⟨gb213, 2, none⟩ = some (.int .i64 ((rd_T50 ((rd_T54 l1 x6_1).f1) x8_3).f2)) ∧ w'.cell? (ad214.add (x10_4).toNat) = some (.string (rdOf ByteArray.empty l0_0 x10_4))) (ds := []) #[false, false, false, false, false, false, false, false, false, false, false, false, false, false, false] (by kernel_rfl) rfl rfl ⟨(bk0_ BK174 :), (bk1_ BK174 :), (bk0_ BK213 :), (bk1_ BK213 :), (bk2_ BK213 :), (rr_ HB hw214_0 :)⟩ (fun hHeld => ?_); refine with_tabW sentryref6_sentries.tab16 sentryref6_sentries.bits16 (fun HT_ HW_ => ?_)
                        generalize wr.drew = w47 at HO_5 BK174 BK213 HB hx214_0 hHeld ⊢
                        refine pz_ 0 (some 91) (bits_ 15 1) HT_.out ?_
                        refine pz_ 1 (some 92) (bits_ 15 3) HT_.out ?_
                        refine tz_ 2 (some 93) (bits_ 15 7) HT_.out HW_.out hHeld ?_ (hy := by rintro w' ⟨s0, s1, s2, s3, s4, s5⟩; go_simp; with_reducible rfl)
                        refine pz_ 3 (some 94) (bits_ 15 15) HT_.out ?_
                        refine pz_ 4 (some 95) (bits_ 15 31) HT_.out ?_
                        refine pz_ 5 (some 96) (bits_ 15 63) HT_.out ?_
                        refine pz_ 6 (some 97) (bits_ 15 127) HT_.out ?_
                        refine pz_ 8 (some 99) (bits_ 15 383) HT_.out ?_
                        refine pz_ 11 (some 102) (bits_ 15 2431) HT_.out ?_
                        refine tz_ 7 (some 98) (bits_ 15 2559) HT_.out HW_.out hHeld ?_ (hy := by rintro w' ⟨s0, s1, s2, s3, s4, s5⟩; go_simp; with_reducible rfl)
                        refine pz_ 9 (some 100) (bits_ 15 3071) HT_.out ?_
                        refine tz_ 10 (some 101) (bits_ 15 4095) HT_.out HW_.out hHeld ?_ (hy := by rintro w' ⟨s0, s1, s2, s3, s4, s5⟩; go_simp; with_reducible rfl)
                        refine tz_ 12 (some 103) (bits_ 15 8191) HT_.out HW_.out hHeld ?_ (hy := by rintro w' ⟨s0, s1, s2, s3, s4, s5⟩; go_simp; with_reducible rfl)
                        refine pz_ 13 (some 104) (bits_ 15 16383) HT_.out ?_
                        refine pz_ 14 (some 105) (bits_ 15 32767) HT_.out ?_
                        refine done_ (done_of HT_.out (by kernel_rfl)) ?_
                        try go_wp2
                        go_roundg k4
                        case measure => have := HK1.out; have := HK2.out; have := HK3.out; have := HK4.out; omega
                        case rel => exact ⟨(wrap64 (x10_4 + 1)), (by first | rfl | (simp; done) | (simp [*]; done)), H', ⟨by have := HK1.out; have := HK2.out; have := HK3.out; have := HK4.out; omega⟩, ⟨by (with_reducible repeat (first | apply Kd.R_alloc | apply Kd.R_drewN | apply Kd.R_drew)); exact HO_5.out⟩, ⟨gx_ BK174⟩, ⟨gx_ BK213⟩, ⟨hf_⟩⟩
                      ·rw [if_neg c44] at H
                       exact absurd H (by simp)
                     ·rw [if_neg c43] at H
                      have c43b0 : decide (x10_4 < (l0_0.length : Int)) = false := decide_eq_false c43
                      clear c43
                      (first | rw [c43b0] | (simp only [i64_w, i32_w]; rw [c43b0]) | skip)
                      have H' := Aside0.mk H
                      clear H
                      try go_wp2
                      replace HO_5 := Aside0.mk (Kd.R_drew HO_5.out)
                      replace BK174 := Aside0.mk (blk_drew BK174.out)
                      replace BK213 := Aside0.mk (blk_drew BK213.out)
                      replace HB := Aside0.mk (below_drew1 HB.out)
                      refine start_ (n := 15) (S := fun w' => w'.cell? ⟨gb174, 0, none⟩ = some (.slice A0_0 l0_0.length c0_0) ∧ w'.cell? ⟨gb174, 1, none⟩ = some (.slice A0_1 l0_1.length c0_1)) (ds := []) #[false, false, false, false, false, false, false, false, false, false, false, false, false, false, false] (by kernel_rfl) rfl rfl ⟨(bk0_ BK174 :), (bk1_ BK174 :)⟩ (fun hHeld => ?_); refine with_tabW sentryref6_sentries.tab16 sentryref6_sentries.bits16 (fun HT_ HW_ => ?_)
                      generalize wr.drew = w48 at HO_5 BK174 BK213 HB hHeld ⊢
                      refine pz_ 0 (some 91) (bits_ 15 1) HT_.out ?_
                      refine pz_ 1 (some 92) (bits_ 15 3) HT_.out ?_
                      refine tz_ 2 (some 93) (bits_ 15 7) HT_.out HW_.out hHeld ?_ (hy := by rintro w' ⟨s0, s1⟩; go_simp; with_reducible rfl)
                      refine pz_ 3 (some 94) (bits_ 15 15) HT_.out ?_
                      refine pz_ 4 (some 95) (bits_ 15 31) HT_.out ?_
                      refine pz_ 5 (some 96) (bits_ 15 63) HT_.out ?_
                      refine sz_ 6 (some 97) (bits_ 15 127) HT_.out ?_
                      refine sz_ 7 (some 98) (bits_ 15 255) HT_.out ?_
                      refine sz_ 8 (some 99) (bits_ 15 511) HT_.out ?_
                      refine sz_ 9 (some 100) (bits_ 15 1023) HT_.out ?_
                      refine sz_ 10 (some 101) (bits_ 15 2047) HT_.out ?_
                      refine sz_ 11 (some 102) (bits_ 15 4095) HT_.out ?_
                      refine sz_ 12 (some 103) (bits_ 15 8191) HT_.out ?_
                      refine sz_ 13 (some 104) (bits_ 15 16383) HT_.out ?_
                      refine pz_ 14 (some 105) (bits_ 15 32767) HT_.out ?_
                      refine done_ (done_of HT_.out (by kernel_rfl)) ?_
                      try go_wp2
                      go_meet
                      case rel => exact ⟨_, (x10_4), (by first | rfl | (simp; done) | (simp [*]; done)), H', ⟨by have := HK1.out; have := HK2.out; have := HK3.out; have := HK4.out; first | omega | exact Nat.le_refl _⟩, ⟨by (with_reducible repeat (first | apply Kd.R_alloc | apply Kd.R_drewN | apply Kd.R_drew)); exact HO_5.out⟩, ⟨gx_ BK174⟩, ⟨gx_ BK213⟩, ⟨hf_⟩⟩
                  case rest =>
                   clear HC39
                   (try clear c1); (try clear p1); (try clear q1); (try clear hx1); (try clear c2); (try clear p2); (try clear q2); (try clear hx2); (try clear c3); (try clear c4); (try clear c5); (try clear c6); (try clear c6b0); (try clear p6); (try clear c7); (try clear c7b0); (try clear c9); (try clear c13); (try clear c13b0); (try clear c14); (try clear c14b0); (try clear c15); (try clear c15b0); (try clear c16); (try clear c16b0); (try clear c17); (try clear p17); (try clear q17); (try clear hx17); (try clear c18); (try clear p18); (try clear q18); (try clear hx18); (try clear c19); (try clear p19); (try clear q19); (try clear hx19); (try clear c20); (try clear p20); (try clear q20); (try clear hx20); (try clear c21); (try clear p21); (try clear q21); (try clear hx21); (try clear c31); (try clear c35); (try clear c35b0); (try clear c36); (try clear c36b0); (try clear c37); (try clear c37b0); (try clear c38); (try clear c38b0); (try clear c41); (try clear c43); (try clear c43b0); (try clear c44); (try clear c44b0); (try clear c45); (try clear c45b0); (try clear c45b1); (try clear hcz42_0); (try clear hcz42_1); (try clear hcz42_2); (try clear hfz42_0); (try clear hfz42_1); (try clear hfz42_2); (try clear hx178_0); (try clear hx178_1); (try clear hx185_0); (try clear hx185_1); (try clear hx186_0); (try clear hx186_1); (try clear hx187_0); (try clear hx187_1); (try clear hx195_0); (try clear hx195_1); (try clear hx196_0); (try clear hx196_1); (try clear hx203_0); (try clear hx203_1); (try clear hx210_0); (try clear hx210_1); (try clear hx211_0); (try clear hx211_1); (try clear hx212_0); (try clear hx212_1); (try clear hx212_2); (try clear hx214_0); (try clear p1); (try clear p17); (try clear p178); (try clear p18); (try clear p185); (try clear p186); (try clear p187); (try clear p19); (try clear p195); (try clear p196); (try clear p2); (try clear p20); (try clear p203); (try clear p21); (try clear p210); (try clear p211); (try clear p212); (try clear p214); (try clear p6); (try clear q1); (try clear q17); (try clear q178); (try clear q18); (try clear q185); (try clear q186); (try clear q187); (try clear q19); (try clear q195); (try clear q196); (try clear q2); (try clear q20); (try clear q203); (try clear q21); (try clear q210); (try clear q211); (try clear q212); (try clear q214)
                   obtain ⟨kq, x10_38, rfl, HA, HJ38, HO_5, BK174, BK213, HB⟩ := hcut
                   cases kq with
                   | zero => exact absurd HA.out (by simp [sentryref6_sentries.j4])
                   | succ kj38 =>
                    have H := HA.out
                    clear HA
                    simp only [sentryref6_sentries.j4] at H
                    replace H := Option.bind_eq_some_iff.mp H
                    obtain ⟨t215, A490, H⟩ := H
                    replace H : (if x5_3.length + t215.length < 140737488355328 then ((some (x5_3 ++ t215 : List Int)).bind fun y218 => ((sentryref4_Op.f kj38 ((rd_T50 ((rd_T54 l1 x6_1).f1) x8_3).f1)).bind fun t221 => ((sentryref6_num.f kj38 t221).bind fun t222 => (if y218.length + t222.length < 140737488355328 then ((some (y218 ++ t222 : List Int)).bind fun y225 => ((sentryref6_signed.f kj38 ((rd_T50 ((rd_T54 l1 x6_1).f1) x8_3).f2)).bind fun t228 => (if y225.length + t228.length < 140737488355328 then (sentryref6_sentries.l2 kj38 l1 (y225 ++ t228) x6_1 (wrap64 (x8_3 + 1)) l0_0 l0_1) else (none)))) else (none))))) else (none)) = some r := H
                    have A49 := Aside0.mk A490
                    clear A490
                    by_cases c50 : x5_3.length + t215.length < 140737488355328
                    ·rw [if_pos c50] at H
                     have LMc50 := Aside0.mk c50
                     clear c50
                     obtain ⟨y218, hy218⟩ : ∃ y_ : List Int, y_ = (x5_3 ++ t215) := ⟨_, rfl⟩
                     replace H : ((sentryref4_Op.f kj38 ((rd_T50 ((rd_T54 l1 x6_1).f1) x8_3).f1)).bind fun t221 => ((sentryref6_num.f kj38 t221).bind fun t222 => (if y218.length + t222.length < 140737488355328 then ((some (y218 ++ t222 : List Int)).bind fun y225 => ((sentryref6_signed.f kj38 ((rd_T50 ((rd_T54 l1 x6_1).f1) x8_3).f2)).bind fun t228 => (if y225.length + t228.length < 140737488355328 then (sentryref6_sentries.l2 kj38 l1 (y225 ++ t228) x6_1 (wrap64 (x8_3 + 1)) l0_0 l0_1) else (none)))) else (none)))) = some r := by first | (rw [hy218]; with_reducible exact H) | (have H2_ := (Option.bind_some _ _).symm.trans H; rw [hy218]; with_reducible exact H2_) | (have H2_ := (Option.bind_some _ _).symm.trans H; with_reducible exact H2_) | with_reducible exact H | (rw [hy218]; exact H) | exact H
                     have Ny218 := Aside0.mk hy218
                     clear hy218
                     replace H := Option.bind_eq_some_iff.mp H
                     obtain ⟨t221, A510, H⟩ := H
                     replace H : ((sentryref6_num.f kj38 t221).bind fun t222 => (if y218.length + t222.length < 140737488355328 then ((some (y218 ++ t222 : List Int)).bind fun y225 => ((sentryref6_signed.f kj38 ((rd_T50 ((rd_T54 l1 x6_1).f1) x8_3).f2)).bind fun t228 => (if y225.length + t228.length < 140737488355328 then (sentryref6_sentries.l2 kj38 l1 (y225 ++ t228) x6_1 (wrap64 (x8_3 + 1)) l0_0 l0_1) else (none)))) else (none))) = some r := H
                     have A51 := Aside0.mk A510
                     clear A510
                     replace H := Option.bind_eq_some_iff.mp H
                     obtain ⟨t222, A520, H⟩ := H
                     replace H : (if y218.length + t222.length < 140737488355328 then ((some (y218 ++ t222 : List Int)).bind fun y225 => ((sentryref6_signed.f kj38 ((rd_T50 ((rd_T54 l1 x6_1).f1) x8_3).f2)).bind fun t228 => (if y225.length + t228.length < 140737488355328 then (sentryref6_sentries.l2 kj38 l1 (y225 ++ t228) x6_1 (wrap64 (x8_3 + 1)) l0_0 l0_1) else (none)))) else (none)) = some r := H
                     have A52 := Aside0.mk A520
                     clear A520
                     by_cases c53 : y218.length + t222.length < 140737488355328
                     ·rw [if_pos c53] at H
                      have LMc53 := Aside0.mk c53
                      clear c53
                      obtain ⟨y225, hy225⟩ : ∃ y_ : List Int, y_ = (y218 ++ t222) := ⟨_, rfl⟩
                      replace H : ((sentryref6_signed.f kj38 ((rd_T50 ((rd_T54 l1 x6_1).f1) x8_3).f2)).bind fun t228 => (if y225.length + t228.length < 140737488355328 then (sentryref6_sentries.l2 kj38 l1 (y225 ++ t228) x6_1 (wrap64 (x8_3 + 1)) l0_0 l0_1) else (none))) = some r := by first | (rw [hy225]; with_reducible exact H) | (have H2_ := (Option.bind_some _ _).symm.trans H; rw [hy225]; with_reducible exact H2_) | (have H2_ := (Option.bind_some _ _).symm.trans H; with_reducible exact H2_) | with_reducible exact H | (rw [hy225]; exact H) | exact H
                      have Ny225 := Aside0.mk hy225
                      clear hy225
                      replace H := Option.bind_eq_some_iff.mp H
                      obtain ⟨t228, A540, H⟩ := H
                      replace H : (if y225.length + t228.length < 140737488355328 then (sentryref6_sentries.l2 kj38 l1 (y225 ++ t228) x6_1 (wrap64 (x8_3 + 1)) l0_0 l0_1) else (none)) = some r := H
                      have A54 := Aside0.mk A540
                      clear A540
                      by_cases c55 : y225.length + t228.length < 140737488355328
                      ·rw [if_pos c55] at H
                       have LMc55 := Aside0.mk c55
                       clear c55
                       obtain ⟨y231, hy231⟩ : ∃ y_ : List Int, y_ = (y225 ++ t228) := ⟨_, rfl⟩
                       replace H : (sentryref6_sentries.l2 kj38 l1 y231 x6_1 (wrap64 (x8_3 + 1)) l0_0 l0_1) = some r := by first | (rw [hy231]; with_reducible exact H) | (have H2_ := (Option.bind_some _ _).symm.trans H; rw [hy231]; with_reducible exact H2_) | (have H2_ := (Option.bind_some _ _).symm.trans H; with_reducible exact H2_) | with_reducible exact H | (rw [hy231]; exact H) | exact H
                       have Ny231 := Aside0.mk hy231
                       clear hy231
                       have H' := Aside0.mk H
                       clear H
                       try go_wp2
                       replace HO_5 := Aside0.mk (Kd.R_drew HO_5.out)
                       replace BK174 := Aside0.mk (blk_drew BK174.out)
                       replace BK213 := Aside0.mk (blk_drew BK213.out)
                       replace HB := Aside0.mk (below_drew1 HB.out)
                       refine start_ (n := 14) (S := fun w' => w'.cell? ⟨gb213, 0, none⟩ = some (.string ((rd_T50 ((rd_T54 l1 x6_1).f1) x8_3).f0)) ∧ w'.cell? ⟨gb213, 1, none⟩ = some (.string ((rd_T50 ((rd_T54 l1 x6_1).f1) x8_3).f1)) ∧ w'.cell? ⟨gb213, 2, none⟩ = some (.int .i64 ((rd_T50 ((rd_T54 l1 x6_1).f1) x8_3).f2))) (ds := []) #[false, false, false, false, false, false, false, false, false, false, false, false, false, false] (by kernel_rfl) rfl rfl ⟨(bk0_ BK213 :), (bk1_ BK213 :), (bk2_ BK213 :)⟩ (fun hHeld => ?_); refine with_tabW sentryref6_sentries.tab18 sentryref6_sentries.bits18 (fun HT_ HW_ => ?_)
                       generalize wc.drew = w56 at HO_5 BK174 BK213 HB hHeld ⊢
                       refine pz_ 0 (some 108) (bits_ 14 1) HT_.out ?_
                       refine pz_ 1 (some 109) (bits_ 14 3) HT_.out ?_
                       refine pz_ 4 (some 112) (bits_ 14 19) HT_.out ?_
                       refine pz_ 9 (some 117) (bits_ 14 531) HT_.out ?_
                       refine tz_ 5 (some 113) (bits_ 14 563) HT_.out HW_.out hHeld ?_ (hy := by rintro w' ⟨s0, s1, s2⟩; go_simp; with_reducible rfl)
                       refine tz_ 10 (some 118) (bits_ 14 1587) HT_.out HW_.out hHeld ?_ (hy := by rintro w' ⟨s0, s1, s2⟩; go_simp; with_reducible rfl)
                       refine oz_ 2 (some 110) (bits_ 14 1591) HT_.out (fun K hK => ?_)
                       refine go_s_ Try.func52 #[.int .i64 x10_38] ?_
                       with_reducible refine (sentryref6_num.calls kj38 x10_38 t215 _ A49.out).mono ?_
                       rintro e w57 ⟨v216, rfl, ho0, hb⟩
                       refine ⟨_, rfl, ?_⟩
                       have n0_ := Aside0.mk (Kd.R_elder' (by (with_reducible repeat (first | apply Kd.R_alloc | apply Kd.R_drewN | apply Kd.R_drew)); exact HO_5.out) (Kd.R_base ho0) hb)
                       have n1_ := Aside0.mk (Kd.R_lower (Kd.R_new' ho0 (Kd.R_lt (by (with_reducible repeat (first | apply Kd.R_alloc | apply Kd.R_drewN | apply Kd.R_drew)); exact HO_5.out))) (below_size (by repeat (first | (with_reducible first | exact HB.out | apply below_alloc | apply pw_below_drewN | apply below_drew1 | refine below_set ?_ GE174.out | refine below_set ?_ GE213.out) | exact HB.out))))
                       have n2_ := bb_ BK174 hb
                       have n3_ := bb_ BK213 hb
                       have n4_ := hb_ HB hb
                       clear HO_5
                       clear BK174
                       clear BK213
                       clear HB
                       have HO_5 := n0_
                       have HO217 := n1_
                       have BK174 := n2_
                       have BK213 := n3_
                       have HB := n4_
                       clear n0_ n1_ n2_ n3_ n4_
                       (try clear hb); (try clear hb2); (try clear hk); (try clear hi); (try clear ho0)
                       obtain ⟨Ao59, co59, eo59⟩ := Kd.R_slice HO217.out
                       (first | subst eo59 | (injection eo59 with f1_ f2_ f3_; have f4_ := f1_.symm; have f5_ := f3_.symm; clear f1_ f2_ f3_; subst f4_; subst f5_))
                       refine hK.out _ _ ⟨(bk0_ BK213 :), (bk1_ BK213 :), (bk2_ BK213 :)⟩ (fun hHeld => ?_)
                       clear hK K
                       refine nz_ (some 110) ?_
                       refine oz_ 3 (some 111) (bits_ 14 1599) HT_.out (fun K hK => ?_)
                       refine Kd.R_append_rows_step (Kd.int .u8) (w0 := w) w.heap.size (by rfl) (.tmp 108) (.tmp 110) 26 5 (.int .u8 0) 1 rfl Try.underlying26 info5 rfl (by decide) (by omega) u5 x5_3 t215 _ _ _ (fun k_ => some k_ ≠ (.slice Ao59 t215.length co59 : Value).ownBlock) (fun _ => False) rfl rfl ?aO ?aR (fun _ _ h => h) (fun _ h => h.elim) ?aF ?aB ?aS ?aL ?_
                       (case aR => repeat (first | exact (Kd.R_reads' HO217.out).2.2 | (with_reducible refine Kd.C_alloc ?_ _) | (with_reducible refine Kd.C_drewN ?_ _) | (with_reducible refine Kd.C_drew ?_)))
                       (case aB => exact (by repeat (first | (with_reducible first | exact HB.out | apply below_alloc | apply pw_below_drewN | apply below_drew1 | refine below_set ?_ GE174.out | refine below_set ?_ GE213.out) | exact HB.out)))
                       (case aF => exact (fun k_ hk => Kd.fresh' (Kd.R_lt (by (with_reducible repeat (first | apply Kd.R_alloc | apply Kd.R_drewN | apply Kd.R_drew)); exact HO217.out)) k_ hk))
                       (case aO => exact (by (with_reducible repeat (first | apply Kd.R_alloc | apply Kd.R_drewN | apply Kd.R_drew)); exact Kd.R_mono HO_5.out (fun _ hk => hk.2)))
                       (case aS => exact (below_size (by repeat (first | (with_reducible first | exact HB.out | apply below_alloc | apply pw_below_drewN | apply below_drew1 | refine below_set ?_ GE174.out | refine below_set ?_ GE213.out) | exact HB.out))))
                       (case aL => have := LMc50.out; omega)
                       intro v219 w58 ho hb hg hat
                       rw [← Ny218.out] at ho
                       replace BK174 := Aside0.mk (blk_grown (g := gb174) (o := .cells #[.slice A0_0 l0_0.length c0_0, .slice A0_1 l0_1.length c0_1] 25 (0, 0)) (by (with_reducible repeat (first | refine blk_drewN ?_ _ | refine blk_drew ?_ | refine blk_alloc ?_ _)); exact BK174.out) hg (Kd.R_ne HO_5.out BK174.out (by decide)))
                       replace BK213 := Aside0.mk (blk_grown (g := gb213) (o := .cells #[.string ((rd_T50 ((rd_T54 l1 x6_1).f1) x8_3).f0), .string ((rd_T50 ((rd_T54 l1 x6_1).f1) x8_3).f1), .int .i64 ((rd_T50 ((rd_T54 l1 x6_1).f1) x8_3).f2)] 50 (0, 0)) (by (with_reducible repeat (first | refine blk_drewN ?_ _ | refine blk_drew ?_ | refine blk_alloc ?_ _)); exact BK213.out) hg (Kd.R_ne HO_5.out BK213.out (by decide)))
                       replace HO217 := Aside0.mk (Kd.R_after (ok := (fun _ => True)) (by (with_reducible repeat (first | apply Kd.R_alloc | apply Kd.R_drewN | apply Kd.R_drew)); exact HO217.out) hg hat)
                       replace HB := Aside0.mk (hb)
                       replace HO220 := Aside0.mk (ho)
                       clear ho hb hg hat
                       refine hK.out _ _ ⟨(bk0_ BK213 :), (bk1_ BK213 :), (bk2_ BK213 :)⟩ (fun hHeld => ?_)
                       clear hK K
                       refine nz_ (some 111) ?_
                       refine oz_ 6 (some 114) (bits_ 14 1663) HT_.out (fun K hK => ?_)
                       refine go_s_ Try.func75 #[.string ((rd_T50 ((rd_T54 l1 x6_1).f1) x8_3).f1)] ?_
                       with_reducible refine (sentryref4_Op.calls kj38 ((rd_T50 ((rd_T54 l1 x6_1).f1) x8_3).f1) t221 _ A51.out).mono ?_
                       rintro e w60 ⟨rfl, hb⟩
                       refine ⟨_, rfl, ?_⟩
                       replace HO217 := Aside0.mk (Kd.R_below (by (with_reducible repeat (first | apply Kd.R_alloc | apply Kd.R_drewN | apply Kd.R_drew)); exact HO217.out) hb)
                       replace HO220 := Aside0.mk (Kd.R_below (by (with_reducible repeat (first | apply Kd.R_alloc | apply Kd.R_drewN | apply Kd.R_drew)); exact HO220.out) hb)
                       replace BK174 := bb_ BK174 hb
                       replace BK213 := bb_ BK213 hb
                       replace HB := hb_ HB hb
                       (try clear hb); (try clear hb2); (try clear hk); (try clear hi)
                       refine hK.out _ _ ⟨(bk0_ BK213 :), (bk1_ BK213 :), (bk2_ BK213 :)⟩ (fun hHeld => ?_)
                       clear hK K
                       refine nz_ (some 114) ?_
                       refine oz_ 7 (some 115) (bits_ 14 1791) HT_.out (fun K hK => ?_)
                       refine go_s_ Try.func52 #[.int .i64 t221] ?_
                       with_reducible refine (sentryref6_num.calls kj38 t221 t222 _ A52.out).mono ?_
                       rintro e w61 ⟨v223, rfl, ho0, hb⟩
                       refine ⟨_, rfl, ?_⟩
                       have n0_ := Aside0.mk (Kd.R_elder' (by (with_reducible repeat (first | apply Kd.R_alloc | apply Kd.R_drewN | apply Kd.R_drew)); exact HO217.out) (Kd.R_base ho0) hb)
                       have n1_ := Aside0.mk (Kd.R_elder' (by (with_reducible repeat (first | apply Kd.R_alloc | apply Kd.R_drewN | apply Kd.R_drew)); exact HO220.out) (Kd.R_base ho0) hb)
                       have n2_ := Aside0.mk (Kd.R_lower (Kd.R_new' (Kd.R_new' ho0 (Kd.R_lt (by (with_reducible repeat (first | apply Kd.R_alloc | apply Kd.R_drewN | apply Kd.R_drew)); exact HO217.out))) (Kd.R_lt (by (with_reducible repeat (first | apply Kd.R_alloc | apply Kd.R_drewN | apply Kd.R_drew)); exact HO220.out))) (below_size (by repeat (first | (with_reducible first | exact HB.out | apply below_alloc | apply pw_below_drewN | apply below_drew1 | refine below_set ?_ GE174.out | refine below_set ?_ GE213.out) | exact HB.out))))
                       have n3_ := bb_ BK174 hb
                       have n4_ := bb_ BK213 hb
                       have n5_ := hb_ HB hb
                       clear HO217
                       clear HO220
                       clear BK174
                       clear BK213
                       clear HB
                       have HO217 := n0_
                       have HO220 := n1_
                       have HO224 := n2_
                       have BK174 := n3_
                       have BK213 := n4_
                       have HB := n5_
                       clear n0_ n1_ n2_ n3_ n4_ n5_
                       (try clear hb); (try clear hb2); (try clear hk); (try clear hi); (try clear ho0)
                       obtain ⟨Ao63, co63, eo63⟩ := Kd.R_slice HO224.out
                       (first | subst eo63 | (injection eo63 with f1_ f2_ f3_; have f4_ := f1_.symm; have f5_ := f3_.symm; clear f1_ f2_ f3_; subst f4_; subst f5_))
                       refine hK.out _ _ ⟨(bk0_ BK213 :), (bk1_ BK213 :), (bk2_ BK213 :)⟩ (fun hHeld => ?_)
                       clear hK K
                       refine nz_ (some 115) ?_
                       refine oz_ 8 (some 116) (bits_ 14 2047) HT_.out (fun K hK => ?_)
                       refine Kd.R_append_rows_step (Kd.int .u8) (w0 := w) w.heap.size (by rfl) (.tmp 111) (.tmp 115) 26 5 (.int .u8 0) 1 rfl Try.underlying26 info5 rfl (by decide) (by omega) v219 y218 t222 _ _ _ (fun k_ => some k_ ≠ (.slice Ao59 t215.length co59 : Value).ownBlock ∧ some k_ ≠ (.slice Ao63 t222.length co63 : Value).ownBlock) (fun _ => False) rfl rfl ?aO ?aR (fun _ _ h => h) (fun _ h => h.elim) ?aF ?aB ?aS ?aL ?_
                       (case aR => repeat (first | exact (Kd.R_reads' HO224.out).2.2 | (with_reducible refine Kd.C_alloc ?_ _) | (with_reducible refine Kd.C_drewN ?_ _) | (with_reducible refine Kd.C_drew ?_)))
                       (case aB => exact (by repeat (first | (with_reducible first | exact HB.out | apply below_alloc | apply pw_below_drewN | apply below_drew1 | refine below_set ?_ GE174.out | refine below_set ?_ GE213.out) | exact HB.out)))
                       (case aF => exact (fun k_ hk => ⟨Kd.fresh' (Kd.R_lt (by (with_reducible repeat (first | apply Kd.R_alloc | apply Kd.R_drewN | apply Kd.R_drew)); exact HO217.out)) k_ hk, Kd.fresh' (Kd.R_lt (by (with_reducible repeat (first | apply Kd.R_alloc | apply Kd.R_drewN | apply Kd.R_drew)); exact HO224.out)) k_ hk⟩))
                       (case aO => exact (by (with_reducible repeat (first | apply Kd.R_alloc | apply Kd.R_drewN | apply Kd.R_drew)); exact HO220.out))
                       (case aS => exact (below_size (by repeat (first | (with_reducible first | exact HB.out | apply below_alloc | apply pw_below_drewN | apply below_drew1 | refine below_set ?_ GE174.out | refine below_set ?_ GE213.out) | exact HB.out))))
                       (case aL => have := LMc53.out; omega)
                       intro v226 w62 ho hb hg hat
                       rw [← Ny225.out] at ho
                       replace BK174 := Aside0.mk (blk_grown (g := gb174) (o := .cells #[.slice A0_0 l0_0.length c0_0, .slice A0_1 l0_1.length c0_1] 25 (0, 0)) (by (with_reducible repeat (first | refine blk_drewN ?_ _ | refine blk_drew ?_ | refine blk_alloc ?_ _)); exact BK174.out) hg (Kd.R_ne HO220.out BK174.out (by decide)))
                       replace BK213 := Aside0.mk (blk_grown (g := gb213) (o := .cells #[.string ((rd_T50 ((rd_T54 l1 x6_1).f1) x8_3).f0), .string ((rd_T50 ((rd_T54 l1 x6_1).f1) x8_3).f1), .int .i64 ((rd_T50 ((rd_T54 l1 x6_1).f1) x8_3).f2)] 50 (0, 0)) (by (with_reducible repeat (first | refine blk_drewN ?_ _ | refine blk_drew ?_ | refine blk_alloc ?_ _)); exact BK213.out) hg (Kd.R_ne HO220.out BK213.out (by decide)))
                       replace HO217 := Aside0.mk (Kd.R_after (ok := (fun k_ => some k_ ≠ (.slice Ao63 t222.length co63 : Value).ownBlock)) (by (with_reducible repeat (first | apply Kd.R_alloc | apply Kd.R_drewN | apply Kd.R_drew)); exact Kd.R_mono HO217.out (fun _ hk => ⟨hk.2, hk.1.2⟩)) hg hat)
                       replace HO224 := Aside0.mk (Kd.R_after (ok := (fun k_ => some k_ ≠ (.slice Ao59 t215.length co59 : Value).ownBlock)) (by (with_reducible repeat (first | apply Kd.R_alloc | apply Kd.R_drewN | apply Kd.R_drew)); exact Kd.R_mono HO224.out (fun _ hk => ⟨hk.1.2, hk.2⟩)) hg hat)
                       replace HB := Aside0.mk (hb)
                       replace HO227 := Aside0.mk (ho)
                       clear ho hb hg hat
                       refine hK.out _ _ ⟨(bk0_ BK213 :), (bk1_ BK213 :), (bk2_ BK213 :)⟩ (fun hHeld => ?_)
                       clear hK K
                       refine nz_ (some 116) ?_
                       refine oz_ 11 (some 119) (bits_ 14 4095) HT_.out (fun K hK => ?_)
                       refine go_s_ Try.func76 #[.int .i64 ((rd_T50 ((rd_T54 l1 x6_1).f1) x8_3).f2)] ?_
                       with_reducible refine (sentryref6_signed.calls kj38 ((rd_T50 ((rd_T54 l1 x6_1).f1) x8_3).f2) t228 _ A54.out).mono ?_
                       rintro e w64 ⟨v229, rfl, ho0, hb⟩
                       refine ⟨_, rfl, ?_⟩
                       have n0_ := Aside0.mk (Kd.R_elder' (by (with_reducible repeat (first | apply Kd.R_alloc | apply Kd.R_drewN | apply Kd.R_drew)); exact HO217.out) (Kd.R_base ho0) hb)
                       have n1_ := Aside0.mk (Kd.R_elder' (by (with_reducible repeat (first | apply Kd.R_alloc | apply Kd.R_drewN | apply Kd.R_drew)); exact HO224.out) (Kd.R_base ho0) hb)
                       have n2_ := Aside0.mk (Kd.R_elder' (by (with_reducible repeat (first | apply Kd.R_alloc | apply Kd.R_drewN | apply Kd.R_drew)); exact HO227.out) (Kd.R_base ho0) hb)
                       have n3_ := Aside0.mk (Kd.R_lower (Kd.R_new' (Kd.R_new' (Kd.R_new' ho0 (Kd.R_lt (by (with_reducible repeat (first | apply Kd.R_alloc | apply Kd.R_drewN | apply Kd.R_drew)); exact HO217.out))) (Kd.R_lt (by (with_reducible repeat (first | apply Kd.R_alloc | apply Kd.R_drewN | apply Kd.R_drew)); exact HO224.out))) (Kd.R_lt (by (with_reducible repeat (first | apply Kd.R_alloc | apply Kd.R_drewN | apply Kd.R_drew)); exact HO227.out))) (below_size (by repeat (first | (with_reducible first | exact HB.out | apply below_alloc | apply pw_below_drewN | apply below_drew1 | refine below_set ?_ GE174.out | refine below_set ?_ GE213.out) | exact HB.out))))
                       have n4_ := bb_ BK174 hb
                       have n5_ := bb_ BK213 hb
                       have n6_ := hb_ HB hb
                       clear HO217
                       clear HO224
                       clear HO227
                       clear BK174
                       clear BK213
                       clear HB
                       have HO217 := n0_
                       have HO224 := n1_
                       have HO227 := n2_
                       have HO230 := n3_
                       have BK174 := n4_
                       have BK213 := n5_
                       have HB := n6_
                       clear n0_ n1_ n2_ n3_ n4_ n5_ n6_
                       (try clear hb); (try clear hb2); (try clear hk); (try clear hi); (try clear ho0)
                       obtain ⟨Ao66, co66, eo66⟩ := Kd.R_slice HO230.out
                       (first | subst eo66 | (injection eo66 with f1_ f2_ f3_; have f4_ := f1_.symm; have f5_ := f3_.symm; clear f1_ f2_ f3_; subst f4_; subst f5_))
                       refine hK.out _ _ ⟨(bk0_ BK213 :), (bk1_ BK213 :), (bk2_ BK213 :)⟩ (fun hHeld => ?_)
                       clear hK K
                       refine nz_ (some 119) ?_
                       refine oz_ 12 (some 120) (bits_ 14 8191) HT_.out (fun K hK => ?_)
                       refine Kd.R_append_rows_step (Kd.int .u8) (w0 := w) w.heap.size (by rfl) (.tmp 116) (.tmp 119) 26 5 (.int .u8 0) 1 rfl Try.underlying26 info5 rfl (by decide) (by omega) v226 y225 t228 _ _ _ (fun k_ => some k_ ≠ (.slice Ao59 t215.length co59 : Value).ownBlock ∧ some k_ ≠ (.slice Ao63 t222.length co63 : Value).ownBlock ∧ some k_ ≠ (.slice Ao66 t228.length co66 : Value).ownBlock) (fun _ => False) rfl rfl ?aO ?aR (fun _ _ h => h) (fun _ h => h.elim) ?aF ?aB ?aS ?aL ?_
                       (case aR => repeat (first | exact (Kd.R_reads' HO230.out).2.2 | (with_reducible refine Kd.C_alloc ?_ _) | (with_reducible refine Kd.C_drewN ?_ _) | (with_reducible refine Kd.C_drew ?_)))
                       (case aB => exact (by repeat (first | (with_reducible first | exact HB.out | apply below_alloc | apply pw_below_drewN | apply below_drew1 | refine below_set ?_ GE174.out | refine below_set ?_ GE213.out) | exact HB.out)))
                       (case aF => exact (fun k_ hk => ⟨Kd.fresh' (Kd.R_lt (by (with_reducible repeat (first | apply Kd.R_alloc | apply Kd.R_drewN | apply Kd.R_drew)); exact HO217.out)) k_ hk, Kd.fresh' (Kd.R_lt (by (with_reducible repeat (first | apply Kd.R_alloc | apply Kd.R_drewN | apply Kd.R_drew)); exact HO224.out)) k_ hk, Kd.fresh' (Kd.R_lt (by (with_reducible repeat (first | apply Kd.R_alloc | apply Kd.R_drewN | apply Kd.R_drew)); exact HO230.out)) k_ hk⟩))
                       (case aO => exact (by (with_reducible repeat (first | apply Kd.R_alloc | apply Kd.R_drewN | apply Kd.R_drew)); exact Kd.R_mono HO227.out (fun _ hk => ⟨hk.1.1, ⟨hk.1.2, hk.2⟩⟩)))
                       (case aS => exact (below_size (by repeat (first | (with_reducible first | exact HB.out | apply below_alloc | apply pw_below_drewN | apply below_drew1 | refine below_set ?_ GE174.out | refine below_set ?_ GE213.out) | exact HB.out))))
                       (case aL => have := LMc55.out; omega)
                       intro v232 w65 ho hb hg hat
                       rw [← Ny231.out] at ho
                       replace BK174 := Aside0.mk (blk_grown (g := gb174) (o := .cells #[.slice A0_0 l0_0.length c0_0, .slice A0_1 l0_1.length c0_1] 25 (0, 0)) (by (with_reducible repeat (first | refine blk_drewN ?_ _ | refine blk_drew ?_ | refine blk_alloc ?_ _)); exact BK174.out) hg (Kd.R_ne HO227.out BK174.out (by decide)))
                       replace BK213 := Aside0.mk (blk_grown (g := gb213) (o := .cells #[.string ((rd_T50 ((rd_T54 l1 x6_1).f1) x8_3).f0), .string ((rd_T50 ((rd_T54 l1 x6_1).f1) x8_3).f1), .int .i64 ((rd_T50 ((rd_T54 l1 x6_1).f1) x8_3).f2)] 50 (0, 0)) (by (with_reducible repeat (first | refine blk_drewN ?_ _ | refine blk_drew ?_ | refine blk_alloc ?_ _)); exact BK213.out) hg (Kd.R_ne HO227.out BK213.out (by decide)))
                       replace HO217 := Aside0.mk (Kd.R_after (ok := (fun k_ => some k_ ≠ (.slice Ao63 t222.length co63 : Value).ownBlock ∧ some k_ ≠ (.slice Ao66 t228.length co66 : Value).ownBlock)) (by (with_reducible repeat (first | apply Kd.R_alloc | apply Kd.R_drewN | apply Kd.R_drew)); exact Kd.R_mono HO217.out (fun _ hk => ⟨⟨hk.1.1, hk.2⟩, hk.1.2⟩)) hg hat)
                       replace HO224 := Aside0.mk (Kd.R_after (ok := (fun k_ => some k_ ≠ (.slice Ao59 t215.length co59 : Value).ownBlock ∧ some k_ ≠ (.slice Ao66 t228.length co66 : Value).ownBlock)) (by (with_reducible repeat (first | apply Kd.R_alloc | apply Kd.R_drewN | apply Kd.R_drew)); exact Kd.R_mono HO224.out (fun _ hk => ⟨⟨hk.1.1, hk.2⟩, hk.1.2⟩)) hg hat)
                       replace HO230 := Aside0.mk (Kd.R_after (ok := (fun k_ => some k_ ≠ (.slice Ao59 t215.length co59 : Value).ownBlock ∧ some k_ ≠ (.slice Ao63 t222.length co63 : Value).ownBlock)) (by (with_reducible repeat (first | apply Kd.R_alloc | apply Kd.R_drewN | apply Kd.R_drew)); exact Kd.R_mono HO230.out (fun _ hk => ⟨⟨hk.1.1.2, hk.1.2⟩, hk.2⟩)) hg hat)
                       replace HB := Aside0.mk (hb)
                       replace HO233 := Aside0.mk (ho)
                       clear ho hb hg hat
                       refine hK.out _ _ ⟨(bk0_ BK213 :), (bk1_ BK213 :), (bk2_ BK213 :)⟩ (fun hHeld => ?_)
                       clear hK K
                       refine nz_ (some 120) ?_
                       refine pz_ 13 (some 5) (bits_ 14 16383) HT_.out ?_
                       refine done_ (done_of HT_.out (by kernel_rfl)) ?_
                       try go_wp2
                       go_roundg kj38
                       case measure => have := HK1.out; have := HK2.out; have := HK3.out; have := HJ38.out; omega
                       case rel => exact ⟨(y231), (wrap64 (x8_3 + 1)), (by first | rfl | (simp; done) | (simp [*]; done)), H', ⟨by have := HK1.out; have := HK2.out; have := HK3.out; have := HJ38.out; omega⟩, ⟨by (with_reducible repeat (first | apply Kd.R_alloc | apply Kd.R_drewN | apply Kd.R_drew)); exact Kd.R_mono HO233.out (fun _ hk => trivial)⟩, ⟨gx_ BK174⟩, ⟨hf_⟩⟩
                      ·rw [if_neg c55] at H
                       exact absurd H (by simp)
                     ·rw [if_neg c53] at H
                      exact absurd H (by simp)
                    ·rw [if_neg c50] at H
                     exact absurd H (by simp)
                 ·rw [if_neg c38] at H
                  exact absurd H (by simp)
                ·rw [if_neg c37] at H
                 have c37b0 : decide (x8_3 < (((rd_T54 l1 x6_1).f1).length : Int)) = false := decide_eq_false c37
                 clear c37
                 have H' := Aside0.mk H
                 clear H
                 have p210 : 0 ≤ (x6_1 : Int) := od_
                 have q210 : x6_1 < (l1.length : Int) := od_
                 obtain ⟨ad210, A210_0, c210_0, A210_1, c210_1, e210, hx210_0, hx210_1, hl210_0, hi210_0, hl210_1, hi210_1⟩ := at_T54 HR1.out x6_1 p210 q210
                 obtain rfl : ad178 = ad210 := (by injection e210)
                 replace hx210_0 := rr_ HB hx210_0
                 replace hx210_1 := rr_ HB hx210_1
                 have HR210_0 := Aside0.mk hi210_0
                 have HC210_0 := Aside0.mk hl210_0
                 clear hi210_0 hl210_0
                 have HR210_1 := Aside0.mk hi210_1
                 have HC210_1 := Aside0.mk hl210_1
                 clear hi210_1 hl210_1
                 replace p210 := eq_true p210
                 replace q210 := eq_true q210
                 go_wp2
                 go_roundg k3
                 case measure => have := HK1.out; have := HK2.out; have := HK3.out; omega
                 case rel => exact ⟨(x5_3), (wrap64 (x6_1 + 1)), (by first | rfl | (simp; done) | (simp [*]; done)), H', ⟨by have := HK1.out; have := HK2.out; have := HK3.out; omega⟩, ⟨by (with_reducible repeat (first | apply Kd.R_alloc | apply Kd.R_drewN | apply Kd.R_drew)); exact HO_5.out⟩, ⟨gx_ BK174⟩, ⟨hf_⟩⟩
               ·rw [if_neg c36] at H
                exact absurd H (by simp)
              ·rw [if_neg c35] at H
               exact absurd H (by simp)
           ·rw [if_neg c31] at H
            exact absurd H (by simp)
         ·rw [if_neg c14] at H
          exact absurd H (by simp)
        ·rw [if_neg c13] at H
         exact absurd H (by simp)
     ·rw [if_neg c9] at H
      exact absurd H (by simp)
    ·rw [if_neg c7] at H
     exact absurd H (by simp)
   ·rw [if_neg c6] at H
    have c6b0 : decide (x6_1 < (l1.length : Int)) = false := decide_eq_false c6
    clear c6
    obtain rfl := Option.some.inj H
    go_wp2
    go_ret
    exact ⟨_, by first | rfl | (simp [errW_none, errW_some] <;> rfl) | (simp [*, errW_none, errW_some] <;> rfl), by (with_reducible repeat (first | apply Kd.R_alloc | apply Kd.R_drewN | apply Kd.R_drew)); exact HO_5.out, by repeat (first | (with_reducible first | exact HB.out | apply below_alloc | apply pw_below_drewN | apply below_drew1 | refine below_set ?_ GE174.out) | exact HB.out)⟩
end Go.Proofs.Ytaiglhfmmdajdaa.Pm
end
section
namespace Go.Proofs.Ytaiglhfmmdajdaa.Pm
open Go.RowKit Go.Proofs.YtaiglhfmmdajdaaW.PrintWords Go.Proofs.YtaiglhfmmdajdaaW.PrintLast Go.Proofs.YtaiglhfmmdajdaaW.PrintMore
attribute [local go_sem] max2_int min2_int max_two min_two max_three min_three max_four min_four   -- for this text's walks alone
set_option linter.unusedVariables false
set_option linter.unusedSimpArgs false
def numL : Nat → Int → List Int
  | 0, _ => []
  | d + 1, n => if n < 128 then [n % 256] else [(Go.bits .or .i64 (Go.bits .and .i64 n 127) 128) % 256] ++ numL d (n / 128)
theorem numL_length (d : Nat) : ∀ n, (numL d n).length ≤ d := by
  induction d with
  | zero => intro n; exact Nat.le_refl _
  | succ d ih =>
    intro n
    simp only [numL]
    split
    · simp
    · rw [List.length_append, List.length_singleton]
      have := ih (n / 128)
      omega
theorem num_eq (d : Nat) : ∀ (n : Int) (k : Nat), n < (128 : Int) ^ d → 1 ≤ d → d < 1000 → d < k → sentryref6_num.f k n = some (numL d n) := by
  induction d with
  | zero => intro n k _ h; omega
  | succ d ih =>
    intro n k hn _ hd hk
    obtain ⟨k, rfl⟩ : ∃ m, k = m + 1 := ⟨k - 1, by omega⟩
    simp only [sentryref6_num.f, numL]
    by_cases h : n < 128
    · rw [if_pos h, if_pos h]
    · rw [if_neg h, if_neg h]
      have hd1 : 1 ≤ d := by
        rcases Nat.eq_zero_or_pos d with rfl | h'
        · simp at hn; omega
        · exact h'
      have hn' : n / 128 < (128 : Int) ^ d := by
        rw [Int.pow_succ] at hn
        omega
      rw [Option.bind_some, ih (n / 128) k hn' hd1 (by omega) (by omega), Option.bind_some, if_pos]
      have := numL_length d (n / 128)
      rw [List.length_singleton]
      omega
theorem num_small (n : Nat) (hn : n ≤ 140737488355328) (k : Nat) (hk : 11 < k) : sentryref6_num.f k (n : Int) = some (numL 11 n) := by
  have h : (128 : Int) ^ 11 = 151115727451828646838272 := by decide
  refine num_eq 11 n k ?_ (by decide) (by decide) hk
  rw [h]; omega
def sentryref6_text.f (a0 : ByteArray) : Option (List Int) := if a0.size ≤ 140737488355000 then some (numL 11 a0.size ++ bytesOf a0) else none
set_option maxHeartbeats 4000000 in
theorem sentryref6_text.calls (a0 : ByteArray) (r : List Int) (w : World) (h : sentryref6_text.f a0 = some r) :
    Calls Try.prog 53 #[.string a0] w fun e w' => ∃ v0_ : Value, e = .returned (v0_) ∧ Kd.R (Kd.int .u8) 5 w' w.heap.size (fun _ => True) v0_ r ∧ Below w.heap.size w w' := by
  unfold sentryref6_text.f at h
  split at h
  case isFalse => cases h
  rename_i hs
  obtain rfl := Option.some.inj h
  clear h
  have hnum := fun W => sentryref6_num.calls 12 (a0.size : Int) _ W (num_small a0.size (by omega) 12 (by decide))
  have hlen := numL_length 11 (a0.size : Int)
  obtain ⟨ys, hy⟩ : ∃ ys, ys = numL 11 (a0.size : Int) := ⟨_, rfl⟩
  rw [← hy] at hnum hlen ⊢
  clear hy
  have kb := fun W => print_bytes (P := Try.prog) 9 26 5 Try.underlying9 Try.underlying26 Try.underlying5 a0 W
  go_enter Try.func53, Try.ntmps53
  go_wp2_with fail
  refine (hnum _).mono ?_
  rintro e w1 ⟨v1, rfl, hR, hb⟩
  have HR := Lib.hid hR
  have HB := Lib.hid hb
  clear hR hb hnum
  go_wp2_with (first | ((with_reducible refine gate_builtin (b := .append) (xs := #[.tmp 5, .tmp 7]) rfl ?_); at_builtin; refine Kd.R_append_rows (Kd.int .u8) (w0 := w) w.heap.size rfl (.tmp 5) (.tmp 7) 26 5 (.int .u8 0) 1 rfl Try.underlying26 info5 rfl (by decide) (by omega) v1 ys (bytesOf a0) _ _ _ (fun _ => True) (fun _ => False) rfl rfl (Kd.R_below HR.out (bytes_below (Below.refl _ _) (Nat.le_refl _) _ _)) ?aR (fun _ _ h => h) (fun _ h => h.elim) (fun _ _ => trivial) (bytes_below HB.out HB.out.size _ _) ?aS ?aL ?_; (case aR => exact (Kd.C_of_reads (d := (0 : Int)) (h1 := fun _ => rfl) (bytes_reads _ _ _ (by omega)))); (case aS => rw [Lib.bytesWorld_size]; have := HB.out.size; omega); (case aL => omega); intro v2 w2 hR2 hB2 _ _))
  go_ret
  exact ⟨_, rfl, hR2, hB2⟩
end Go.Proofs.Ytaiglhfmmdajdaa.Pm
end
