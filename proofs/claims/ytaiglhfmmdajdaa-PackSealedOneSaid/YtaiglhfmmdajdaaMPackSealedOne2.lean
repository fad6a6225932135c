/- Walks and plain laws on the way to the law PackSealedOne: several texts of this workplace and of the kit's printer, merged; what is not used is struck, by a program. No condition. -/
import Derived.Test.YtaiglhfmmdajdaaMPackSealedOne0
import Derived.Test.YtaiglhfmmdajdaaMPackSealedOne1
import Derived.Lib.Hide
import Derived.Shelf.Abstract
section
namespace Go.Proofs.Ytaiglhfmmdajdaa.Pm
open Go.RowKit Go.Proofs.YtaiglhfmmdajdaaW.PrintWords Go.Proofs.YtaiglhfmmdajdaaW.PrintLast Go.Proofs.YtaiglhfmmdajdaaW.PrintMore
attribute [local go_sem] max2_int min2_int max_two min_two max_three min_three max_four min_four   -- for this text's walks alone
set_option linter.unusedVariables false
set_option linter.unusedSimpArgs false
mutual
def q14.l0 : Nat → List (S54) → List Int → Int → List ByteArray → List (S48) → Option (List Int)
 | 0, _, _, _, _, _ => none
 | k + 1, x1, x5, x6, x175000, x175001 => if x6 < (x1.length : Int) then (if 0 ≤ x6 then ((q35.f k (((q91 x1 x6).f0).length : Int)).bind fun t179 => (if x5.length + t179.length < 140737488355328 then (q14.l1 k x1 (x5 ++ t179) x6 0 x175000 x175001) else (none))) else (none)) else (some x5)
def q14.l1 : Nat → List (S54) → List Int → Int → Int → List ByteArray → List (S48) → Option (List Int)
 | 0, _, _, _, _, _, _ => none
 | k + 1, x1, x5, x6, x7, x175000, x175001 => if 0 ≤ x6 then (if x6 < (x1.length : Int) then (if x7 < (((q91 x1 x6).f0).length : Int) then (if 0 ≤ x7 then ((q24.f k x175000 x175001 ((q87 ((q91 x1 x6).f0) x7).f0)).bind fun t188 => ((q35.f k t188).bind fun t189 => (if x5.length + t189.length < 140737488355328 then ((some (x5 ++ t189 : List Int)).bind fun y192 => ((q35.f k ((q87 ((q91 x1 x6).f0) x7).f1)).bind fun t197 => (if y192.length + t197.length < 140737488355328 then (q14.l1 k x1 (y192 ++ t197) x6 (wrap64 (x7 + 1)) x175000 x175001) else (none)))) else (none)))) else (none)) else ((q35.f k (((q91 x1 x6).f1).length : Int)).bind fun t204 => (if x5.length + t204.length < 140737488355328 then (q14.l2 k x1 (x5 ++ t204) x6 0 x175000 x175001) else (none)))) else (none)) else (none)
def q14.l2 : Nat → List (S54) → List Int → Int → Int → List ByteArray → List (S48) → Option (List Int)
 | 0, _, _, _, _, _, _ => none
 | k + 1, x1, x5, x6, x8, x175000, x175001 => if 0 ≤ x6 then (if x6 < (x1.length : Int) then (if x8 < (((q91 x1 x6).f1).length : Int) then (if 0 ≤ x8 then (q14.l3 k x1 x5 x6 x8 0 x175000 x175001 ((q90 ((q91 x1 x6).f1) x8).f0) ((q90 ((q91 x1 x6).f1) x8).f1) ((q90 ((q91 x1 x6).f1) x8).f2)) else (none)) else (q14.l0 k x1 x5 (wrap64 (x6 + 1)) x175000 x175001)) else (none)) else (none)
def q14.j4 : Nat → List (S54) → List Int → Int → Int → Int → List ByteArray → List (S48) → ByteArray → ByteArray → Int → Option (List Int)
 | 0, _, _, _, _, _, _, _, _, _, _ => none
 | k + 1, x1, x5, x6, x8, x10, x175000, x175001, x214000, x214001, x214002 => (q35.f k x10).bind fun t215 => (if x5.length + t215.length < 140737488355328 then ((some (x5 ++ t215 : List Int)).bind fun y218 => ((q39.f k x214001).bind fun t221 => ((q35.f k t221).bind fun t222 => (if y218.length + t222.length < 140737488355328 then ((some (y218 ++ t222 : List Int)).bind fun y225 => ((q15.f k x214002).bind fun t228 => (if y225.length + t228.length < 140737488355328 then (q14.l2 k x1 (y225 ++ t228) x6 (wrap64 (x8 + 1)) x175000 x175001) else (none)))) else (none))))) else (none))
def q14.l3 : Nat → List (S54) → List Int → Int → Int → Int → List ByteArray → List (S48) → ByteArray → ByteArray → Int → Option (List Int)
 | 0, _, _, _, _, _, _, _, _, _, _ => none
 | k + 1, x1, x5, x6, x8, x10, x175000, x175001, x214000, x214001, x214002 => if x10 < (x175000.length : Int) then (if 0 ≤ x10 then (if (rdOf ByteArray.empty x175000 x10).toList = x214000.toList then (q14.j4 k x1 x5 x6 x8 x10 x175000 x175001 x214000 x214001 x214002) else (q14.l3 k x1 x5 x6 x8 (wrap64 (x10 + 1)) x175000 x175001 x214000 x214001 x214002)) else (none)) else (q14.j4 k x1 x5 x6 x8 x10 x175000 x175001 x214000 x214001 x214002)
end
def q14.f (k : Nat) (l0_0 : List ByteArray) (l0_1 : List (S48)) (l1 : List (S54)) : Option (List Int) := (q35.f k (l1.length : Int)).bind fun t175 => (q14.l0 k l1 t175 0 l0_0 l0_1)
theorem q14.mono_l : ∀ k, (∀ y0 y1 y2 y3 y4, LeO (q14.l0 k y0 y1 y2 y3 y4) (q14.l0 (k + 1) y0 y1 y2 y3 y4)) ∧ (∀ y0 y1 y2 y3 y4 y5, LeO (q14.l1 k y0 y1 y2 y3 y4 y5) (q14.l1 (k + 1) y0 y1 y2 y3 y4 y5)) ∧ (∀ y0 y1 y2 y3 y4 y5, LeO (q14.l2 k y0 y1 y2 y3 y4 y5) (q14.l2 (k + 1) y0 y1 y2 y3 y4 y5)) ∧ (∀ y0 y1 y2 y3 y4 y5 y6 y7 y8 y9, LeO (q14.j4 k y0 y1 y2 y3 y4 y5 y6 y7 y8 y9) (q14.j4 (k + 1) y0 y1 y2 y3 y4 y5 y6 y7 y8 y9)) ∧ (∀ y0 y1 y2 y3 y4 y5 y6 y7 y8 y9, LeO (q14.l3 k y0 y1 y2 y3 y4 y5 y6 y7 y8 y9) (q14.l3 (k + 1) y0 y1 y2 y3 y4 y5 y6 y7 y8 y9))
 | 0 => ⟨fun _ _ _ _ _ r h => by simp [q14.l0] at h, fun _ _ _ _ _ _ r h => by simp [q14.l1] at h, fun _ _ _ _ _ _ r h => by simp [q14.l2] at h, fun _ _ _ _ _ _ _ _ _ _ r h => by simp [q14.j4] at h, fun _ _ _ _ _ _ _ _ _ _ r h => by simp [q14.l3] at h⟩
 | k + 1 => by
  obtain ⟨ih0, ih1, ih2, ih3, ih4⟩ := q14.mono_l k
  refine ⟨?_, ?_, ?_, ?_, ?_⟩
  intro y0 y1 y2 y3 y4
  unfold q14.l0
  rotate_left
  intro y0 y1 y2 y3 y4 y5
  unfold q14.l1
  rotate_left
  intro y0 y1 y2 y3 y4 y5
  unfold q14.l2
  rotate_left
  intro y0 y1 y2 y3 y4 y5 y6 y7 y8 y9
  unfold q14.j4
  rotate_left
  intro y0 y1 y2 y3 y4 y5 y6 y7 y8 y9
  unfold q14.l3
  rotate_left
  all_goals repeat' first
   | (with_reducible exact ih0 _ _ _ _ _)
   | (with_reducible exact ih1 _ _ _ _ _ _)
   | (with_reducible exact ih2 _ _ _ _ _ _)
   | (with_reducible exact ih3 _ _ _ _ _ _ _ _ _ _)
   | (with_reducible exact ih4 _ _ _ _ _ _ _ _ _ _)
   | (with_reducible exact q39.mono _ _)
   | (with_reducible exact q24.mono _ _ _ _)
   | (with_reducible exact q35.mono _ _)
   | (with_reducible exact q15.mono _ _)
   | (with_reducible exact LeO.refl _)
   | (with_reducible exact LeO.none _)
   | (with_reducible refine LeO.ite ?_ ?_)
   | (with_reducible refine LeO.bind ?_ (fun _ => ?_))
   | exact ih0 _ _ _ _ _
   | exact ih1 _ _ _ _ _ _
   | exact ih2 _ _ _ _ _ _
   | exact ih3 _ _ _ _ _ _ _ _ _ _
   | exact ih4 _ _ _ _ _ _ _ _ _ _
   | exact q39.mono _ _
   | exact q24.mono _ _ _ _
   | exact q35.mono _ _
   | exact q15.mono _ _
   | exact LeO.none _
   | refine LeO.ite ?_ ?_
   | refine LeO.bind ?_ (fun _ => ?_)
theorem q14.mono : ∀ a0 a1 a2 k, LeO (q14.f k a0 a1 a2) (q14.f (k + 1) a0 a1 a2) := by
 intro a0 a1 a2 k
 obtain ⟨ih0, ih1, ih2, ih3, ih4⟩ := q14.mono_l k
 unfold q14.f
 repeat' first
  | (with_reducible exact ih0 _ _ _ _ _)
  | (with_reducible exact ih1 _ _ _ _ _ _)
  | (with_reducible exact ih2 _ _ _ _ _ _)
  | (with_reducible exact ih3 _ _ _ _ _ _ _ _ _ _)
  | (with_reducible exact ih4 _ _ _ _ _ _ _ _ _ _)
  | (with_reducible exact q39.mono _ _)
  | (with_reducible exact q24.mono _ _ _ _)
  | (with_reducible exact q35.mono _ _)
  | (with_reducible exact q15.mono _ _)
  | (with_reducible exact LeO.refl _)
  | (with_reducible exact LeO.none _)
  | (with_reducible refine LeO.ite ?_ ?_)
  | (with_reducible refine LeO.bind ?_ (fun _ => ?_))
  | exact ih0 _ _ _ _ _
  | exact ih1 _ _ _ _ _ _
  | exact ih2 _ _ _ _ _ _
  | exact ih3 _ _ _ _ _ _ _ _ _ _
  | exact ih4 _ _ _ _ _ _ _ _ _ _
  | exact q39.mono _ _
  | exact q24.mono _ _ _ _
  | exact q35.mono _ _
  | exact q15.mono _ _
  | exact LeO.none _
  | refine LeO.ite ?_ ?_
  | refine LeO.bind ?_ (fun _ => ?_)
def q14.T9 : Bool × List (List Nat × List Nat) := (true, [([], []), ([], []), ([], []), ([], []), ([2, 3], [2, 3]), ([4], [4]), ([5], [5]), ([], []), ([6, 7], [6, 7]), ([8], [8]), ([9], [9]), ([1, 10], [1, 10]), ([11, 11], [11]), ([0, 12, 12], [0, 12]), ([], []), ([], []), ([14, 15], [14, 15]), ([16], [16]), ([17], [17]), ([], []), ([18, 19], [18, 19]), ([20], [20]), ([21], [21]), ([22, 13], [22]), ([13, 23, 23], [13, 23]), ([24, 24, 0, 1, 2, 3, 4, 5, 6, 7, 8, 9, 10, 11, 12, 13, 14, 15, 16, 17, 18, 19, 20, 21, 22, 23, 24], [0, 24])])
def q14.B9 : List Nat := [0, 0, 0, 0, 12, 28, 60, 0, 252, 508, 1020, 2046, 4094, 8191, 0, 0, 49152, 114688, 245760, 0, 1032192, 2080768, 4177920, 8388607, 16777215, 33554431]
theorem q14.tab9 : rtab .any (opsOf Try.f55 9) = q14.T9 := by kernel_rfl
theorem q14.bits9 : waitsOk q14.T9.2 q14.B9 = true := by kernel_rfl
def q14.T16 : Bool × List (List Nat × List Nat) := (true, [([], []), ([], []), ([1], [1]), ([2], [2]), ([0, 3], [0, 3]), ([4], [4]), ([5], [5]), ([6, 5], [5, 6]), ([5], [5]), ([7, 8, 5], [5, 7, 8]), ([9, 5], [5, 9]), ([5], [5]), ([11, 5], [5, 11]), ([10, 12, 5], [5, 10, 12]), ([5, 13], [5, 13])])
def q14.B16 : List Nat := [0, 0, 2, 6, 15, 31, 63, 127, 63, 511, 1023, 63, 2111, 8191, 16383]
theorem q14.tab16 : rtab .any (opsOf Try.f55 16) = q14.T16 := by kernel_rfl
theorem q14.bits16 : waitsOk q14.T16.2 q14.B16 = true := by kernel_rfl
def q14.T18 : Bool × List (List Nat × List Nat) := (true, [([], []), ([], []), ([1], [1]), ([0, 2, 2], [0, 2]), ([], []), ([4], [4]), ([5, 3], [5]), ([6, 6], [6]), ([3, 7, 7], [3, 7]), ([], []), ([9], [9]), ([10, 8], [10]), ([8, 11, 11], [8, 11]), ([12, 12, 0, 1, 2, 3, 4, 5, 6, 7, 8, 9, 10, 11, 12], [0, 12])])
def q14.B18 : List Nat := [0, 0, 2, 7, 0, 16, 63, 127, 255, 0, 512, 2047, 4095, 8191]
theorem q14.tab18 : rtab .any (opsOf Try.f55 18) = q14.T18 := by kernel_rfl
theorem q14.bits18 : waitsOk q14.T18.2 q14.B18 = true := by kernel_rfl
set_option maxHeartbeats 8000000 in
set_option maxRecDepth 100000 in
theorem q14.calls (k : Nat) (A0_0 : Option Addr) (c0_0 : Nat) (l0_0 : List ByteArray) (A0_1 : Option Addr) (c0_1 : Nat) (l0_1 : List (S48)) (A1 : Option Addr) (c1 : Nat) (l1 : List (S54)) (r : List Int) (w : World) (hr0_0 : Kd.C Kd.string w A0_0 l0_0.length l0_0) (hc0_0 : l0_0.length ≤ c0_0) (hr0_1 : Kd.C k48 w A0_1 l0_1.length l0_1) (hc0_1 : l0_1.length ≤ c0_1) (hr1 : Kd.C k54 w A1 l1.length l1) (hc1 : l1.length ≤ c1) (h : q14.f k l0_0 l0_1 l1 = some r) :
 Calls Try.prog 55 #[.agg #[.slice A0_0 l0_0.length c0_0, .slice A0_1 l0_1.length c0_1], .slice A1 l1.length c1] w fun e w' => ∃ v0_ : Value, e = .returned (v0_) ∧ Kd.R (Kd.int .u8) 5 w' w.heap.size (fun _ => True) v0_ r ∧ Below w.heap.size w w' := by
 have hu25 := Try.underlying25
 have hu50 := Try.underlying50
 have HR0_0 := q66.mk hr0_0
 have HC0_0 := q66.mk hc0_0
 clear hr0_0 hc0_0
 have HR0_1 := q66.mk hr0_1
 have HC0_1 := q66.mk hc0_1
 clear hr0_1 hc0_1
 have HR1 := q66.mk hr1
 have HC1 := q66.mk hc1
 clear hr1 hc1
 have HB := q66.mk (Below.refl w.heap.size w)
 unfold q14.f at h
 have H := h
 clear h
 replace H := Option.bind_eq_some_iff.mp H
 obtain ⟨t175, A30, H⟩ := H
 have A3 := q66.mk A30
 clear A30
 have H' := q66.mk H
 clear H
 go_enter Try.func55, Try.ntmps55
 go_wp2_with (first | ((with_reducible refine q81 (N := 2) rfl ?_); refine bx_ 2 #[.slice A0_0 l0_0.length c0_0, .slice A0_1 l0_1.length c0_1] 25 ?_; intro gb174 hg w4 hbox hb; have BK174 := q66.mk (hbox); have GW174 := zz_ (w := w) hg; have GE174 := zz_ (w := w) hg; replace HB := hb_ HB hb;  clear hb hbox hg) | ((with_reducible refine q80 (f := 52) rfl ?_); refine gl_ (some 13) Try.func52 #[.int .i64 (l1.length : Int)] ?_; (with_reducible refine (q35.calls k (l1.length : Int) t175 _ A3.out).mono ?_); rintro e w5 ⟨v176, rfl, ho0, hb⟩; refine ⟨_, rfl, ?_⟩; have HO177 := q66.mk (Kd.R_lower ho0 (q69 hf_)); replace BK174 := bb_ BK174 hb; replace HB := hb_ HB hb;  (try clear hb); clear ho0))
 go_loopg [5, 6] k (fun kq v5 v6 w' => ∃ (x5_1 : List Int) (x6_1 : Int), v6 = .int .i64 x6_1 ∧ q66 (q14.l0 kq l1 x5_1 x6_1 l0_0 l0_1 = some r) ∧ q66 (kq ≤ k) ∧ q66 (Kd.R (Kd.int .u8) 5 w' w.heap.size (fun _ => True) v5 x5_1) ∧ q66 (w'.heap[gb174]? = some (.cells #[(.slice A0_0 l0_0.length c0_0), (.slice A0_1 l0_1.length c0_1)] 25 (0, 0))) ∧ q66 (Below w.heap.size w w'))
 case atStart => exact ⟨(t175), (0), rf_, H', ⟨Nat.le_refl _⟩, ⟨ra_ HO177.out⟩, ⟨gx_ BK174⟩, ⟨hf_⟩⟩
 case round =>
  clear H'
  obtain ⟨x5_1, x6_1, rfl, HA, HK1, HO_5, BK174, HB⟩ := hrel
  cases gk with
  | zero => exact absurd HA.out (by simp [q14.l0])
  | succ k1 =>
   have H := HA.out
   clear HA
   simp only [q14.l0] at H
   by_cases c6 : x6_1 < (l1.length : Int)
   ·rw [if_pos c6] at H
    have c6b0 := decide_eq_true c6
    clear c6
    by_cases c7 : 0 ≤ x6_1
    ·rw [if_pos c7] at H
     have c7b0 := decide_eq_true c7
     clear c7
     replace H := Option.bind_eq_some_iff.mp H
     obtain ⟨t179, A80, H⟩ := H
     have A8 := q66.mk A80
     clear A80
     by_cases c9 : x5_1.length + t179.length < 140737488355328
     ·rw [if_pos c9] at H
      have LMc9 := q66.mk c9
      clear c9
      obtain ⟨y182, hy182⟩ : ∃ y_ : List Int, y_ = (x5_1 ++ t179) := ⟨_, rfl⟩
      rw [← hy182] at H
      have Ny182 := q66.mk hy182
      clear hy182
      have H' := q66.mk H
      clear H
      obtain ⟨ad178, A178_0, c178_0, A178_1, c178_1, e178, hx178_0, hx178_1, HC178_0, HR178_0, HC178_1, HR178_1, p178, q178⟩ := au_T54 HR1 HB (x6_1)
      cases e178
      go_wp2_with (first | ((with_reducible refine q80 (f := 52) rfl ?_); refine gl_ (some 27) Try.func52 #[.int .i64 (((q91 l1 x6_1).f0).length : Int)] ?_; (with_reducible refine (q35.calls k1 (((q91 l1 x6_1).f0).length : Int) t179 _ A8.out).mono ?_); rintro e w10 ⟨v180, rfl, ho0, hb⟩; refine ⟨_, rfl, ?_⟩; have HO181 := q66.mk (Kd.R_lower (Kd.R_new' ho0 (Kd.R_lt (ra_ HO_5.out))) (q69 hf_)); replace HO_5 := q66.mk (Kd.R_elder' (ra_ HO_5.out) (Kd.R_base ho0) hb); replace BK174 := bb_ BK174 hb; replace HB := hb_ HB hb;  (try clear hb); clear ho0; obtain ⟨Ao12, co12, eo12⟩ := Kd.R_slice HO181.out; subst eo12) | ((with_reducible refine q79 (b := .append) (xs := #[.tmp 20, .tmp 27]) rfl ?_); at_builtin; refine Kd.R_append_rows (Kd.int .u8) (w0 := w) w.heap.size rfl (.tmp 20) (.tmp 27) 26 5 (.int .u8 0) 1 rfl Try.underlying26 info5 rfl (by decide) (by omega) u5 x5_1 t179 _ _ _ (fun k_ => some k_ ≠ (.slice Ao12 t179.length co12 : Value).ownBlock) (fun _ => False) rfl rfl ?aO ?aR (fun _ _ h => h) (fun _ h => h.elim) ?aF ?aB ?aS ?aL ?_; (case aR => exact cr_ HO181); (case aB => exact hf_); (case aF => exact (fun k_ hk => Kd.fresh' (Kd.R_lt (ra_ HO181.out)) k_ hk)); (case aO => exact (ra_ (Kd.R_mono HO_5.out (fun _ hk => hk.2)))); (case aS => exact (q69 hf_)); (case aL => have := LMc9.out; omega); intro v183 w11 ho hb hg hat; rw [← Ny182.out] at ho; have n0_ := q66.mk (blk_grown (gx_ BK174) hg (Kd.R_ne HO_5.out BK174.out (by decide))); have n1_ := q66.mk (Kd.R_after (ok := (fun _ => True)) (ra_ HO181.out) hg hat); have n2_ := q66.mk (hb); have n3_ := q66.mk (ho); clear BK174; clear HO181; clear HB; clear HO_5; have BK174 := n0_; have HO181 := n1_; have HB := n2_; have HO184 := n3_; clear n0_ n1_ n2_ n3_; clear ho hb hg hat))
      go_loopg [5, 7] k1 (fun kq v5 v7 w' => ∃ (x5_2 : List Int) (x7_2 : Int), v7 = .int .i64 x7_2 ∧ q66 (q14.l1 kq l1 x5_2 x6_1 x7_2 l0_0 l0_1 = some r) ∧ q66 (kq ≤ k1) ∧ q66 (Kd.R (Kd.int .u8) 5 w' w.heap.size (fun _ => True) v5 x5_2) ∧ q66 (w'.heap[gb174]? = some (.cells #[(.slice A0_0 l0_0.length c0_0), (.slice A0_1 l0_1.length c0_1)] 25 (0, 0))) ∧ q66 (Below w.heap.size w w'))
      case atStart => exact ⟨(y182), (0), rf_, H', ⟨Nat.le_refl _⟩, ⟨ra_ (Kd.R_mono HO184.out (fun _ hk => trivial))⟩, ⟨gx_ BK174⟩, ⟨hf_⟩⟩
      case round =>
       clear H'
       clear c6b0 c7b0 hx178_0 hx178_1 p178 q178
       obtain ⟨x5_2, x7_2, rfl, HA, HK2, HO_5, BK174, HB⟩ := hrel
       cases gk with
       | zero => exact absurd HA.out (by simp [q14.l1])
       | succ k2 =>
        have H := HA.out
        clear HA
        simp only [q14.l1] at H
        by_cases c13 : 0 ≤ x6_1
        ·rw [if_pos c13] at H
         have c13b0 := decide_eq_true c13
         clear c13
         by_cases c14 : x6_1 < (l1.length : Int)
         ·rw [if_pos c14] at H
          have c14b0 := decide_eq_true c14
          clear c14
          by_cases c15 : x7_2 < (((q91 l1 x6_1).f0).length : Int)
          ·rw [if_pos c15] at H
           have c15b0 := decide_eq_true c15
           clear c15
           by_cases c16 : 0 ≤ x7_2
           ·rw [if_pos c16] at H
            replace c16 := decide_eq_true c16
            replace H := Option.bind_eq_some_iff.mp H
            obtain ⟨t188, A170, H⟩ := H
            have A17 := q66.mk A170
            clear A170
            replace H := Option.bind_eq_some_iff.mp H
            obtain ⟨t189, A180, H⟩ := H
            have A18 := q66.mk A180
            clear A180
            by_cases c19 : x5_2.length + t189.length < 140737488355328
            ·rw [if_pos c19] at H
             have LMc19 := q66.mk c19
             clear c19
             obtain ⟨y192, hy192, H⟩ := yb_ H
             have Ny192 := q66.mk hy192
             clear hy192
             replace H := Option.bind_eq_some_iff.mp H
             obtain ⟨t197, A200, H⟩ := H
             have A20 := q66.mk A200
             clear A200
             by_cases c21 : y192.length + t197.length < 140737488355328
             ·rw [if_pos c21] at H
              have LMc21 := q66.mk c21
              clear c21
              obtain ⟨y200, hy200⟩ : ∃ y_ : List Int, y_ = (y192 ++ t197) := ⟨_, rfl⟩
              rw [← hy200] at H
              have Ny200 := q66.mk hy200
              clear hy200
              have H' := q66.mk H
              clear H
              obtain ⟨ad185, A185_0, c185_0, A185_1, c185_1, e185, hx185_0, hx185_1, HC185_0, HR185_0, HC185_1, HR185_1, p185, q185⟩ := au_T54 HR1 HB (x6_1)
              obtain rfl : ad178 = ad185 := (by injection e185)
              try go_wp2
              replace HO_5 := q66.mk (Kd.R_drew HO_5.out)
              replace BK174 := q66.mk (q74 BK174.out)
              replace HB := q66.mk (q68 HB.out)
              have p186 : 0 ≤ (x6_1 : Int) := od_
              have q186 : x6_1 < (l1.length : Int) := od_
              obtain ⟨ad186, A186_0, c186_0, A186_1, c186_1, e186, hx186_0, hx186_1, hl186_0, hi186_0, hl186_1, hi186_1⟩ := at_T54 HR1.out x6_1 p186 q186
              have hw186_1 := hx186_1
              have hw186_0 := hx186_0
              obtain rfl : ad178 = ad186 := (by injection e186)
              replace hx186_0 := rr_ HB hx186_0
              replace hx186_1 := rr_ HB hx186_1
              have HR186_0 := q66.mk hi186_0
              have HC186_0 := q66.mk hl186_0
              clear hi186_0 hl186_0
              have HR186_1 := q66.mk hi186_1
              have HC186_1 := q66.mk hl186_1
              clear hi186_1 hl186_1
              replace p186 := eq_true p186
              replace q186 := eq_true q186
              have p187 : 0 ≤ (x7_2 : Int) := od_
              have q187 : x7_2 < (((q91 l1 x6_1).f0).length : Int) := od_
              obtain ⟨ad187, e187, hx187_0, hx187_1⟩ := at_T103 HR186_0.out x7_2 p187 q187
              have hw187_1 := hx187_1
              have hw187_0 := hx187_0
              cases e187
              replace hx187_0 := rr_ HB hx187_0
              replace hx187_1 := rr_ HB hx187_1
              replace p187 := eq_true p187
              replace q187 := eq_true q187
              have p195 : 0 ≤ (x6_1 : Int) := od_
              have q195 : x6_1 < (l1.length : Int) := od_
              obtain ⟨ad195, A195_0, c195_0, A195_1, c195_1, e195, hx195_0, hx195_1, hl195_0, hi195_0, hl195_1, hi195_1⟩ := at_T54 HR1.out x6_1 p195 q195
              have hw195_1 := hx195_1
              have hw195_0 := hx195_0
              obtain rfl : ad178 = ad195 := (by injection e195)
              replace hx195_0 := rr_ HB hx195_0
              replace hx195_1 := rr_ HB hx195_1
              have HR195_0 := q66.mk hi195_0
              have HC195_0 := q66.mk hl195_0
              clear hi195_0 hl195_0
              have HR195_1 := q66.mk hi195_1
              have HC195_1 := q66.mk hl195_1
              clear hi195_1 hl195_1
              replace p195 := eq_true p195
              replace q195 := eq_true q195
              have ea_ := Option.some.inj (hx186_0.symm.trans hx195_0)
              injection ea_ with ea_ en_ ec_
              subst ea_
              subst ec_
              clear en_
              have ea_ := Option.some.inj (hx186_1.symm.trans hx195_1)
              injection ea_ with ea_ en_ ec_
              subst ea_
              subst ec_
              clear en_
              have p196 : 0 ≤ (x7_2 : Int) := od_
              have q196 : x7_2 < (((q91 l1 x6_1).f0).length : Int) := od_
              obtain ⟨ad196, e196, hx196_0, hx196_1⟩ := at_T103 HR195_0.out x7_2 p196 q196
              have hw196_1 := hx196_1
              have hw196_0 := hx196_0
              cases e196
              replace hx196_0 := rr_ HB hx196_0
              replace hx196_1 := rr_ HB hx196_1
              replace p196 := eq_true p196
              replace q196 := eq_true q196
              refine start_ (n := 26) (S := fun w' => w'.cell? ⟨gb174, 0, none⟩ = some (.slice A0_0 l0_0.length c0_0) ∧ w'.cell? ⟨gb174, 1, none⟩ = some (.slice A0_1 l0_1.length c0_1) ∧ w'.cell? (ad178.add ((x6_1).toNat * 2)) = some (.slice (some ad187) ((q91 l1 x6_1).f0).length c186_0) ∧ w'.cell? ⟨(ad178.add ((x6_1).toNat * 2)).block, (ad178.add ((x6_1).toNat * 2)).off + 1, none⟩ = some (.slice A186_1 ((q91 l1 x6_1).f1).length c186_1) ∧ w'.cell? (ad187.add ((x7_2).toNat * 2)) = some (.string ((q87 ((q91 l1 x6_1).f0) x7_2).f0)) ∧ w'.cell? ⟨(ad187.add ((x7_2).toNat * 2)).block, (ad187.add ((x7_2).toNat * 2)).off + 1, none⟩ = some (.int .i64 ((q87 ((q91 l1 x6_1).f0) x7_2).f1)) ∧ w'.cell? (ad178.add ((x6_1).toNat * 2)) = some (.slice (some ad187) ((q91 l1 x6_1).f0).length c186_0) ∧ w'.cell? ⟨(ad178.add ((x6_1).toNat * 2)).block, (ad178.add ((x6_1).toNat * 2)).off + 1, none⟩ = some (.slice A186_1 ((q91 l1 x6_1).f1).length c186_1) ∧ w'.cell? (ad187.add ((x7_2).toNat * 2)) = some (.string ((q87 ((q91 l1 x6_1).f0) x7_2).f0)) ∧ w'.cell? ⟨(ad187.add ((x7_2).toNat * 2)).block, (ad187.add ((x7_2).toNat * 2)).off + 1, none⟩ = some (.int .i64 ((q87 ((q91 l1 x6_1).f0) x7_2).f1))) (ds := []) (bits_ 26 0) (by kernel_rfl) rfl rfl ⟨(bk0_ BK174 :), (bk1_ BK174 :), (rr_ HB hw186_0 :), (rr_ HB hw186_1 :), (rr_ HB hw187_0 :), (rr_ HB hw187_1 :), (rr_ HB hw195_0 :), (rr_ HB hw195_1 :), (rr_ HB hw196_0 :), (rr_ HB hw196_1 :)⟩ (fun hHeld => ?_); refine with_tabW q14.tab9 q14.bits9 (fun HT_ HW_ => ?_)
              generalize wr.drew = w22 at HO_5 BK174 HB HR186_0 HR186_1 HR195_0 HR195_1 hx186_0 hx186_1 hx187_0 hx187_1 hx195_0 hx195_1 hx196_0 hx196_1 hHeld ⊢
              refine pz_ 0 (some 39) (bits_ 26 1) HT_.out ?_
              refine pz_ 2 (some 41) (bits_ 26 5) HT_.out ?_
              refine pz_ 3 (some 42) (bits_ 26 13) HT_.out ?_
              refine pz_ 4 (some 43) (bits_ 26 29) HT_.out ?_
              refine pz_ 5 (some 44) (bits_ 26 61) HT_.out ?_
              refine pz_ 7 (some 46) (bits_ 26 189) HT_.out ?_
              refine pz_ 14 (some 53) (bits_ 26 16573) HT_.out ?_
              refine pz_ 15 (some 54) (bits_ 26 49341) HT_.out ?_
              refine pz_ 16 (some 55) (bits_ 26 114877) HT_.out ?_
              refine pz_ 17 (some 56) (bits_ 26 245949) HT_.out ?_
              refine pz_ 19 (some 58) (bits_ 26 770237) HT_.out ?_
              refine tz_ 1 (some 40) (bits_ 26 770239) HT_.out HW_.out hHeld ?_ (hy := by rintro w' ⟨s0, s1, s2, s3, s4, s5, s6, s7, s8, s9⟩; go_simp; with_reducible rfl)
              refine tz_ 6 (some 45) (bits_ 26 770303) HT_.out HW_.out hHeld ?_ (hy := by rintro w' ⟨s0, s1, s2, s3, s4, s5, s6, s7, s8, s9⟩; go_simp; with_reducible rfl)
              refine pz_ 8 (some 47) (bits_ 26 770559) HT_.out ?_
              refine pz_ 9 (some 48) (bits_ 26 771071) HT_.out ?_
              refine tz_ 10 (some 49) (bits_ 26 772095) HT_.out HW_.out hHeld ?_ (hy := by rintro w' ⟨s0, s1, s2, s3, s4, s5, s6, s7, s8, s9⟩; go_simp; with_reducible rfl)
              refine tz_ 18 (some 57) (bits_ 26 1034239) HT_.out HW_.out hHeld ?_ (hy := by rintro w' ⟨s0, s1, s2, s3, s4, s5, s6, s7, s8, s9⟩; go_simp; with_reducible rfl)
              refine pz_ 20 (some 59) (bits_ 26 2082815) HT_.out ?_
              refine pz_ 21 (some 60) (bits_ 26 4179967) HT_.out ?_
              refine tz_ 22 (some 61) (bits_ 26 8374271) HT_.out HW_.out hHeld ?_ (hy := by rintro w' ⟨s0, s1, s2, s3, s4, s5, s6, s7, s8, s9⟩; go_simp; with_reducible rfl)
              refine oz_ 11 (some 50) (bits_ 26 8376319) HT_.out (fun K hK => ?_)
              refine go_s_ Try.func54 #[.agg #[.slice A0_0 l0_0.length c0_0, .slice A0_1 l0_1.length c0_1], .string ((q87 ((q91 l1 x6_1).f0) x7_2).f0)] ?_
              with_reducible refine (q24.calls k2 _ _ l0_0 _ _ l0_1 ((q87 ((q91 l1 x6_1).f0) x7_2).f0) t188 _ ?side1 ?side2 ?side3 ?side4 A17.out).mono ?_
              (case side1 => exact kc_ HR0_0 HB)
              (case side2 => exact HC0_0.out)
              (case side3 => exact kc_ HR0_1 HB)
              (case side4 => exact HC0_1.out)
              rintro e w23 ⟨rfl, hb⟩
              refine ⟨_, rfl, ?_⟩
              replace HO_5 := q66.mk (Kd.R_below (ra_ HO_5.out) hb)
              replace BK174 := bb_ BK174 hb
              replace HB := hb_ HB hb
              clear hb
              refine hK.out _ _ ⟨(bk0_ BK174 :), (bk1_ BK174 :), (rr_ HB hw186_0 :), (rr_ HB hw186_1 :), (rr_ HB hw187_0 :), (rr_ HB hw187_1 :), (rr_ HB hw195_0 :), (rr_ HB hw195_1 :), (rr_ HB hw196_0 :), (rr_ HB hw196_1 :)⟩ (fun hHeld => ?_)
              clear hK K
              refine nz_ (some 50) ?_
              refine oz_ 12 (some 51) (bits_ 26 8380415) HT_.out (fun K hK => ?_)
              refine go_s_ Try.func52 #[.int .i64 t188] ?_
              with_reducible refine (q35.calls k2 t188 t189 _ A18.out).mono ?_
              rintro e w24 ⟨v190, rfl, ho0, hb⟩
              refine ⟨_, rfl, ?_⟩
              have n0_ := q66.mk (Kd.R_elder' (ra_ HO_5.out) (Kd.R_base ho0) hb)
              have n1_ := q66.mk (Kd.R_lower (Kd.R_new' ho0 (Kd.R_lt (ra_ HO_5.out))) (q69 hf_))
              have n2_ := bb_ BK174 hb
              have n3_ := hb_ HB hb
              clear HO_5
              clear BK174
              clear HB
              have HO_5 := n0_
              have HO191 := n1_
              have BK174 := n2_
              have HB := n3_
              clear n0_ n1_ n2_ n3_
              clear hb ho0
              obtain ⟨Ao26, co26, eo26⟩ := Kd.R_slice HO191.out
              (first | subst eo26 | (injection eo26 with f1_ f2_ f3_; have f4_ := f1_.symm; have f5_ := f3_.symm; clear f1_ f2_ f3_; subst f4_; subst f5_))
              refine hK.out _ _ ⟨(bk0_ BK174 :), (bk1_ BK174 :), (rr_ HB hw186_0 :), (rr_ HB hw186_1 :), (rr_ HB hw187_0 :), (rr_ HB hw187_1 :), (rr_ HB hw195_0 :), (rr_ HB hw195_1 :), (rr_ HB hw196_0 :), (rr_ HB hw196_1 :)⟩ (fun hHeld => ?_)
              clear hK K
              refine nz_ (some 51) ?_
              refine oz_ 13 (some 52) (bits_ 26 8388607) HT_.out (fun K hK => ?_)
              refine Kd.R_append_rows_step (Kd.int .u8) (w0 := w) w.heap.size (by rfl) (.tmp 39) (.tmp 51) 26 5 (.int .u8 0) 1 rfl Try.underlying26 info5 rfl (by decide) (by omega) u5 x5_2 t189 _ _ _ (fun k_ => some k_ ≠ (.slice Ao26 t189.length co26 : Value).ownBlock) (fun _ => False) rfl rfl ?aO ?aR (fun _ _ h => h) (fun _ h => h.elim) ?aF ?aB ?aS ?aL ?_
              (case aR => exact cr_ HO191)
              (case aB => exact hf_)
              (case aF => exact (fun k_ hk => Kd.fresh' (Kd.R_lt (ra_ HO191.out)) k_ hk))
              (case aO => exact (ra_ (Kd.R_mono HO_5.out (fun _ hk => hk.2))))
              (case aS => exact (q69 hf_))
              (case aL => have := LMc19.out; omega)
              intro v193 w25 ho hb hg hat
              rw [← Ny192.out] at ho
              replace BK174 := q66.mk (blk_grown (gx_ BK174) hg (Kd.R_ne HO_5.out BK174.out (by decide)))
              replace HO191 := q66.mk (Kd.R_after (ok := (fun _ => True)) (ra_ HO191.out) hg hat)
              replace HB := q66.mk (hb)
              replace HO194 := q66.mk (ho)
              clear ho hb hg hat
              refine hK.out _ _ ⟨(bk0_ BK174 :), (bk1_ BK174 :), (rr_ HB hw186_0 :), (rr_ HB hw186_1 :), (rr_ HB hw187_0 :), (rr_ HB hw187_1 :), (rr_ HB hw195_0 :), (rr_ HB hw195_1 :), (rr_ HB hw196_0 :), (rr_ HB hw196_1 :)⟩ (fun hHeld => ?_)
              clear hK K
              refine nz_ (some 52) ?_
              refine oz_ 23 (some 62) (bits_ 26 16777215) HT_.out (fun K hK => ?_)
              refine go_s_ Try.func52 #[.int .i64 ((q87 ((q91 l1 x6_1).f0) x7_2).f1)] ?_
              with_reducible refine (q35.calls k2 ((q87 ((q91 l1 x6_1).f0) x7_2).f1) t197 _ A20.out).mono ?_
              rintro e w27 ⟨v198, rfl, ho0, hb⟩
              refine ⟨_, rfl, ?_⟩
              have n0_ := q66.mk (Kd.R_elder' (ra_ HO191.out) (Kd.R_base ho0) hb)
              have n1_ := q66.mk (Kd.R_elder' (ra_ HO194.out) (Kd.R_base ho0) hb)
              have n2_ := q66.mk (Kd.R_lower (Kd.R_new' (Kd.R_new' ho0 (Kd.R_lt (ra_ HO191.out))) (Kd.R_lt (ra_ HO194.out))) (q69 hf_))
              have n3_ := bb_ BK174 hb
              have n4_ := hb_ HB hb
              clear HO191
              clear HO194
              clear BK174
              clear HB
              have HO191 := n0_
              have HO194 := n1_
              have HO199 := n2_
              have BK174 := n3_
              have HB := n4_
              clear n0_ n1_ n2_ n3_ n4_
              clear hb ho0
              obtain ⟨Ao29, co29, eo29⟩ := Kd.R_slice HO199.out
              (first | subst eo29 | (injection eo29 with f1_ f2_ f3_; have f4_ := f1_.symm; have f5_ := f3_.symm; clear f1_ f2_ f3_; subst f4_; subst f5_))
              refine hK.out _ _ ⟨(bk0_ BK174 :), (bk1_ BK174 :), (rr_ HB hw186_0 :), (rr_ HB hw186_1 :), (rr_ HB hw187_0 :), (rr_ HB hw187_1 :), (rr_ HB hw195_0 :), (rr_ HB hw195_1 :), (rr_ HB hw196_0 :), (rr_ HB hw196_1 :)⟩ (fun hHeld => ?_)
              clear hK K
              refine nz_ (some 62) ?_
              refine oz_ 24 (some 63) (bits_ 26 33554431) HT_.out (fun K hK => ?_)
              refine Kd.R_append_rows_step (Kd.int .u8) (w0 := w) w.heap.size (by rfl) (.tmp 52) (.tmp 62) 26 5 (.int .u8 0) 1 rfl Try.underlying26 info5 rfl (by decide) (by omega) v193 y192 t197 _ _ _ (fun k_ => some k_ ≠ (.slice Ao26 t189.length co26 : Value).ownBlock ∧ some k_ ≠ (.slice Ao29 t197.length co29 : Value).ownBlock) (fun _ => False) rfl rfl ?aO ?aR (fun _ _ h => h) (fun _ h => h.elim) ?aF ?aB ?aS ?aL ?_
              (case aR => exact cr_ HO199)
              (case aB => exact hf_)
              (case aF => exact (fun k_ hk => ⟨Kd.fresh' (Kd.R_lt (ra_ HO191.out)) k_ hk, Kd.fresh' (Kd.R_lt (ra_ HO199.out)) k_ hk⟩))
              (case aO => exact (ra_ HO194.out))
              (case aS => exact (q69 hf_))
              (case aL => have := LMc21.out; omega)
              intro v201 w28 ho hb hg hat
              rw [← Ny200.out] at ho
              replace BK174 := q66.mk (blk_grown (gx_ BK174) hg (Kd.R_ne HO194.out BK174.out (by decide)))
              replace HO191 := q66.mk (Kd.R_after (ok := (fun k_ => some k_ ≠ (.slice Ao29 t197.length co29 : Value).ownBlock)) (ra_ (Kd.R_mono HO191.out (fun _ hk => ⟨hk.2, hk.1.2⟩))) hg hat)
              replace HO199 := q66.mk (Kd.R_after (ok := (fun k_ => some k_ ≠ (.slice Ao26 t189.length co26 : Value).ownBlock)) (ra_ (Kd.R_mono HO199.out (fun _ hk => ⟨hk.1.2, hk.2⟩))) hg hat)
              replace HB := q66.mk (hb)
              replace HO202 := q66.mk (ho)
              clear ho hb hg hat
              refine hK.out _ _ ⟨(bk0_ BK174 :), (bk1_ BK174 :), (rr_ HB hw186_0 :), (rr_ HB hw186_1 :), (rr_ HB hw187_0 :), (rr_ HB hw187_1 :), (rr_ HB hw195_0 :), (rr_ HB hw195_1 :), (rr_ HB hw196_0 :), (rr_ HB hw196_1 :)⟩ (fun hHeld => ?_)
              clear hK K
              refine nz_ (some 63) ?_
              refine pz_ 25 (some 5) (bits_ 26 67108863) HT_.out ?_
              refine done_ (done_of HT_.out (by kernel_rfl)) ?_
              try go_wp2
              go_roundg k2
              case measure => have := HK1.out; have := HK2.out; omega
              case rel => exact ⟨(y200), (wrap64 (x7_2 + 1)), rf_, H', ⟨by have := HK1.out; have := HK2.out; omega⟩, ⟨ra_ (Kd.R_mono HO202.out (fun _ hk => trivial))⟩, ⟨gx_ BK174⟩, ⟨hf_⟩⟩
             ·rw [if_neg c21] at H
              exact absurd H (by simp)
            ·rw [if_neg c19] at H
             exact absurd H (by simp)
           ·rw [if_neg c16] at H
            exact absurd H (by simp)
          ·rw [if_neg c15] at H
           have c15b0 := decide_eq_false c15
           clear c15
           replace H := Option.bind_eq_some_iff.mp H
           obtain ⟨t204, A300, H⟩ := H
           have A30 := q66.mk A300
           clear A300
           by_cases c31 : x5_2.length + t204.length < 140737488355328
           ·rw [if_pos c31] at H
            have LMc31 := q66.mk c31
            clear c31
            obtain ⟨y207, hy207⟩ : ∃ y_ : List Int, y_ = (x5_2 ++ t204) := ⟨_, rfl⟩
            rw [← hy207] at H
            have Ny207 := q66.mk hy207
            clear hy207
            have H' := q66.mk H
            clear H
            obtain ⟨ad185, A185_0, c185_0, A185_1, c185_1, e185, hx185_0, hx185_1, HC185_0, HR185_0, HC185_1, HR185_1, p185, q185⟩ := au_T54 HR1 HB (x6_1)
            obtain rfl : ad178 = ad185 := (by injection e185)
            obtain ⟨ad203, A203_0, c203_0, A203_1, c203_1, e203, hx203_0, hx203_1, HC203_0, HR203_0, HC203_1, HR203_1, p203, q203⟩ := au_T54 HR1 HB (x6_1)
            obtain rfl : ad178 = ad203 := (by injection e203)
            have ea_ := Option.some.inj (hx185_0.symm.trans hx203_0)
            injection ea_ with ea_ en_ ec_
            subst ea_
            subst ec_
            clear en_
            have ea_ := Option.some.inj (hx185_1.symm.trans hx203_1)
            injection ea_ with ea_ en_ ec_
            subst ea_
            subst ec_
            clear en_
            go_wp2_with (first | ((with_reducible refine q80 (f := 52) rfl ?_); refine gl_ (some 71) Try.func52 #[.int .i64 (((q91 l1 x6_1).f1).length : Int)] ?_; (with_reducible refine (q35.calls k2 (((q91 l1 x6_1).f1).length : Int) t204 _ A30.out).mono ?_); rintro e w32 ⟨v205, rfl, ho0, hb⟩; refine ⟨_, rfl, ?_⟩; have HO206 := q66.mk (Kd.R_lower (Kd.R_new' ho0 (Kd.R_lt (ra_ HO_5.out))) (q69 hf_)); replace HO_5 := q66.mk (Kd.R_elder' (ra_ HO_5.out) (Kd.R_base ho0) hb); replace BK174 := bb_ BK174 hb; replace HB := hb_ HB hb;  (try clear hb); clear ho0; obtain ⟨Ao34, co34, eo34⟩ := Kd.R_slice HO206.out; subst eo34) | ((with_reducible refine q79 (b := .append) (xs := #[.tmp 64, .tmp 71]) rfl ?_); at_builtin; refine Kd.R_append_rows (Kd.int .u8) (w0 := w) w.heap.size rfl (.tmp 64) (.tmp 71) 26 5 (.int .u8 0) 1 rfl Try.underlying26 info5 rfl (by decide) (by omega) u5 x5_2 t204 _ _ _ (fun k_ => some k_ ≠ (.slice Ao34 t204.length co34 : Value).ownBlock) (fun _ => False) rfl rfl ?aO ?aR (fun _ _ h => h) (fun _ h => h.elim) ?aF ?aB ?aS ?aL ?_; (case aR => exact cr_ HO206); (case aB => exact hf_); (case aF => exact (fun k_ hk => Kd.fresh' (Kd.R_lt (ra_ HO206.out)) k_ hk)); (case aO => exact (ra_ (Kd.R_mono HO_5.out (fun _ hk => hk.2)))); (case aS => exact (q69 hf_)); (case aL => have := LMc31.out; omega); intro v208 w33 ho hb hg hat; rw [← Ny207.out] at ho; have n0_ := q66.mk (blk_grown (gx_ BK174) hg (Kd.R_ne HO_5.out BK174.out (by decide))); have n1_ := q66.mk (Kd.R_after (ok := (fun _ => True)) (ra_ HO206.out) hg hat); have n2_ := q66.mk (hb); have n3_ := q66.mk (ho); clear BK174; clear HO206; clear HB; clear HO_5; have BK174 := n0_; have HO206 := n1_; have HB := n2_; have HO209 := n3_; clear n0_ n1_ n2_ n3_; clear ho hb hg hat))
            go_loopg [5, 8] k2 (fun kq v5 v8 w' => ∃ (x5_3 : List Int) (x8_3 : Int), v8 = .int .i64 x8_3 ∧ q66 (q14.l2 kq l1 x5_3 x6_1 x8_3 l0_0 l0_1 = some r) ∧ q66 (kq ≤ k2) ∧ q66 (Kd.R (Kd.int .u8) 5 w' w.heap.size (fun _ => True) v5 x5_3) ∧ q66 (w'.heap[gb174]? = some (.cells #[(.slice A0_0 l0_0.length c0_0), (.slice A0_1 l0_1.length c0_1)] 25 (0, 0))) ∧ q66 (Below w.heap.size w w'))
            case atStart => exact ⟨(y207), (0), rf_, H', ⟨Nat.le_refl _⟩, ⟨ra_ (Kd.R_mono HO209.out (fun _ hk => trivial))⟩, ⟨gx_ BK174⟩, ⟨hf_⟩⟩
            case round =>
             clear H'
             clear c13b0 c14b0 c15b0 hx185_0 hx185_1 hx203_0 hx203_1 p185 p203 q185 q203
             obtain ⟨x5_3, x8_3, rfl, HA, HK3, HO_5, BK174, HB⟩ := hrel
             cases gk with
             | zero => exact absurd HA.out (by simp [q14.l2])
             | succ k3 =>
              have H := HA.out
              clear HA
              simp only [q14.l2] at H
              by_cases c35 : 0 ≤ x6_1
              ·rw [if_pos c35] at H
               have c35b0 := decide_eq_true c35
               clear c35
               by_cases c36 : x6_1 < (l1.length : Int)
               ·rw [if_pos c36] at H
                have c36b0 := decide_eq_true c36
                clear c36
                by_cases c37 : x8_3 < (((q91 l1 x6_1).f1).length : Int)
                ·rw [if_pos c37] at H
                 have c37b0 := decide_eq_true c37
                 clear c37
                 by_cases c38 : 0 ≤ x8_3
                 ·rw [if_pos c38] at H
                  have c38b0 := decide_eq_true c38
                  clear c38
                  have HC39 := q66.mk H
                  clear H
                  obtain ⟨ad210, A210_0, c210_0, A210_1, c210_1, e210, hx210_0, hx210_1, HC210_0, HR210_0, HC210_1, HR210_1, p210, q210⟩ := au_T54 HR1 HB (x6_1)
                  obtain rfl : ad178 = ad210 := (by injection e210)
                  obtain ⟨ad211, A211_0, c211_0, A211_1, c211_1, e211, hx211_0, hx211_1, HC211_0, HR211_0, HC211_1, HR211_1, p211, q211⟩ := au_T54 HR1 HB (x6_1)
                  obtain rfl : ad178 = ad211 := (by injection e211)
                  have ea_ := Option.some.inj (hx210_0.symm.trans hx211_0)
                  injection ea_ with ea_ en_ ec_
                  subst ea_
                  subst ec_
                  clear en_
                  have ea_ := Option.some.inj (hx210_1.symm.trans hx211_1)
                  injection ea_ with ea_ en_ ec_
                  subst ea_
                  subst ec_
                  clear en_
                  obtain ⟨ad212, e212, hx212_0, hx212_1, hx212_2, p212, q212⟩ := au_T50 HR211_1 HB (x8_3)
                  cases e212
                  go_upto_block 6 with (first | ((with_reducible refine q81 (N := 9) rfl ?_); refine bx_ 9 #[.string (⟨#[]⟩ : ByteArray), .string (⟨#[]⟩ : ByteArray), .int .i64 0] 50 ?_; intro gb213 hg w40 hbox hb; replace HO_5 := q66.mk (Kd.R_below (ra_ HO_5.out) hb); have BK213 := q66.mk (hbox); have GW213 := zz_ (w := w) hg; have GE213 := zz_ (w := w) hg; replace HB := hb_ HB hb; have NB174_213 := ne1_ hg BK174; have NB213_174 := ne2_ hg BK174; replace BK174 := bb_ BK174 hb;  clear hb hbox hg; have hnb41 := NB213_174.out; have hnc41 := NB174_213.out; obtain ⟨hcz42_0, hcz42_1, hcz42_2, hfz42_0, hfz42_1, hfz42_2⟩ := bs3_ BK213))
                  (try simp only [Act.put, List.setIfInBounds_toArray, List.set_cons_zero, List.set_cons_succ])
                  go_cut [10] (fun v10 wc => ∃ (kq : Nat) (x10_38 : Int), v10 = .int .i64 x10_38 ∧ q66 (q14.j4 kq l1 x5_3 x6_1 x8_3 x10_38 l0_0 l0_1 ((q90 ((q91 l1 x6_1).f1) x8_3).f0) ((q90 ((q91 l1 x6_1).f1) x8_3).f1) ((q90 ((q91 l1 x6_1).f1) x8_3).f2) = some r) ∧ q66 (kq ≤ k3) ∧ q66 (Kd.R (Kd.int .u8) 5 wc w.heap.size (fun _ => True) u5 x5_3) ∧ q66 (wc.heap[gb174]? = some (.cells #[(.slice A0_0 l0_0.length c0_0), (.slice A0_1 l0_1.length c0_1)] 25 (0, 0))) ∧ q66 (wc.heap[gb213]? = some (.cells #[.string ((q90 ((q91 l1 x6_1).f1) x8_3).f0), .string ((q90 ((q91 l1 x6_1).f1) x8_3).f1), .int .i64 ((q90 ((q91 l1 x6_1).f1) x8_3).f2)] 50 (0, 0))) ∧ q66 (Below w.heap.size w wc))
                  case first =>
                   have H := HC39.out
                   clear HC39
                   have H' := q66.mk H
                   clear H
                   go_wp2
                   go_loopg [10] k3 (fun kq v10 w' => ∃ (x10_4 : Int), v10 = .int .i64 x10_4 ∧ q66 (q14.l3 kq l1 x5_3 x6_1 x8_3 x10_4 l0_0 l0_1 ((q90 ((q91 l1 x6_1).f1) x8_3).f0) ((q90 ((q91 l1 x6_1).f1) x8_3).f1) ((q90 ((q91 l1 x6_1).f1) x8_3).f2) = some r) ∧ q66 (kq ≤ k3) ∧ q66 (Kd.R (Kd.int .u8) 5 w' w.heap.size (fun _ => True) u5 x5_3) ∧ q66 (w'.heap[gb174]? = some (.cells #[(.slice A0_0 l0_0.length c0_0), (.slice A0_1 l0_1.length c0_1)] 25 (0, 0))) ∧ q66 (w'.heap[gb213]? = some (.cells #[.string ((q90 ((q91 l1 x6_1).f1) x8_3).f0), .string ((q90 ((q91 l1 x6_1).f1) x8_3).f1), .int .i64 ((q90 ((q91 l1 x6_1).f1) x8_3).f2)] 50 (0, 0))) ∧ q66 (Below w.heap.size w w'))
                   case atStart => exact ⟨(0), rf_, H', ⟨Nat.le_refl _⟩, ⟨ra_ (Kd.R_mono (Kd.R_far (p := ⟨gb213, 2, none⟩) (Kd.R_far (p := ⟨gb213, 1, none⟩) (Kd.R_far (p := ⟨gb213, 0, none⟩) (Kd.R_types HO_5.out BK213.out (by decide)) (fun _ hk => hk.2) (.string ((q90 ((q91 l1 x6_1).f1) x8_3).f0))) (fun _ hk => hk.2) (.string ((q90 ((q91 l1 x6_1).f1) x8_3).f1))) (fun _ hk => hk.2) (.int .i64 ((q90 ((q91 l1 x6_1).f1) x8_3).f2))) (fun _ hk => trivial))⟩, ⟨by (with_reducible repeat (first | refine q75 ?_ _ | refine q74 ?_ | refine q71 ?_ _)); refine q76 ?_ NB174_213.out _; (with_reducible repeat (first | refine q75 ?_ _ | refine q74 ?_ | refine q71 ?_ _)); refine q76 ?_ NB174_213.out _; (with_reducible repeat (first | refine q75 ?_ _ | refine q74 ?_ | refine q71 ?_ _)); refine q76 ?_ NB174_213.out _; (with_reducible repeat (first | refine q75 ?_ _ | refine q74 ?_ | refine q71 ?_ _)); exact BK174.out⟩, ⟨by (with_reducible repeat (first | refine q75 ?_ _ | refine q74 ?_ | refine q71 ?_ _)); refine q78 (cs := #[.string ((q90 ((q91 l1 x6_1).f1) x8_3).f0), .string ((q90 ((q91 l1 x6_1).f1) x8_3).f1), .int .i64 0]) ?_ 2 _ rfl; (with_reducible repeat (first | refine q75 ?_ _ | refine q74 ?_ | refine q71 ?_ _)); refine q78 (cs := #[.string ((q90 ((q91 l1 x6_1).f1) x8_3).f0), .string (⟨#[]⟩ : ByteArray), .int .i64 0]) ?_ 1 _ rfl; (with_reducible repeat (first | refine q75 ?_ _ | refine q74 ?_ | refine q71 ?_ _)); refine q78 (cs := #[.string (⟨#[]⟩ : ByteArray), .string (⟨#[]⟩ : ByteArray), .int .i64 0]) ?_ 0 _ rfl; (with_reducible repeat (first | refine q75 ?_ _ | refine q74 ?_ | refine q71 ?_ _)); exact BK213.out⟩, ⟨hf_⟩⟩
                   case round =>
                    clear H'
                    clear c35b0 c36b0 c37b0 c38b0 hx210_0 hx210_1 hx211_0 hx211_1 hx212_0 hx212_1 hx212_2 p210 p211 p212 q210 q211 q212; (try clear hcz42_0); (try clear hcz42_1); (try clear hcz42_2); (try clear hfz42_0); (try clear hfz42_1); (try clear hfz42_2)
                    obtain ⟨x10_4, rfl, HA, HK4, HO_5, BK174, BK213, HB⟩ := hrel
                    cases gk with
                    | zero => exact absurd HA.out (by simp [q14.l3])
                    | succ k4 =>
                     have H := HA.out
                     clear HA
                     simp only [q14.l3] at H
                     by_cases c43 : x10_4 < (l0_0.length : Int)
                     ·rw [if_pos c43] at H
                      have c43b0 := decide_eq_true c43
                      clear c43
                      (first | rw [c43b0] | (simp only [i64_w, i32_w]; rw [c43b0]) | skip)
                      by_cases c44 : 0 ≤ x10_4
                      ·rw [if_pos c44] at H
                       replace c44 := decide_eq_true c44
                       by_cases c45 : (rdOf ByteArray.empty l0_0 x10_4).toList = ((q90 ((q91 l1 x6_1).f1) x8_3).f0).toList
                       ·rw [if_pos c45] at H
                        have c45b0 : ((rdOf ByteArray.empty l0_0 x10_4).toList == ((q90 ((q91 l1 x6_1).f1) x8_3).f0).toList) = true := beq_iff_eq.mpr c45
                        have c45b1 : ((rdOf ByteArray.empty l0_0 x10_4).toList != ((q90 ((q91 l1 x6_1).f1) x8_3).f0).toList) = false := bne_eq_false_iff_eq.mpr c45
                        clear c45
                        have H' := q66.mk H
                        clear H
                        try go_wp2
                        replace HO_5 := q66.mk (Kd.R_drew HO_5.out)
                        replace BK174 := q66.mk (q74 BK174.out)
                        replace BK213 := q66.mk (q74 BK213.out)
                        replace HB := q66.mk (q68 HB.out)
                        have p214 : 0 ≤ (x10_4 : Int) := od_
                        have q214 : x10_4 < (l0_0.length : Int) := od_
                        obtain ⟨ad214, e214, hx214_0⟩ := Kd.at_string HR0_0.out x10_4 p214 q214
                        have hw214_0 := hx214_0
                        cases e214
                        replace hx214_0 := rr_ HB hx214_0
                        replace p214 := eq_true p214
                        replace q214 := eq_true q214
                        refine start_ (n := 15) (S := fun w' => w'.cell? ⟨gb174, 0, none⟩ = some (.slice (some ad214) l0_0.length c0_0) ∧ w'.cell? ⟨gb174, 1, none⟩ = some (.slice A0_1 l0_1.length c0_1) ∧ w'.cell? ⟨gb213, 0, none⟩ = some (.string ((q90 ((q91 l1 x6_1).f1) x8_3).f0)) ∧ w'.cell? ⟨gb213, 1, none⟩ = some (.string ((q90 ((q91 l1 x6_1).f1) x8_3).f1)) ∧ w'.cell? ⟨gb213, 2, none⟩ = some (.int .i64 ((q90 ((q91 l1 x6_1).f1) x8_3).f2)) ∧ w'.cell? (ad214.add (x10_4).toNat) = some (.string (rdOf ByteArray.empty l0_0 x10_4))) (ds := []) (bits_ 15 0) (by kernel_rfl) rfl rfl ⟨(bk0_ BK174 :), (bk1_ BK174 :), (bk0_ BK213 :), (bk1_ BK213 :), (bk2_ BK213 :), (rr_ HB hw214_0 :)⟩ (fun hHeld => ?_); refine with_tabW q14.tab16 q14.bits16 (fun HT_ HW_ => ?_)
                        generalize wr.drew = w46 at HO_5 BK174 BK213 HB hx214_0 hHeld ⊢
                        refine pz_ 0 (some 91) (bits_ 15 1) HT_.out ?_
                        refine pz_ 1 (some 92) (bits_ 15 3) HT_.out ?_
                        refine tz_ 2 (some 93) (bits_ 15 7) HT_.out HW_.out hHeld ?_ (hy := by rintro w' ⟨s0, s1, s2, s3, s4, s5⟩; go_simp; with_reducible rfl)
                        refine pz_ 3 (some 94) (bits_ 15 15) HT_.out ?_
                        refine pz_ 4 (some 95) (bits_ 15 31) HT_.out ?_
                        refine pz_ 5 (some 96) (bits_ 15 63) HT_.out ?_
                        refine pz_ 6 (some 97) (bits_ 15 127) HT_.out ?_
                        refine pz_ 8 (some 99) (bits_ 15 383) HT_.out ?_
                        refine pz_ 11 (some 102) (bits_ 15 2431) HT_.out ?_
                        refine tz_ 7 (some 98) (bits_ 15 2559) HT_.out HW_.out hHeld ?_ (hy := by rintro w' ⟨s0, s1, s2, s3, s4, s5⟩; go_simp; with_reducible rfl)
                        refine pz_ 9 (some 100) (bits_ 15 3071) HT_.out ?_
                        refine tz_ 10 (some 101) (bits_ 15 4095) HT_.out HW_.out hHeld ?_ (hy := by rintro w' ⟨s0, s1, s2, s3, s4, s5⟩; go_simp; with_reducible rfl)
                        refine tz_ 12 (some 103) (bits_ 15 8191) HT_.out HW_.out hHeld ?_ (hy := by rintro w' ⟨s0, s1, s2, s3, s4, s5⟩; go_simp; with_reducible rfl)
                        refine pz_ 13 (some 104) (bits_ 15 16383) HT_.out ?_
                        refine pz_ 14 (some 105) (bits_ 15 32767) HT_.out ?_
                        refine done_ (done_of HT_.out (by kernel_rfl)) ?_
                        try go_wp2
                        go_meet
                        case rel => exact ⟨_, (x10_4), rf_, H', ⟨by have := HK1.out; have := HK2.out; have := HK3.out; have := HK4.out; first | omega | exact Nat.le_refl _⟩, ⟨ra_ HO_5.out⟩, ⟨gx_ BK174⟩, ⟨gx_ BK213⟩, ⟨hf_⟩⟩
                       ·rw [if_neg c45] at H
                        have c45b0 : ((rdOf ByteArray.empty l0_0 x10_4).toList == ((q90 ((q91 l1 x6_1).f1) x8_3).f0).toList) = false := beq_eq_false_iff_ne.mpr c45
                        have c45b1 : ((rdOf ByteArray.empty l0_0 x10_4).toList != ((q90 ((q91 l1 x6_1).f1) x8_3).f0).toList) = true := bne_iff_ne.mpr c45
                        have H' := q66.mk H
                        clear H
                        try go_wp2
                        replace HO_5 := q66.mk (Kd.R_drew HO_5.out)
                        replace BK174 := q66.mk (q74 BK174.out)
                        replace BK213 := q66.mk (q74 BK213.out)
                        replace HB := q66.mk (q68 HB.out)
                        have p214 : 0 ≤ (x10_4 : Int) := od_
                        have q214 : x10_4 < (l0_0.length : Int) := od_
                        obtain ⟨ad214, e214, hx214_0⟩ := Kd.at_string HR0_0.out x10_4 p214 q214
                        have hw214_0 := hx214_0
                        cases e214
                        replace hx214_0 := rr_ HB hx214_0
                        replace p214 := eq_true p214
                        replace q214 := eq_true q214
                        refine start_ (n := 15) (S := fun w' => w'.cell? ⟨gb174, 0, none⟩ = some (.slice (some ad214) l0_0.length c0_0) ∧ w'.cell? ⟨gb174, 1, none⟩ = some (.slice A0_1 l0_1.length c0_1) ∧ w'.cell? ⟨gb213, 0, none⟩ = some (.string ((q90 ((q91 l1 x6_1).f1) x8_3).f0)) ∧ w'.cell? ⟨gb213, 1, none⟩ = some (.string ((q90 ((q91 l1 x6_1).f1) x8_3).f1)) ∧ w'.cell? ⟨gb213, 2, none⟩ = some (.int .i64 ((q90 ((q91 l1 x6_1).f1) x8_3).f2)) ∧ w'.cell? (ad214.add (x10_4).toNat) = some (.string (rdOf ByteArray.empty l0_0 x10_4))) (ds := []) (bits_ 15 0) (by kernel_rfl) rfl rfl ⟨(bk0_ BK174 :), (bk1_ BK174 :), (bk0_ BK213 :), (bk1_ BK213 :), (bk2_ BK213 :), (rr_ HB hw214_0 :)⟩ (fun hHeld => ?_); refine with_tabW q14.tab16 q14.bits16 (fun HT_ HW_ => ?_)
                        generalize wr.drew = w47 at HO_5 BK174 BK213 HB hx214_0 hHeld ⊢
                        refine pz_ 0 (some 91) (bits_ 15 1) HT_.out ?_
                        refine pz_ 1 (some 92) (bits_ 15 3) HT_.out ?_
                        refine tz_ 2 (some 93) (bits_ 15 7) HT_.out HW_.out hHeld ?_ (hy := by rintro w' ⟨s0, s1, s2, s3, s4, s5⟩; go_simp; with_reducible rfl)
                        refine pz_ 3 (some 94) (bits_ 15 15) HT_.out ?_
                        refine pz_ 4 (some 95) (bits_ 15 31) HT_.out ?_
                        refine pz_ 5 (some 96) (bits_ 15 63) HT_.out ?_
                        refine pz_ 6 (some 97) (bits_ 15 127) HT_.out ?_
                        refine pz_ 8 (some 99) (bits_ 15 383) HT_.out ?_
                        refine pz_ 11 (some 102) (bits_ 15 2431) HT_.out ?_
                        refine tz_ 7 (some 98) (bits_ 15 2559) HT_.out HW_.out hHeld ?_ (hy := by rintro w' ⟨s0, s1, s2, s3, s4, s5⟩; go_simp; with_reducible rfl)
                        refine pz_ 9 (some 100) (bits_ 15 3071) HT_.out ?_
                        refine tz_ 10 (some 101) (bits_ 15 4095) HT_.out HW_.out hHeld ?_ (hy := by rintro w' ⟨s0, s1, s2, s3, s4, s5⟩; go_simp; with_reducible rfl)
                        refine tz_ 12 (some 103) (bits_ 15 8191) HT_.out HW_.out hHeld ?_ (hy := by rintro w' ⟨s0, s1, s2, s3, s4, s5⟩; go_simp; with_reducible rfl)
                        refine pz_ 13 (some 104) (bits_ 15 16383) HT_.out ?_
                        refine pz_ 14 (some 105) (bits_ 15 32767) HT_.out ?_
                        refine done_ (done_of HT_.out (by kernel_rfl)) ?_
                        try go_wp2
                        go_roundg k4
                        case measure => have := HK1.out; have := HK2.out; have := HK3.out; have := HK4.out; omega
                        case rel => exact ⟨(wrap64 (x10_4 + 1)), rf_, H', ⟨by have := HK1.out; have := HK2.out; have := HK3.out; have := HK4.out; omega⟩, ⟨ra_ HO_5.out⟩, ⟨gx_ BK174⟩, ⟨gx_ BK213⟩, ⟨hf_⟩⟩
                      ·rw [if_neg c44] at H
                       exact absurd H (by simp)
                     ·rw [if_neg c43] at H
                      have c43b0 := decide_eq_false c43
                      clear c43
                      (first | rw [c43b0] | (simp only [i64_w, i32_w]; rw [c43b0]) | skip)
                      have H' := q66.mk H
                      clear H
                      try go_wp2
                      replace HO_5 := q66.mk (Kd.R_drew HO_5.out)
                      replace BK174 := q66.mk (q74 BK174.out)
                      replace BK213 := q66.mk (q74 BK213.out)
                      replace HB := q66.mk (q68 HB.out)
                      refine start_ (n := 15) (S := fun w' => w'.cell? ⟨gb174, 0, none⟩ = some (.slice A0_0 l0_0.length c0_0) ∧ w'.cell? ⟨gb174, 1, none⟩ = some (.slice A0_1 l0_1.length c0_1)) (ds := []) (bits_ 15 0) (by kernel_rfl) rfl rfl ⟨(bk0_ BK174 :), (bk1_ BK174 :)⟩ (fun hHeld => ?_); refine with_tabW q14.tab16 q14.bits16 (fun HT_ HW_ => ?_)
                      generalize wr.drew = w48 at HO_5 BK174 BK213 HB hHeld ⊢
                      refine pz_ 0 (some 91) (bits_ 15 1) HT_.out ?_
                      refine pz_ 1 (some 92) (bits_ 15 3) HT_.out ?_
                      refine tz_ 2 (some 93) (bits_ 15 7) HT_.out HW_.out hHeld ?_ (hy := by rintro w' ⟨s0, s1⟩; go_simp; with_reducible rfl)
                      refine pz_ 3 (some 94) (bits_ 15 15) HT_.out ?_
                      refine pz_ 4 (some 95) (bits_ 15 31) HT_.out ?_
                      refine pz_ 5 (some 96) (bits_ 15 63) HT_.out ?_
                      refine sz_ 6 (some 97) (bits_ 15 127) HT_.out ?_
                      refine sz_ 7 (some 98) (bits_ 15 255) HT_.out ?_
                      refine sz_ 8 (some 99) (bits_ 15 511) HT_.out ?_
                      refine sz_ 9 (some 100) (bits_ 15 1023) HT_.out ?_
                      refine sz_ 10 (some 101) (bits_ 15 2047) HT_.out ?_
                      refine sz_ 11 (some 102) (bits_ 15 4095) HT_.out ?_
                      refine sz_ 12 (some 103) (bits_ 15 8191) HT_.out ?_
                      refine sz_ 13 (some 104) (bits_ 15 16383) HT_.out ?_
                      refine pz_ 14 (some 105) (bits_ 15 32767) HT_.out ?_
                      refine done_ (done_of HT_.out (by kernel_rfl)) ?_
                      try go_wp2
                      go_meet
                      case rel => exact ⟨_, (x10_4), rf_, H', ⟨by have := HK1.out; have := HK2.out; have := HK3.out; have := HK4.out; first | omega | exact Nat.le_refl _⟩, ⟨ra_ HO_5.out⟩, ⟨gx_ BK174⟩, ⟨gx_ BK213⟩, ⟨hf_⟩⟩
                  case rest =>
                   clear HC39
                   clear c35b0 c36b0 c37b0 c38b0 hx210_0 hx210_1 hx211_0 hx211_1 hx212_0 hx212_1 hx212_2 p210 p211 p212 q210 q211 q212; (try clear hcz42_0); (try clear hcz42_1); (try clear hcz42_2); (try clear hfz42_0); (try clear hfz42_1); (try clear hfz42_2)
                   obtain ⟨kq, x10_38, rfl, HA, HJ38, HO_5, BK174, BK213, HB⟩ := hcut
                   cases kq with
                   | zero => exact absurd HA.out (by simp [q14.j4])
                   | succ kj38 =>
                    have H := HA.out
                    clear HA
                    simp only [q14.j4] at H
                    replace H := Option.bind_eq_some_iff.mp H
                    obtain ⟨t215, A490, H⟩ := H
                    have A49 := q66.mk A490
                    clear A490
                    by_cases c50 : x5_3.length + t215.length < 140737488355328
                    ·rw [if_pos c50] at H
                     have LMc50 := q66.mk c50
                     clear c50
                     obtain ⟨y218, hy218, H⟩ := yb_ H
                     have Ny218 := q66.mk hy218
                     clear hy218
                     replace H := Option.bind_eq_some_iff.mp H
                     obtain ⟨t221, A510, H⟩ := H
                     have A51 := q66.mk A510
                     clear A510
                     replace H := Option.bind_eq_some_iff.mp H
                     obtain ⟨t222, A520, H⟩ := H
                     have A52 := q66.mk A520
                     clear A520
                     by_cases c53 : y218.length + t222.length < 140737488355328
                     ·rw [if_pos c53] at H
                      have LMc53 := q66.mk c53
                      clear c53
                      obtain ⟨y225, hy225, H⟩ := yb_ H
                      have Ny225 := q66.mk hy225
                      clear hy225
                      replace H := Option.bind_eq_some_iff.mp H
                      obtain ⟨t228, A540, H⟩ := H
                      have A54 := q66.mk A540
                      clear A540
                      by_cases c55 : y225.length + t228.length < 140737488355328
                      ·rw [if_pos c55] at H
                       have LMc55 := q66.mk c55
                       clear c55
                       obtain ⟨y231, hy231⟩ : ∃ y_ : List Int, y_ = (y225 ++ t228) := ⟨_, rfl⟩
                       rw [← hy231] at H
                       have Ny231 := q66.mk hy231
                       clear hy231
                       have H' := q66.mk H
                       clear H
                       try go_wp2
                       replace HO_5 := q66.mk (Kd.R_drew HO_5.out)
                       replace BK174 := q66.mk (q74 BK174.out)
                       replace BK213 := q66.mk (q74 BK213.out)
                       replace HB := q66.mk (q68 HB.out)
                       refine start_ (n := 14) (S := fun w' => w'.cell? ⟨gb213, 0, none⟩ = some (.string ((q90 ((q91 l1 x6_1).f1) x8_3).f0)) ∧ w'.cell? ⟨gb213, 1, none⟩ = some (.string ((q90 ((q91 l1 x6_1).f1) x8_3).f1)) ∧ w'.cell? ⟨gb213, 2, none⟩ = some (.int .i64 ((q90 ((q91 l1 x6_1).f1) x8_3).f2))) (ds := []) (bits_ 14 0) (by kernel_rfl) rfl rfl ⟨(bk0_ BK213 :), (bk1_ BK213 :), (bk2_ BK213 :)⟩ (fun hHeld => ?_); refine with_tabW q14.tab18 q14.bits18 (fun HT_ HW_ => ?_)
                       generalize wc.drew = w56 at HO_5 BK174 BK213 HB hHeld ⊢
                       refine pz_ 0 (some 108) (bits_ 14 1) HT_.out ?_
                       refine pz_ 1 (some 109) (bits_ 14 3) HT_.out ?_
                       refine pz_ 4 (some 112) (bits_ 14 19) HT_.out ?_
                       refine pz_ 9 (some 117) (bits_ 14 531) HT_.out ?_
                       refine tz_ 5 (some 113) (bits_ 14 563) HT_.out HW_.out hHeld ?_ (hy := by rintro w' ⟨s0, s1, s2⟩; go_simp; with_reducible rfl)
                       refine tz_ 10 (some 118) (bits_ 14 1587) HT_.out HW_.out hHeld ?_ (hy := by rintro w' ⟨s0, s1, s2⟩; go_simp; with_reducible rfl)
                       refine oz_ 2 (some 110) (bits_ 14 1591) HT_.out (fun K hK => ?_)
                       refine go_s_ Try.func52 #[.int .i64 x10_38] ?_
                       with_reducible refine (q35.calls kj38 x10_38 t215 _ A49.out).mono ?_
                       rintro e w57 ⟨v216, rfl, ho0, hb⟩
                       refine ⟨_, rfl, ?_⟩
                       have n0_ := q66.mk (Kd.R_elder' (ra_ HO_5.out) (Kd.R_base ho0) hb)
                       have n1_ := q66.mk (Kd.R_lower (Kd.R_new' ho0 (Kd.R_lt (ra_ HO_5.out))) (q69 hf_))
                       have n2_ := bb_ BK174 hb
                       have n3_ := bb_ BK213 hb
                       have n4_ := hb_ HB hb
                       clear HO_5
                       clear BK174
                       clear BK213
                       clear HB
                       have HO_5 := n0_
                       have HO217 := n1_
                       have BK174 := n2_
                       have BK213 := n3_
                       have HB := n4_
                       clear n0_ n1_ n2_ n3_ n4_
                       clear hb ho0
                       obtain ⟨Ao59, co59, eo59⟩ := Kd.R_slice HO217.out
                       (first | subst eo59 | (injection eo59 with f1_ f2_ f3_; have f4_ := f1_.symm; have f5_ := f3_.symm; clear f1_ f2_ f3_; subst f4_; subst f5_))
                       refine hK.out _ _ ⟨(bk0_ BK213 :), (bk1_ BK213 :), (bk2_ BK213 :)⟩ (fun hHeld => ?_)
                       clear hK K
                       refine nz_ (some 110) ?_
                       refine oz_ 3 (some 111) (bits_ 14 1599) HT_.out (fun K hK => ?_)
                       refine Kd.R_append_rows_step (Kd.int .u8) (w0 := w) w.heap.size (by rfl) (.tmp 108) (.tmp 110) 26 5 (.int .u8 0) 1 rfl Try.underlying26 info5 rfl (by decide) (by omega) u5 x5_3 t215 _ _ _ (fun k_ => some k_ ≠ (.slice Ao59 t215.length co59 : Value).ownBlock) (fun _ => False) rfl rfl ?aO ?aR (fun _ _ h => h) (fun _ h => h.elim) ?aF ?aB ?aS ?aL ?_
                       (case aR => exact cr_ HO217)
                       (case aB => exact hf_)
                       (case aF => exact (fun k_ hk => Kd.fresh' (Kd.R_lt (ra_ HO217.out)) k_ hk))
                       (case aO => exact (ra_ (Kd.R_mono HO_5.out (fun _ hk => hk.2))))
                       (case aS => exact (q69 hf_))
                       (case aL => have := LMc50.out; omega)
                       intro v219 w58 ho hb hg hat
                       rw [← Ny218.out] at ho
                       replace BK174 := q66.mk (blk_grown (gx_ BK174) hg (Kd.R_ne HO_5.out BK174.out (by decide)))
                       replace BK213 := q66.mk (blk_grown (gx_ BK213) hg (Kd.R_ne HO_5.out BK213.out (by decide)))
                       replace HO217 := q66.mk (Kd.R_after (ok := (fun _ => True)) (ra_ HO217.out) hg hat)
                       replace HB := q66.mk (hb)
                       replace HO220 := q66.mk (ho)
                       clear ho hb hg hat
                       refine hK.out _ _ ⟨(bk0_ BK213 :), (bk1_ BK213 :), (bk2_ BK213 :)⟩ (fun hHeld => ?_)
                       clear hK K
                       refine nz_ (some 111) ?_
                       refine oz_ 6 (some 114) (bits_ 14 1663) HT_.out (fun K hK => ?_)
                       refine go_s_ Try.func75 #[.string ((q90 ((q91 l1 x6_1).f1) x8_3).f1)] ?_
                       with_reducible refine (q39.calls kj38 ((q90 ((q91 l1 x6_1).f1) x8_3).f1) t221 _ A51.out).mono ?_
                       rintro e w60 ⟨rfl, hb⟩
                       refine ⟨_, rfl, ?_⟩
                       replace HO217 := q66.mk (Kd.R_below (ra_ HO217.out) hb)
                       replace HO220 := q66.mk (Kd.R_below (ra_ HO220.out) hb)
                       replace BK174 := bb_ BK174 hb
                       replace BK213 := bb_ BK213 hb
                       replace HB := hb_ HB hb
                       clear hb
                       refine hK.out _ _ ⟨(bk0_ BK213 :), (bk1_ BK213 :), (bk2_ BK213 :)⟩ (fun hHeld => ?_)
                       clear hK K
                       refine nz_ (some 114) ?_
                       refine oz_ 7 (some 115) (bits_ 14 1791) HT_.out (fun K hK => ?_)
                       refine go_s_ Try.func52 #[.int .i64 t221] ?_
                       with_reducible refine (q35.calls kj38 t221 t222 _ A52.out).mono ?_
                       rintro e w61 ⟨v223, rfl, ho0, hb⟩
                       refine ⟨_, rfl, ?_⟩
                       have n0_ := q66.mk (Kd.R_elder' (ra_ HO217.out) (Kd.R_base ho0) hb)
                       have n1_ := q66.mk (Kd.R_elder' (ra_ HO220.out) (Kd.R_base ho0) hb)
                       have n2_ := q66.mk (Kd.R_lower (Kd.R_new' (Kd.R_new' ho0 (Kd.R_lt (ra_ HO217.out))) (Kd.R_lt (ra_ HO220.out))) (q69 hf_))
                       have n3_ := bb_ BK174 hb
                       have n4_ := bb_ BK213 hb
                       have n5_ := hb_ HB hb
                       clear HO217
                       clear HO220
                       clear BK174
                       clear BK213
                       clear HB
                       have HO217 := n0_
                       have HO220 := n1_
                       have HO224 := n2_
                       have BK174 := n3_
                       have BK213 := n4_
                       have HB := n5_
                       clear n0_ n1_ n2_ n3_ n4_ n5_
                       clear hb ho0
                       obtain ⟨Ao63, co63, eo63⟩ := Kd.R_slice HO224.out
                       (first | subst eo63 | (injection eo63 with f1_ f2_ f3_; have f4_ := f1_.symm; have f5_ := f3_.symm; clear f1_ f2_ f3_; subst f4_; subst f5_))
                       refine hK.out _ _ ⟨(bk0_ BK213 :), (bk1_ BK213 :), (bk2_ BK213 :)⟩ (fun hHeld => ?_)
                       clear hK K
                       refine nz_ (some 115) ?_
                       refine oz_ 8 (some 116) (bits_ 14 2047) HT_.out (fun K hK => ?_)
                       refine Kd.R_append_rows_step (Kd.int .u8) (w0 := w) w.heap.size (by rfl) (.tmp 111) (.tmp 115) 26 5 (.int .u8 0) 1 rfl Try.underlying26 info5 rfl (by decide) (by omega) v219 y218 t222 _ _ _ (fun k_ => some k_ ≠ (.slice Ao59 t215.length co59 : Value).ownBlock ∧ some k_ ≠ (.slice Ao63 t222.length co63 : Value).ownBlock) (fun _ => False) rfl rfl ?aO ?aR (fun _ _ h => h) (fun _ h => h.elim) ?aF ?aB ?aS ?aL ?_
                       (case aR => exact cr_ HO224)
                       (case aB => exact hf_)
                       (case aF => exact (fun k_ hk => ⟨Kd.fresh' (Kd.R_lt (ra_ HO217.out)) k_ hk, Kd.fresh' (Kd.R_lt (ra_ HO224.out)) k_ hk⟩))
                       (case aO => exact (ra_ HO220.out))
                       (case aS => exact (q69 hf_))
                       (case aL => have := LMc53.out; omega)
                       intro v226 w62 ho hb hg hat
                       rw [← Ny225.out] at ho
                       replace BK174 := q66.mk (blk_grown (gx_ BK174) hg (Kd.R_ne HO220.out BK174.out (by decide)))
                       replace BK213 := q66.mk (blk_grown (gx_ BK213) hg (Kd.R_ne HO220.out BK213.out (by decide)))
                       replace HO217 := q66.mk (Kd.R_after (ok := (fun k_ => some k_ ≠ (.slice Ao63 t222.length co63 : Value).ownBlock)) (ra_ (Kd.R_mono HO217.out (fun _ hk => ⟨hk.2, hk.1.2⟩))) hg hat)
                       replace HO224 := q66.mk (Kd.R_after (ok := (fun k_ => some k_ ≠ (.slice Ao59 t215.length co59 : Value).ownBlock)) (ra_ (Kd.R_mono HO224.out (fun _ hk => ⟨hk.1.2, hk.2⟩))) hg hat)
                       replace HB := q66.mk (hb)
                       replace HO227 := q66.mk (ho)
                       clear ho hb hg hat
                       refine hK.out _ _ ⟨(bk0_ BK213 :), (bk1_ BK213 :), (bk2_ BK213 :)⟩ (fun hHeld => ?_)
                       clear hK K
                       refine nz_ (some 116) ?_
                       refine oz_ 11 (some 119) (bits_ 14 4095) HT_.out (fun K hK => ?_)
                       refine go_s_ Try.func76 #[.int .i64 ((q90 ((q91 l1 x6_1).f1) x8_3).f2)] ?_
                       with_reducible refine (q15.calls kj38 ((q90 ((q91 l1 x6_1).f1) x8_3).f2) t228 _ A54.out).mono ?_
                       rintro e w64 ⟨v229, rfl, ho0, hb⟩
                       refine ⟨_, rfl, ?_⟩
                       have n0_ := q66.mk (Kd.R_elder' (ra_ HO217.out) (Kd.R_base ho0) hb)
                       have n1_ := q66.mk (Kd.R_elder' (ra_ HO224.out) (Kd.R_base ho0) hb)
                       have n2_ := q66.mk (Kd.R_elder' (ra_ HO227.out) (Kd.R_base ho0) hb)
                       have n3_ := q66.mk (Kd.R_lower (Kd.R_new' (Kd.R_new' (Kd.R_new' ho0 (Kd.R_lt (ra_ HO217.out))) (Kd.R_lt (ra_ HO224.out))) (Kd.R_lt (ra_ HO227.out))) (q69 hf_))
                       have n4_ := bb_ BK174 hb
                       have n5_ := bb_ BK213 hb
                       have n6_ := hb_ HB hb
                       clear HO217
                       clear HO224
                       clear HO227
                       clear BK174
                       clear BK213
                       clear HB
                       have HO217 := n0_
                       have HO224 := n1_
                       have HO227 := n2_
                       have HO230 := n3_
                       have BK174 := n4_
                       have BK213 := n5_
                       have HB := n6_
                       clear n0_ n1_ n2_ n3_ n4_ n5_ n6_
                       clear hb ho0
                       obtain ⟨Ao66, co66, eo66⟩ := Kd.R_slice HO230.out
                       (first | subst eo66 | (injection eo66 with f1_ f2_ f3_; have f4_ := f1_.symm; have f5_ := f3_.symm; clear f1_ f2_ f3_; subst f4_; subst f5_))
                       refine hK.out _ _ ⟨(bk0_ BK213 :), (bk1_ BK213 :), (bk2_ BK213 :)⟩ (fun hHeld => ?_)
                       clear hK K
                       refine nz_ (some 119) ?_
                       refine oz_ 12 (some 120) (bits_ 14 8191) HT_.out (fun K hK => ?_)
                       refine Kd.R_append_rows_step (Kd.int .u8) (w0 := w) w.heap.size (by rfl) (.tmp 116) (.tmp 119) 26 5 (.int .u8 0) 1 rfl Try.underlying26 info5 rfl (by decide) (by omega) v226 y225 t228 _ _ _ (fun k_ => some k_ ≠ (.slice Ao59 t215.length co59 : Value).ownBlock ∧ some k_ ≠ (.slice Ao63 t222.length co63 : Value).ownBlock ∧ some k_ ≠ (.slice Ao66 t228.length co66 : Value).ownBlock) (fun _ => False) rfl rfl ?aO ?aR (fun _ _ h => h) (fun _ h => h.elim) ?aF ?aB ?aS ?aL ?_
                       (case aR => exact cr_ HO230)
                       (case aB => exact hf_)
                       (case aF => exact (fun k_ hk => ⟨Kd.fresh' (Kd.R_lt (ra_ HO217.out)) k_ hk, Kd.fresh' (Kd.R_lt (ra_ HO224.out)) k_ hk, Kd.fresh' (Kd.R_lt (ra_ HO230.out)) k_ hk⟩))
                       (case aO => exact (ra_ (Kd.R_mono HO227.out (fun _ hk => ⟨hk.1.1, ⟨hk.1.2, hk.2⟩⟩))))
                       (case aS => exact (q69 hf_))
                       (case aL => have := LMc55.out; omega)
                       intro v232 w65 ho hb hg hat
                       rw [← Ny231.out] at ho
                       replace BK174 := q66.mk (blk_grown (gx_ BK174) hg (Kd.R_ne HO227.out BK174.out (by decide)))
                       replace BK213 := q66.mk (blk_grown (gx_ BK213) hg (Kd.R_ne HO227.out BK213.out (by decide)))
                       replace HO217 := q66.mk (Kd.R_after (ok := (fun k_ => some k_ ≠ (.slice Ao63 t222.length co63 : Value).ownBlock ∧ some k_ ≠ (.slice Ao66 t228.length co66 : Value).ownBlock)) (ra_ (Kd.R_mono HO217.out (fun _ hk => ⟨⟨hk.1.1, hk.2⟩, hk.1.2⟩))) hg hat)
                       replace HO224 := q66.mk (Kd.R_after (ok := (fun k_ => some k_ ≠ (.slice Ao59 t215.length co59 : Value).ownBlock ∧ some k_ ≠ (.slice Ao66 t228.length co66 : Value).ownBlock)) (ra_ (Kd.R_mono HO224.out (fun _ hk => ⟨⟨hk.1.1, hk.2⟩, hk.1.2⟩))) hg hat)
                       replace HO230 := q66.mk (Kd.R_after (ok := (fun k_ => some k_ ≠ (.slice Ao59 t215.length co59 : Value).ownBlock ∧ some k_ ≠ (.slice Ao63 t222.length co63 : Value).ownBlock)) (ra_ (Kd.R_mono HO230.out (fun _ hk => ⟨⟨hk.1.1.2, hk.1.2⟩, hk.2⟩))) hg hat)
                       replace HB := q66.mk (hb)
                       replace HO233 := q66.mk (ho)
                       clear ho hb hg hat
                       refine hK.out _ _ ⟨(bk0_ BK213 :), (bk1_ BK213 :), (bk2_ BK213 :)⟩ (fun hHeld => ?_)
                       clear hK K
                       refine nz_ (some 120) ?_
                       refine pz_ 13 (some 5) (bits_ 14 16383) HT_.out ?_
                       refine done_ (done_of HT_.out (by kernel_rfl)) ?_
                       try go_wp2
                       go_roundg kj38
                       case measure => have := HK1.out; have := HK2.out; have := HK3.out; have := HJ38.out; omega
                       case rel => exact ⟨(y231), (wrap64 (x8_3 + 1)), rf_, H', ⟨by have := HK1.out; have := HK2.out; have := HK3.out; have := HJ38.out; omega⟩, ⟨ra_ (Kd.R_mono HO233.out (fun _ hk => trivial))⟩, ⟨gx_ BK174⟩, ⟨hf_⟩⟩
                      ·rw [if_neg c55] at H
                       exact absurd H (by simp)
                     ·rw [if_neg c53] at H
                      exact absurd H (by simp)
                    ·rw [if_neg c50] at H
                     exact absurd H (by simp)
                 ·rw [if_neg c38] at H
                  exact absurd H (by simp)
                ·rw [if_neg c37] at H
                 have c37b0 := decide_eq_false c37
                 clear c37
                 have H' := q66.mk H
                 clear H
                 obtain ⟨ad210, A210_0, c210_0, A210_1, c210_1, e210, hx210_0, hx210_1, HC210_0, HR210_0, HC210_1, HR210_1, p210, q210⟩ := au_T54 HR1 HB (x6_1)
                 obtain rfl : ad178 = ad210 := (by injection e210)
                 go_wp2
                 go_roundg k3
                 case measure => have := HK1.out; have := HK2.out; have := HK3.out; omega
                 case rel => exact ⟨(x5_3), (wrap64 (x6_1 + 1)), rf_, H', ⟨by have := HK1.out; have := HK2.out; have := HK3.out; omega⟩, ⟨ra_ HO_5.out⟩, ⟨gx_ BK174⟩, ⟨hf_⟩⟩
               ·rw [if_neg c36] at H
                exact absurd H (by simp)
              ·rw [if_neg c35] at H
               exact absurd H (by simp)
           ·rw [if_neg c31] at H
            exact absurd H (by simp)
         ·rw [if_neg c14] at H
          exact absurd H (by simp)
        ·rw [if_neg c13] at H
         exact absurd H (by simp)
     ·rw [if_neg c9] at H
      exact absurd H (by simp)
    ·rw [if_neg c7] at H
     exact absurd H (by simp)
   ·rw [if_neg c6] at H
    have c6b0 := decide_eq_false c6
    clear c6
    obtain rfl := Option.some.inj H
    go_wp2
    go_ret
    exact ⟨_, by first | rfl | (simp [errW_none, errW_some] <;> rfl) | (simp [*, errW_none, errW_some] <;> rfl), by (with_reducible repeat (first | apply Kd.R_alloc | apply Kd.R_drewN | apply Kd.R_drew)); exact HO_5.out, by repeat (first | (with_reducible first | exact HB.out | apply q67 | apply q86 | apply q68 | refine below_set ?_ GE174.out) | exact HB.out)⟩
def numL : Nat → Int → List Int
 | 0, _ => []
 | d + 1, n => if n < 128 then [n % 256] else [(Go.bits .or .i64 (Go.bits .and .i64 n 127) 128) % 256] ++ numL d (n / 128)
theorem numL_length (d : Nat) : ∀ n, (numL d n).length ≤ d := by
  induction d with
  | zero => intro n; exact Nat.le_refl _
  | succ d ih =>
    intro n
    simp only [numL]
    split
    · simp
    · rw [List.length_append, List.length_singleton]
      have := ih (n / 128)
      omega
theorem num_eq (d : Nat) : ∀ (n : Int) (k : Nat), n < (128 : Int) ^ d → 1 ≤ d → d < 1000 → d < k → q35.f k n = some (numL d n) := by
  induction d with
  | zero => intro n k _ h; omega
  | succ d ih =>
    intro n k hn _ hd hk
    obtain ⟨k, rfl⟩ : ∃ m, k = m + 1 := ⟨k - 1, by omega⟩
    simp only [q35.f, numL]
    by_cases h : n < 128
    · rw [if_pos h, if_pos h]
    · rw [if_neg h, if_neg h]
      have hd1 : 1 ≤ d := by
        rcases Nat.eq_zero_or_pos d with rfl | h'
        · simp at hn; omega
        · exact h'
      have hn' : n / 128 < (128 : Int) ^ d := by
        rw [Int.pow_succ] at hn
        omega
      rw [Option.bind_some, ih (n / 128) k hn' hd1 (by omega) (by omega), Option.bind_some, if_pos]
      have := numL_length d (n / 128)
      rw [List.length_singleton]
      omega
theorem num_small (n : Nat) (hn : n ≤ 140737488355328) (k : Nat) (hk : 11 < k) : q35.f k (n : Int) = some (numL 11 n) := by
 have h : (128 : Int) ^ 11 = 151115727451828646838272 := by decide
 refine num_eq 11 n k ?_ (by decide) (by decide) hk
 rw [h]; omega
def q28.f (a0 : ByteArray) : Option (List Int) := if a0.size ≤ 140737488355000 then some (numL 11 a0.size ++ bytesOf a0) else none
set_option maxHeartbeats 4000000 in
theorem q28.calls (a0 : ByteArray) (r : List Int) (w : World) (h : q28.f a0 = some r) :
 Calls Try.prog 53 #[.string a0] w fun e w' => ∃ v0_ : Value, e = .returned (v0_) ∧ Kd.R (Kd.int .u8) 5 w' w.heap.size (fun _ => True) v0_ r ∧ Below w.heap.size w w' := by
 unfold q28.f at h
 split at h
 case isFalse => cases h
 rename_i hs
 obtain rfl := Option.some.inj h
 clear h
 have hnum := fun W => q35.calls 12 (a0.size : Int) _ W (num_small a0.size (by omega) 12 (by decide))
 have hlen := numL_length 11 (a0.size : Int)
 obtain ⟨ys, hy⟩ : ∃ ys, ys = numL 11 (a0.size : Int) := ⟨_, rfl⟩
 rw [← hy] at hnum hlen ⊢
 clear hy
 have kb := fun W => print_bytes (P := Try.prog) 9 26 5 Try.underlying9 Try.underlying26 Try.underlying5 a0 W
 go_enter Try.func53, Try.ntmps53
 go_wp2_with fail
 refine (hnum _).mono ?_
 rintro e w1 ⟨v1, rfl, hR, hb⟩
 have HR := Lib.hid hR
 have HB := Lib.hid hb
 clear hR hb hnum
 go_wp2_with (first | ((with_reducible refine q79 (b := .append) (xs := #[.tmp 5, .tmp 7]) rfl ?_); at_builtin; refine Kd.R_append_rows (Kd.int .u8) (w0 := w) w.heap.size rfl (.tmp 5) (.tmp 7) 26 5 (.int .u8 0) 1 rfl Try.underlying26 info5 rfl (by decide) (by omega) v1 ys (bytesOf a0) _ _ _ (fun _ => True) (fun _ => False) rfl rfl (Kd.R_below HR.out (bytes_below (Below.refl _ _) (Nat.le_refl _) _ _)) ?aR (fun _ _ h => h) (fun _ h => h.elim) (fun _ _ => trivial) (bytes_below HB.out HB.out.size _ _) ?aS ?aL ?_; (case aR => exact (Kd.C_of_reads (d := (0 : Int)) (h1 := fun _ => rfl) (bytes_reads _ _ _ (by omega)))); (case aS => rw [Lib.bytesWorld_size]; have := HB.out.size; omega); (case aL => omega); intro v2 w2 hR2 hB2 _ _))
 go_ret
 exact ⟨_, rfl, hR2, hB2⟩
mutual
def q26.l0 : Nat → List Int → Int → List ByteArray → List (S48) → Option (List Int)
 | 0, _, _, _, _ => none
 | k + 1, x3, x4, x235000, x235001 => if x4 < (x235000.length : Int) then (if 0 ≤ x4 then ((q28.f (rdOf ByteArray.empty x235000 x4)).bind fun t239 => (if x3.length + t239.length < 140737488355328 then (q26.l0 k (x3 ++ t239) (wrap64 (x4 + 1)) x235000 x235001) else (none))) else (none)) else (q26.l1 k x3 0 x235000 x235001)
def q26.l1 : Nat → List Int → Int → List ByteArray → List (S48) → Option (List Int)
 | 0, _, _, _, _ => none
 | k + 1, x3, x5, x235000, x235001 => if x5 < (x235001.length : Int) then (if 0 ≤ x5 then ((q28.f ((q89 x235001 x5).f0)).bind fun t246 => (if x3.length + t246.length < 140737488355328 then (q26.l1 k (x3 ++ t246) (wrap64 (x5 + 1)) x235000 x235001) else (none))) else (none)) else ((q35.f k (x235000.length : Int)).bind fun t252 => (if x3.length + t252.length < 140737488355328 then (q26.l2 k (x3 ++ t252) 0 x235000 x235001) else (none)))
def q26.l2 : Nat → List Int → Int → List ByteArray → List (S48) → Option (List Int)
 | 0, _, _, _, _ => none
 | k + 1, x3, x6, x235000, x235001 => if x6 < (x235001.length : Int) then (if 0 ≤ x6 then (if (q89 x235001 x6).f3 = true then (q26.j3 k x3 x6 1 x235000 x235001 ((q89 x235001 x6).f0) ((q89 x235001 x6).f1) ((q89 x235001 x6).f2) ((q89 x235001 x6).f3) ((q89 x235001 x6).f4) ((q89 x235001 x6).f5) ((q89 x235001 x6).f6)) else (q26.j3 k x3 x6 0 x235000 x235001 ((q89 x235001 x6).f0) ((q89 x235001 x6).f1) ((q89 x235001 x6).f2) ((q89 x235001 x6).f3) ((q89 x235001 x6).f4) ((q89 x235001 x6).f5) ((q89 x235001 x6).f6))) else (none)) else (some x3)
def q26.j3 : Nat → List Int → Int → Int → List ByteArray → List (S48) → ByteArray → Int → ByteArray → Bool → Int → List (S54) → List (S54) → Option (List Int)
 | 0, _, _, _, _, _, _, _, _, _, _, _, _ => none
 | k + 1, x3, x6, x8, x235000, x235001, x260000, x260001, x260002, x260003, x260004, x260005, x260006 => if x260002.toList = ([] : List UInt8) then (q26.j4 k x3 x6 x8 0 x235000 x235001 x260000 x260001 x260002 x260003 x260004 x260005 x260006) else ((q24.f k x235000 x235001 x260002).bind fun t260 => (q26.j4 k x3 x6 x8 (wrap64 (t260 + 1)) x235000 x235001 x260000 x260001 x260002 x260003 x260004 x260005 x260006))
def q26.j4 : Nat → List Int → Int → Int → Int → List ByteArray → List (S48) → ByteArray → Int → ByteArray → Bool → Int → List (S54) → List (S54) → Option (List Int)
 | 0, _, _, _, _, _, _, _, _, _, _, _, _, _ => none
 | k + 1, x3, x6, x8, x9, x235000, x235001, x260000, x260001, x260002, x260003, x260004, x260005, x260006 => (q35.f k x260001).bind fun t261 => (if x3.length + t261.length < 140737488355328 then ((some (x3 ++ t261 : List Int)).bind fun y264 => ((q35.f k x9).bind fun t267 => (if y264.length + t267.length < 140737488355328 then ((some (y264 ++ t267 : List Int)).bind fun y270 => ((q35.f k x8).bind fun t273 => (if y270.length + t273.length < 140737488355328 then ((some (y270 ++ t273 : List Int)).bind fun y276 => ((q35.f k x260004).bind fun t279 => (if y276.length + t279.length < 140737488355328 then ((some (y276 ++ t279 : List Int)).bind fun y282 => ((q14.f k x235000 x235001 x260005).bind fun t285 => (if y282.length + t285.length < 140737488355328 then ((some (y282 ++ t285 : List Int)).bind fun y288 => ((q14.f k x235000 x235001 x260006).bind fun t291 => (if y288.length + t291.length < 140737488355328 then (q26.l2 k (y288 ++ t291) (wrap64 (x6 + 1)) x235000 x235001) else (none)))) else (none)))) else (none)))) else (none)))) else (none)))) else (none))
end
def q26.f (k : Nat) (l0_0 : List ByteArray) (l0_1 : List (S48)) : Option (List Int) := (q35.f k (wrap64 ((l0_0.length : Int) + (l0_1.length : Int)))).bind fun t235 => (q26.l0 k t235 0 l0_0 l0_1)
theorem q26.mono_l : ∀ k, (∀ y0 y1 y2 y3, LeO (q26.l0 k y0 y1 y2 y3) (q26.l0 (k + 1) y0 y1 y2 y3)) ∧ (∀ y0 y1 y2 y3, LeO (q26.l1 k y0 y1 y2 y3) (q26.l1 (k + 1) y0 y1 y2 y3)) ∧ (∀ y0 y1 y2 y3, LeO (q26.l2 k y0 y1 y2 y3) (q26.l2 (k + 1) y0 y1 y2 y3)) ∧ (∀ y0 y1 y2 y3 y4 y5 y6 y7 y8 y9 y10 y11, LeO (q26.j3 k y0 y1 y2 y3 y4 y5 y6 y7 y8 y9 y10 y11) (q26.j3 (k + 1) y0 y1 y2 y3 y4 y5 y6 y7 y8 y9 y10 y11)) ∧ (∀ y0 y1 y2 y3 y4 y5 y6 y7 y8 y9 y10 y11 y12, LeO (q26.j4 k y0 y1 y2 y3 y4 y5 y6 y7 y8 y9 y10 y11 y12) (q26.j4 (k + 1) y0 y1 y2 y3 y4 y5 y6 y7 y8 y9 y10 y11 y12))
 | 0 => ⟨fun _ _ _ _ r h => by simp [q26.l0] at h, fun _ _ _ _ r h => by simp [q26.l1] at h, fun _ _ _ _ r h => by simp [q26.l2] at h, fun _ _ _ _ _ _ _ _ _ _ _ _ r h => by simp [q26.j3] at h, fun _ _ _ _ _ _ _ _ _ _ _ _ _ r h => by simp [q26.j4] at h⟩
 | k + 1 => by
  obtain ⟨ih0, ih1, ih2, ih3, ih4⟩ := q26.mono_l k
  refine ⟨?_, ?_, ?_, ?_, ?_⟩
  intro y0 y1 y2 y3
  unfold q26.l0
  rotate_left
  intro y0 y1 y2 y3
  unfold q26.l1
  rotate_left
  intro y0 y1 y2 y3
  unfold q26.l2
  rotate_left
  intro y0 y1 y2 y3 y4 y5 y6 y7 y8 y9 y10 y11
  unfold q26.j3
  rotate_left
  intro y0 y1 y2 y3 y4 y5 y6 y7 y8 y9 y10 y11 y12
  unfold q26.j4
  rotate_left
  all_goals repeat' first
   | (with_reducible exact ih0 _ _ _ _)
   | (with_reducible exact ih1 _ _ _ _)
   | (with_reducible exact ih2 _ _ _ _)
   | (with_reducible exact ih3 _ _ _ _ _ _ _ _ _ _ _ _)
   | (with_reducible exact ih4 _ _ _ _ _ _ _ _ _ _ _ _ _)
   | (with_reducible exact q24.mono _ _ _ _)
   | (with_reducible exact q35.mono _ _)
   | (with_reducible exact q14.mono _ _ _ _)
   | (with_reducible exact LeO.refl _)
   | (with_reducible exact LeO.none _)
   | (with_reducible refine LeO.ite ?_ ?_)
   | (with_reducible refine LeO.bind ?_ (fun _ => ?_))
   | exact ih0 _ _ _ _
   | exact ih1 _ _ _ _
   | exact ih2 _ _ _ _
   | exact ih3 _ _ _ _ _ _ _ _ _ _ _ _
   | exact ih4 _ _ _ _ _ _ _ _ _ _ _ _ _
   | exact q24.mono _ _ _ _
   | exact q35.mono _ _
   | exact q14.mono _ _ _ _
   | exact LeO.none _
   | refine LeO.ite ?_ ?_
   | refine LeO.bind ?_ (fun _ => ?_)
theorem q26.mono : ∀ a0 a1 k, LeO (q26.f k a0 a1) (q26.f (k + 1) a0 a1) := by
 intro a0 a1 k
 obtain ⟨ih0, ih1, ih2, ih3, ih4⟩ := q26.mono_l k
 unfold q26.f
 repeat' first
  | (with_reducible exact ih0 _ _ _ _)
  | (with_reducible exact ih1 _ _ _ _)
  | (with_reducible exact ih2 _ _ _ _)
  | (with_reducible exact ih3 _ _ _ _ _ _ _ _ _ _ _ _)
  | (with_reducible exact ih4 _ _ _ _ _ _ _ _ _ _ _ _ _)
  | (with_reducible exact q24.mono _ _ _ _)
  | (with_reducible exact q35.mono _ _)
  | (with_reducible exact q14.mono _ _ _ _)
  | (with_reducible exact LeO.refl _)
  | (with_reducible exact LeO.none _)
  | (with_reducible refine LeO.ite ?_ ?_)
  | (with_reducible refine LeO.bind ?_ (fun _ => ?_))
  | exact ih0 _ _ _ _
  | exact ih1 _ _ _ _
  | exact ih2 _ _ _ _
  | exact ih3 _ _ _ _ _ _ _ _ _ _ _ _
  | exact ih4 _ _ _ _ _ _ _ _ _ _ _ _ _
  | exact q24.mono _ _ _ _
  | exact q35.mono _ _
  | exact q14.mono _ _ _ _
  | exact LeO.none _
  | refine LeO.ite ?_ ?_
  | refine LeO.bind ?_ (fun _ => ?_)
def q26.T21 : Bool × List (List Nat × List Nat) := (true, [([], []), ([], []), ([1], [1]), ([2], [2]), ([0, 3, 3], [0, 3]), ([], []), ([5, 4], [5]), ([4, 6, 6], [4, 6]), ([], []), ([8, 7], [8]), ([7, 9, 9], [7, 9]), ([], []), ([11], [11]), ([12, 10], [12]), ([10, 13, 13], [10, 13]), ([14, 14, 0, 1, 2, 3, 4, 5, 6, 7, 8, 9, 10, 11, 12, 13, 14], [0, 14])])
def q26.B21 : List Nat := [0, 0, 2, 6, 15, 0, 63, 127, 0, 511, 1023, 0, 2048, 8191, 16383, 32767]
theorem q26.tab21 : rtab .any (opsOf Try.f27 21) = q26.T21 := by kernel_rfl
theorem q26.bits21 : waitsOk q26.T21.2 q26.B21 = true := by kernel_rfl
def q26.T22 : Bool × List (List Nat × List Nat) := (true, [([], []), ([], []), ([], []), ([2], [2]), ([1, 3], [1, 3]), ([0, 4, 4], [0, 4]), ([], []), ([], []), ([7], [7]), ([6, 8, 5], [6, 8]), ([5, 9, 9], [5, 9]), ([10, 10, 0, 1, 2, 3, 4, 5, 6, 7, 8, 9, 10], [0, 10])])
def q26.B22 : List Nat := [0, 0, 0, 4, 14, 31, 0, 0, 128, 511, 1023, 2047]
theorem q26.tab22 : rtab .any (opsOf Try.f27 22) = q26.T22 := by kernel_rfl
theorem q26.bits22 : waitsOk q26.T22.2 q26.B22 = true := by kernel_rfl
set_option maxHeartbeats 8000000 in
set_option maxRecDepth 100000 in
theorem q26.calls (k : Nat) (A0_0 : Option Addr) (c0_0 : Nat) (l0_0 : List ByteArray) (A0_1 : Option Addr) (c0_1 : Nat) (l0_1 : List (S48)) (r : List Int) (w : World) (hr0_0 : Kd.C Kd.string w A0_0 l0_0.length l0_0) (hc0_0 : l0_0.length ≤ c0_0) (hr0_1 : Kd.C k48 w A0_1 l0_1.length l0_1) (hc0_1 : l0_1.length ≤ c0_1) (h : q26.f k l0_0 l0_1 = some r) :
 Calls Try.prog 27 #[.agg #[.slice A0_0 l0_0.length c0_0, .slice A0_1 l0_1.length c0_1]] w fun e w' => ∃ v0_ : Value, e = .returned (v0_) ∧ Kd.R (Kd.int .u8) 5 w' w.heap.size (fun _ => True) v0_ r ∧ Below w.heap.size w w' := by
 have hu25 := Try.underlying25
 have hu48 := Try.underlying48
 have HR0_0 := q66.mk hr0_0
 have HC0_0 := q66.mk hc0_0
 clear hr0_0 hc0_0
 have HR0_1 := q66.mk hr0_1
 have HC0_1 := q66.mk hc0_1
 clear hr0_1 hc0_1
 have HB := q66.mk (Below.refl w.heap.size w)
 unfold q26.f at h
 have H := h
 clear h
 replace H := Option.bind_eq_some_iff.mp H
 obtain ⟨t235, A20, H⟩ := H
 have A2 := q66.mk A20
 clear A20
 have H' := q66.mk H
 clear H
 go_enter Try.func27, Try.ntmps27
 go_wp2_with (first | ((with_reducible refine q81 (N := 1) rfl ?_); refine bx_ 1 #[.slice A0_0 l0_0.length c0_0, .slice A0_1 l0_1.length c0_1] 25 ?_; intro gb234 hg w3 hbox hb; have BK234 := q66.mk (hbox); have GW234 := zz_ (w := w) hg; have GE234 := zz_ (w := w) hg; replace HB := hb_ HB hb;  clear hb hbox hg; obtain ⟨hcz4_0, hcz4_1, hfz4_0, hfz4_1⟩ := bs2_ BK234) | ((with_reducible refine q80 (f := 52) rfl ?_); refine gl_ (some 17) Try.func52 #[.int .i64 (wrap64 ((l0_0.length : Int) + (l0_1.length : Int)))] ?_; (with_reducible refine (q35.calls k (wrap64 ((l0_0.length : Int) + (l0_1.length : Int))) t235 _ A2.out).mono ?_); rintro e w5 ⟨v236, rfl, ho0, hb⟩; refine ⟨_, rfl, ?_⟩; have HO237 := q66.mk (Kd.R_lower ho0 (q69 hf_)); replace BK234 := bb_ BK234 hb; replace HB := hb_ HB hb;  (try clear hb); clear ho0))
 go_loopg [3, 4] k (fun kq v3 v4 w' => ∃ (x3_1 : List Int) (x4_1 : Int), v4 = .int .i64 x4_1 ∧ q66 (q26.l0 kq x3_1 x4_1 l0_0 l0_1 = some r) ∧ q66 (kq ≤ k) ∧ q66 (Kd.R (Kd.int .u8) 5 w' w.heap.size (fun _ => True) v3 x3_1) ∧ q66 (w'.heap[gb234]? = some (.cells #[(.slice A0_0 l0_0.length c0_0), (.slice A0_1 l0_1.length c0_1)] 25 (0, 0))) ∧ q66 (Below w.heap.size w w'))
 case atStart => exact ⟨(t235), (0), rf_, H', ⟨Nat.le_refl _⟩, ⟨ra_ HO237.out⟩, ⟨gx_ BK234⟩, ⟨hf_⟩⟩
 case round =>
  clear H'
  (try clear hcz4_0); (try clear hcz4_1); (try clear hfz4_0); (try clear hfz4_1)
  obtain ⟨x3_1, x4_1, rfl, HA, HK1, HO_3, BK234, HB⟩ := hrel
  cases gk with
  | zero => exact absurd HA.out (by simp [q26.l0])
  | succ k1 =>
   have H := HA.out
   clear HA
   simp only [q26.l0] at H
   by_cases c6 : x4_1 < (l0_0.length : Int)
   ·rw [if_pos c6] at H
    have c6b0 := decide_eq_true c6
    clear c6
    by_cases c7 : 0 ≤ x4_1
    ·rw [if_pos c7] at H
     replace c7 := decide_eq_true c7
     replace H := Option.bind_eq_some_iff.mp H
     obtain ⟨t239, A80, H⟩ := H
     have A8 := q66.mk A80
     clear A80
     by_cases c9 : x3_1.length + t239.length < 140737488355328
     ·rw [if_pos c9] at H
      have LMc9 := q66.mk c9
      clear c9
      obtain ⟨y242, hy242⟩ : ∃ y_ : List Int, y_ = (x3_1 ++ t239) := ⟨_, rfl⟩
      rw [← hy242] at H
      have Ny242 := q66.mk hy242
      clear hy242
      have H' := q66.mk H
      clear H
      obtain ⟨hcz10_0, hcz10_1, hfz10_0, hfz10_1⟩ := bs2_ BK234
      obtain ⟨ad238, e238, hx238_0, p238, q238⟩ := au_string HR0_0 HB (x4_1)
      cases e238
      go_wp2_with (first | ((with_reducible refine q80 (f := 53) rfl ?_); refine gl_ (some 31) Try.func53 #[.string (rdOf ByteArray.empty l0_0 x4_1)] ?_; (with_reducible refine (q28.calls (rdOf ByteArray.empty l0_0 x4_1) t239 _ A8.out).mono ?_); rintro e w11 ⟨v240, rfl, ho0, hb⟩; refine ⟨_, rfl, ?_⟩; have HO241 := q66.mk (Kd.R_lower (Kd.R_new' ho0 (Kd.R_lt (ra_ HO_3.out))) (q69 hf_)); replace HO_3 := q66.mk (Kd.R_elder' (ra_ HO_3.out) (Kd.R_base ho0) hb); replace BK234 := bb_ BK234 hb; replace HB := hb_ HB hb;  (try clear hb); clear ho0; obtain ⟨Ao13, co13, eo13⟩ := Kd.R_slice HO241.out; subst eo13) | ((with_reducible refine q79 (b := .append) (xs := #[.tmp 25, .tmp 31]) rfl ?_); at_builtin; refine Kd.R_append_rows (Kd.int .u8) (w0 := w) w.heap.size rfl (.tmp 25) (.tmp 31) 26 5 (.int .u8 0) 1 rfl Try.underlying26 info5 rfl (by decide) (by omega) u3 x3_1 t239 _ _ _ (fun k_ => some k_ ≠ (.slice Ao13 t239.length co13 : Value).ownBlock) (fun _ => False) rfl rfl ?aO ?aR (fun _ _ h => h) (fun _ h => h.elim) ?aF ?aB ?aS ?aL ?_; (case aR => exact cr_ HO241); (case aB => exact hf_); (case aF => exact (fun k_ hk => Kd.fresh' (Kd.R_lt (ra_ HO241.out)) k_ hk)); (case aO => exact (ra_ (Kd.R_mono HO_3.out (fun _ hk => hk.2)))); (case aS => exact (q69 hf_)); (case aL => have := LMc9.out; omega); intro v243 w12 ho hb hg hat; rw [← Ny242.out] at ho; have n0_ := q66.mk (blk_grown (gx_ BK234) hg (Kd.R_ne HO_3.out BK234.out (by decide))); have n1_ := q66.mk (Kd.R_after (ok := (fun _ => True)) (ra_ HO241.out) hg hat); have n2_ := q66.mk (hb); have n3_ := q66.mk (ho); clear BK234; clear HO241; clear HB; clear HO_3; have BK234 := n0_; have HO241 := n1_; have HB := n2_; have HO244 := n3_; clear n0_ n1_ n2_ n3_; clear ho hb hg hat))
      go_roundg k1
      case measure => have := HK1.out; omega
      case rel => exact ⟨(y242), (wrap64 (x4_1 + 1)), rf_, H', ⟨by have := HK1.out; omega⟩, ⟨ra_ (Kd.R_mono HO244.out (fun _ hk => trivial))⟩, ⟨gx_ BK234⟩, ⟨hf_⟩⟩
     ·rw [if_neg c9] at H
      exact absurd H (by simp)
    ·rw [if_neg c7] at H
     exact absurd H (by simp)
   ·rw [if_neg c6] at H
    have c6b0 := decide_eq_false c6
    clear c6
    have H' := q66.mk H
    clear H
    obtain ⟨hcz14_0, hcz14_1, hfz14_0, hfz14_1⟩ := bs2_ BK234
    go_wp2
    go_loopg [3, 5] k1 (fun kq v3 v5 w' => ∃ (x3_2 : List Int) (x5_2 : Int), v5 = .int .i64 x5_2 ∧ q66 (q26.l1 kq x3_2 x5_2 l0_0 l0_1 = some r) ∧ q66 (kq ≤ k1) ∧ q66 (Kd.R (Kd.int .u8) 5 w' w.heap.size (fun _ => True) v3 x3_2) ∧ q66 (w'.heap[gb234]? = some (.cells #[(.slice A0_0 l0_0.length c0_0), (.slice A0_1 l0_1.length c0_1)] 25 (0, 0))) ∧ q66 (Below w.heap.size w w'))
    case atStart => exact ⟨(x3_1), (0), rf_, H', ⟨Nat.le_refl _⟩, ⟨ra_ HO_3.out⟩, ⟨gx_ BK234⟩, ⟨hf_⟩⟩
    case round =>
     clear H'
     clear c6b0 hcz14_0 hcz14_1 hfz14_0 hfz14_1
     obtain ⟨x3_2, x5_2, rfl, HA, HK2, HO_3, BK234, HB⟩ := hrel
     cases gk with
     | zero => exact absurd HA.out (by simp [q26.l1])
     | succ k2 =>
      have H := HA.out
      clear HA
      simp only [q26.l1] at H
      by_cases c15 : x5_2 < (l0_1.length : Int)
      ·rw [if_pos c15] at H
       have c15b0 := decide_eq_true c15
       clear c15
       by_cases c16 : 0 ≤ x5_2
       ·rw [if_pos c16] at H
        replace c16 := decide_eq_true c16
        replace H := Option.bind_eq_some_iff.mp H
        obtain ⟨t246, A170, H⟩ := H
        have A17 := q66.mk A170
        clear A170
        by_cases c18 : x3_2.length + t246.length < 140737488355328
        ·rw [if_pos c18] at H
         have LMc18 := q66.mk c18
         clear c18
         obtain ⟨y249, hy249⟩ : ∃ y_ : List Int, y_ = (x3_2 ++ t246) := ⟨_, rfl⟩
         rw [← hy249] at H
         have Ny249 := q66.mk hy249
         clear hy249
         have H' := q66.mk H
         clear H
         obtain ⟨hcz19_0, hcz19_1, hfz19_0, hfz19_1⟩ := bs2_ BK234
         obtain ⟨ad245, A245_5, c245_5, A245_6, c245_6, e245, hx245_0, hx245_1, hx245_2, hx245_3, hx245_4, hx245_5, hx245_6, HC245_5, HR245_5, HC245_6, HR245_6, p245, q245⟩ := au_T48 HR0_1 HB (x5_2)
         cases e245
         go_wp2_with (first | ((with_reducible refine q80 (f := 53) rfl ?_); refine gl_ (some 47) Try.func53 #[.string ((q89 l0_1 x5_2).f0)] ?_; (with_reducible refine (q28.calls ((q89 l0_1 x5_2).f0) t246 _ A17.out).mono ?_); rintro e w20 ⟨v247, rfl, ho0, hb⟩; refine ⟨_, rfl, ?_⟩; have HO248 := q66.mk (Kd.R_lower (Kd.R_new' ho0 (Kd.R_lt (ra_ HO_3.out))) (q69 hf_)); replace HO_3 := q66.mk (Kd.R_elder' (ra_ HO_3.out) (Kd.R_base ho0) hb); replace BK234 := bb_ BK234 hb; replace HB := hb_ HB hb;  (try clear hb); clear ho0; obtain ⟨Ao22, co22, eo22⟩ := Kd.R_slice HO248.out; subst eo22) | ((with_reducible refine q79 (b := .append) (xs := #[.tmp 40, .tmp 47]) rfl ?_); at_builtin; refine Kd.R_append_rows (Kd.int .u8) (w0 := w) w.heap.size rfl (.tmp 40) (.tmp 47) 26 5 (.int .u8 0) 1 rfl Try.underlying26 info5 rfl (by decide) (by omega) u3 x3_2 t246 _ _ _ (fun k_ => some k_ ≠ (.slice Ao22 t246.length co22 : Value).ownBlock) (fun _ => False) rfl rfl ?aO ?aR (fun _ _ h => h) (fun _ h => h.elim) ?aF ?aB ?aS ?aL ?_; (case aR => exact cr_ HO248); (case aB => exact hf_); (case aF => exact (fun k_ hk => Kd.fresh' (Kd.R_lt (ra_ HO248.out)) k_ hk)); (case aO => exact (ra_ (Kd.R_mono HO_3.out (fun _ hk => hk.2)))); (case aS => exact (q69 hf_)); (case aL => have := LMc18.out; omega); intro v250 w21 ho hb hg hat; rw [← Ny249.out] at ho; have n0_ := q66.mk (blk_grown (gx_ BK234) hg (Kd.R_ne HO_3.out BK234.out (by decide))); have n1_ := q66.mk (Kd.R_after (ok := (fun _ => True)) (ra_ HO248.out) hg hat); have n2_ := q66.mk (hb); have n3_ := q66.mk (ho); clear BK234; clear HO248; clear HB; clear HO_3; have BK234 := n0_; have HO248 := n1_; have HB := n2_; have HO251 := n3_; clear n0_ n1_ n2_ n3_; clear ho hb hg hat))
         go_roundg k2
         case measure => have := HK1.out; have := HK2.out; omega
         case rel => exact ⟨(y249), (wrap64 (x5_2 + 1)), rf_, H', ⟨by have := HK1.out; have := HK2.out; omega⟩, ⟨ra_ (Kd.R_mono HO251.out (fun _ hk => trivial))⟩, ⟨gx_ BK234⟩, ⟨hf_⟩⟩
        ·rw [if_neg c18] at H
         exact absurd H (by simp)
       ·rw [if_neg c16] at H
        exact absurd H (by simp)
      ·rw [if_neg c15] at H
       have c15b0 := decide_eq_false c15
       clear c15
       replace H := Option.bind_eq_some_iff.mp H
       obtain ⟨t252, A230, H⟩ := H
       have A23 := q66.mk A230
       clear A230
       by_cases c24 : x3_2.length + t252.length < 140737488355328
       ·rw [if_pos c24] at H
        have LMc24 := q66.mk c24
        clear c24
        obtain ⟨y255, hy255⟩ : ∃ y_ : List Int, y_ = (x3_2 ++ t252) := ⟨_, rfl⟩
        rw [← hy255] at H
        have Ny255 := q66.mk hy255
        clear hy255
        have H' := q66.mk H
        clear H
        obtain ⟨hcz25_0, hcz25_1, hfz25_0, hfz25_1⟩ := bs2_ BK234
        go_wp2_with (first | ((with_reducible refine q80 (f := 52) rfl ?_); refine gl_ (some 53) Try.func52 #[.int .i64 (l0_0.length : Int)] ?_; (with_reducible refine (q35.calls k2 (l0_0.length : Int) t252 _ A23.out).mono ?_); rintro e w26 ⟨v253, rfl, ho0, hb⟩; refine ⟨_, rfl, ?_⟩; have HO254 := q66.mk (Kd.R_lower (Kd.R_new' ho0 (Kd.R_lt (ra_ HO_3.out))) (q69 hf_)); replace HO_3 := q66.mk (Kd.R_elder' (ra_ HO_3.out) (Kd.R_base ho0) hb); replace BK234 := bb_ BK234 hb; replace HB := hb_ HB hb;  (try clear hb); clear ho0; obtain ⟨Ao28, co28, eo28⟩ := Kd.R_slice HO254.out; subst eo28) | ((with_reducible refine q79 (b := .append) (xs := #[.tmp 49, .tmp 53]) rfl ?_); at_builtin; refine Kd.R_append_rows (Kd.int .u8) (w0 := w) w.heap.size rfl (.tmp 49) (.tmp 53) 26 5 (.int .u8 0) 1 rfl Try.underlying26 info5 rfl (by decide) (by omega) u3 x3_2 t252 _ _ _ (fun k_ => some k_ ≠ (.slice Ao28 t252.length co28 : Value).ownBlock) (fun _ => False) rfl rfl ?aO ?aR (fun _ _ h => h) (fun _ h => h.elim) ?aF ?aB ?aS ?aL ?_; (case aR => exact cr_ HO254); (case aB => exact hf_); (case aF => exact (fun k_ hk => Kd.fresh' (Kd.R_lt (ra_ HO254.out)) k_ hk)); (case aO => exact (ra_ (Kd.R_mono HO_3.out (fun _ hk => hk.2)))); (case aS => exact (q69 hf_)); (case aL => have := LMc24.out; omega); intro v256 w27 ho hb hg hat; rw [← Ny255.out] at ho; have n0_ := q66.mk (blk_grown (gx_ BK234) hg (Kd.R_ne HO_3.out BK234.out (by decide))); have n1_ := q66.mk (Kd.R_after (ok := (fun _ => True)) (ra_ HO254.out) hg hat); have n2_ := q66.mk (hb); have n3_ := q66.mk (ho); clear BK234; clear HO254; clear HB; clear HO_3; have BK234 := n0_; have HO254 := n1_; have HB := n2_; have HO257 := n3_; clear n0_ n1_ n2_ n3_; clear ho hb hg hat))
        go_loopg [3, 6] k2 (fun kq v3 v6 w' => ∃ (x3_3 : List Int) (x6_3 : Int), v6 = .int .i64 x6_3 ∧ q66 (q26.l2 kq x3_3 x6_3 l0_0 l0_1 = some r) ∧ q66 (kq ≤ k2) ∧ q66 (Kd.R (Kd.int .u8) 5 w' w.heap.size (fun _ => True) v3 x3_3) ∧ q66 (w'.heap[gb234]? = some (.cells #[(.slice A0_0 l0_0.length c0_0), (.slice A0_1 l0_1.length c0_1)] 25 (0, 0))) ∧ q66 (Below w.heap.size w w'))
        case atStart => exact ⟨(y255), (0), rf_, H', ⟨Nat.le_refl _⟩, ⟨ra_ (Kd.R_mono HO257.out (fun _ hk => trivial))⟩, ⟨gx_ BK234⟩, ⟨hf_⟩⟩
        case round =>
         clear H'
         clear c15b0 hcz25_0 hcz25_1 hfz25_0 hfz25_1
         obtain ⟨x3_3, x6_3, rfl, HA, HK3, HO_3, BK234, HB⟩ := hrel
         cases gk with
         | zero => exact absurd HA.out (by simp [q26.l2])
         | succ k3 =>
          have H := HA.out
          clear HA
          simp only [q26.l2] at H
          by_cases c29 : x6_3 < (l0_1.length : Int)
          ·rw [if_pos c29] at H
           have c29b0 := decide_eq_true c29
           clear c29
           by_cases c30 : 0 ≤ x6_3
           ·rw [if_pos c30] at H
            have c30b0 := decide_eq_true c30
            clear c30
            have HC31 := q66.mk H
            clear H
            obtain ⟨hcz32_0, hcz32_1, hfz32_0, hfz32_1⟩ := bs2_ BK234
            obtain ⟨ad258, A258_5, c258_5, A258_6, c258_6, e258, hx258_0, hx258_1, hx258_2, hx258_3, hx258_4, hx258_5, hx258_6, HC258_5, HR258_5, HC258_6, HR258_6, p258, q258⟩ := au_T48 HR0_1 HB (x6_3)
            cases e258
            go_upto_if 68 with (first | ((with_reducible refine q81 (N := 7) rfl ?_); refine bx_ 7 #[.string (⟨#[]⟩ : ByteArray), .int .i64 0, .string (⟨#[]⟩ : ByteArray), .bool false, .int .i64 0, .slice none 0 0, .slice none 0 0] 48 ?_; intro gb259 hg w33 hbox hb; replace HO_3 := q66.mk (Kd.R_below (ra_ HO_3.out) hb); have BK259 := q66.mk (hbox); have GW259 := zz_ (w := w) hg; have GE259 := zz_ (w := w) hg; replace HB := hb_ HB hb; have NB234_259 := ne1_ hg BK234; have NB259_234 := ne2_ hg BK234; replace BK234 := bb_ BK234 hb;  clear hb hbox hg; have hnb34 := NB259_234.out; have hnc34 := NB234_259.out; obtain ⟨hcz35_0, hcz35_1, hcz35_2, hcz35_3, hcz35_4, hcz35_5, hcz35_6, hfz35_0, hfz35_1, hfz35_2, hfz35_3, hfz35_4, hfz35_5, hfz35_6⟩ := bs7_ BK259))
            (try simp only [Act.put, List.setIfInBounds_toArray, List.set_cons_zero, List.set_cons_succ])
            go_cut [8] (fun v8 wc => ∃ (kq : Nat) (x8_30 : Int), v8 = .int .i64 x8_30 ∧ q66 (q26.j3 kq x3_3 x6_3 x8_30 l0_0 l0_1 ((q89 l0_1 x6_3).f0) ((q89 l0_1 x6_3).f1) ((q89 l0_1 x6_3).f2) ((q89 l0_1 x6_3).f3) ((q89 l0_1 x6_3).f4) ((q89 l0_1 x6_3).f5) ((q89 l0_1 x6_3).f6) = some r) ∧ q66 (kq ≤ k3) ∧ q66 (Kd.R (Kd.int .u8) 5 wc w.heap.size (fun _ => True) u3 x3_3) ∧ q66 (wc.heap[gb234]? = some (.cells #[(.slice A0_0 l0_0.length c0_0), (.slice (some ad258) l0_1.length c0_1)] 25 (0, 0))) ∧ q66 (wc.heap[gb259]? = some (.cells #[.string ((q89 l0_1 x6_3).f0), .int .i64 ((q89 l0_1 x6_3).f1), .string ((q89 l0_1 x6_3).f2), .bool ((q89 l0_1 x6_3).f3), .int .i64 ((q89 l0_1 x6_3).f4), (.slice A258_5 ((q89 l0_1 x6_3).f5).length c258_5), (.slice A258_6 ((q89 l0_1 x6_3).f6).length c258_6)] 48 (0, 0))) ∧ q66 (Below w.heap.size w wc))
            case first =>
             have H := HC31.out
             clear HC31
             obtain ⟨bq36, hbq36⟩ : ∃ b_ : Bool, b_ = ((q89 l0_1 x6_3).f3) := ⟨_, rfl⟩
             replace H : (if bq36 = true then (q26.j3 k3 x3_3 x6_3 1 l0_0 l0_1 ((q89 l0_1 x6_3).f0) ((q89 l0_1 x6_3).f1) ((q89 l0_1 x6_3).f2) bq36 ((q89 l0_1 x6_3).f4) ((q89 l0_1 x6_3).f5) ((q89 l0_1 x6_3).f6)) else (q26.j3 k3 x3_3 x6_3 0 l0_0 l0_1 ((q89 l0_1 x6_3).f0) ((q89 l0_1 x6_3).f1) ((q89 l0_1 x6_3).f2) bq36 ((q89 l0_1 x6_3).f4) ((q89 l0_1 x6_3).f5) ((q89 l0_1 x6_3).f6))) = some r := by rw [← hbq36] at H; exact H
             have Nbq36 := q66.mk hbq36
             clear hbq36
             (try rw [← Nbq36.out])
             by_cases c37 : bq36 = true
             ·subst c37
              have H1 : (q26.j3 k3 x3_3 x6_3 1 l0_0 l0_1 ((q89 l0_1 x6_3).f0) ((q89 l0_1 x6_3).f1) ((q89 l0_1 x6_3).f2) true ((q89 l0_1 x6_3).f4) ((q89 l0_1 x6_3).f5) ((q89 l0_1 x6_3).f6)) = some r := by rw [if_pos rfl] at H; exact H
              clear H
              have H := H1
              clear H1
              rw [Nbq36.out] at H
              have H' := q66.mk H
              clear H
              go_wp2
              go_meet
              case rel => (rw [Nbq36.out]; exact ⟨_, (1), rf_, H', ⟨by have := HK1.out; have := HK2.out; have := HK3.out; first | omega | exact Nat.le_refl _⟩, ⟨ra_ (Kd.R_mono (Kd.R_far (p := ⟨gb259, 6, none⟩) (Kd.R_far (p := ⟨gb259, 5, none⟩) (Kd.R_far (p := ⟨gb259, 4, none⟩) (Kd.R_far (p := ⟨gb259, 3, none⟩) (Kd.R_far (p := ⟨gb259, 2, none⟩) (Kd.R_far (p := ⟨gb259, 1, none⟩) (Kd.R_far (p := ⟨gb259, 0, none⟩) (Kd.R_types HO_3.out BK259.out (by decide)) (fun _ hk => hk.2) (.string ((q89 l0_1 x6_3).f0))) (fun _ hk => hk.2) (.int .i64 ((q89 l0_1 x6_3).f1))) (fun _ hk => hk.2) (.string ((q89 l0_1 x6_3).f2))) (fun _ hk => hk.2) (.bool ((q89 l0_1 x6_3).f3))) (fun _ hk => hk.2) (.int .i64 ((q89 l0_1 x6_3).f4))) (fun _ hk => hk.2) (.slice A258_5 ((q89 l0_1 x6_3).f5).length c258_5)) (fun _ hk => hk.2) (.slice A258_6 ((q89 l0_1 x6_3).f6).length c258_6)) (fun _ hk => trivial))⟩, ⟨by (with_reducible repeat (first | refine q75 ?_ _ | refine q74 ?_ | refine q71 ?_ _)); refine q76 ?_ NB234_259.out _; (with_reducible repeat (first | refine q75 ?_ _ | refine q74 ?_ | refine q71 ?_ _)); refine q76 ?_ NB234_259.out _; (with_reducible repeat (first | refine q75 ?_ _ | refine q74 ?_ | refine q71 ?_ _)); refine q76 ?_ NB234_259.out _; (with_reducible repeat (first | refine q75 ?_ _ | refine q74 ?_ | refine q71 ?_ _)); refine q76 ?_ NB234_259.out _; (with_reducible repeat (first | refine q75 ?_ _ | refine q74 ?_ | refine q71 ?_ _)); refine q76 ?_ NB234_259.out _; (with_reducible repeat (first | refine q75 ?_ _ | refine q74 ?_ | refine q71 ?_ _)); refine q76 ?_ NB234_259.out _; (with_reducible repeat (first | refine q75 ?_ _ | refine q74 ?_ | refine q71 ?_ _)); refine q76 ?_ NB234_259.out _; (with_reducible repeat (first | refine q75 ?_ _ | refine q74 ?_ | refine q71 ?_ _)); exact BK234.out⟩, ⟨by (with_reducible repeat (first | refine q75 ?_ _ | refine q74 ?_ | refine q71 ?_ _)); refine q78 (cs := #[.string ((q89 l0_1 x6_3).f0), .int .i64 ((q89 l0_1 x6_3).f1), .string ((q89 l0_1 x6_3).f2), .bool ((q89 l0_1 x6_3).f3), .int .i64 ((q89 l0_1 x6_3).f4), .slice A258_5 ((q89 l0_1 x6_3).f5).length c258_5, .slice none 0 0]) ?_ 6 _ rfl; (with_reducible repeat (first | refine q75 ?_ _ | refine q74 ?_ | refine q71 ?_ _)); refine q78 (cs := #[.string ((q89 l0_1 x6_3).f0), .int .i64 ((q89 l0_1 x6_3).f1), .string ((q89 l0_1 x6_3).f2), .bool ((q89 l0_1 x6_3).f3), .int .i64 ((q89 l0_1 x6_3).f4), .slice none 0 0, .slice none 0 0]) ?_ 5 _ rfl; (with_reducible repeat (first | refine q75 ?_ _ | refine q74 ?_ | refine q71 ?_ _)); refine q78 (cs := #[.string ((q89 l0_1 x6_3).f0), .int .i64 ((q89 l0_1 x6_3).f1), .string ((q89 l0_1 x6_3).f2), .bool ((q89 l0_1 x6_3).f3), .int .i64 0, .slice none 0 0, .slice none 0 0]) ?_ 4 _ rfl; (with_reducible repeat (first | refine q75 ?_ _ | refine q74 ?_ | refine q71 ?_ _)); refine q78 (cs := #[.string ((q89 l0_1 x6_3).f0), .int .i64 ((q89 l0_1 x6_3).f1), .string ((q89 l0_1 x6_3).f2), .bool false, .int .i64 0, .slice none 0 0, .slice none 0 0]) ?_ 3 _ rfl; (with_reducible repeat (first | refine q75 ?_ _ | refine q74 ?_ | refine q71 ?_ _)); refine q78 (cs := #[.string ((q89 l0_1 x6_3).f0), .int .i64 ((q89 l0_1 x6_3).f1), .string (⟨#[]⟩ : ByteArray), .bool false, .int .i64 0, .slice none 0 0, .slice none 0 0]) ?_ 2 _ rfl; (with_reducible repeat (first | refine q75 ?_ _ | refine q74 ?_ | refine q71 ?_ _)); refine q78 (cs := #[.string ((q89 l0_1 x6_3).f0), .int .i64 0, .string (⟨#[]⟩ : ByteArray), .bool false, .int .i64 0, .slice none 0 0, .slice none 0 0]) ?_ 1 _ rfl; (with_reducible repeat (first | refine q75 ?_ _ | refine q74 ?_ | refine q71 ?_ _)); refine q78 (cs := #[.string (⟨#[]⟩ : ByteArray), .int .i64 0, .string (⟨#[]⟩ : ByteArray), .bool false, .int .i64 0, .slice none 0 0, .slice none 0 0]) ?_ 0 _ rfl; (with_reducible repeat (first | refine q75 ?_ _ | refine q74 ?_ | refine q71 ?_ _)); exact BK259.out⟩, ⟨hf_⟩⟩)
             ·replace c37 := Bool.eq_false_iff.mpr c37
              subst c37
              have H1 : (q26.j3 k3 x3_3 x6_3 0 l0_0 l0_1 ((q89 l0_1 x6_3).f0) ((q89 l0_1 x6_3).f1) ((q89 l0_1 x6_3).f2) false ((q89 l0_1 x6_3).f4) ((q89 l0_1 x6_3).f5) ((q89 l0_1 x6_3).f6)) = some r := by rw [if_neg (show ¬ (false = true) by decide)] at H; exact H
              clear H
              have H := H1
              clear H1
              rw [Nbq36.out] at H
              have H' := q66.mk H
              clear H
              go_wp2
              go_meet
              case rel => (rw [Nbq36.out]; exact ⟨_, (0), rf_, H', ⟨by have := HK1.out; have := HK2.out; have := HK3.out; first | omega | exact Nat.le_refl _⟩, ⟨ra_ (Kd.R_mono (Kd.R_far (p := ⟨gb259, 6, none⟩) (Kd.R_far (p := ⟨gb259, 5, none⟩) (Kd.R_far (p := ⟨gb259, 4, none⟩) (Kd.R_far (p := ⟨gb259, 3, none⟩) (Kd.R_far (p := ⟨gb259, 2, none⟩) (Kd.R_far (p := ⟨gb259, 1, none⟩) (Kd.R_far (p := ⟨gb259, 0, none⟩) (Kd.R_types HO_3.out BK259.out (by decide)) (fun _ hk => hk.2) (.string ((q89 l0_1 x6_3).f0))) (fun _ hk => hk.2) (.int .i64 ((q89 l0_1 x6_3).f1))) (fun _ hk => hk.2) (.string ((q89 l0_1 x6_3).f2))) (fun _ hk => hk.2) (.bool ((q89 l0_1 x6_3).f3))) (fun _ hk => hk.2) (.int .i64 ((q89 l0_1 x6_3).f4))) (fun _ hk => hk.2) (.slice A258_5 ((q89 l0_1 x6_3).f5).length c258_5)) (fun _ hk => hk.2) (.slice A258_6 ((q89 l0_1 x6_3).f6).length c258_6)) (fun _ hk => trivial))⟩, ⟨by (with_reducible repeat (first | refine q75 ?_ _ | refine q74 ?_ | refine q71 ?_ _)); refine q76 ?_ NB234_259.out _; (with_reducible repeat (first | refine q75 ?_ _ | refine q74 ?_ | refine q71 ?_ _)); refine q76 ?_ NB234_259.out _; (with_reducible repeat (first | refine q75 ?_ _ | refine q74 ?_ | refine q71 ?_ _)); refine q76 ?_ NB234_259.out _; (with_reducible repeat (first | refine q75 ?_ _ | refine q74 ?_ | refine q71 ?_ _)); refine q76 ?_ NB234_259.out _; (with_reducible repeat (first | refine q75 ?_ _ | refine q74 ?_ | refine q71 ?_ _)); refine q76 ?_ NB234_259.out _; (with_reducible repeat (first | refine q75 ?_ _ | refine q74 ?_ | refine q71 ?_ _)); refine q76 ?_ NB234_259.out _; (with_reducible repeat (first | refine q75 ?_ _ | refine q74 ?_ | refine q71 ?_ _)); refine q76 ?_ NB234_259.out _; (with_reducible repeat (first | refine q75 ?_ _ | refine q74 ?_ | refine q71 ?_ _)); exact BK234.out⟩, ⟨by (with_reducible repeat (first | refine q75 ?_ _ | refine q74 ?_ | refine q71 ?_ _)); refine q78 (cs := #[.string ((q89 l0_1 x6_3).f0), .int .i64 ((q89 l0_1 x6_3).f1), .string ((q89 l0_1 x6_3).f2), .bool ((q89 l0_1 x6_3).f3), .int .i64 ((q89 l0_1 x6_3).f4), .slice A258_5 ((q89 l0_1 x6_3).f5).length c258_5, .slice none 0 0]) ?_ 6 _ rfl; (with_reducible repeat (first | refine q75 ?_ _ | refine q74 ?_ | refine q71 ?_ _)); refine q78 (cs := #[.string ((q89 l0_1 x6_3).f0), .int .i64 ((q89 l0_1 x6_3).f1), .string ((q89 l0_1 x6_3).f2), .bool ((q89 l0_1 x6_3).f3), .int .i64 ((q89 l0_1 x6_3).f4), .slice none 0 0, .slice none 0 0]) ?_ 5 _ rfl; (with_reducible repeat (first | refine q75 ?_ _ | refine q74 ?_ | refine q71 ?_ _)); refine q78 (cs := #[.string ((q89 l0_1 x6_3).f0), .int .i64 ((q89 l0_1 x6_3).f1), .string ((q89 l0_1 x6_3).f2), .bool ((q89 l0_1 x6_3).f3), .int .i64 0, .slice none 0 0, .slice none 0 0]) ?_ 4 _ rfl; (with_reducible repeat (first | refine q75 ?_ _ | refine q74 ?_ | refine q71 ?_ _)); refine q78 (cs := #[.string ((q89 l0_1 x6_3).f0), .int .i64 ((q89 l0_1 x6_3).f1), .string ((q89 l0_1 x6_3).f2), .bool false, .int .i64 0, .slice none 0 0, .slice none 0 0]) ?_ 3 _ rfl; (with_reducible repeat (first | refine q75 ?_ _ | refine q74 ?_ | refine q71 ?_ _)); refine q78 (cs := #[.string ((q89 l0_1 x6_3).f0), .int .i64 ((q89 l0_1 x6_3).f1), .string (⟨#[]⟩ : ByteArray), .bool false, .int .i64 0, .slice none 0 0, .slice none 0 0]) ?_ 2 _ rfl; (with_reducible repeat (first | refine q75 ?_ _ | refine q74 ?_ | refine q71 ?_ _)); refine q78 (cs := #[.string ((q89 l0_1 x6_3).f0), .int .i64 0, .string (⟨#[]⟩ : ByteArray), .bool false, .int .i64 0, .slice none 0 0, .slice none 0 0]) ?_ 1 _ rfl; (with_reducible repeat (first | refine q75 ?_ _ | refine q74 ?_ | refine q71 ?_ _)); refine q78 (cs := #[.string (⟨#[]⟩ : ByteArray), .int .i64 0, .string (⟨#[]⟩ : ByteArray), .bool false, .int .i64 0, .slice none 0 0, .slice none 0 0]) ?_ 0 _ rfl; (with_reducible repeat (first | refine q75 ?_ _ | refine q74 ?_ | refine q71 ?_ _)); exact BK259.out⟩, ⟨hf_⟩⟩)
            case rest =>
             clear HC31
             clear c29b0 c30b0 hcz32_0 hcz32_1 hfz32_0 hfz32_1 hx258_0 hx258_1 hx258_2 hx258_3 hx258_4 hx258_5 hx258_6 p258 q258; (try clear hcz35_0); (try clear hcz35_1); (try clear hcz35_2); (try clear hcz35_3); (try clear hcz35_4); (try clear hcz35_5); (try clear hcz35_6); (try clear hfz35_0); (try clear hfz35_1); (try clear hfz35_2); (try clear hfz35_3); (try clear hfz35_4); (try clear hfz35_5); (try clear hfz35_6)
             obtain ⟨kq, x8_30, rfl, HA, HJ30, HO_3, BK234, BK259, HB⟩ := hcut
             cases kq with
             | zero => exact absurd HA.out (by simp [q26.j3])
             | succ kj30 =>
              have H := HA.out
              clear HA
              simp only [q26.j3] at H
              have HC38 := q66.mk H
              clear H
              have hnb39 := NB259_234.out
              have hnc39 := NB234_259.out
              obtain ⟨hcz40_0, hcz40_1, hcz40_2, hcz40_3, hcz40_4, hcz40_5, hcz40_6, hfz40_0, hfz40_1, hfz40_2, hfz40_3, hfz40_4, hfz40_5, hfz40_6⟩ := bs7_ BK259
              go_step
              go_upto_if 71 with (fail)
              go_cut [9] (fun v9 wc => ∃ (kq : Nat) (x9_37 : Int), v9 = .int .i64 x9_37 ∧ q66 (q26.j4 kq x3_3 x6_3 x8_30 x9_37 l0_0 l0_1 ((q89 l0_1 x6_3).f0) ((q89 l0_1 x6_3).f1) ((q89 l0_1 x6_3).f2) ((q89 l0_1 x6_3).f3) ((q89 l0_1 x6_3).f4) ((q89 l0_1 x6_3).f5) ((q89 l0_1 x6_3).f6) = some r) ∧ q66 (kq ≤ kj30) ∧ q66 (Kd.R (Kd.int .u8) 5 wc w.heap.size (fun _ => True) u3 x3_3) ∧ q66 (wc.heap[gb234]? = some (.cells #[(.slice A0_0 l0_0.length c0_0), (.slice (some ad258) l0_1.length c0_1)] 25 (0, 0))) ∧ q66 (wc.heap[gb259]? = some (.cells #[.string ((q89 l0_1 x6_3).f0), .int .i64 ((q89 l0_1 x6_3).f1), .string ((q89 l0_1 x6_3).f2), .bool ((q89 l0_1 x6_3).f3), .int .i64 ((q89 l0_1 x6_3).f4), (.slice A258_5 ((q89 l0_1 x6_3).f5).length c258_5), (.slice A258_6 ((q89 l0_1 x6_3).f6).length c258_6)] 48 (0, 0))) ∧ q66 (Below w.heap.size w wc))
              case first =>
               have H := HC38.out
               clear HC38
               by_cases c41 : ((q89 l0_1 x6_3).f2).toList = ([] : List UInt8)
               ·rw [if_pos c41] at H
                have c41b0 : (((q89 l0_1 x6_3).f2).toList == ([] : List UInt8)) = true := beq_iff_eq.mpr c41
                have c41b1 : (((q89 l0_1 x6_3).f2).toList != ([] : List UInt8)) = false := bne_eq_false_iff_eq.mpr c41
                have c41b2 : ((q89 l0_1 x6_3).f2).toList.isEmpty = true := List.isEmpty_iff.mpr c41
                clear c41
                (first | rw [c41b0] | (simp only [i64_w, i32_w]; rw [c41b0]) | rw [c41b2] | skip)
                have H' := q66.mk H
                clear H
                go_wp2
                go_meet
                case rel => exact ⟨_, (0), rf_, H', ⟨by have := HK1.out; have := HK2.out; have := HK3.out; have := HJ30.out; first | omega | exact Nat.le_refl _⟩, ⟨ra_ HO_3.out⟩, ⟨gx_ BK234⟩, ⟨gx_ BK259⟩, ⟨hf_⟩⟩
               ·rw [if_neg c41] at H
                have c41b0 : (((q89 l0_1 x6_3).f2).toList == ([] : List UInt8)) = false := beq_eq_false_iff_ne.mpr c41
                have c41b1 : (((q89 l0_1 x6_3).f2).toList != ([] : List UInt8)) = true := bne_iff_ne.mpr c41
                have c41b2 : ((q89 l0_1 x6_3).f2).toList.isEmpty = false := Bool.eq_false_iff.mpr (fun h_ => c41 (List.isEmpty_iff.mp h_))
                (first | rw [c41b0] | (simp only [i64_w, i32_w]; rw [c41b0]) | rw [c41b2] | skip)
                replace H := Option.bind_eq_some_iff.mp H
                obtain ⟨t260, A420, H⟩ := H
                have A42 := q66.mk A420
                clear A420
                have H' := q66.mk H
                clear H
                have hnb43 := NB234_259.out
                have hnc43 := NB259_234.out
                obtain ⟨hcz44_0, hcz44_1, hfz44_0, hfz44_1⟩ := bs2_ BK234
                obtain ⟨hcz45_0, hcz45_1, hcz45_2, hcz45_3, hcz45_4, hcz45_5, hcz45_6, hfz45_0, hfz45_1, hfz45_2, hfz45_3, hfz45_4, hfz45_5, hfz45_6⟩ := bs7_ BK259
                go_wp2_with (first | ((with_reducible refine q80 (f := 54) rfl ?_); refine gl_ (some 75) Try.func54 #[.agg #[.slice A0_0 l0_0.length c0_0, .slice (some ad258) l0_1.length c0_1], .string ((q89 l0_1 x6_3).f2)] ?_; (with_reducible refine (q24.calls kj30 _ _ l0_0 _ _ l0_1 ((q89 l0_1 x6_3).f2) t260 _ ?side1 ?side2 ?side3 ?side4 A42.out).mono ?_); (case side1 => exact kc_ HR0_0 HB); (case side2 => exact HC0_0.out); (case side3 => exact kc_ HR0_1 HB); (case side4 => exact HC0_1.out); rintro e w46 ⟨rfl, hb⟩; refine ⟨_, rfl, ?_⟩; replace HO_3 := q66.mk (Kd.R_below (ra_ HO_3.out) hb); replace BK234 := bb_ BK234 hb; replace BK259 := bb_ BK259 hb; replace HB := hb_ HB hb;  (try clear hb)))
                go_meet
                case rel => exact ⟨_, (wrap64 (t260 + 1)), rf_, H', ⟨by have := HK1.out; have := HK2.out; have := HK3.out; have := HJ30.out; first | omega | exact Nat.le_refl _⟩, ⟨ra_ HO_3.out⟩, ⟨gx_ BK234⟩, ⟨gx_ BK259⟩, ⟨hf_⟩⟩
              case rest =>
               clear HC38
               clear hcz40_0 hcz40_1 hcz40_2 hcz40_3 hcz40_4 hcz40_5 hcz40_6 hfz40_0 hfz40_1 hfz40_2 hfz40_3 hfz40_4 hfz40_5 hfz40_6
               obtain ⟨kq, x9_37, rfl, HA, HJ37, HO_3, BK234, BK259, HB⟩ := hcut
               cases kq with
               | zero => exact absurd HA.out (by simp [q26.j4])
               | succ kj37 =>
                have H := HA.out
                clear HA
                simp only [q26.j4] at H
                replace H := Option.bind_eq_some_iff.mp H
                obtain ⟨t261, A470, H⟩ := H
                have A47 := q66.mk A470
                clear A470
                by_cases c48 : x3_3.length + t261.length < 140737488355328
                ·rw [if_pos c48] at H
                 have LMc48 := q66.mk c48
                 clear c48
                 obtain ⟨y264, hy264, H⟩ := yb_ H
                 have Ny264 := q66.mk hy264
                 clear hy264
                 replace H := Option.bind_eq_some_iff.mp H
                 obtain ⟨t267, A490, H⟩ := H
                 have A49 := q66.mk A490
                 clear A490
                 by_cases c50 : y264.length + t267.length < 140737488355328
                 ·rw [if_pos c50] at H
                  have LMc50 := q66.mk c50
                  clear c50
                  obtain ⟨y270, hy270, H⟩ := yb_ H
                  have Ny270 := q66.mk hy270
                  clear hy270
                  replace H := Option.bind_eq_some_iff.mp H
                  obtain ⟨t273, A510, H⟩ := H
                  have A51 := q66.mk A510
                  clear A510
                  by_cases c52 : y270.length + t273.length < 140737488355328
                  ·rw [if_pos c52] at H
                   have LMc52 := q66.mk c52
                   clear c52
                   obtain ⟨y276, hy276, H⟩ := yb_ H
                   have Ny276 := q66.mk hy276
                   clear hy276
                   replace H := Option.bind_eq_some_iff.mp H
                   obtain ⟨t279, A530, H⟩ := H
                   have A53 := q66.mk A530
                   clear A530
                   by_cases c54 : y276.length + t279.length < 140737488355328
                   ·rw [if_pos c54] at H
                    have LMc54 := q66.mk c54
                    clear c54
                    obtain ⟨y282, hy282, H⟩ := yb_ H
                    have Ny282 := q66.mk hy282
                    clear hy282
                    replace H := Option.bind_eq_some_iff.mp H
                    obtain ⟨t285, A550, H⟩ := H
                    have A55 := q66.mk A550
                    clear A550
                    by_cases c56 : y282.length + t285.length < 140737488355328
                    ·rw [if_pos c56] at H
                     have LMc56 := q66.mk c56
                     clear c56
                     obtain ⟨y288, hy288, H⟩ := yb_ H
                     have Ny288 := q66.mk hy288
                     clear hy288
                     replace H := Option.bind_eq_some_iff.mp H
                     obtain ⟨t291, A570, H⟩ := H
                     have A57 := q66.mk A570
                     clear A570
                     by_cases c58 : y288.length + t291.length < 140737488355328
                     ·rw [if_pos c58] at H
                      have LMc58 := q66.mk c58
                      clear c58
                      obtain ⟨y294, hy294⟩ : ∃ y_ : List Int, y_ = (y288 ++ t291) := ⟨_, rfl⟩
                      rw [← hy294] at H
                      have Ny294 := q66.mk hy294
                      clear hy294
                      have H' := q66.mk H
                      clear H
                      try go_wp2
                      replace HO_3 := q66.mk (Kd.R_drew HO_3.out)
                      replace BK234 := q66.mk (q74 BK234.out)
                      replace BK259 := q66.mk (q74 BK259.out)
                      replace HB := q66.mk (q68 HB.out)
                      refine start_ (n := 16) (S := fun w' => w'.cell? ⟨gb259, 0, none⟩ = some (.string ((q89 l0_1 x6_3).f0)) ∧ w'.cell? ⟨gb259, 1, none⟩ = some (.int .i64 ((q89 l0_1 x6_3).f1)) ∧ w'.cell? ⟨gb259, 2, none⟩ = some (.string ((q89 l0_1 x6_3).f2)) ∧ w'.cell? ⟨gb259, 3, none⟩ = some (.bool ((q89 l0_1 x6_3).f3)) ∧ w'.cell? ⟨gb259, 4, none⟩ = some (.int .i64 ((q89 l0_1 x6_3).f4)) ∧ w'.cell? ⟨gb259, 5, none⟩ = some (.slice A258_5 ((q89 l0_1 x6_3).f5).length c258_5) ∧ w'.cell? ⟨gb259, 6, none⟩ = some (.slice A258_6 ((q89 l0_1 x6_3).f6).length c258_6)) (ds := []) (bits_ 16 0) (by kernel_rfl) rfl rfl ⟨(bk0_ BK259 :), (bk1_ BK259 :), (bk2_ BK259 :), (bk3_ BK259 :), (bk4_ BK259 :), (bk5_ BK259 :), (bk6_ BK259 :)⟩ (fun hHeld => ?_); refine with_tabW q26.tab21 q26.bits21 (fun HT_ HW_ => ?_)
                      generalize wc.drew = w59 at HO_3 BK234 BK259 HB hHeld ⊢
                      refine pz_ 0 (some 77) (bits_ 16 1) HT_.out ?_
                      refine pz_ 1 (some 78) (bits_ 16 3) HT_.out ?_
                      refine pz_ 5 (some 82) (bits_ 16 35) HT_.out ?_
                      refine pz_ 8 (some 85) (bits_ 16 291) HT_.out ?_
                      refine pz_ 11 (some 88) (bits_ 16 2339) HT_.out ?_
                      refine tz_ 2 (some 79) (bits_ 16 2343) HT_.out HW_.out hHeld ?_ (hy := by rintro w' ⟨s0, s1, s2, s3, s4, s5, s6⟩; go_simp; with_reducible rfl)
                      refine tz_ 12 (some 89) (bits_ 16 6439) HT_.out HW_.out hHeld ?_ (hy := by rintro w' ⟨s0, s1, s2, s3, s4, s5, s6⟩; go_simp; with_reducible rfl)
                      refine oz_ 3 (some 80) (bits_ 16 6447) HT_.out (fun K hK => ?_)
                      refine go_s_ Try.func52 #[.int .i64 ((q89 l0_1 x6_3).f1)] ?_
                      with_reducible refine (q35.calls kj37 ((q89 l0_1 x6_3).f1) t261 _ A47.out).mono ?_
                      rintro e w60 ⟨v262, rfl, ho0, hb⟩
                      refine ⟨_, rfl, ?_⟩
                      have n0_ := q66.mk (Kd.R_elder' (ra_ HO_3.out) (Kd.R_base ho0) hb)
                      have n1_ := q66.mk (Kd.R_lower (Kd.R_new' ho0 (Kd.R_lt (ra_ HO_3.out))) (q69 hf_))
                      have n2_ := bb_ BK234 hb
                      have n3_ := bb_ BK259 hb
                      have n4_ := hb_ HB hb
                      clear HO_3
                      clear BK234
                      clear BK259
                      clear HB
                      have HO_3 := n0_
                      have HO263 := n1_
                      have BK234 := n2_
                      have BK259 := n3_
                      have HB := n4_
                      clear n0_ n1_ n2_ n3_ n4_
                      clear hb ho0
                      obtain ⟨Ao62, co62, eo62⟩ := Kd.R_slice HO263.out
                      (first | subst eo62 | (injection eo62 with f1_ f2_ f3_; have f4_ := f1_.symm; have f5_ := f3_.symm; clear f1_ f2_ f3_; subst f4_; subst f5_))
                      refine hK.out _ _ ⟨(bk0_ BK259 :), (bk1_ BK259 :), (bk2_ BK259 :), (bk3_ BK259 :), (bk4_ BK259 :), (bk5_ BK259 :), (bk6_ BK259 :)⟩ (fun hHeld => ?_)
                      clear hK K
                      refine nz_ (some 80) ?_
                      refine oz_ 4 (some 81) (bits_ 16 6463) HT_.out (fun K hK => ?_)
                      refine Kd.R_append_rows_step (Kd.int .u8) (w0 := w) w.heap.size (by rfl) (.tmp 77) (.tmp 80) 26 5 (.int .u8 0) 1 rfl Try.underlying26 info5 rfl (by decide) (by omega) u3 x3_3 t261 _ _ _ (fun k_ => some k_ ≠ (.slice Ao62 t261.length co62 : Value).ownBlock) (fun _ => False) rfl rfl ?aO ?aR (fun _ _ h => h) (fun _ h => h.elim) ?aF ?aB ?aS ?aL ?_
                      (case aR => exact cr_ HO263)
                      (case aB => exact hf_)
                      (case aF => exact (fun k_ hk => Kd.fresh' (Kd.R_lt (ra_ HO263.out)) k_ hk))
                      (case aO => exact (ra_ (Kd.R_mono HO_3.out (fun _ hk => hk.2))))
                      (case aS => exact (q69 hf_))
                      (case aL => have := LMc48.out; omega)
                      intro v265 w61 ho hb hg hat
                      rw [← Ny264.out] at ho
                      replace BK234 := q66.mk (blk_grown (gx_ BK234) hg (Kd.R_ne HO_3.out BK234.out (by decide)))
                      replace BK259 := q66.mk (blk_grown (gx_ BK259) hg (Kd.R_ne HO_3.out BK259.out (by decide)))
                      replace HO263 := q66.mk (Kd.R_after (ok := (fun _ => True)) (ra_ HO263.out) hg hat)
                      replace HB := q66.mk (hb)
                      replace HO266 := q66.mk (ho)
                      clear ho hb hg hat
                      refine hK.out _ _ ⟨(bk0_ BK259 :), (bk1_ BK259 :), (bk2_ BK259 :), (bk3_ BK259 :), (bk4_ BK259 :), (bk5_ BK259 :), (bk6_ BK259 :)⟩ (fun hHeld => ?_)
                      clear hK K
                      refine nz_ (some 81) ?_
                      refine oz_ 6 (some 83) (bits_ 16 6527) HT_.out (fun K hK => ?_)
                      refine go_s_ Try.func52 #[.int .i64 x9_37] ?_
                      with_reducible refine (q35.calls kj37 x9_37 t267 _ A49.out).mono ?_
                      rintro e w63 ⟨v268, rfl, ho0, hb⟩
                      refine ⟨_, rfl, ?_⟩
                      have n0_ := q66.mk (Kd.R_elder' (ra_ HO263.out) (Kd.R_base ho0) hb)
                      have n1_ := q66.mk (Kd.R_elder' (ra_ HO266.out) (Kd.R_base ho0) hb)
                      have n2_ := q66.mk (Kd.R_lower (Kd.R_new' (Kd.R_new' ho0 (Kd.R_lt (ra_ HO263.out))) (Kd.R_lt (ra_ HO266.out))) (q69 hf_))
                      have n3_ := bb_ BK234 hb
                      have n4_ := bb_ BK259 hb
                      have n5_ := hb_ HB hb
                      clear HO263
                      clear HO266
                      clear BK234
                      clear BK259
                      clear HB
                      have HO263 := n0_
                      have HO266 := n1_
                      have HO269 := n2_
                      have BK234 := n3_
                      have BK259 := n4_
                      have HB := n5_
                      clear n0_ n1_ n2_ n3_ n4_ n5_
                      clear hb ho0
                      obtain ⟨Ao65, co65, eo65⟩ := Kd.R_slice HO269.out
                      (first | subst eo65 | (injection eo65 with f1_ f2_ f3_; have f4_ := f1_.symm; have f5_ := f3_.symm; clear f1_ f2_ f3_; subst f4_; subst f5_))
                      refine hK.out _ _ ⟨(bk0_ BK259 :), (bk1_ BK259 :), (bk2_ BK259 :), (bk3_ BK259 :), (bk4_ BK259 :), (bk5_ BK259 :), (bk6_ BK259 :)⟩ (fun hHeld => ?_)
                      clear hK K
                      refine nz_ (some 83) ?_
                      refine oz_ 7 (some 84) (bits_ 16 6655) HT_.out (fun K hK => ?_)
                      refine Kd.R_append_rows_step (Kd.int .u8) (w0 := w) w.heap.size (by rfl) (.tmp 81) (.tmp 83) 26 5 (.int .u8 0) 1 rfl Try.underlying26 info5 rfl (by decide) (by omega) v265 y264 t267 _ _ _ (fun k_ => some k_ ≠ (.slice Ao62 t261.length co62 : Value).ownBlock ∧ some k_ ≠ (.slice Ao65 t267.length co65 : Value).ownBlock) (fun _ => False) rfl rfl ?aO ?aR (fun _ _ h => h) (fun _ h => h.elim) ?aF ?aB ?aS ?aL ?_
                      (case aR => exact cr_ HO269)
                      (case aB => exact hf_)
                      (case aF => exact (fun k_ hk => ⟨Kd.fresh' (Kd.R_lt (ra_ HO263.out)) k_ hk, Kd.fresh' (Kd.R_lt (ra_ HO269.out)) k_ hk⟩))
                      (case aO => exact (ra_ HO266.out))
                      (case aS => exact (q69 hf_))
                      (case aL => have := LMc50.out; omega)
                      intro v271 w64 ho hb hg hat
                      rw [← Ny270.out] at ho
                      replace BK234 := q66.mk (blk_grown (gx_ BK234) hg (Kd.R_ne HO266.out BK234.out (by decide)))
                      replace BK259 := q66.mk (blk_grown (gx_ BK259) hg (Kd.R_ne HO266.out BK259.out (by decide)))
                      replace HO263 := q66.mk (Kd.R_after (ok := (fun k_ => some k_ ≠ (.slice Ao65 t267.length co65 : Value).ownBlock)) (ra_ (Kd.R_mono HO263.out (fun _ hk => ⟨hk.2, hk.1.2⟩))) hg hat)
                      replace HO269 := q66.mk (Kd.R_after (ok := (fun k_ => some k_ ≠ (.slice Ao62 t261.length co62 : Value).ownBlock)) (ra_ (Kd.R_mono HO269.out (fun _ hk => ⟨hk.1.2, hk.2⟩))) hg hat)
                      replace HB := q66.mk (hb)
                      replace HO272 := q66.mk (ho)
                      clear ho hb hg hat
                      refine hK.out _ _ ⟨(bk0_ BK259 :), (bk1_ BK259 :), (bk2_ BK259 :), (bk3_ BK259 :), (bk4_ BK259 :), (bk5_ BK259 :), (bk6_ BK259 :)⟩ (fun hHeld => ?_)
                      clear hK K
                      refine nz_ (some 84) ?_
                      refine oz_ 9 (some 86) (bits_ 16 7167) HT_.out (fun K hK => ?_)
                      refine go_s_ Try.func52 #[.int .i64 x8_30] ?_
                      with_reducible refine (q35.calls kj37 x8_30 t273 _ A51.out).mono ?_
                      rintro e w66 ⟨v274, rfl, ho0, hb⟩
                      refine ⟨_, rfl, ?_⟩
                      have n0_ := q66.mk (Kd.R_elder' (ra_ HO263.out) (Kd.R_base ho0) hb)
                      have n1_ := q66.mk (Kd.R_elder' (ra_ HO269.out) (Kd.R_base ho0) hb)
                      have n2_ := q66.mk (Kd.R_elder' (ra_ HO272.out) (Kd.R_base ho0) hb)
                      have n3_ := q66.mk (Kd.R_lower (Kd.R_new' (Kd.R_new' (Kd.R_new' ho0 (Kd.R_lt (ra_ HO263.out))) (Kd.R_lt (ra_ HO269.out))) (Kd.R_lt (ra_ HO272.out))) (q69 hf_))
                      have n4_ := bb_ BK234 hb
                      have n5_ := bb_ BK259 hb
                      have n6_ := hb_ HB hb
                      clear HO263
                      clear HO269
                      clear HO272
                      clear BK234
                      clear BK259
                      clear HB
                      have HO263 := n0_
                      have HO269 := n1_
                      have HO272 := n2_
                      have HO275 := n3_
                      have BK234 := n4_
                      have BK259 := n5_
                      have HB := n6_
                      clear n0_ n1_ n2_ n3_ n4_ n5_ n6_
                      clear hb ho0
                      obtain ⟨Ao68, co68, eo68⟩ := Kd.R_slice HO275.out
                      (first | subst eo68 | (injection eo68 with f1_ f2_ f3_; have f4_ := f1_.symm; have f5_ := f3_.symm; clear f1_ f2_ f3_; subst f4_; subst f5_))
                      refine hK.out _ _ ⟨(bk0_ BK259 :), (bk1_ BK259 :), (bk2_ BK259 :), (bk3_ BK259 :), (bk4_ BK259 :), (bk5_ BK259 :), (bk6_ BK259 :)⟩ (fun hHeld => ?_)
                      clear hK K
                      refine nz_ (some 86) ?_
                      refine oz_ 10 (some 87) (bits_ 16 8191) HT_.out (fun K hK => ?_)
                      refine Kd.R_append_rows_step (Kd.int .u8) (w0 := w) w.heap.size (by rfl) (.tmp 84) (.tmp 86) 26 5 (.int .u8 0) 1 rfl Try.underlying26 info5 rfl (by decide) (by omega) v271 y270 t273 _ _ _ (fun k_ => some k_ ≠ (.slice Ao62 t261.length co62 : Value).ownBlock ∧ some k_ ≠ (.slice Ao65 t267.length co65 : Value).ownBlock ∧ some k_ ≠ (.slice Ao68 t273.length co68 : Value).ownBlock) (fun _ => False) rfl rfl ?aO ?aR (fun _ _ h => h) (fun _ h => h.elim) ?aF ?aB ?aS ?aL ?_
                      (case aR => exact cr_ HO275)
                      (case aB => exact hf_)
                      (case aF => exact (fun k_ hk => ⟨Kd.fresh' (Kd.R_lt (ra_ HO263.out)) k_ hk, Kd.fresh' (Kd.R_lt (ra_ HO269.out)) k_ hk, Kd.fresh' (Kd.R_lt (ra_ HO275.out)) k_ hk⟩))
                      (case aO => exact (ra_ (Kd.R_mono HO272.out (fun _ hk => ⟨hk.1.1, ⟨hk.1.2, hk.2⟩⟩))))
                      (case aS => exact (q69 hf_))
                      (case aL => have := LMc52.out; omega)
                      intro v277 w67 ho hb hg hat
                      rw [← Ny276.out] at ho
                      replace BK234 := q66.mk (blk_grown (gx_ BK234) hg (Kd.R_ne HO272.out BK234.out (by decide)))
                      replace BK259 := q66.mk (blk_grown (gx_ BK259) hg (Kd.R_ne HO272.out BK259.out (by decide)))
                      replace HO263 := q66.mk (Kd.R_after (ok := (fun k_ => some k_ ≠ (.slice Ao65 t267.length co65 : Value).ownBlock ∧ some k_ ≠ (.slice Ao68 t273.length co68 : Value).ownBlock)) (ra_ (Kd.R_mono HO263.out (fun _ hk => ⟨⟨hk.1.1, hk.2⟩, hk.1.2⟩))) hg hat)
                      replace HO269 := q66.mk (Kd.R_after (ok := (fun k_ => some k_ ≠ (.slice Ao62 t261.length co62 : Value).ownBlock ∧ some k_ ≠ (.slice Ao68 t273.length co68 : Value).ownBlock)) (ra_ (Kd.R_mono HO269.out (fun _ hk => ⟨⟨hk.1.1, hk.2⟩, hk.1.2⟩))) hg hat)
                      replace HO275 := q66.mk (Kd.R_after (ok := (fun k_ => some k_ ≠ (.slice Ao62 t261.length co62 : Value).ownBlock ∧ some k_ ≠ (.slice Ao65 t267.length co65 : Value).ownBlock)) (ra_ (Kd.R_mono HO275.out (fun _ hk => ⟨⟨hk.1.1.2, hk.1.2⟩, hk.2⟩))) hg hat)
                      replace HB := q66.mk (hb)
                      replace HO278 := q66.mk (ho)
                      clear ho hb hg hat
                      refine hK.out _ _ ⟨(bk0_ BK259 :), (bk1_ BK259 :), (bk2_ BK259 :), (bk3_ BK259 :), (bk4_ BK259 :), (bk5_ BK259 :), (bk6_ BK259 :)⟩ (fun hHeld => ?_)
                      clear hK K
                      refine nz_ (some 87) ?_
                      refine oz_ 13 (some 90) (bits_ 16 16383) HT_.out (fun K hK => ?_)
                      refine go_s_ Try.func52 #[.int .i64 ((q89 l0_1 x6_3).f4)] ?_
                      with_reducible refine (q35.calls kj37 ((q89 l0_1 x6_3).f4) t279 _ A53.out).mono ?_
                      rintro e w69 ⟨v280, rfl, ho0, hb⟩
                      refine ⟨_, rfl, ?_⟩
                      have n0_ := q66.mk (Kd.R_elder' (ra_ HO263.out) (Kd.R_base ho0) hb)
                      have n1_ := q66.mk (Kd.R_elder' (ra_ HO269.out) (Kd.R_base ho0) hb)
                      have n2_ := q66.mk (Kd.R_elder' (ra_ HO275.out) (Kd.R_base ho0) hb)
                      have n3_ := q66.mk (Kd.R_elder' (ra_ HO278.out) (Kd.R_base ho0) hb)
                      have n4_ := q66.mk (Kd.R_lower (Kd.R_new' (Kd.R_new' (Kd.R_new' (Kd.R_new' ho0 (Kd.R_lt (ra_ HO263.out))) (Kd.R_lt (ra_ HO269.out))) (Kd.R_lt (ra_ HO275.out))) (Kd.R_lt (ra_ HO278.out))) (q69 hf_))
                      have n5_ := bb_ BK234 hb
                      have n6_ := bb_ BK259 hb
                      have n7_ := hb_ HB hb
                      clear HO263
                      clear HO269
                      clear HO275
                      clear HO278
                      clear BK234
                      clear BK259
                      clear HB
                      have HO263 := n0_
                      have HO269 := n1_
                      have HO275 := n2_
                      have HO278 := n3_
                      have HO281 := n4_
                      have BK234 := n5_
                      have BK259 := n6_
                      have HB := n7_
                      clear n0_ n1_ n2_ n3_ n4_ n5_ n6_ n7_
                      clear hb ho0
                      obtain ⟨Ao71, co71, eo71⟩ := Kd.R_slice HO281.out
                      (first | subst eo71 | (injection eo71 with f1_ f2_ f3_; have f4_ := f1_.symm; have f5_ := f3_.symm; clear f1_ f2_ f3_; subst f4_; subst f5_))
                      refine hK.out _ _ ⟨(bk0_ BK259 :), (bk1_ BK259 :), (bk2_ BK259 :), (bk3_ BK259 :), (bk4_ BK259 :), (bk5_ BK259 :), (bk6_ BK259 :)⟩ (fun hHeld => ?_)
                      clear hK K
                      refine nz_ (some 90) ?_
                      refine oz_ 14 (some 91) (bits_ 16 32767) HT_.out (fun K hK => ?_)
                      refine Kd.R_append_rows_step (Kd.int .u8) (w0 := w) w.heap.size (by rfl) (.tmp 87) (.tmp 90) 26 5 (.int .u8 0) 1 rfl Try.underlying26 info5 rfl (by decide) (by omega) v277 y276 t279 _ _ _ (fun k_ => some k_ ≠ (.slice Ao62 t261.length co62 : Value).ownBlock ∧ some k_ ≠ (.slice Ao65 t267.length co65 : Value).ownBlock ∧ some k_ ≠ (.slice Ao68 t273.length co68 : Value).ownBlock ∧ some k_ ≠ (.slice Ao71 t279.length co71 : Value).ownBlock) (fun _ => False) rfl rfl ?aO ?aR (fun _ _ h => h) (fun _ h => h.elim) ?aF ?aB ?aS ?aL ?_
                      (case aR => exact cr_ HO281)
                      (case aB => exact hf_)
                      (case aF => exact (fun k_ hk => ⟨Kd.fresh' (Kd.R_lt (ra_ HO263.out)) k_ hk, Kd.fresh' (Kd.R_lt (ra_ HO269.out)) k_ hk, Kd.fresh' (Kd.R_lt (ra_ HO275.out)) k_ hk, Kd.fresh' (Kd.R_lt (ra_ HO281.out)) k_ hk⟩))
                      (case aO => exact (ra_ (Kd.R_mono HO278.out (fun _ hk => ⟨hk.1.1, ⟨hk.1.2.1, ⟨hk.1.2.2, hk.2⟩⟩⟩))))
                      (case aS => exact (q69 hf_))
                      (case aL => have := LMc54.out; omega)
                      intro v283 w70 ho hb hg hat
                      rw [← Ny282.out] at ho
                      replace BK234 := q66.mk (blk_grown (gx_ BK234) hg (Kd.R_ne HO278.out BK234.out (by decide)))
                      replace BK259 := q66.mk (blk_grown (gx_ BK259) hg (Kd.R_ne HO278.out BK259.out (by decide)))
                      replace HO263 := q66.mk (Kd.R_after (ok := (fun k_ => some k_ ≠ (.slice Ao65 t267.length co65 : Value).ownBlock ∧ some k_ ≠ (.slice Ao68 t273.length co68 : Value).ownBlock ∧ some k_ ≠ (.slice Ao71 t279.length co71 : Value).ownBlock)) (ra_ (Kd.R_mono HO263.out (fun _ hk => ⟨⟨hk.1.1.1, ⟨hk.1.1.2, hk.2⟩⟩, hk.1.2⟩))) hg hat)
                      replace HO269 := q66.mk (Kd.R_after (ok := (fun k_ => some k_ ≠ (.slice Ao62 t261.length co62 : Value).ownBlock ∧ some k_ ≠ (.slice Ao68 t273.length co68 : Value).ownBlock ∧ some k_ ≠ (.slice Ao71 t279.length co71 : Value).ownBlock)) (ra_ (Kd.R_mono HO269.out (fun _ hk => ⟨⟨hk.1.1.1, ⟨hk.1.1.2, hk.2⟩⟩, hk.1.2⟩))) hg hat)
                      replace HO275 := q66.mk (Kd.R_after (ok := (fun k_ => some k_ ≠ (.slice Ao62 t261.length co62 : Value).ownBlock ∧ some k_ ≠ (.slice Ao65 t267.length co65 : Value).ownBlock ∧ some k_ ≠ (.slice Ao71 t279.length co71 : Value).ownBlock)) (ra_ (Kd.R_mono HO275.out (fun _ hk => ⟨⟨hk.1.1.1, ⟨hk.1.1.2, hk.2⟩⟩, hk.1.2⟩))) hg hat)
                      replace HO281 := q66.mk (Kd.R_after (ok := (fun k_ => some k_ ≠ (.slice Ao62 t261.length co62 : Value).ownBlock ∧ some k_ ≠ (.slice Ao65 t267.length co65 : Value).ownBlock ∧ some k_ ≠ (.slice Ao68 t273.length co68 : Value).ownBlock)) (ra_ (Kd.R_mono HO281.out (fun _ hk => ⟨⟨hk.1.1.1.2, ⟨hk.1.1.2, hk.1.2⟩⟩, hk.2⟩))) hg hat)
                      replace HB := q66.mk (hb)
                      replace HO284 := q66.mk (ho)
                      clear ho hb hg hat
                      refine hK.out _ _ ⟨(bk0_ BK259 :), (bk1_ BK259 :), (bk2_ BK259 :), (bk3_ BK259 :), (bk4_ BK259 :), (bk5_ BK259 :), (bk6_ BK259 :)⟩ (fun hHeld => ?_)
                      clear hK K
                      refine nz_ (some 91) ?_
                      refine pz_ 15 (some 3) (bits_ 16 65535) HT_.out ?_
                      refine done_ (done_of HT_.out (by kernel_rfl)) ?_
                      try go_wp2
                      replace HO263 := q66.mk (Kd.R_drew HO263.out)
                      replace HO269 := q66.mk (Kd.R_drew HO269.out)
                      replace HO275 := q66.mk (Kd.R_drew HO275.out)
                      replace HO281 := q66.mk (Kd.R_drew HO281.out)
                      replace HO284 := q66.mk (Kd.R_drew HO284.out)
                      replace BK234 := q66.mk (q74 BK234.out)
                      replace BK259 := q66.mk (q74 BK259.out)
                      replace HB := q66.mk (q68 HB.out)
                      refine start_ (n := 12) (S := fun w' => w'.cell? ⟨gb234, 0, none⟩ = some (.slice A0_0 l0_0.length c0_0) ∧ w'.cell? ⟨gb234, 1, none⟩ = some (.slice (some ad258) l0_1.length c0_1) ∧ w'.cell? ⟨gb259, 0, none⟩ = some (.string ((q89 l0_1 x6_3).f0)) ∧ w'.cell? ⟨gb259, 1, none⟩ = some (.int .i64 ((q89 l0_1 x6_3).f1)) ∧ w'.cell? ⟨gb259, 2, none⟩ = some (.string ((q89 l0_1 x6_3).f2)) ∧ w'.cell? ⟨gb259, 3, none⟩ = some (.bool ((q89 l0_1 x6_3).f3)) ∧ w'.cell? ⟨gb259, 4, none⟩ = some (.int .i64 ((q89 l0_1 x6_3).f4)) ∧ w'.cell? ⟨gb259, 5, none⟩ = some (.slice A258_5 ((q89 l0_1 x6_3).f5).length c258_5) ∧ w'.cell? ⟨gb259, 6, none⟩ = some (.slice A258_6 ((q89 l0_1 x6_3).f6).length c258_6)) (ds := []) (bits_ 12 0) (by kernel_rfl) rfl rfl ⟨(bk0_ BK234 :), (bk1_ BK234 :), (bk0_ BK259 :), (bk1_ BK259 :), (bk2_ BK259 :), (bk3_ BK259 :), (bk4_ BK259 :), (bk5_ BK259 :), (bk6_ BK259 :)⟩ (fun hHeld => ?_); refine with_tabW q26.tab22 q26.bits22 (fun HT_ HW_ => ?_)
                      generalize w70.drew = w72 at HO263 HO269 HO275 HO281 HO284 BK234 BK259 HB hHeld ⊢
                      refine pz_ 0 (some 92) (bits_ 12 1) HT_.out ?_
                      refine pz_ 2 (some 94) (bits_ 12 5) HT_.out ?_
                      refine pz_ 7 (some 99) (bits_ 12 133) HT_.out ?_
                      refine tz_ 1 (some 93) (bits_ 12 135) HT_.out HW_.out hHeld ?_ (hy := by rintro w' ⟨s0, s1, s2, s3, s4, s5, s6, s7, s8⟩; go_simp; with_reducible rfl)
                      refine tz_ 3 (some 95) (bits_ 12 143) HT_.out HW_.out hHeld ?_ (hy := by rintro w' ⟨s0, s1, s2, s3, s4, s5, s6, s7, s8⟩; go_simp; with_reducible rfl)
                      refine tz_ 6 (some 98) (bits_ 12 207) HT_.out HW_.out hHeld ?_ (hy := by rintro w' ⟨s0, s1, s2, s3, s4, s5, s6, s7, s8⟩; go_simp; with_reducible rfl)
                      refine tz_ 8 (some 100) (bits_ 12 463) HT_.out HW_.out hHeld ?_ (hy := by rintro w' ⟨s0, s1, s2, s3, s4, s5, s6, s7, s8⟩; go_simp; with_reducible rfl)
                      refine oz_ 4 (some 96) (bits_ 12 479) HT_.out (fun K hK => ?_)
                      refine go_s_ Try.func55 #[.agg #[.slice A0_0 l0_0.length c0_0, .slice (some ad258) l0_1.length c0_1], .slice A258_5 ((q89 l0_1 x6_3).f5).length c258_5] ?_
                      with_reducible refine (q14.calls kj37 _ _ l0_0 _ _ l0_1 _ _ ((q89 l0_1 x6_3).f5) t285 _ ?side1 ?side2 ?side3 ?side4 ?side5 ?side6 A55.out).mono ?_
                      (case side1 => exact kc_ HR0_0 HB)
                      (case side2 => exact HC0_0.out)
                      (case side3 => exact kc_ HR0_1 HB)
                      (case side4 => exact HC0_1.out)
                      (case side5 => exact kc_ HR258_5 HB)
                      (case side6 => exact HC258_5.out)
                      rintro e w73 ⟨v286, rfl, ho0, hb⟩
                      refine ⟨_, rfl, ?_⟩
                      have n0_ := q66.mk (Kd.R_elder' (ra_ HO263.out) (Kd.R_base ho0) hb)
                      have n1_ := q66.mk (Kd.R_elder' (ra_ HO269.out) (Kd.R_base ho0) hb)
                      have n2_ := q66.mk (Kd.R_elder' (ra_ HO275.out) (Kd.R_base ho0) hb)
                      have n3_ := q66.mk (Kd.R_elder' (ra_ HO281.out) (Kd.R_base ho0) hb)
                      have n4_ := q66.mk (Kd.R_elder' (ra_ HO284.out) (Kd.R_base ho0) hb)
                      have n5_ := q66.mk (Kd.R_lower (Kd.R_new' (Kd.R_new' (Kd.R_new' (Kd.R_new' (Kd.R_new' ho0 (Kd.R_lt (ra_ HO263.out))) (Kd.R_lt (ra_ HO269.out))) (Kd.R_lt (ra_ HO275.out))) (Kd.R_lt (ra_ HO281.out))) (Kd.R_lt (ra_ HO284.out))) (q69 hf_))
                      have n6_ := bb_ BK234 hb
                      have n7_ := bb_ BK259 hb
                      have n8_ := hb_ HB hb
                      clear HO263
                      clear HO269
                      clear HO275
                      clear HO281
                      clear HO284
                      clear BK234
                      clear BK259
                      clear HB
                      have HO263 := n0_
                      have HO269 := n1_
                      have HO275 := n2_
                      have HO281 := n3_
                      have HO284 := n4_
                      have HO287 := n5_
                      have BK234 := n6_
                      have BK259 := n7_
                      have HB := n8_
                      clear n0_ n1_ n2_ n3_ n4_ n5_ n6_ n7_ n8_
                      clear hb ho0
                      obtain ⟨Ao75, co75, eo75⟩ := Kd.R_slice HO287.out
                      (first | subst eo75 | (injection eo75 with f1_ f2_ f3_; have f4_ := f1_.symm; have f5_ := f3_.symm; clear f1_ f2_ f3_; subst f4_; subst f5_))
                      refine hK.out _ _ ⟨(bk0_ BK234 :), (bk1_ BK234 :), (bk0_ BK259 :), (bk1_ BK259 :), (bk2_ BK259 :), (bk3_ BK259 :), (bk4_ BK259 :), (bk5_ BK259 :), (bk6_ BK259 :)⟩ (fun hHeld => ?_)
                      clear hK K
                      refine nz_ (some 96) ?_
                      refine oz_ 5 (some 97) (bits_ 12 511) HT_.out (fun K hK => ?_)
                      refine Kd.R_append_rows_step (Kd.int .u8) (w0 := w) w.heap.size (by rfl) (.tmp 92) (.tmp 96) 26 5 (.int .u8 0) 1 rfl Try.underlying26 info5 rfl (by decide) (by omega) v283 y282 t285 _ _ _ (fun k_ => some k_ ≠ (.slice Ao62 t261.length co62 : Value).ownBlock ∧ some k_ ≠ (.slice Ao65 t267.length co65 : Value).ownBlock ∧ some k_ ≠ (.slice Ao68 t273.length co68 : Value).ownBlock ∧ some k_ ≠ (.slice Ao71 t279.length co71 : Value).ownBlock ∧ some k_ ≠ (.slice Ao75 t285.length co75 : Value).ownBlock) (fun _ => False) rfl rfl ?aO ?aR (fun _ _ h => h) (fun _ h => h.elim) ?aF ?aB ?aS ?aL ?_
                      (case aR => exact cr_ HO287)
                      (case aB => exact hf_)
                      (case aF => exact (fun k_ hk => ⟨Kd.fresh' (Kd.R_lt (ra_ HO263.out)) k_ hk, Kd.fresh' (Kd.R_lt (ra_ HO269.out)) k_ hk, Kd.fresh' (Kd.R_lt (ra_ HO275.out)) k_ hk, Kd.fresh' (Kd.R_lt (ra_ HO281.out)) k_ hk, Kd.fresh' (Kd.R_lt (ra_ HO287.out)) k_ hk⟩))
                      (case aO => exact (ra_ (Kd.R_mono HO284.out (fun _ hk => ⟨hk.1.1, ⟨hk.1.2.1, ⟨hk.1.2.2.1, ⟨hk.1.2.2.2, hk.2⟩⟩⟩⟩))))
                      (case aS => exact (q69 hf_))
                      (case aL => have := LMc56.out; omega)
                      intro v289 w74 ho hb hg hat
                      rw [← Ny288.out] at ho
                      replace BK234 := q66.mk (blk_grown (gx_ BK234) hg (Kd.R_ne HO284.out BK234.out (by decide)))
                      replace BK259 := q66.mk (blk_grown (gx_ BK259) hg (Kd.R_ne HO284.out BK259.out (by decide)))
                      replace HO263 := q66.mk (Kd.R_after (ok := (fun k_ => some k_ ≠ (.slice Ao65 t267.length co65 : Value).ownBlock ∧ some k_ ≠ (.slice Ao68 t273.length co68 : Value).ownBlock ∧ some k_ ≠ (.slice Ao71 t279.length co71 : Value).ownBlock ∧ some k_ ≠ (.slice Ao75 t285.length co75 : Value).ownBlock)) (ra_ (Kd.R_mono HO263.out (fun _ hk => ⟨⟨hk.1.1.1, ⟨hk.1.1.2.1, ⟨hk.1.1.2.2, hk.2⟩⟩⟩, hk.1.2⟩))) hg hat)
                      replace HO269 := q66.mk (Kd.R_after (ok := (fun k_ => some k_ ≠ (.slice Ao62 t261.length co62 : Value).ownBlock ∧ some k_ ≠ (.slice Ao68 t273.length co68 : Value).ownBlock ∧ some k_ ≠ (.slice Ao71 t279.length co71 : Value).ownBlock ∧ some k_ ≠ (.slice Ao75 t285.length co75 : Value).ownBlock)) (ra_ (Kd.R_mono HO269.out (fun _ hk => ⟨⟨hk.1.1.1, ⟨hk.1.1.2.1, ⟨hk.1.1.2.2, hk.2⟩⟩⟩, hk.1.2⟩))) hg hat)
                      replace HO275 := q66.mk (Kd.R_after (ok := (fun k_ => some k_ ≠ (.slice Ao62 t261.length co62 : Value).ownBlock ∧ some k_ ≠ (.slice Ao65 t267.length co65 : Value).ownBlock ∧ some k_ ≠ (.slice Ao71 t279.length co71 : Value).ownBlock ∧ some k_ ≠ (.slice Ao75 t285.length co75 : Value).ownBlock)) (ra_ (Kd.R_mono HO275.out (fun _ hk => ⟨⟨hk.1.1.1, ⟨hk.1.1.2.1, ⟨hk.1.1.2.2, hk.2⟩⟩⟩, hk.1.2⟩))) hg hat)
                      replace HO281 := q66.mk (Kd.R_after (ok := (fun k_ => some k_ ≠ (.slice Ao62 t261.length co62 : Value).ownBlock ∧ some k_ ≠ (.slice Ao65 t267.length co65 : Value).ownBlock ∧ some k_ ≠ (.slice Ao68 t273.length co68 : Value).ownBlock ∧ some k_ ≠ (.slice Ao75 t285.length co75 : Value).ownBlock)) (ra_ (Kd.R_mono HO281.out (fun _ hk => ⟨⟨hk.1.1.1, ⟨hk.1.1.2.1, ⟨hk.1.1.2.2, hk.2⟩⟩⟩, hk.1.2⟩))) hg hat)
                      replace HO287 := q66.mk (Kd.R_after (ok := (fun k_ => some k_ ≠ (.slice Ao62 t261.length co62 : Value).ownBlock ∧ some k_ ≠ (.slice Ao65 t267.length co65 : Value).ownBlock ∧ some k_ ≠ (.slice Ao68 t273.length co68 : Value).ownBlock ∧ some k_ ≠ (.slice Ao71 t279.length co71 : Value).ownBlock)) (ra_ (Kd.R_mono HO287.out (fun _ hk => ⟨⟨hk.1.1.1.1.2, ⟨hk.1.1.1.2, ⟨hk.1.1.2, hk.1.2⟩⟩⟩, hk.2⟩))) hg hat)
                      replace HB := q66.mk (hb)
                      replace HO290 := q66.mk (ho)
                      clear ho hb hg hat
                      refine hK.out _ _ ⟨(bk0_ BK234 :), (bk1_ BK234 :), (bk0_ BK259 :), (bk1_ BK259 :), (bk2_ BK259 :), (bk3_ BK259 :), (bk4_ BK259 :), (bk5_ BK259 :), (bk6_ BK259 :)⟩ (fun hHeld => ?_)
                      clear hK K
                      refine nz_ (some 97) ?_
                      refine oz_ 9 (some 101) (bits_ 12 1023) HT_.out (fun K hK => ?_)
                      refine go_s_ Try.func55 #[.agg #[.slice A0_0 l0_0.length c0_0, .slice (some ad258) l0_1.length c0_1], .slice A258_6 ((q89 l0_1 x6_3).f6).length c258_6] ?_
                      with_reducible refine (q14.calls kj37 _ _ l0_0 _ _ l0_1 _ _ ((q89 l0_1 x6_3).f6) t291 _ ?side1 ?side2 ?side3 ?side4 ?side5 ?side6 A57.out).mono ?_
                      (case side1 => exact kc_ HR0_0 HB)
                      (case side2 => exact HC0_0.out)
                      (case side3 => exact kc_ HR0_1 HB)
                      (case side4 => exact HC0_1.out)
                      (case side5 => exact kc_ HR258_6 HB)
                      (case side6 => exact HC258_6.out)
                      rintro e w76 ⟨v292, rfl, ho0, hb⟩
                      refine ⟨_, rfl, ?_⟩
                      have n0_ := q66.mk (Kd.R_elder' (ra_ HO263.out) (Kd.R_base ho0) hb)
                      have n1_ := q66.mk (Kd.R_elder' (ra_ HO269.out) (Kd.R_base ho0) hb)
                      have n2_ := q66.mk (Kd.R_elder' (ra_ HO275.out) (Kd.R_base ho0) hb)
                      have n3_ := q66.mk (Kd.R_elder' (ra_ HO281.out) (Kd.R_base ho0) hb)
                      have n4_ := q66.mk (Kd.R_elder' (ra_ HO287.out) (Kd.R_base ho0) hb)
                      have n5_ := q66.mk (Kd.R_elder' (ra_ HO290.out) (Kd.R_base ho0) hb)
                      have n6_ := q66.mk (Kd.R_lower (Kd.R_new' (Kd.R_new' (Kd.R_new' (Kd.R_new' (Kd.R_new' (Kd.R_new' ho0 (Kd.R_lt (ra_ HO263.out))) (Kd.R_lt (ra_ HO269.out))) (Kd.R_lt (ra_ HO275.out))) (Kd.R_lt (ra_ HO281.out))) (Kd.R_lt (ra_ HO287.out))) (Kd.R_lt (ra_ HO290.out))) (q69 hf_))
                      have n7_ := bb_ BK234 hb
                      have n8_ := bb_ BK259 hb
                      have n9_ := hb_ HB hb
                      clear HO263
                      clear HO269
                      clear HO275
                      clear HO281
                      clear HO287
                      clear HO290
                      clear BK234
                      clear BK259
                      clear HB
                      have HO263 := n0_
                      have HO269 := n1_
                      have HO275 := n2_
                      have HO281 := n3_
                      have HO287 := n4_
                      have HO290 := n5_
                      have HO293 := n6_
                      have BK234 := n7_
                      have BK259 := n8_
                      have HB := n9_
                      clear n0_ n1_ n2_ n3_ n4_ n5_ n6_ n7_ n8_ n9_
                      clear hb ho0
                      obtain ⟨Ao78, co78, eo78⟩ := Kd.R_slice HO293.out
                      (first | subst eo78 | (injection eo78 with f1_ f2_ f3_; have f4_ := f1_.symm; have f5_ := f3_.symm; clear f1_ f2_ f3_; subst f4_; subst f5_))
                      refine hK.out _ _ ⟨(bk0_ BK234 :), (bk1_ BK234 :), (bk0_ BK259 :), (bk1_ BK259 :), (bk2_ BK259 :), (bk3_ BK259 :), (bk4_ BK259 :), (bk5_ BK259 :), (bk6_ BK259 :)⟩ (fun hHeld => ?_)
                      clear hK K
                      refine nz_ (some 101) ?_
                      refine oz_ 10 (some 102) (bits_ 12 2047) HT_.out (fun K hK => ?_)
                      refine Kd.R_append_rows_step (Kd.int .u8) (w0 := w) w.heap.size (by rfl) (.tmp 97) (.tmp 101) 26 5 (.int .u8 0) 1 rfl Try.underlying26 info5 rfl (by decide) (by omega) v289 y288 t291 _ _ _ (fun k_ => some k_ ≠ (.slice Ao62 t261.length co62 : Value).ownBlock ∧ some k_ ≠ (.slice Ao65 t267.length co65 : Value).ownBlock ∧ some k_ ≠ (.slice Ao68 t273.length co68 : Value).ownBlock ∧ some k_ ≠ (.slice Ao71 t279.length co71 : Value).ownBlock ∧ some k_ ≠ (.slice Ao75 t285.length co75 : Value).ownBlock ∧ some k_ ≠ (.slice Ao78 t291.length co78 : Value).ownBlock) (fun _ => False) rfl rfl ?aO ?aR (fun _ _ h => h) (fun _ h => h.elim) ?aF ?aB ?aS ?aL ?_
                      (case aR => exact cr_ HO293)
                      (case aB => exact hf_)
                      (case aF => exact (fun k_ hk => ⟨Kd.fresh' (Kd.R_lt (ra_ HO263.out)) k_ hk, Kd.fresh' (Kd.R_lt (ra_ HO269.out)) k_ hk, Kd.fresh' (Kd.R_lt (ra_ HO275.out)) k_ hk, Kd.fresh' (Kd.R_lt (ra_ HO281.out)) k_ hk, Kd.fresh' (Kd.R_lt (ra_ HO287.out)) k_ hk, Kd.fresh' (Kd.R_lt (ra_ HO293.out)) k_ hk⟩))
                      (case aO => exact (ra_ (Kd.R_mono HO290.out (fun _ hk => ⟨hk.1.1, ⟨hk.1.2.1, ⟨hk.1.2.2.1, ⟨hk.1.2.2.2.1, ⟨hk.1.2.2.2.2, hk.2⟩⟩⟩⟩⟩))))
                      (case aS => exact (q69 hf_))
                      (case aL => have := LMc58.out; omega)
                      intro v295 w77 ho hb hg hat
                      rw [← Ny294.out] at ho
                      replace BK234 := q66.mk (blk_grown (gx_ BK234) hg (Kd.R_ne HO290.out BK234.out (by decide)))
                      replace BK259 := q66.mk (blk_grown (gx_ BK259) hg (Kd.R_ne HO290.out BK259.out (by decide)))
                      replace HO263 := q66.mk (Kd.R_after (ok := (fun k_ => some k_ ≠ (.slice Ao65 t267.length co65 : Value).ownBlock ∧ some k_ ≠ (.slice Ao68 t273.length co68 : Value).ownBlock ∧ some k_ ≠ (.slice Ao71 t279.length co71 : Value).ownBlock ∧ some k_ ≠ (.slice Ao75 t285.length co75 : Value).ownBlock ∧ some k_ ≠ (.slice Ao78 t291.length co78 : Value).ownBlock)) (ra_ (Kd.R_mono HO263.out (fun _ hk => ⟨⟨hk.1.1.1, ⟨hk.1.1.2.1, ⟨hk.1.1.2.2.1, ⟨hk.1.1.2.2.2, hk.2⟩⟩⟩⟩, hk.1.2⟩))) hg hat)
                      replace HO269 := q66.mk (Kd.R_after (ok := (fun k_ => some k_ ≠ (.slice Ao62 t261.length co62 : Value).ownBlock ∧ some k_ ≠ (.slice Ao68 t273.length co68 : Value).ownBlock ∧ some k_ ≠ (.slice Ao71 t279.length co71 : Value).ownBlock ∧ some k_ ≠ (.slice Ao75 t285.length co75 : Value).ownBlock ∧ some k_ ≠ (.slice Ao78 t291.length co78 : Value).ownBlock)) (ra_ (Kd.R_mono HO269.out (fun _ hk => ⟨⟨hk.1.1.1, ⟨hk.1.1.2.1, ⟨hk.1.1.2.2.1, ⟨hk.1.1.2.2.2, hk.2⟩⟩⟩⟩, hk.1.2⟩))) hg hat)
                      replace HO275 := q66.mk (Kd.R_after (ok := (fun k_ => some k_ ≠ (.slice Ao62 t261.length co62 : Value).ownBlock ∧ some k_ ≠ (.slice Ao65 t267.length co65 : Value).ownBlock ∧ some k_ ≠ (.slice Ao71 t279.length co71 : Value).ownBlock ∧ some k_ ≠ (.slice Ao75 t285.length co75 : Value).ownBlock ∧ some k_ ≠ (.slice Ao78 t291.length co78 : Value).ownBlock)) (ra_ (Kd.R_mono HO275.out (fun _ hk => ⟨⟨hk.1.1.1, ⟨hk.1.1.2.1, ⟨hk.1.1.2.2.1, ⟨hk.1.1.2.2.2, hk.2⟩⟩⟩⟩, hk.1.2⟩))) hg hat)
                      replace HO281 := q66.mk (Kd.R_after (ok := (fun k_ => some k_ ≠ (.slice Ao62 t261.length co62 : Value).ownBlock ∧ some k_ ≠ (.slice Ao65 t267.length co65 : Value).ownBlock ∧ some k_ ≠ (.slice Ao68 t273.length co68 : Value).ownBlock ∧ some k_ ≠ (.slice Ao75 t285.length co75 : Value).ownBlock ∧ some k_ ≠ (.slice Ao78 t291.length co78 : Value).ownBlock)) (ra_ (Kd.R_mono HO281.out (fun _ hk => ⟨⟨hk.1.1.1, ⟨hk.1.1.2.1, ⟨hk.1.1.2.2.1, ⟨hk.1.1.2.2.2, hk.2⟩⟩⟩⟩, hk.1.2⟩))) hg hat)
                      replace HO287 := q66.mk (Kd.R_after (ok := (fun k_ => some k_ ≠ (.slice Ao62 t261.length co62 : Value).ownBlock ∧ some k_ ≠ (.slice Ao65 t267.length co65 : Value).ownBlock ∧ some k_ ≠ (.slice Ao68 t273.length co68 : Value).ownBlock ∧ some k_ ≠ (.slice Ao71 t279.length co71 : Value).ownBlock ∧ some k_ ≠ (.slice Ao78 t291.length co78 : Value).ownBlock)) (ra_ (Kd.R_mono HO287.out (fun _ hk => ⟨⟨hk.1.1.1, ⟨hk.1.1.2.1, ⟨hk.1.1.2.2.1, ⟨hk.1.1.2.2.2, hk.2⟩⟩⟩⟩, hk.1.2⟩))) hg hat)
                      replace HO293 := q66.mk (Kd.R_after (ok := (fun k_ => some k_ ≠ (.slice Ao62 t261.length co62 : Value).ownBlock ∧ some k_ ≠ (.slice Ao65 t267.length co65 : Value).ownBlock ∧ some k_ ≠ (.slice Ao68 t273.length co68 : Value).ownBlock ∧ some k_ ≠ (.slice Ao71 t279.length co71 : Value).ownBlock ∧ some k_ ≠ (.slice Ao75 t285.length co75 : Value).ownBlock)) (ra_ (Kd.R_mono HO293.out (fun _ hk => ⟨⟨hk.1.1.1.1.1.2, ⟨hk.1.1.1.1.2, ⟨hk.1.1.1.2, ⟨hk.1.1.2, hk.1.2⟩⟩⟩⟩, hk.2⟩))) hg hat)
                      replace HB := q66.mk (hb)
                      replace HO296 := q66.mk (ho)
                      clear ho hb hg hat
                      refine hK.out _ _ ⟨(bk0_ BK234 :), (bk1_ BK234 :), (bk0_ BK259 :), (bk1_ BK259 :), (bk2_ BK259 :), (bk3_ BK259 :), (bk4_ BK259 :), (bk5_ BK259 :), (bk6_ BK259 :)⟩ (fun hHeld => ?_)
                      clear hK K
                      refine nz_ (some 102) ?_
                      refine pz_ 11 (some 3) (bits_ 12 4095) HT_.out ?_
                      refine done_ (done_of HT_.out (by kernel_rfl)) ?_
                      try go_wp2
                      go_roundg kj37
                      case measure => have := HK1.out; have := HK2.out; have := HK3.out; have := HJ30.out; have := HJ37.out; omega
                      case rel => exact ⟨(y294), (wrap64 (x6_3 + 1)), rf_, H', ⟨by have := HK1.out; have := HK2.out; have := HK3.out; have := HJ30.out; have := HJ37.out; omega⟩, ⟨ra_ (Kd.R_mono HO296.out (fun _ hk => trivial))⟩, ⟨gx_ BK234⟩, ⟨hf_⟩⟩
                     ·rw [if_neg c58] at H
                      exact absurd H (by simp)
                    ·rw [if_neg c56] at H
                     exact absurd H (by simp)
                   ·rw [if_neg c54] at H
                    exact absurd H (by simp)
                  ·rw [if_neg c52] at H
                   exact absurd H (by simp)
                 ·rw [if_neg c50] at H
                  exact absurd H (by simp)
                ·rw [if_neg c48] at H
                 exact absurd H (by simp)
           ·rw [if_neg c30] at H
            exact absurd H (by simp)
          ·rw [if_neg c29] at H
           have c29b0 := decide_eq_false c29
           clear c29
           obtain rfl := Option.some.inj H
           obtain ⟨hcz79_0, hcz79_1, hfz79_0, hfz79_1⟩ := bs2_ BK234
           go_wp2
           go_ret
           exact ⟨_, by first | rfl | (simp [errW_none, errW_some] <;> rfl) | (simp [*, errW_none, errW_some] <;> rfl), by (with_reducible repeat (first | apply Kd.R_alloc | apply Kd.R_drewN | apply Kd.R_drew)); exact HO_3.out, by repeat (first | (with_reducible first | exact HB.out | apply q67 | apply q86 | apply q68 | refine below_set ?_ GE234.out) | exact HB.out)⟩
       ·rw [if_neg c24] at H
        exact absurd H (by simp)
def q36.l0 : Nat → List Int → Int → Int → Int → Option (Int)
 | 0, _, _, _, _ => none
 | k + 1, x0, x3, x4, x5 => if x5 < (x0.length : Int) then (if 0 ≤ x5 then (q36.l0 k x0 (((x3 + ((rd x0 x5) % 4294967296)) % 4294967296) % 65521) (((x4 + (((x3 + ((rd x0 x5) % 4294967296)) % 4294967296) % 65521)) % 4294967296) % 65521) (wrap64 (x5 + 1))) else (none)) else (some (Go.bits .or .u32 ((x4 * 65536) % 4294967296) x3))
def q36.f (k : Nat) (l0 : List Int) : Option (Int) := q36.l0 k l0 1 0 0
theorem q36.mono_l : ∀ k, (∀ y0 y1 y2 y3, LeO (q36.l0 k y0 y1 y2 y3) (q36.l0 (k + 1) y0 y1 y2 y3))
 | 0 => fun _ _ _ _ r h => by simp [q36.l0] at h
 | k + 1 => by
  have ih0 := q36.mono_l k
  ·intro y0 y1 y2 y3
   unfold q36.l0
   repeat' first
   | (with_reducible exact ih0 _ _ _ _)
   | (with_reducible exact LeO.refl _)
   | (with_reducible exact LeO.none _)
   | (with_reducible refine LeO.ite ?_ ?_)
   | (with_reducible refine LeO.bind ?_ (fun _ => ?_))
   | exact ih0 _ _ _ _
   | exact LeO.none _
   | refine LeO.ite ?_ ?_
   | refine LeO.bind ?_ (fun _ => ?_)
theorem q36.mono : ∀ a0 k, LeO (q36.f k a0) (q36.f (k + 1) a0) := by
 intro a0 k
 have ih0 := q36.mono_l k
 unfold q36.f
 repeat' first
  | (with_reducible exact ih0 _ _ _ _)
  | (with_reducible exact LeO.refl _)
  | (with_reducible exact LeO.none _)
  | (with_reducible refine LeO.ite ?_ ?_)
  | (with_reducible refine LeO.bind ?_ (fun _ => ?_))
  | exact ih0 _ _ _ _
  | exact LeO.none _
  | refine LeO.ite ?_ ?_
  | refine LeO.bind ?_ (fun _ => ?_)
set_option maxHeartbeats 8000000 in
set_option maxRecDepth 100000 in
theorem q36.calls (k : Nat) (A0 : Option Addr) (c0 : Nat) (l0 : List Int) (r : Int) (w : World) (hr0 : Kd.C (Kd.int .u8) w A0 l0.length l0) (hc0 : l0.length ≤ c0) (h : q36.f k l0 = some r) :
 Calls Try.prog 17 #[.slice A0 l0.length c0] w fun e w' => e = .returned (.int .u32 r) ∧ Drawn0 w w' := by
 have HR0 := q66.mk hr0
 have HC0 := q66.mk hc0
 clear hr0 hc0
 have H : (q36.l0 k l0 1 0 0) = some r := h
 clear h
 have H' := q66.mk H
 clear H
 go_enter Try.func17, Try.ntmps17
 go_wp2
 go_loopg [3, 4, 5] k (fun kq v3 v4 v5 w' => ∃ (x3_1 : Int) (x4_1 : Int) (x5_1 : Int), v3 = .int .u32 x3_1 ∧ v4 = .int .u32 x4_1 ∧ v5 = .int .i64 x5_1 ∧ q66 (q36.l0 kq l0 x3_1 x4_1 x5_1 = some r) ∧ q66 (kq ≤ k) ∧ Drawn0 w w')
 case atStart => exact ⟨(1), (0), (0), rf_, rf_, rf_, H', ⟨Nat.le_refl _⟩, by repeat (first | exact Drawn0.refl _ | apply Drawn0.step)⟩
 case round =>
  clear H'
  try clear c1
  obtain ⟨x3_1, x4_1, x5_1, rfl, rfl, rfl, HA, HK1, ⟨m1, rfl⟩⟩ := hrel
  cases gk with
  | zero => exact absurd HA.out (by simp [q36.l0])
  | succ k1 =>
   have H := HA.out
   clear HA
   simp only [q36.l0] at H
   by_cases c2 : x5_1 < (l0.length : Int)
   ·rw [if_pos c2] at H
    replace c2 := decide_eq_true c2
    by_cases c3 : 0 ≤ x5_1
    ·rw [if_pos c3] at H
     replace c3 := decide_eq_true c3
     have H' := q66.mk H
     clear H
     obtain ⟨ad155, e155, hx155_0, p155, q155⟩ := au_int HR0 ⟨Below.refl _ _⟩ (x5_1)
     cases e155
     go_wp2
     go_roundg k1
     case measure => have := HK1.out; omega
     case rel => exact ⟨(((x3_1 + ((rd l0 x5_1) % 4294967296)) % 4294967296) % 65521), (((x4_1 + (((x3_1 + ((rd l0 x5_1) % 4294967296)) % 4294967296) % 65521)) % 4294967296) % 65521), (wrap64 (x5_1 + 1)), rf_, rf_, rf_, H', ⟨by have := HK1.out; omega⟩, by repeat (first | exact Drawn0.refl _ | apply Drawn0.step)⟩
    ·rw [if_neg c3] at H
     exact absurd H (by simp)
   ·rw [if_neg c2] at H
    replace c2 := decide_eq_false c2
    obtain rfl := Option.some.inj H
    go_wp2
    go_ret
    exact ⟨by first | rfl | (simp; done) | (simp [*]; done), by repeat (first | exact Drawn0.refl _ | apply Drawn0.step)⟩
end Go.Proofs.Ytaiglhfmmdajdaa.Pm
end
section
namespace Go.Proofs.Ytaiglhfmmdajdaa.Pm
open Go.RowKit Go.Proofs.YtaiglhfmmdajdaaW.PrintWords Go.Proofs.YtaiglhfmmdajdaaW.PrintLast Go.Proofs.YtaiglhfmmdajdaaW.PrintMore
attribute [local go_sem] max2_int min2_int max_two min_two max_three min_three max_four min_four   -- for this text's walks alone
set_option linter.unusedVariables false
set_option linter.unusedSimpArgs false
attribute [local go_sem high] eqA103
def q59.l0 : Nat → List (S103) → Int → Int → ByteArray → Int → Option (Int)
 | 0, _, _, _, _, _ => none
 | k + 1, x0, x7, x8, x332000, x332001 => if x8 < x7 then (if 0 ≤ x8 then (if x8 < (x0.length : Int) then (if (x332000.toList == (((q87 x0 x8).f0).toList) && (x332001 == ((q87 x0 x8).f1))) = true then (some x8) else (q59.l0 k x0 x7 (wrap64 (x8 + 1)) x332000 x332001)) else (none)) else (none)) else (some (-1))
def q59.f (k : Nat) (l0 : List (S103)) (a1_0 : ByteArray) (a1_1 : Int) : Option (Int) := q59.l0 k l0 (l0.length : Int) 0 a1_0 a1_1
theorem q59.mono_l : ∀ k, (∀ y0 y1 y2 y3 y4, LeO (q59.l0 k y0 y1 y2 y3 y4) (q59.l0 (k + 1) y0 y1 y2 y3 y4))
 | 0 => fun _ _ _ _ _ r h => by simp [q59.l0] at h
 | k + 1 => by
  have ih0 := q59.mono_l k
  ·intro y0 y1 y2 y3 y4
   unfold q59.l0
   repeat' first
   | (with_reducible exact ih0 _ _ _ _ _)
   | (with_reducible exact LeO.refl _)
   | (with_reducible exact LeO.none _)
   | (with_reducible refine LeO.ite ?_ ?_)
   | (with_reducible refine LeO.bind ?_ (fun _ => ?_))
   | exact ih0 _ _ _ _ _
   | exact LeO.none _
   | refine LeO.ite ?_ ?_
   | refine LeO.bind ?_ (fun _ => ?_)
theorem q59.mono : ∀ a0 a1 a2 k, LeO (q59.f k a0 a1 a2) (q59.f (k + 1) a0 a1 a2) := by
 intro a0 a1 a2 k
 have ih0 := q59.mono_l k
 unfold q59.f
 repeat' first
  | (with_reducible exact ih0 _ _ _ _ _)
  | (with_reducible exact LeO.refl _)
  | (with_reducible exact LeO.none _)
  | (with_reducible refine LeO.ite ?_ ?_)
  | (with_reducible refine LeO.bind ?_ (fun _ => ?_))
  | exact ih0 _ _ _ _ _
  | exact LeO.none _
  | refine LeO.ite ?_ ?_
  | refine LeO.bind ?_ (fun _ => ?_)
set_option maxHeartbeats 8000000 in
set_option maxRecDepth 100000 in
theorem q59.calls (k : Nat) (A0 : Option Addr) (c0 : Nat) (l0 : List (S103)) (a1_0 : ByteArray) (a1_1 : Int) (r : Int) (w : World) (hr0 : Kd.C k103 w A0 l0.length l0) (hc0 : l0.length ≤ c0) (h : q59.f k l0 a1_0 a1_1 = some r) :
 Calls Try.prog 94 #[.slice A0 l0.length c0, .agg #[.string a1_0, .int .i64 a1_1]] w fun e w' => e = .returned (.int .i64 r) ∧ Below w.heap.size w w' := by
 have hu103 := Try.underlying103
 have HR0 := q66.mk hr0
 have HC0 := q66.mk hc0
 clear hr0 hc0
 have HB := q66.mk (Below.refl w.heap.size w)
 have H : (q59.l0 k l0 (l0.length : Int) 0 a1_0 a1_1) = some r := h
 clear h
 have H' := q66.mk H
 clear H
 go_enter Try.func94, Try.ntmps94
 go_wp2_with (first | ((with_reducible refine q81 (N := 3) rfl ?_); refine bx_ 3 #[.string a1_0, .int .i64 a1_1] 103 ?_; intro gb331 hg w3 hbox hb; have BK331 := q66.mk (hbox); have GW331 := zz_ (w := w) hg; have GE331 := zz_ (w := w) hg; replace HB := hb_ HB hb;  clear hb hbox hg))
 repeat (go_quiet (first | ((with_reducible refine q81 (N := 3) rfl ?_); refine bx_ 3 #[.string a1_0, .int .i64 a1_1] 103 ?_; intro gb331 hg w3 hbox hb; have BK331 := q66.mk (hbox); have GW331 := zz_ (w := w) hg; have GE331 := zz_ (w := w) hg; replace HB := hb_ HB hb;  clear hb hbox hg)); try go_wp2_with (first | ((with_reducible refine q81 (N := 3) rfl ?_); refine bx_ 3 #[.string a1_0, .int .i64 a1_1] 103 ?_; intro gb331 hg w3 hbox hb; have BK331 := q66.mk (hbox); have GW331 := zz_ (w := w) hg; have GE331 := zz_ (w := w) hg; replace HB := hb_ HB hb;  clear hb hbox hg)))
 go_loopg [8] k (fun kq v8 w' => ∃ (x8_1 : Int), v8 = .int .i64 x8_1 ∧ q66 (q59.l0 kq l0 (l0.length : Int) x8_1 a1_0 a1_1 = some r) ∧ q66 (kq ≤ k) ∧ q66 (w'.heap[gb331]? = some (.cells #[.string a1_0, .int .i64 a1_1] 103 (0, 0))) ∧ q66 (Below w.heap.size w w'))
 case atStart => exact ⟨(0), rf_, H', ⟨Nat.le_refl _⟩, ⟨gx_ BK331⟩, ⟨hf_⟩⟩
 case round =>
  clear H'
  try clear p2
  obtain ⟨x8_1, rfl, HA, HK1, BK331, HB⟩ := hrel
  cases gk with
  | zero => exact absurd HA.out (by simp [q59.l0])
  | succ k1 =>
   have H := HA.out
   clear HA
   simp only [q59.l0] at H
   by_cases c4 : x8_1 < (l0.length : Int)
   ·rw [if_pos c4] at H
    replace c4 := decide_eq_true c4
    by_cases c5 : 0 ≤ x8_1
    ·rw [if_pos c5] at H
     replace c5 := decide_eq_true c5
     by_cases c6 : x8_1 < (l0.length : Int)
     ·rw [if_pos c6] at H
      replace c6 := decide_eq_true c6
      by_cases c7 : (a1_0.toList == (((q87 l0 x8_1).f0).toList) && (a1_1 == ((q87 l0 x8_1).f1))) = true
      ·rw [if_pos c7] at H
       have c7b0 : (a1_0.toList == (((q87 l0 x8_1).f0).toList) && (a1_1 == ((q87 l0 x8_1).f1))) = true := c7
       (try (have c7b1 : decide (a1_0.toList = (((q87 l0 x8_1).f0).toList) && (a1_1 == ((q87 l0 x8_1).f1))) = true := by simpa using c7))
       (try (have c7b2 : (a1_0.toList == (((q87 l0 x8_1).f0).toList) && (a1_1 == ((q87 l0 x8_1).f1))) = true := by simpa using c7))
       clear c7
       obtain rfl := Option.some.inj H
       obtain ⟨hcz8_0, hcz8_1, hfz8_0, hfz8_1⟩ := bs2_ BK331
       obtain ⟨ad332, e332, hx332_0, hx332_1, p332, q332⟩ := au_T103 HR0 HB (x8_1)
       cases e332
       go_wp2
       repeat (go_quiet (fail); try go_wp2)
       go_ret
       exact ⟨er_, hf_⟩
      ·rw [if_neg c7] at H
       have c7b0 : (a1_0.toList == (((q87 l0 x8_1).f0).toList) && (a1_1 == ((q87 l0 x8_1).f1))) = false := by simpa using c7
       (try (have c7b1 : decide (a1_0.toList = (((q87 l0 x8_1).f0).toList) && (a1_1 == ((q87 l0 x8_1).f1))) = false := by simpa using c7))
       (try (have c7b2 : (a1_0.toList == (((q87 l0 x8_1).f0).toList) && (a1_1 == ((q87 l0 x8_1).f1))) = false := by simpa using c7))
       (try (have c7b3 : ¬ (a1_0.toList = (((q87 l0 x8_1).f0).toList) && (a1_1 == ((q87 l0 x8_1).f1))) := by simpa using c7))
       clear c7
       have H' := q66.mk H
       clear H
       obtain ⟨hcz9_0, hcz9_1, hfz9_0, hfz9_1⟩ := bs2_ BK331
       obtain ⟨ad332, e332, hx332_0, hx332_1, p332, q332⟩ := au_T103 HR0 HB (x8_1)
       cases e332
       go_wp2
       repeat (go_quiet (fail); try go_wp2)
       go_roundg k1
       case measure => have := HK1.out; omega
       case rel => exact ⟨(wrap64 (x8_1 + 1)), rf_, H', ⟨by have := HK1.out; omega⟩, ⟨gx_ BK331⟩, ⟨hf_⟩⟩
     ·rw [if_neg c6] at H
      exact absurd H (by simp)
    ·rw [if_neg c5] at H
     exact absurd H (by simp)
   ·rw [if_neg c4] at H
    replace c4 := decide_eq_false c4
    obtain rfl := Option.some.inj H
    go_wp2
    repeat (go_quiet (fail); try go_wp2)
    go_ret
    exact ⟨er_, hf_⟩
end Go.Proofs.Ytaiglhfmmdajdaa.Pm
end
section
namespace Go.Proofs.Ytaiglhfmmdajdaa.Pm
open Go.RowKit Go.Proofs.YtaiglhfmmdajdaaW.PrintWords Go.Proofs.YtaiglhfmmdajdaaW.PrintLast Go.Proofs.YtaiglhfmmdajdaaW.PrintMore
attribute [local go_sem] max2_int min2_int max_two min_two max_three min_three max_four min_four   -- for this text's walks alone
set_option linter.unusedVariables false
set_option linter.unusedSimpArgs false
def q55.f (k : Nat) (l0 : List (S103)) (a1_0 : ByteArray) (a1_1 : Int) : Option (Bool) := (q59.f k l0 a1_0 a1_1).bind fun t334 => (some (decide (t334 ≥ 0)))
theorem q55.mono : ∀ a0 a1 a2 k, LeO (q55.f k a0 a1 a2) (q55.f (k + 1) a0 a1 a2) := by
 intro a0 a1 a2 k
 unfold q55.f
 repeat' first
  | (with_reducible exact q59.mono _ _ _ _)
  | (with_reducible exact LeO.refl _)
  | (with_reducible exact LeO.none _)
  | (with_reducible refine LeO.ite ?_ ?_)
  | (with_reducible refine LeO.bind ?_ (fun _ => ?_))
  | exact q59.mono _ _ _ _
  | exact LeO.none _
  | refine LeO.ite ?_ ?_
  | refine LeO.bind ?_ (fun _ => ?_)
set_option maxHeartbeats 8000000 in
set_option maxRecDepth 100000 in
theorem q55.calls (k : Nat) (A0 : Option Addr) (c0 : Nat) (l0 : List (S103)) (a1_0 : ByteArray) (a1_1 : Int) (r : Bool) (w : World) (hr0 : Kd.C k103 w A0 l0.length l0) (hc0 : l0.length ≤ c0) (h : q55.f k l0 a1_0 a1_1 = some r) :
 Calls Try.prog 89 #[.slice A0 l0.length c0, .agg #[.string a1_0, .int .i64 a1_1]] w fun e w' => e = .returned (.bool r) ∧ Below w.heap.size w w' := by
 have hu103 := Try.underlying103
 have HR0 := q66.mk hr0
 have HC0 := q66.mk hc0
 clear hr0 hc0
 have HB := q66.mk (Below.refl w.heap.size w)
 have H : ((q59.f k l0 a1_0 a1_1).bind fun t334 => (some (decide (t334 ≥ 0)))) = some r := h
 clear h
 replace H := Option.bind_eq_some_iff.mp H
 obtain ⟨t334, A30, H⟩ := H
 have A3 := q66.mk A30
 clear A30
 obtain rfl := Option.some.inj H
 go_enter Try.func89, Try.ntmps89
 go_wp2_with (first | ((with_reducible refine q81 (N := 3) rfl ?_); refine bx_ 3 #[.string a1_0, .int .i64 a1_1] 103 ?_; intro gb333 hg w4 hbox hb; have BK333 := q66.mk (hbox); have GW333 := zz_ (w := w) hg; have GE333 := zz_ (w := w) hg; replace HB := hb_ HB hb;  clear hb hbox hg; obtain ⟨hcz5_0, hcz5_1, hfz5_0, hfz5_1⟩ := bs2_ BK333) | ((with_reducible refine q80 (f := 94) rfl ?_); refine gl_ (some 7) Try.func94 #[.slice A0 l0.length c0, .agg #[.string a1_0, .int .i64 a1_1]] ?_; (with_reducible refine (q59.calls k _ _ l0 a1_0 a1_1 t334 _ ?side1 ?side2 A3.out).mono ?_); (case side1 => exact kc_ HR0 HB); (case side2 => exact HC0.out); rintro e w6 ⟨rfl, hb⟩; refine ⟨_, rfl, ?_⟩; replace BK333 := bb_ BK333 hb; replace HB := hb_ HB hb;  (try clear hb)))
 go_ret
 exact ⟨er_, hf_⟩
def q7.l0 : Nat → List ByteArray → ByteArray → Int → Int → Option (Int)
 | 0, _, _, _, _ => none
 | k + 1, x0, x1, x7, x8 => if x8 < x7 then (if 0 ≤ x8 then (if x8 < (x0.length : Int) then (if x1.toList = (rdOf ByteArray.empty x0 x8).toList then (some x8) else (q7.l0 k x0 x1 x7 (wrap64 (x8 + 1)))) else (none)) else (none)) else (some (-1))
def q7.f (k : Nat) (l0 : List ByteArray) (a1 : ByteArray) : Option (Int) := q7.l0 k l0 a1 (l0.length : Int) 0
theorem q7.mono_l : ∀ k, (∀ y0 y1 y2 y3, LeO (q7.l0 k y0 y1 y2 y3) (q7.l0 (k + 1) y0 y1 y2 y3))
 | 0 => fun _ _ _ _ r h => by simp [q7.l0] at h
 | k + 1 => by
  have ih0 := q7.mono_l k
  ·intro y0 y1 y2 y3
   unfold q7.l0
   repeat' first
   | (with_reducible exact ih0 _ _ _ _)
   | (with_reducible exact LeO.refl _)
   | (with_reducible exact LeO.none _)
   | (with_reducible refine LeO.ite ?_ ?_)
   | (with_reducible refine LeO.bind ?_ (fun _ => ?_))
   | exact ih0 _ _ _ _
   | exact LeO.none _
   | refine LeO.ite ?_ ?_
   | refine LeO.bind ?_ (fun _ => ?_)
theorem q7.mono : ∀ a0 a1 k, LeO (q7.f k a0 a1) (q7.f (k + 1) a0 a1) := by
 intro a0 a1 k
 have ih0 := q7.mono_l k
 unfold q7.f
 repeat' first
  | (with_reducible exact ih0 _ _ _ _)
  | (with_reducible exact LeO.refl _)
  | (with_reducible exact LeO.none _)
  | (with_reducible refine LeO.ite ?_ ?_)
  | (with_reducible refine LeO.bind ?_ (fun _ => ?_))
  | exact ih0 _ _ _ _
  | exact LeO.none _
  | refine LeO.ite ?_ ?_
  | refine LeO.bind ?_ (fun _ => ?_)
set_option maxHeartbeats 8000000 in
set_option maxRecDepth 100000 in
theorem q7.calls (k : Nat) (A0 : Option Addr) (c0 : Nat) (l0 : List ByteArray) (a1 : ByteArray) (r : Int) (w : World) (hr0 : Kd.C Kd.string w A0 l0.length l0) (hc0 : l0.length ≤ c0) (h : q7.f k l0 a1 = some r) :
 Calls Try.prog 69 #[.slice A0 l0.length c0, .string a1] w fun e w' => e = .returned (.int .i64 r) ∧ Drawn0 w w' := by
 have HR0 := q66.mk hr0
 have HC0 := q66.mk hc0
 clear hr0 hc0
 have H : (q7.l0 k l0 a1 (l0.length : Int) 0) = some r := h
 clear h
 have H' := q66.mk H
 clear H
 go_enter Try.func69, Try.ntmps69
 go_wp2
 go_loopg [8] k (fun kq v8 w' => ∃ (x8_1 : Int), v8 = .int .i64 x8_1 ∧ q66 (q7.l0 kq l0 a1 (l0.length : Int) x8_1 = some r) ∧ q66 (kq ≤ k) ∧ Drawn0 w w')
 case atStart => exact ⟨(0), rf_, H', ⟨Nat.le_refl _⟩, by repeat (first | exact Drawn0.refl _ | apply Drawn0.step)⟩
 case round =>
  clear H'
  try clear p2
  obtain ⟨x8_1, rfl, HA, HK1, ⟨m1, rfl⟩⟩ := hrel
  cases gk with
  | zero => exact absurd HA.out (by simp [q7.l0])
  | succ k1 =>
   have H := HA.out
   clear HA
   simp only [q7.l0] at H
   by_cases c3 : x8_1 < (l0.length : Int)
   ·rw [if_pos c3] at H
    replace c3 := decide_eq_true c3
    by_cases c4 : 0 ≤ x8_1
    ·rw [if_pos c4] at H
     replace c4 := decide_eq_true c4
     by_cases c5 : x8_1 < (l0.length : Int)
     ·rw [if_pos c5] at H
      replace c5 := decide_eq_true c5
      by_cases c6 : a1.toList = (rdOf ByteArray.empty l0 x8_1).toList
      ·rw [if_pos c6] at H
       have c6b0 : (a1.toList == (rdOf ByteArray.empty l0 x8_1).toList) = true := beq_iff_eq.mpr c6
       have c6b1 : (a1.toList != (rdOf ByteArray.empty l0 x8_1).toList) = false := bne_eq_false_iff_eq.mpr c6
       clear c6
       obtain rfl := Option.some.inj H
       obtain ⟨ad313, e313, hx313_0, p313, q313⟩ := au_string HR0 ⟨Below.refl _ _⟩ (x8_1)
       cases e313
       go_wp2
       go_ret
       exact ⟨by first | rfl | (simp; done) | (simp [*]; done), by repeat (first | exact Drawn0.refl _ | apply Drawn0.step)⟩
      ·rw [if_neg c6] at H
       have c6b0 : (a1.toList == (rdOf ByteArray.empty l0 x8_1).toList) = false := beq_eq_false_iff_ne.mpr c6
       have c6b1 : (a1.toList != (rdOf ByteArray.empty l0 x8_1).toList) = true := bne_iff_ne.mpr c6
       have H' := q66.mk H
       clear H
       obtain ⟨ad313, e313, hx313_0, p313, q313⟩ := au_string HR0 ⟨Below.refl _ _⟩ (x8_1)
       cases e313
       go_wp2
       go_roundg k1
       case measure => have := HK1.out; omega
       case rel => exact ⟨(wrap64 (x8_1 + 1)), rf_, H', ⟨by have := HK1.out; omega⟩, by repeat (first | exact Drawn0.refl _ | apply Drawn0.step)⟩
     ·rw [if_neg c5] at H
      exact absurd H (by simp)
    ·rw [if_neg c4] at H
     exact absurd H (by simp)
   ·rw [if_neg c3] at H
    replace c3 := decide_eq_false c3
    obtain rfl := Option.some.inj H
    go_wp2
    go_ret
    exact ⟨by first | rfl | (simp; done) | (simp [*]; done), by repeat (first | exact Drawn0.refl _ | apply Drawn0.step)⟩
def q5.f (k : Nat) (l0 : List ByteArray) (a1 : ByteArray) : Option (Bool) := (q7.f k l0 a1).bind fun t314 => (some (decide (t314 ≥ 0)))
theorem q5.mono : ∀ a0 a1 k, LeO (q5.f k a0 a1) (q5.f (k + 1) a0 a1) := by
 intro a0 a1 k
 unfold q5.f
 repeat' first
  | (with_reducible exact q7.mono _ _ _)
  | (with_reducible exact LeO.refl _)
  | (with_reducible exact LeO.none _)
  | (with_reducible refine LeO.ite ?_ ?_)
  | (with_reducible refine LeO.bind ?_ (fun _ => ?_))
  | exact q7.mono _ _ _
  | exact LeO.none _
  | refine LeO.ite ?_ ?_
  | refine LeO.bind ?_ (fun _ => ?_)
set_option maxHeartbeats 8000000 in
set_option maxRecDepth 100000 in
theorem q5.calls (k : Nat) (A0 : Option Addr) (c0 : Nat) (l0 : List ByteArray) (a1 : ByteArray) (r : Bool) (w : World) (hr0 : Kd.C Kd.string w A0 l0.length l0) (hc0 : l0.length ≤ c0) (h : q5.f k l0 a1 = some r) :
 Calls Try.prog 68 #[.slice A0 l0.length c0, .string a1] w fun e w' => e = .returned (.bool r) ∧ Drawn0 w w' := by
 have HR0 := q66.mk hr0
 have HC0 := q66.mk hc0
 clear hr0 hc0
 have H : ((q7.f k l0 a1).bind fun t314 => (some (decide (t314 ≥ 0)))) = some r := h
 clear h
 replace H := Option.bind_eq_some_iff.mp H
 obtain ⟨t314, A30, H⟩ := H
 have A3 := q66.mk A30
 clear A30
 obtain rfl := Option.some.inj H
 go_enter Try.func68, Try.ntmps68
 go_wp2_with (first | ((with_reducible refine q80 (f := 69) rfl ?_); refine gl_ (some 7) Try.func69 #[.slice A0 l0.length c0, .string a1] ?_; (with_reducible refine (q7.calls k _ _ l0 a1 t314 _ ?side1 ?side2 A3.out).mono ?_); (case side1 => repeat (first | exact HR0.out | (with_reducible refine Kd.C_alloc ?_ _) | (with_reducible refine Kd.C_drewN ?_ _) | (with_reducible refine Kd.C_drew ?_))); (case side2 => exact HC0.out); rintro e w' ⟨rfl, ⟨nd, rfl⟩⟩; refine ⟨_, rfl, ?_⟩))
 go_ret
 exact ⟨by first | rfl | (simp; done) | (simp [*]; done), by repeat (first | exact Drawn0.refl _ | apply Drawn0.step)⟩
def q49.f (k : Nat) (l0_0 : List ByteArray) (l0_1 : List (S48)) (a1_0 : ByteArray) (a1_1 : ByteArray) (a1_2 : Int) : Option (Bool) := (q5.f k (([(⟨#[60]⟩ : ByteArray), (⟨#[60, 61]⟩ : ByteArray), (⟨#[61]⟩ : ByteArray), (⟨#[33, 61]⟩ : ByteArray), (⟨#[62, 61]⟩ : ByteArray), (⟨#[62]⟩ : ByteArray)] : List ByteArray)) a1_1).bind fun t320 => (if t320 = true then ((q5.f k l0_0 a1_0).bind fun t321 => (if t321 = true then (if a1_2 ≥ (-1000000) then (some (decide (a1_2 ≤ 1000000))) else (some false)) else (some false))) else (some false))
theorem q49.mono : ∀ a0 a1 a2 a3 a4 k, LeO (q49.f k a0 a1 a2 a3 a4) (q49.f (k + 1) a0 a1 a2 a3 a4) := by
 intro a0 a1 a2 a3 a4 k
 unfold q49.f
 repeat' first
  | (with_reducible exact q5.mono _ _ _)
  | (with_reducible exact LeO.refl _)
  | (with_reducible exact LeO.none _)
  | (with_reducible refine LeO.ite ?_ ?_)
  | (with_reducible refine LeO.bind ?_ (fun _ => ?_))
  | exact q5.mono _ _ _
  | exact LeO.none _
  | refine LeO.ite ?_ ?_
  | refine LeO.bind ?_ (fun _ => ?_)
set_option maxHeartbeats 8000000 in
set_option maxRecDepth 100000 in
theorem q49.calls (k : Nat) (A0_0 : Option Addr) (c0_0 : Nat) (l0_0 : List ByteArray) (A0_1 : Option Addr) (c0_1 : Nat) (l0_1 : List (S48)) (a1_0 : ByteArray) (a1_1 : ByteArray) (a1_2 : Int) (r : Bool) (w : World) (hr0_0 : Kd.C Kd.string w A0_0 l0_0.length l0_0) (hc0_0 : l0_0.length ≤ c0_0) (hr0_1 : Kd.C k48 w A0_1 l0_1.length l0_1) (hc0_1 : l0_1.length ≤ c0_1) (h : q49.f k l0_0 l0_1 a1_0 a1_1 a1_2 = some r) :
 Calls Try.prog 92 #[.agg #[.slice A0_0 l0_0.length c0_0, .slice A0_1 l0_1.length c0_1], .agg #[.string a1_0, .string a1_1, .int .i64 a1_2]] w fun e w' => e = .returned (.bool r) ∧ Below w.heap.size w w' := by
 have hu25 := Try.underlying25
 have hu50 := Try.underlying50
 have HR0_0 := q66.mk hr0_0
 have HC0_0 := q66.mk hc0_0
 clear hr0_0 hc0_0
 have HR0_1 := q66.mk hr0_1
 have HC0_1 := q66.mk hc0_1
 clear hr0_1 hc0_1
 have HB := q66.mk (Below.refl w.heap.size w)
 unfold q49.f at h
 have H := h
 clear h
 obtain ⟨y317, hy317⟩ : ∃ y_ : List ByteArray, y_ = (([(⟨#[60]⟩ : ByteArray), (⟨#[60, 61]⟩ : ByteArray), (⟨#[61]⟩ : ByteArray), (⟨#[33, 61]⟩ : ByteArray), (⟨#[62, 61]⟩ : ByteArray), (⟨#[62]⟩ : ByteArray)] : List ByteArray)) := ⟨_, rfl⟩
 rw [← hy317] at H
 have Ny317 := q66.mk hy317
 clear hy317
 replace H := Option.bind_eq_some_iff.mp H
 obtain ⟨t320, A30, H⟩ := H
 have A3 := q66.mk A30
 clear A30
 by_cases c4 : t320 = true
 ·subst c4
  have H1 : ((q5.f k l0_0 a1_0).bind fun t321 => (if t321 = true then (if a1_2 ≥ (-1000000) then (some (decide (a1_2 ≤ 1000000))) else (some false)) else (some false))) = some r := by rw [if_pos rfl] at H; exact H
  clear H
  have H := H1
  clear H1
  replace H := Option.bind_eq_some_iff.mp H
  obtain ⟨t321, A50, H⟩ := H
  have A5 := q66.mk A50
  clear A50
  by_cases c6 : t321 = true
  ·subst c6
   have H1 : (if a1_2 ≥ (-1000000) then (some (decide (a1_2 ≤ 1000000))) else (some false)) = some r := by rw [if_pos rfl] at H; exact H
   clear H
   have H := H1
   clear H1
   by_cases c7 : a1_2 ≥ (-1000000)
   ·rw [if_pos c7] at H
    replace c7 := decide_eq_true c7
    obtain rfl := Option.some.inj H
    go_enter Try.func92, Try.ntmps92
    go_wp2_with (first | ((with_reducible refine q81 (N := 2) rfl ?_); refine bx_ 2 #[.slice A0_0 l0_0.length c0_0, .slice A0_1 l0_1.length c0_1] 25 ?_; intro gb315 hg w8 hbox hb; have BK315 := q66.mk (hbox); have GW315 := zz_ (w := w) hg; have GE315 := zz_ (w := w) hg; replace HB := hb_ HB hb;  clear hb hbox hg) | ((with_reducible refine q81 (N := 3) rfl ?_); refine bx_ 3 #[.string a1_0, .string a1_1, .int .i64 a1_2] 50 ?_; intro gb316 hg w9 hbox hb; have BK316 := q66.mk (hbox); have GW316 := zz_ (w := w) hg; have GE316 := zz_ (w := w) hg; replace HB := hb_ HB hb; have NB315_316 := ne1_ hg BK315; have NB316_315 := ne2_ hg BK315; replace BK315 := bb_ BK315 hb;  clear hb hbox hg) | ((with_reducible refine q81 (N := 6) rfl ?_); refine Kd.R_lit Kd.string _ 9 ?hg (N := 6) ?hd (xs := ([(⟨#[60]⟩ : ByteArray), (⟨#[60, 61]⟩ : ByteArray), (⟨#[61]⟩ : ByteArray), (⟨#[33, 61]⟩ : ByteArray), (⟨#[62, 61]⟩ : ByteArray), (⟨#[62]⟩ : ByteArray)] : List ByteArray)) (inner := [.string (⟨#[60]⟩ : ByteArray), .string (⟨#[60, 61]⟩ : ByteArray), .string (⟨#[61]⟩ : ByteArray), .string (⟨#[33, 61]⟩ : ByteArray), .string (⟨#[62, 61]⟩ : ByteArray), .string (⟨#[62]⟩ : ByteArray)]) (ok := fun _ => True) (okp := fun _ => True) ?hr ?hp (fun _ hk => hk) trivial (Below.refl _ _) (Nat.le_refl _) (by simp) ?_; (case hd => rfl); (case hg => rfl); (case hr => first | (go_simp; done) | (go_simp; rfl)); (case hp => exact (Reps.one (show Kd.M Kd.string _ _ _ (⟨#[60]⟩ : ByteArray) [.string (⟨#[60]⟩ : ByteArray)] from rfl) (Reps.one (show Kd.M Kd.string _ _ _ (⟨#[60, 61]⟩ : ByteArray) [.string (⟨#[60, 61]⟩ : ByteArray)] from rfl) (Reps.one (show Kd.M Kd.string _ _ _ (⟨#[61]⟩ : ByteArray) [.string (⟨#[61]⟩ : ByteArray)] from rfl) (Reps.one (show Kd.M Kd.string _ _ _ (⟨#[33, 61]⟩ : ByteArray) [.string (⟨#[33, 61]⟩ : ByteArray)] from rfl) (Reps.one (show Kd.M Kd.string _ _ _ (⟨#[62, 61]⟩ : ByteArray) [.string (⟨#[62, 61]⟩ : ByteArray)] from rfl) (Reps.one (show Kd.M Kd.string _ _ _ (⟨#[62]⟩ : ByteArray) [.string (⟨#[62]⟩ : ByteArray)] from rfl) (Reps.none _ _)))))))); intro v318 w10 ho11 hb hg_ hnew_; clear hg_ hnew_; (first | rw [← Ny317.out] at ho11 | (simp only [Int.reduceToNat] at ho11; rw [← Ny317.out] at ho11)); have HO319 := q66.mk (Kd.R_lower ho11 (q69 hf_)); replace BK315 := bb_ BK315 hb; replace BK316 := bb_ BK316 hb; replace HB := hb_ HB hb;  clear hb ho11; have hnb12 := NB316_315.out; have hnc12 := NB315_316.out; obtain ⟨hcz13_0, hcz13_1, hcz13_2, hfz13_0, hfz13_1, hfz13_2⟩ := bs3_ BK316; obtain ⟨Ao14, co14, eo14⟩ := Kd.R_slice HO319.out; subst eo14) | ((with_reducible refine q80 (f := 68) rfl ?_); refine gl_ (some 9) Try.func68 #[.slice Ao14 y317.length co14, .string a1_1] ?_; (with_reducible refine (q5.calls k _ _ y317 a1_1 true _ ?side1 ?side2 A3.out).mono ?_); (case side1 => repeat (first | exact (Kd.R_reads' HO319.out).2.2 | (with_reducible refine Kd.C_alloc ?_ _) | (with_reducible refine Kd.C_drewN ?_ _) | (with_reducible refine Kd.C_drew ?_))); (case side2 => exact (Kd.R_reads' HO319.out).2.1); rintro e w' ⟨rfl, ⟨nd, rfl⟩⟩; refine ⟨_, rfl, ?_⟩; obtain ⟨hcz15_0, hcz15_1, hfz15_0, hfz15_1⟩ := bs2_ BK315) | (go_at_call 68; (with_reducible refine (q5.calls k _ _ l0_0 a1_0 true _ ?side1 ?side2 A5.out).mono ?_); (case side1 => repeat (first | exact (Kd.C_below HR0_0.out hf_) | (with_reducible refine Kd.C_alloc ?_ _) | (with_reducible refine Kd.C_drewN ?_ _) | (with_reducible refine Kd.C_drew ?_))); (case side2 => exact HC0_0.out); rintro e w' ⟨rfl, ⟨nd, rfl⟩⟩))
    go_ret
    exact ⟨er_, hf_⟩
   ·rw [if_neg c7] at H
    replace c7 := decide_eq_false c7
    obtain rfl := Option.some.inj H
    go_enter Try.func92, Try.ntmps92
    go_wp2_with (first | ((with_reducible refine q81 (N := 2) rfl ?_); refine bx_ 2 #[.slice A0_0 l0_0.length c0_0, .slice A0_1 l0_1.length c0_1] 25 ?_; intro gb315 hg w16 hbox hb; have BK315 := q66.mk (hbox); have GW315 := zz_ (w := w) hg; have GE315 := zz_ (w := w) hg; replace HB := hb_ HB hb;  clear hb hbox hg) | ((with_reducible refine q81 (N := 3) rfl ?_); refine bx_ 3 #[.string a1_0, .string a1_1, .int .i64 a1_2] 50 ?_; intro gb316 hg w17 hbox hb; have BK316 := q66.mk (hbox); have GW316 := zz_ (w := w) hg; have GE316 := zz_ (w := w) hg; replace HB := hb_ HB hb; have NB315_316 := ne1_ hg BK315; have NB316_315 := ne2_ hg BK315; replace BK315 := bb_ BK315 hb;  clear hb hbox hg) | ((with_reducible refine q81 (N := 6) rfl ?_); refine Kd.R_lit Kd.string _ 9 ?hg (N := 6) ?hd (xs := ([(⟨#[60]⟩ : ByteArray), (⟨#[60, 61]⟩ : ByteArray), (⟨#[61]⟩ : ByteArray), (⟨#[33, 61]⟩ : ByteArray), (⟨#[62, 61]⟩ : ByteArray), (⟨#[62]⟩ : ByteArray)] : List ByteArray)) (inner := [.string (⟨#[60]⟩ : ByteArray), .string (⟨#[60, 61]⟩ : ByteArray), .string (⟨#[61]⟩ : ByteArray), .string (⟨#[33, 61]⟩ : ByteArray), .string (⟨#[62, 61]⟩ : ByteArray), .string (⟨#[62]⟩ : ByteArray)]) (ok := fun _ => True) (okp := fun _ => True) ?hr ?hp (fun _ hk => hk) trivial (Below.refl _ _) (Nat.le_refl _) (by simp) ?_; (case hd => rfl); (case hg => rfl); (case hr => first | (go_simp; done) | (go_simp; rfl)); (case hp => exact (Reps.one (show Kd.M Kd.string _ _ _ (⟨#[60]⟩ : ByteArray) [.string (⟨#[60]⟩ : ByteArray)] from rfl) (Reps.one (show Kd.M Kd.string _ _ _ (⟨#[60, 61]⟩ : ByteArray) [.string (⟨#[60, 61]⟩ : ByteArray)] from rfl) (Reps.one (show Kd.M Kd.string _ _ _ (⟨#[61]⟩ : ByteArray) [.string (⟨#[61]⟩ : ByteArray)] from rfl) (Reps.one (show Kd.M Kd.string _ _ _ (⟨#[33, 61]⟩ : ByteArray) [.string (⟨#[33, 61]⟩ : ByteArray)] from rfl) (Reps.one (show Kd.M Kd.string _ _ _ (⟨#[62, 61]⟩ : ByteArray) [.string (⟨#[62, 61]⟩ : ByteArray)] from rfl) (Reps.one (show Kd.M Kd.string _ _ _ (⟨#[62]⟩ : ByteArray) [.string (⟨#[62]⟩ : ByteArray)] from rfl) (Reps.none _ _)))))))); intro v318 w18 ho19 hb hg_ hnew_; clear hg_ hnew_; (first | rw [← Ny317.out] at ho19 | (simp only [Int.reduceToNat] at ho19; rw [← Ny317.out] at ho19)); have HO319 := q66.mk (Kd.R_lower ho19 (q69 hf_)); replace BK315 := bb_ BK315 hb; replace BK316 := bb_ BK316 hb; replace HB := hb_ HB hb;  clear hb ho19; have hnb20 := NB316_315.out; have hnc20 := NB315_316.out; obtain ⟨hcz21_0, hcz21_1, hcz21_2, hfz21_0, hfz21_1, hfz21_2⟩ := bs3_ BK316; obtain ⟨Ao22, co22, eo22⟩ := Kd.R_slice HO319.out; subst eo22) | ((with_reducible refine q80 (f := 68) rfl ?_); refine gl_ (some 9) Try.func68 #[.slice Ao22 y317.length co22, .string a1_1] ?_; (with_reducible refine (q5.calls k _ _ y317 a1_1 true _ ?side1 ?side2 A3.out).mono ?_); (case side1 => repeat (first | exact (Kd.R_reads' HO319.out).2.2 | (with_reducible refine Kd.C_alloc ?_ _) | (with_reducible refine Kd.C_drewN ?_ _) | (with_reducible refine Kd.C_drew ?_))); (case side2 => exact (Kd.R_reads' HO319.out).2.1); rintro e w' ⟨rfl, ⟨nd, rfl⟩⟩; refine ⟨_, rfl, ?_⟩; obtain ⟨hcz23_0, hcz23_1, hfz23_0, hfz23_1⟩ := bs2_ BK315) | (go_at_call 68; (with_reducible refine (q5.calls k _ _ l0_0 a1_0 true _ ?side1 ?side2 A5.out).mono ?_); (case side1 => repeat (first | exact (Kd.C_below HR0_0.out hf_) | (with_reducible refine Kd.C_alloc ?_ _) | (with_reducible refine Kd.C_drewN ?_ _) | (with_reducible refine Kd.C_drew ?_))); (case side2 => exact HC0_0.out); rintro e w' ⟨rfl, ⟨nd, rfl⟩⟩))
    go_ret
    exact ⟨er_, hf_⟩
  ·replace c6 := Bool.eq_false_iff.mpr c6
   subst c6
   have H1 : (some false) = some r := by rw [if_neg (show ¬ (false = true) by decide)] at H; exact H
   clear H
   have H := H1
   clear H1
   obtain rfl := Option.some.inj H
   go_enter Try.func92, Try.ntmps92
   go_wp2_with (first | ((with_reducible refine q81 (N := 2) rfl ?_); refine bx_ 2 #[.slice A0_0 l0_0.length c0_0, .slice A0_1 l0_1.length c0_1] 25 ?_; intro gb315 hg w24 hbox hb; have BK315 := q66.mk (hbox); have GW315 := zz_ (w := w) hg; have GE315 := zz_ (w := w) hg; replace HB := hb_ HB hb;  clear hb hbox hg) | ((with_reducible refine q81 (N := 3) rfl ?_); refine bx_ 3 #[.string a1_0, .string a1_1, .int .i64 a1_2] 50 ?_; intro gb316 hg w25 hbox hb; have BK316 := q66.mk (hbox); have GW316 := zz_ (w := w) hg; have GE316 := zz_ (w := w) hg; replace HB := hb_ HB hb; have NB315_316 := ne1_ hg BK315; have NB316_315 := ne2_ hg BK315; replace BK315 := bb_ BK315 hb;  clear hb hbox hg) | ((with_reducible refine q81 (N := 6) rfl ?_); refine Kd.R_lit Kd.string _ 9 ?hg (N := 6) ?hd (xs := ([(⟨#[60]⟩ : ByteArray), (⟨#[60, 61]⟩ : ByteArray), (⟨#[61]⟩ : ByteArray), (⟨#[33, 61]⟩ : ByteArray), (⟨#[62, 61]⟩ : ByteArray), (⟨#[62]⟩ : ByteArray)] : List ByteArray)) (inner := [.string (⟨#[60]⟩ : ByteArray), .string (⟨#[60, 61]⟩ : ByteArray), .string (⟨#[61]⟩ : ByteArray), .string (⟨#[33, 61]⟩ : ByteArray), .string (⟨#[62, 61]⟩ : ByteArray), .string (⟨#[62]⟩ : ByteArray)]) (ok := fun _ => True) (okp := fun _ => True) ?hr ?hp (fun _ hk => hk) trivial (Below.refl _ _) (Nat.le_refl _) (by simp) ?_; (case hd => rfl); (case hg => rfl); (case hr => first | (go_simp; done) | (go_simp; rfl)); (case hp => exact (Reps.one (show Kd.M Kd.string _ _ _ (⟨#[60]⟩ : ByteArray) [.string (⟨#[60]⟩ : ByteArray)] from rfl) (Reps.one (show Kd.M Kd.string _ _ _ (⟨#[60, 61]⟩ : ByteArray) [.string (⟨#[60, 61]⟩ : ByteArray)] from rfl) (Reps.one (show Kd.M Kd.string _ _ _ (⟨#[61]⟩ : ByteArray) [.string (⟨#[61]⟩ : ByteArray)] from rfl) (Reps.one (show Kd.M Kd.string _ _ _ (⟨#[33, 61]⟩ : ByteArray) [.string (⟨#[33, 61]⟩ : ByteArray)] from rfl) (Reps.one (show Kd.M Kd.string _ _ _ (⟨#[62, 61]⟩ : ByteArray) [.string (⟨#[62, 61]⟩ : ByteArray)] from rfl) (Reps.one (show Kd.M Kd.string _ _ _ (⟨#[62]⟩ : ByteArray) [.string (⟨#[62]⟩ : ByteArray)] from rfl) (Reps.none _ _)))))))); intro v318 w26 ho27 hb hg_ hnew_; clear hg_ hnew_; (first | rw [← Ny317.out] at ho27 | (simp only [Int.reduceToNat] at ho27; rw [← Ny317.out] at ho27)); have HO319 := q66.mk (Kd.R_lower ho27 (q69 hf_)); replace BK315 := bb_ BK315 hb; replace BK316 := bb_ BK316 hb; replace HB := hb_ HB hb;  clear hb ho27; have hnb28 := NB316_315.out; have hnc28 := NB315_316.out; obtain ⟨hcz29_0, hcz29_1, hcz29_2, hfz29_0, hfz29_1, hfz29_2⟩ := bs3_ BK316; obtain ⟨Ao30, co30, eo30⟩ := Kd.R_slice HO319.out; subst eo30) | ((with_reducible refine q80 (f := 68) rfl ?_); refine gl_ (some 9) Try.func68 #[.slice Ao30 y317.length co30, .string a1_1] ?_; (with_reducible refine (q5.calls k _ _ y317 a1_1 true _ ?side1 ?side2 A3.out).mono ?_); (case side1 => repeat (first | exact (Kd.R_reads' HO319.out).2.2 | (with_reducible refine Kd.C_alloc ?_ _) | (with_reducible refine Kd.C_drewN ?_ _) | (with_reducible refine Kd.C_drew ?_))); (case side2 => exact (Kd.R_reads' HO319.out).2.1); rintro e w' ⟨rfl, ⟨nd, rfl⟩⟩; refine ⟨_, rfl, ?_⟩; obtain ⟨hcz31_0, hcz31_1, hfz31_0, hfz31_1⟩ := bs2_ BK315) | (go_at_call 68; (with_reducible refine (q5.calls k _ _ l0_0 a1_0 false _ ?side1 ?side2 A5.out).mono ?_); (case side1 => repeat (first | exact (Kd.C_below HR0_0.out hf_) | (with_reducible refine Kd.C_alloc ?_ _) | (with_reducible refine Kd.C_drewN ?_ _) | (with_reducible refine Kd.C_drew ?_))); (case side2 => exact HC0_0.out); rintro e w' ⟨rfl, ⟨nd, rfl⟩⟩))
   go_ret
   exact ⟨er_, hf_⟩
 ·replace c4 := Bool.eq_false_iff.mpr c4
  subst c4
  have H1 : (some false) = some r := by rw [if_neg (show ¬ (false = true) by decide)] at H; exact H
  clear H
  have H := H1
  clear H1
  obtain rfl := Option.some.inj H
  go_enter Try.func92, Try.ntmps92
  go_wp2_with (first | ((with_reducible refine q81 (N := 2) rfl ?_); refine bx_ 2 #[.slice A0_0 l0_0.length c0_0, .slice A0_1 l0_1.length c0_1] 25 ?_; intro gb315 hg w32 hbox hb; have BK315 := q66.mk (hbox); have GW315 := zz_ (w := w) hg; have GE315 := zz_ (w := w) hg; replace HB := hb_ HB hb;  clear hb hbox hg) | ((with_reducible refine q81 (N := 3) rfl ?_); refine bx_ 3 #[.string a1_0, .string a1_1, .int .i64 a1_2] 50 ?_; intro gb316 hg w33 hbox hb; have BK316 := q66.mk (hbox); have GW316 := zz_ (w := w) hg; have GE316 := zz_ (w := w) hg; replace HB := hb_ HB hb; have NB315_316 := ne1_ hg BK315; have NB316_315 := ne2_ hg BK315; replace BK315 := bb_ BK315 hb;  clear hb hbox hg) | ((with_reducible refine q81 (N := 6) rfl ?_); refine Kd.R_lit Kd.string _ 9 ?hg (N := 6) ?hd (xs := ([(⟨#[60]⟩ : ByteArray), (⟨#[60, 61]⟩ : ByteArray), (⟨#[61]⟩ : ByteArray), (⟨#[33, 61]⟩ : ByteArray), (⟨#[62, 61]⟩ : ByteArray), (⟨#[62]⟩ : ByteArray)] : List ByteArray)) (inner := [.string (⟨#[60]⟩ : ByteArray), .string (⟨#[60, 61]⟩ : ByteArray), .string (⟨#[61]⟩ : ByteArray), .string (⟨#[33, 61]⟩ : ByteArray), .string (⟨#[62, 61]⟩ : ByteArray), .string (⟨#[62]⟩ : ByteArray)]) (ok := fun _ => True) (okp := fun _ => True) ?hr ?hp (fun _ hk => hk) trivial (Below.refl _ _) (Nat.le_refl _) (by simp) ?_; (case hd => rfl); (case hg => rfl); (case hr => first | (go_simp; done) | (go_simp; rfl)); (case hp => exact (Reps.one (show Kd.M Kd.string _ _ _ (⟨#[60]⟩ : ByteArray) [.string (⟨#[60]⟩ : ByteArray)] from rfl) (Reps.one (show Kd.M Kd.string _ _ _ (⟨#[60, 61]⟩ : ByteArray) [.string (⟨#[60, 61]⟩ : ByteArray)] from rfl) (Reps.one (show Kd.M Kd.string _ _ _ (⟨#[61]⟩ : ByteArray) [.string (⟨#[61]⟩ : ByteArray)] from rfl) (Reps.one (show Kd.M Kd.string _ _ _ (⟨#[33, 61]⟩ : ByteArray) [.string (⟨#[33, 61]⟩ : ByteArray)] from rfl) (Reps.one (show Kd.M Kd.string _ _ _ (⟨#[62, 61]⟩ : ByteArray) [.string (⟨#[62, 61]⟩ : ByteArray)] from rfl) (Reps.one (show Kd.M Kd.string _ _ _ (⟨#[62]⟩ : ByteArray) [.string (⟨#[62]⟩ : ByteArray)] from rfl) (Reps.none _ _)))))))); intro v318 w34 ho35 hb hg_ hnew_; clear hg_ hnew_; (first | rw [← Ny317.out] at ho35 | (simp only [Int.reduceToNat] at ho35; rw [← Ny317.out] at ho35)); have HO319 := q66.mk (Kd.R_lower ho35 (q69 hf_)); replace BK315 := bb_ BK315 hb; replace BK316 := bb_ BK316 hb; replace HB := hb_ HB hb;  clear hb ho35; have hnb36 := NB316_315.out; have hnc36 := NB315_316.out; obtain ⟨hcz37_0, hcz37_1, hcz37_2, hfz37_0, hfz37_1, hfz37_2⟩ := bs3_ BK316; obtain ⟨Ao38, co38, eo38⟩ := Kd.R_slice HO319.out; subst eo38) | ((with_reducible refine q80 (f := 68) rfl ?_); refine gl_ (some 9) Try.func68 #[.slice Ao38 y317.length co38, .string a1_1] ?_; (with_reducible refine (q5.calls k _ _ y317 a1_1 false _ ?side1 ?side2 A3.out).mono ?_); (case side1 => repeat (first | exact (Kd.R_reads' HO319.out).2.2 | (with_reducible refine Kd.C_alloc ?_ _) | (with_reducible refine Kd.C_drewN ?_ _) | (with_reducible refine Kd.C_drew ?_))); (case side2 => exact (Kd.R_reads' HO319.out).2.1); rintro e w' ⟨rfl, ⟨nd, rfl⟩⟩; refine ⟨_, rfl, ?_⟩))
  go_ret
  exact ⟨er_, hf_⟩
mutual
def q45.j0 : Nat → Int → Int → Bool → Option (Bool)
 | 0, _, _, _ => none
 | k + 1, x0, x5, x6 => if x6 = true then (if x0 ≥ 1 then (some (decide (x0 ≤ 5))) else (some false)) else (if x5 = 2 then (q45.j1 k x0 x5 (x5 == 2)) else (q45.j1 k x0 x5 (x5 == 3)))
def q45.j1 : Nat → Int → Int → Bool → Option (Bool)
 | 0, _, _, _ => none
 | k + 1, x0, x5, x15 => if x15 = true then (if x0 = 1 then (some true) else (some (x0 == 2))) else (if x5 = 4 then (if x0 ≥ 3 then (some (decide (x0 ≤ 5))) else (some false)) else (some false))
end
def q45.f (k : Nat) (a0 : Int) (a1 : Int) : Option (Bool) := if a1 = 1 then (q45.j0 k a0 a1 (a1 == 1)) else (q45.j0 k a0 a1 (a1 == 5))
theorem q45.mono_l : ∀ k, (∀ y0 y1 y2, LeO (q45.j0 k y0 y1 y2) (q45.j0 (k + 1) y0 y1 y2)) ∧ (∀ y0 y1 y2, LeO (q45.j1 k y0 y1 y2) (q45.j1 (k + 1) y0 y1 y2))
 | 0 => ⟨fun _ _ _ r h => by simp [q45.j0] at h, fun _ _ _ r h => by simp [q45.j1] at h⟩
 | k + 1 => by
  obtain ⟨ih0, ih1⟩ := q45.mono_l k
  refine ⟨?_, ?_⟩
  intro y0 y1 y2
  unfold q45.j0
  rotate_left
  intro y0 y1 y2
  unfold q45.j1
  rotate_left
  all_goals repeat' first
   | (with_reducible exact ih0 _ _ _)
   | (with_reducible exact ih1 _ _ _)
   | (with_reducible exact LeO.refl _)
   | (with_reducible exact LeO.none _)
   | (with_reducible refine LeO.ite ?_ ?_)
   | (with_reducible refine LeO.bind ?_ (fun _ => ?_))
   | exact ih0 _ _ _
   | exact ih1 _ _ _
   | exact LeO.none _
   | refine LeO.ite ?_ ?_
   | refine LeO.bind ?_ (fun _ => ?_)
theorem q45.mono : ∀ a0 a1 k, LeO (q45.f k a0 a1) (q45.f (k + 1) a0 a1) := by
 intro a0 a1 k
 obtain ⟨ih0, ih1⟩ := q45.mono_l k
 unfold q45.f
 repeat' first
  | (with_reducible exact ih0 _ _ _)
  | (with_reducible exact ih1 _ _ _)
  | (with_reducible exact LeO.refl _)
  | (with_reducible exact LeO.none _)
  | (with_reducible refine LeO.ite ?_ ?_)
  | (with_reducible refine LeO.bind ?_ (fun _ => ?_))
  | exact ih0 _ _ _
  | exact ih1 _ _ _
  | exact LeO.none _
  | refine LeO.ite ?_ ?_
  | refine LeO.bind ?_ (fun _ => ?_)
set_option maxHeartbeats 8000000 in
set_option maxRecDepth 100000 in
theorem q45.calls (k : Nat) (a0 : Int) (a1 : Int) (r : Bool) (w : World) (h : q45.f k a0 a1 = some r) :
 Calls Try.prog 93 #[.int .i64 a0, .int .i64 a1] w fun e w' => e = .returned (.bool r) ∧ Drawn0 w w' := by
 have H : (if a1 = 1 then (q45.j0 k a0 a1 (a1 == 1)) else (q45.j0 k a0 a1 (a1 == 5))) = some r := h
 clear h
 have HC3 := q66.mk H
 clear H
 go_enter Try.func93, Try.ntmps93
 go_upto_if 6 with (fail)
 go_cut [6] (fun v6 wc => ∃ (kq : Nat) (x6_2 : Bool), v6 = .bool x6_2 ∧ q66 (q45.j0 kq a0 a1 x6_2 = some r) ∧ q66 (kq ≤ k) ∧ Drawn0 w wc)
 case first =>
  have H := HC3.out
  clear HC3
  by_cases c4 : a1 = 1
  ·rw [if_pos c4] at H
   have c4b0 : (a1 == 1) = true := beq_iff_eq.mpr c4
   have c4b1 : (a1 != 1) = false := bne_eq_false_iff_eq.mpr c4
   clear c4
   (first | rw [c4b0] | (simp only [i64_w, i32_w]; rw [c4b0]) | skip)
   have H' := q66.mk H
   clear H
   go_wp2
   go_meet
   case rel => exact ⟨_, ((a1 == 1)), rf_, H', ⟨by first | omega | exact Nat.le_refl _⟩, by repeat (first | exact Drawn0.refl _ | apply Drawn0.step)⟩
  ·rw [if_neg c4] at H
   have c4b0 : (a1 == 1) = false := beq_eq_false_iff_ne.mpr c4
   have c4b1 : (a1 != 1) = true := bne_iff_ne.mpr c4
   (first | rw [c4b0] | (simp only [i64_w, i32_w]; rw [c4b0]) | skip)
   have H' := q66.mk H
   clear H
   go_wp2
   go_meet
   case rel => exact ⟨_, ((a1 == 5)), rf_, H', ⟨by first | omega | exact Nat.le_refl _⟩, by repeat (first | exact Drawn0.refl _ | apply Drawn0.step)⟩
 case rest =>
  clear HC3
  obtain ⟨kq, x6_2, rfl, HA, HJ2, ⟨mc2, rfl⟩⟩ := hcut
  cases kq with
  | zero => exact absurd HA.out (by simp [q45.j0])
  | succ kj2 =>
   have H := HA.out
   clear HA
   simp only [q45.j0] at H
   by_cases c5 : x6_2 = true
   ·subst c5
    have H1 : (if a0 ≥ 1 then (some (decide (a0 ≤ 5))) else (some false)) = some r := by rw [if_pos rfl] at H; exact H
    clear H
    have H := H1
    clear H1
    by_cases c6 : a0 ≥ 1
    ·rw [if_pos c6] at H
     replace c6 := decide_eq_true c6
     obtain rfl := Option.some.inj H
     go_wp2
     go_ret
     exact ⟨by first | rfl | (simp; done) | (simp [*]; done), by repeat (first | exact Drawn0.refl _ | apply Drawn0.step)⟩
    ·rw [if_neg c6] at H
     replace c6 := decide_eq_false c6
     obtain rfl := Option.some.inj H
     go_wp2
     go_ret
     exact ⟨by first | rfl | (simp; done) | (simp [*]; done), by repeat (first | exact Drawn0.refl _ | apply Drawn0.step)⟩
   ·replace c5 := Bool.eq_false_iff.mpr c5
    subst c5
    have H1 : (if a1 = 2 then (q45.j1 kj2 a0 a1 (a1 == 2)) else (q45.j1 kj2 a0 a1 (a1 == 3))) = some r := by rw [if_neg (show ¬ (false = true) by decide)] at H; exact H
    clear H
    have H := H1
    clear H1
    have HC7 := q66.mk H
    clear H
    go_upto_if 15 with (fail)
    go_cut [15] (fun v15 wc => ∃ (kq : Nat) (x15_6 : Bool), v15 = .bool x15_6 ∧ q66 (q45.j1 kq a0 a1 x15_6 = some r) ∧ q66 (kq ≤ kj2) ∧ Drawn0 w wc)
    case first =>
     have H := HC7.out
     clear HC7
     by_cases c8 : a1 = 2
     ·rw [if_pos c8] at H
      have c8b0 : (a1 == 2) = true := beq_iff_eq.mpr c8
      have c8b1 : (a1 != 2) = false := bne_eq_false_iff_eq.mpr c8
      clear c8
      (first | rw [c8b0] | (simp only [i64_w, i32_w]; rw [c8b0]) | skip)
      have H' := q66.mk H
      clear H
      go_wp2
      go_meet
      case rel => exact ⟨_, ((a1 == 2)), rf_, H', ⟨by have := HJ2.out; first | omega | exact Nat.le_refl _⟩, by repeat (first | exact Drawn0.refl _ | apply Drawn0.step)⟩
     ·rw [if_neg c8] at H
      have c8b0 : (a1 == 2) = false := beq_eq_false_iff_ne.mpr c8
      have c8b1 : (a1 != 2) = true := bne_iff_ne.mpr c8
      (first | rw [c8b0] | (simp only [i64_w, i32_w]; rw [c8b0]) | skip)
      have H' := q66.mk H
      clear H
      go_wp2
      go_meet
      case rel => exact ⟨_, ((a1 == 3)), rf_, H', ⟨by have := HJ2.out; first | omega | exact Nat.le_refl _⟩, by repeat (first | exact Drawn0.refl _ | apply Drawn0.step)⟩
    case rest =>
     clear HC7
     obtain ⟨kq, x15_6, rfl, HA, HJ6, ⟨mc6, rfl⟩⟩ := hcut
     cases kq with
     | zero => exact absurd HA.out (by simp [q45.j1])
     | succ kj6 =>
      have H := HA.out
      clear HA
      simp only [q45.j1] at H
      by_cases c9 : x15_6 = true
      ·subst c9
       have H1 : (if a0 = 1 then (some true) else (some (a0 == 2))) = some r := by rw [if_pos rfl] at H; exact H
       clear H
       have H := H1
       clear H1
       by_cases c10 : a0 = 1
       ·rw [if_pos c10] at H
        have c10b0 : (a0 == 1) = true := beq_iff_eq.mpr c10
        have c10b1 : (a0 != 1) = false := bne_eq_false_iff_eq.mpr c10
        clear c10
        obtain rfl := Option.some.inj H
        go_wp2
        go_ret
        exact ⟨by first | rfl | (simp; done) | (simp [*]; done), by repeat (first | exact Drawn0.refl _ | apply Drawn0.step)⟩
       ·rw [if_neg c10] at H
        have c10b0 : (a0 == 1) = false := beq_eq_false_iff_ne.mpr c10
        have c10b1 : (a0 != 1) = true := bne_iff_ne.mpr c10
        obtain rfl := Option.some.inj H
        go_wp2
        go_ret
        exact ⟨by first | rfl | (simp; done) | (simp [*]; done), by repeat (first | exact Drawn0.refl _ | apply Drawn0.step)⟩
      ·replace c9 := Bool.eq_false_iff.mpr c9
       subst c9
       have H1 : (if a1 = 4 then (if a0 ≥ 3 then (some (decide (a0 ≤ 5))) else (some false)) else (some false)) = some r := by rw [if_neg (show ¬ (false = true) by decide)] at H; exact H
       clear H
       have H := H1
       clear H1
       by_cases c11 : a1 = 4
       ·rw [if_pos c11] at H
        have c11b0 : (a1 == 4) = true := beq_iff_eq.mpr c11
        have c11b1 : (a1 != 4) = false := bne_eq_false_iff_eq.mpr c11
        clear c11
        by_cases c12 : a0 ≥ 3
        ·rw [if_pos c12] at H
         replace c12 := decide_eq_true c12
         obtain rfl := Option.some.inj H
         go_wp2
         go_ret
         exact ⟨by first | rfl | (simp; done) | (simp [*]; done), by repeat (first | exact Drawn0.refl _ | apply Drawn0.step)⟩
        ·rw [if_neg c12] at H
         replace c12 := decide_eq_false c12
         obtain rfl := Option.some.inj H
         go_wp2
         go_ret
         exact ⟨by first | rfl | (simp; done) | (simp [*]; done), by repeat (first | exact Drawn0.refl _ | apply Drawn0.step)⟩
       ·rw [if_neg c11] at H
        have c11b0 : (a1 == 4) = false := beq_eq_false_iff_ne.mpr c11
        have c11b1 : (a1 != 4) = true := bne_iff_ne.mpr c11
        obtain rfl := Option.some.inj H
        go_wp2
        go_ret
        exact ⟨by first | rfl | (simp; done) | (simp [*]; done), by repeat (first | exact Drawn0.refl _ | apply Drawn0.step)⟩
def fidx {α : Type} (p : α → Bool) (l : List α) : Int := match l.findIdx? p with | some i => (i : Int) | none => -1
theorem fidx_hit {α : Type} (p : α → Bool) (l : List α) (k : Nat) (z : α) (hk : k < l.length) (h : p (l.getD k z) = true) (hn : ∀ j, j < k → p (l.getD j z) = false) : fidx p l = k := by
 have e : l.findIdx? p = some k := by
  rw [List.findIdx?_eq_some_iff_getElem]
  refine ⟨hk, ?_, fun j hj => ?_⟩
  ·rw [List.getD_eq_getElem?_getD, List.getElem?_eq_getElem hk] at h; exact h
  ·have := hn j hj
   rw [List.getD_eq_getElem?_getD, List.getElem?_eq_getElem (by omega)] at this
   simpa using this
 unfold fidx
 rw [e]
theorem fidx_miss {α : Type} (p : α → Bool) (l : List α) (z : α) (hn : ∀ j, j < l.length → p (l.getD j z) = false) : fidx p l = -1 := by
 have e : l.findIdx? p = none := by
  rw [List.findIdx?_eq_none_iff]
  intro x hx
  obtain ⟨j, hj, rfl⟩ := List.getElem_of_mem hx
  have := hn j hj
  rw [List.getD_eq_getElem?_getD, List.getElem?_eq_getElem hj] at this
  simpa using this
 unfold fidx
 rw [e]
theorem fidx_any {α : Type} (p : α → Bool) (l : List α) : decide (fidx p l ≥ 0) = l.any p := by
  unfold fidx
  cases h : l.findIdx? p with
  | none =>
    have := List.findIdx?_eq_none_iff.1 h
    have e : l.any p = false := by rw [List.any_eq_false]; intro x hx; simp [this x hx]
    rw [e]; rfl
  | some i =>
    obtain ⟨hi, hp, _⟩ := List.findIdx?_eq_some_iff_getElem.1 h
    have e : l.any p = true := List.any_eq_true.2 ⟨_, List.getElem_mem hi, hp⟩
    rw [e]; exact decide_eq_true (show (i : Int) ≥ 0 by omega)
def PaysItem (g : Nat) (lb : Array Value) (p : S48 → Bool) (l : List S48) (w : World) : Prop :=
 ∀ (W : World) (x : S48) (cs : List Value), x ∈ l → Below w.heap.size w W → Kd.K k48 W x cs → Calls Try.prog g (#[.agg cs.toArray] ++ lb) W fun e w' => e = .returned (.bool (p x)) ∧ Below W.heap.size W w'
set_option maxHeartbeats 4000000 in
set_option maxRecDepth 100000 in
theorem idxItem (A : Option Addr) (c : Nat) (l : List S48) (w : World) (hr : Kd.C k48 w A l.length l) (hc : l.length ≤ c) (g : Nat) (lb : Array Value) (eg : ∀ args w, (callFunc g args).run Try.prog w = .ok (.enter g args) w) (p : S48 → Bool) (hp : PaysItem g lb p l w) :
    Calls Try.prog 70 #[.slice A l.length c, .func (.func g) #[] lb] w fun e w' => e = .returned (.int .i64 (fidx p l)) ∧ Below w.heap.size w w' := by
  have HR := Lib.hid hr
  have HP := Lib.hid hp
  clear hr hp
  obtain ⟨n, hn⟩ : ∃ n, n = l.length := ⟨_, rfl⟩
  have HN := Lib.hid hn
  rw [← hn] at hc ⊢
  clear hn
  have hbig : n ≤ 9223372036854775807 := by have := HR.out.2.1; have := HN.out; omega
  go_enter Try.func70, Try.ntmps70
  go_wp2
  go_loopg [5, 8] n (fun gg _ s8 wr => ∃ kk : Nat, kk ≤ n ∧ n - kk ≤ gg ∧ s8 = .int .i64 kk ∧ Aside (Below w.heap.size w wr) ∧ Aside (∀ j, j < kk → p (l.getD j z48) = false))
  case atStart => exact ⟨0, Nat.zero_le _, by omega, rfl, Below.refl _ w, fun j hj => absurd hj (Nat.not_lt_zero _)⟩
  case round =>
    obtain ⟨kk, hkk, hg, rfl, BW, A⟩ := hrel
    by_cases hlt : kk < n
    · have hltz : (kk : Int) < (n : Int) := by omega
      obtain ⟨ad, A5, c5, A6, c6, e, hx0, hx1, hx2, hx3, hx4, hx5, hx6, l5, g5, l6, g6⟩ := at_T48 HR.out (kk : Int) (by omega) (by have := HN.out; omega)
      cases e
      have hcall := HP.out wr (l.getD kk z48) [.string (q89 l kk).f0, .int .i64 (q89 l kk).f1, .string (q89 l kk).f2, .bool (q89 l kk).f3, .int .i64 (q89 l kk).f4, .slice A5 (q89 l kk).f5.length c5, .slice A6 (q89 l kk).f6.length c6] (by rw [List.getD_eq_getElem?_getD, List.getElem?_eq_getElem (show kk < l.length by have := HN.out; omega)]; exact List.getElem_mem _) BW.out (k48_mk _ _ l5 (Kd.C_below g5 BW.out) l6 (Kd.C_below g6 BW.out))
      simp only [Int.toNat_natCast] at hx0 hx1 hx2 hx3 hx4 hx5 hx6
      replace hx0 := (BW.out.cell (World.block_lt_of_cell? w _ hx0)).trans hx0
      replace hx1 := (BW.out.cell (World.block_lt_of_cell? w _ hx1)).trans hx1
      replace hx2 := (BW.out.cell (World.block_lt_of_cell? w _ hx2)).trans hx2
      replace hx3 := (BW.out.cell (World.block_lt_of_cell? w _ hx3)).trans hx3
      replace hx4 := (BW.out.cell (World.block_lt_of_cell? w _ hx4)).trans hx4
      replace hx5 := (BW.out.cell (World.block_lt_of_cell? w _ hx5)).trans hx5
      replace hx6 := (BW.out.cell (World.block_lt_of_cell? w _ hx6)).trans hx6
      have B := Lib.hid (show p (l.getD kk z48) = p (l.getD kk z48) from rfl)
      cases hq : p (l.getD kk z48) with
      | true =>
        rw [hq] at hcall
        have HQ := Lib.hid hq
        clear hq
        go_wp2_with (go_at_fn g; refine hcall.mono ?_; rintro e w' ⟨rfl, hb'⟩)
        go_ret
        refine ⟨?_, q70 BW.out BW.out.size hb'⟩
        rw [fidx_hit p l kk z48 (by have := HN.out; omega) HQ.out A.out]
        rfl
      | false =>
        rw [hq] at hcall
        have HQ := Lib.hid hq
        clear hq
        go_wp2_with (go_at_fn g; refine hcall.mono ?_; rintro e w' ⟨rfl, hb'⟩)
        go_roundg (n - (kk + 1))
        case measure => omega
        case rel =>
          refine ⟨kk + 1, by omega, by omega, by go_num, q70 BW.out BW.out.size hb', (show Aside _ from fun j hj => ?_)⟩
          by_cases e : j = kk
          · subst e
            exact HQ.out
          · exact A.out j (by omega)
    · have hltz : ¬ (kk : Int) < (n : Int) := by omega
      obtain rfl : kk = n := by omega
      go_wp2
      go_ret
      refine ⟨?_, BW.out⟩
      rw [fidx_miss p l z48 (by rw [← HN.out]; exact A.out)]
      rfl
set_option maxHeartbeats 4000000 in
theorem anyItem (A : Option Addr) (c : Nat) (l : List S48) (w : World) (hr : Kd.C k48 w A l.length l) (hc : l.length ≤ c) (g : Nat) (lb : Array Value) (eg : ∀ args w, (callFunc g args).run Try.prog w = .ok (.enter g args) w) (p : S48 → Bool) (hp : PaysItem g lb p l w) :
 Calls Try.prog 43 #[.slice A l.length c, .func (.func g) #[] lb] w fun e w' => e = .returned (.bool (l.any p)) ∧ Below w.heap.size w w' := by
 have h := idxItem A c l w hr hc g lb eg p hp
 rw [← fidx_any]
 clear hr hp eg
 obtain ⟨n, hn⟩ : ∃ n : Int, n = fidx p l := ⟨_, rfl⟩
 rw [← hn] at h ⊢
 clear hn
 go_enter Try.func43, Try.ntmps43
 go_wp2_with (go_at_call 70; refine h.mono ?_; rintro e w' ⟨rfl, hb⟩)
 go_ret
 exact ⟨rfl, hb⟩
def PaysSentry (g : Nat) (lb : Array Value) (p : S54 → Bool) (l : List S54) (w : World) : Prop :=
 ∀ (W : World) (x : S54) (cs : List Value), x ∈ l → Below w.heap.size w W → Kd.K k54 W x cs → Calls Try.prog g (#[.agg cs.toArray] ++ lb) W fun e w' => e = .returned (.bool (p x)) ∧ Below W.heap.size W w'
set_option maxHeartbeats 4000000 in
set_option maxRecDepth 100000 in
theorem idxSentry (A : Option Addr) (c : Nat) (l : List S54) (w : World) (hr : Kd.C k54 w A l.length l) (hc : l.length ≤ c) (g : Nat) (lb : Array Value) (eg : ∀ args w, (callFunc g args).run Try.prog w = .ok (.enter g args) w) (p : S54 → Bool) (hp : PaysSentry g lb p l w) :
    Calls Try.prog 87 #[.slice A l.length c, .func (.func g) #[] lb] w fun e w' => e = .returned (.int .i64 (fidx p l)) ∧ Below w.heap.size w w' := by
  have HR := Lib.hid hr
  have HP := Lib.hid hp
  clear hr hp
  obtain ⟨n, hn⟩ : ∃ n, n = l.length := ⟨_, rfl⟩
  have HN := Lib.hid hn
  rw [← hn] at hc ⊢
  clear hn
  have hbig : n ≤ 9223372036854775807 := by have := HR.out.2.1; have := HN.out; omega
  go_enter Try.func87, Try.ntmps87
  go_wp2
  go_loopg [5, 8] n (fun gg _ s8 wr => ∃ kk : Nat, kk ≤ n ∧ n - kk ≤ gg ∧ s8 = .int .i64 kk ∧ Aside (Below w.heap.size w wr) ∧ Aside (∀ j, j < kk → p (l.getD j z54) = false))
  case atStart => exact ⟨0, Nat.zero_le _, by omega, rfl, Below.refl _ w, fun j hj => absurd hj (Nat.not_lt_zero _)⟩
  case round =>
    obtain ⟨kk, hkk, hg, rfl, BW, A⟩ := hrel
    by_cases hlt : kk < n
    · have hltz : (kk : Int) < (n : Int) := by omega
      obtain ⟨ad, A0, c0, A1, c1, e, hx0, hx1, l0, g0, l1, g1⟩ := at_T54 HR.out (kk : Int) (by omega) (by have := HN.out; omega)
      cases e
      have hcall := HP.out wr (l.getD kk z54) [.slice A0 (q91 l kk).f0.length c0, .slice A1 (q91 l kk).f1.length c1] (by rw [List.getD_eq_getElem?_getD, List.getElem?_eq_getElem (show kk < l.length by have := HN.out; omega)]; exact List.getElem_mem _) BW.out (k54_mk _ _ l0 (Kd.C_below g0 BW.out) l1 (Kd.C_below g1 BW.out))
      simp only [Int.toNat_natCast] at hx0 hx1
      replace hx0 := (BW.out.cell (World.block_lt_of_cell? w _ hx0)).trans hx0
      replace hx1 := (BW.out.cell (World.block_lt_of_cell? w _ hx1)).trans hx1
      have B := Lib.hid (show p (l.getD kk z54) = p (l.getD kk z54) from rfl)
      cases hq : p (l.getD kk z54) with
      | true =>
        rw [hq] at hcall
        have HQ := Lib.hid hq
        clear hq
        go_wp2_with (go_at_fn g; refine hcall.mono ?_; rintro e w' ⟨rfl, hb'⟩)
        go_ret
        refine ⟨?_, q70 BW.out BW.out.size hb'⟩
        rw [fidx_hit p l kk z54 (by have := HN.out; omega) HQ.out A.out]
        rfl
      | false =>
        rw [hq] at hcall
        have HQ := Lib.hid hq
        clear hq
        go_wp2_with (go_at_fn g; refine hcall.mono ?_; rintro e w' ⟨rfl, hb'⟩)
        go_roundg (n - (kk + 1))
        case measure => omega
        case rel =>
          refine ⟨kk + 1, by omega, by omega, by go_num, q70 BW.out BW.out.size hb', (show Aside _ from fun j hj => ?_)⟩
          by_cases e : j = kk
          · subst e
            exact HQ.out
          · exact A.out j (by omega)
    · have hltz : ¬ (kk : Int) < (n : Int) := by omega
      obtain rfl : kk = n := by omega
      go_wp2
      go_ret
      refine ⟨?_, BW.out⟩
      rw [fidx_miss p l z54 (by rw [← HN.out]; exact A.out)]
      rfl
set_option maxHeartbeats 4000000 in
theorem anySentry (A : Option Addr) (c : Nat) (l : List S54) (w : World) (hr : Kd.C k54 w A l.length l) (hc : l.length ≤ c) (g : Nat) (lb : Array Value) (eg : ∀ args w, (callFunc g args).run Try.prog w = .ok (.enter g args) w) (p : S54 → Bool) (hp : PaysSentry g lb p l w) :
 Calls Try.prog 83 #[.slice A l.length c, .func (.func g) #[] lb] w fun e w' => e = .returned (.bool (l.any p)) ∧ Below w.heap.size w w' := by
 have h := idxSentry A c l w hr hc g lb eg p hp
 rw [← fidx_any]
 clear hr hp eg
 obtain ⟨n, hn⟩ : ∃ n : Int, n = fidx p l := ⟨_, rfl⟩
 rw [← hn] at h ⊢
 clear hn
 go_enter Try.func83, Try.ntmps83
 go_wp2_with (go_at_call 87; refine h.mono ?_; rintro e w' ⟨rfl, hb⟩)
 go_ret
 exact ⟨rfl, hb⟩
def PaysCond (g : Nat) (lb : Array Value) (p : S50 → Bool) (l : List S50) (w : World) : Prop :=
 ∀ (W : World) (x : S50) (cs : List Value), x ∈ l → Below w.heap.size w W → Kd.K k50 W x cs → Calls Try.prog g (#[.agg cs.toArray] ++ lb) W fun e w' => e = .returned (.bool (p x)) ∧ Below W.heap.size W w'
set_option maxHeartbeats 4000000 in
set_option maxRecDepth 100000 in
theorem idxCond (A : Option Addr) (c : Nat) (l : List S50) (w : World) (hr : Kd.C k50 w A l.length l) (hc : l.length ≤ c) (g : Nat) (lb : Array Value) (eg : ∀ args w, (callFunc g args).run Try.prog w = .ok (.enter g args) w) (p : S50 → Bool) (hp : PaysCond g lb p l w) :
    Calls Try.prog 95 #[.slice A l.length c, .func (.func g) #[] lb] w fun e w' => e = .returned (.int .i64 (fidx p l)) ∧ Below w.heap.size w w' := by
  have HR := Lib.hid hr
  have HP := Lib.hid hp
  clear hr hp
  obtain ⟨n, hn⟩ : ∃ n, n = l.length := ⟨_, rfl⟩
  have HN := Lib.hid hn
  rw [← hn] at hc ⊢
  clear hn
  have hbig : n ≤ 9223372036854775807 := by have := HR.out.2.1; have := HN.out; omega
  go_enter Try.func95, Try.ntmps95
  go_wp2
  go_loopg [5, 8] n (fun gg _ s8 wr => ∃ kk : Nat, kk ≤ n ∧ n - kk ≤ gg ∧ s8 = .int .i64 kk ∧ Aside (Below w.heap.size w wr) ∧ Aside (∀ j, j < kk → p (l.getD j z50) = false))
  case atStart => exact ⟨0, Nat.zero_le _, by omega, rfl, Below.refl _ w, fun j hj => absurd hj (Nat.not_lt_zero _)⟩
  case round =>
    obtain ⟨kk, hkk, hg, rfl, BW, A⟩ := hrel
    by_cases hlt : kk < n
    · have hltz : (kk : Int) < (n : Int) := by omega
      obtain ⟨ad, e, hx0, hx1, hx2⟩ := at_T50 HR.out (kk : Int) (by omega) (by have := HN.out; omega)
      cases e
      have hcall := HP.out wr (l.getD kk z50) [.string (q90 l kk).f0, .string (q90 l kk).f1, .int .i64 (q90 l kk).f2] (by rw [List.getD_eq_getElem?_getD, List.getElem?_eq_getElem (show kk < l.length by have := HN.out; omega)]; exact List.getElem_mem _) BW.out (k50_mk _ _)
      simp only [Int.toNat_natCast] at hx0 hx1 hx2
      replace hx0 := (BW.out.cell (World.block_lt_of_cell? w _ hx0)).trans hx0
      replace hx1 := (BW.out.cell (World.block_lt_of_cell? w _ hx1)).trans hx1
      replace hx2 := (BW.out.cell (World.block_lt_of_cell? w _ hx2)).trans hx2
      have B := Lib.hid (show p (l.getD kk z50) = p (l.getD kk z50) from rfl)
      cases hq : p (l.getD kk z50) with
      | true =>
        rw [hq] at hcall
        have HQ := Lib.hid hq
        clear hq
        go_wp2_with (go_at_fn g; refine hcall.mono ?_; rintro e w' ⟨rfl, hb'⟩)
        go_ret
        refine ⟨?_, q70 BW.out BW.out.size hb'⟩
        rw [fidx_hit p l kk z50 (by have := HN.out; omega) HQ.out A.out]
        rfl
      | false =>
        rw [hq] at hcall
        have HQ := Lib.hid hq
        clear hq
        go_wp2_with (go_at_fn g; refine hcall.mono ?_; rintro e w' ⟨rfl, hb'⟩)
        go_roundg (n - (kk + 1))
        case measure => omega
        case rel =>
          refine ⟨kk + 1, by omega, by omega, by go_num, q70 BW.out BW.out.size hb', (show Aside _ from fun j hj => ?_)⟩
          by_cases e : j = kk
          · subst e
            exact HQ.out
          · exact A.out j (by omega)
    · have hltz : ¬ (kk : Int) < (n : Int) := by omega
      obtain rfl : kk = n := by omega
      go_wp2
      go_ret
      refine ⟨?_, BW.out⟩
      rw [fidx_miss p l z50 (by rw [← HN.out]; exact A.out)]
      rfl
set_option maxHeartbeats 4000000 in
theorem anyCond (A : Option Addr) (c : Nat) (l : List S50) (w : World) (hr : Kd.C k50 w A l.length l) (hc : l.length ≤ c) (g : Nat) (lb : Array Value) (eg : ∀ args w, (callFunc g args).run Try.prog w = .ok (.enter g args) w) (p : S50 → Bool) (hp : PaysCond g lb p l w) :
 Calls Try.prog 90 #[.slice A l.length c, .func (.func g) #[] lb] w fun e w' => e = .returned (.bool (l.any p)) ∧ Below w.heap.size w w' := by
 have h := idxCond A c l w hr hc g lb eg p hp
 rw [← fidx_any]
 clear hr hp eg
 obtain ⟨n, hn⟩ : ∃ n : Int, n = fidx p l := ⟨_, rfl⟩
 rw [← hn] at h ⊢
 clear hn
 go_enter Try.func90, Try.ntmps90
 go_wp2_with (go_at_call 95; refine h.mono ?_; rintro e w' ⟨rfl, hb⟩)
 go_ret
 exact ⟨rfl, hb⟩
def q48.p (a1 : ByteArray) (x : S48) : Bool := x.f0.toList == a1.toList
def q48.f (l0_0 : List ByteArray) (l0_1 : List (S48)) (a1 : ByteArray) : Option Int := some (fidx (q48.p a1) l0_1)
set_option maxHeartbeats 2000000 in
theorem q48.closure (b : Nat) (id : ByteArray) (W : World) (hc : W.cell? ⟨b, 0, none⟩ = some (.string id)) (x : S48) (cs : List Value) (hK : Kd.K k48 W x cs) :
 Calls Try.prog 72 (#[.agg cs.toArray] ++ #[.pointer (some ⟨b, 0, none⟩)]) W fun e w' => e = .returned (.bool (q48.p id x)) ∧ Below W.heap.size W w' := by
 obtain ⟨A5, c5, A6, c6, rfl, _⟩ := k48_open hK
 unfold q48.p
 have hb := World.block_lt_of_cell? W _ hc
 simp only at hb
 have hu := Try.underlying48
 go_enter Try.func72, Try.ntmps72
 go_wp2
 go_ret
 exact ⟨rfl, q67 (Below.refl _ _) _⟩
theorem q48.eg : ∀ args w, (callFunc 72 args).run Try.prog w = .ok (.enter 72 args) w := enters_of Try.func72 (by kernel_rfl) rfl
set_option maxHeartbeats 2000000 in
theorem q48.calls (A0_0 : Option Addr) (c0_0 : Nat) (l0_0 : List ByteArray) (A0_1 : Option Addr) (c0_1 : Nat) (l0_1 : List (S48)) (a1 : ByteArray) (r : Int) (w : World) (hr0_0 : Kd.C Kd.string w A0_0 l0_0.length l0_0) (hc0_0 : l0_0.length ≤ c0_0) (hr0_1 : Kd.C k48 w A0_1 l0_1.length l0_1) (hc0_1 : l0_1.length ≤ c0_1) (h : q48.f l0_0 l0_1 a1 = some r) :
 Calls Try.prog 48 #[.agg #[.slice A0_0 l0_0.length c0_0, .slice A0_1 l0_1.length c0_1], .string a1] w fun e w' => e = .returned (.int .i64 r) ∧ Below w.heap.size w w' := by
 obtain rfl := Option.some.inj h
 have W1 := q67 (q67 (Below.refl w.heap.size w) (.cells #[.slice A0_0 l0_0.length c0_0, .slice A0_1 l0_1.length c0_1] 25)) (.cells #[.string a1] 9)
 have hcell : ((w.alloc (.cells #[.slice A0_0 l0_0.length c0_0, .slice A0_1 l0_1.length c0_1] 25)).alloc (.cells #[.string a1] 9)).cell? ⟨w.heap.size + 1, 0, none⟩ = some (.string a1) := by simp
 have hsz : ((w.alloc (.cells #[.slice A0_0 l0_0.length c0_0, .slice A0_1 l0_1.length c0_1] 25)).alloc (.cells #[.string a1] 9)).heap.size = w.heap.size + 2 := by simp
 have hi := idxItem A0_1 c0_1 l0_1 _ (Kd.C_below hr0_1 W1) hc0_1 72 #[.pointer (some ⟨w.heap.size + 1, 0, none⟩)] q48.eg (q48.p a1) (fun W x cs hx hb hK => q48.closure _ a1 W ((hb.cell (by rw [hsz]; simp)).trans hcell) x cs hK)
 have H := Lib.hid W1
 clear hr0_0 hr0_1 W1 hcell h hsz
 obtain ⟨n, hn⟩ : ∃ n : Int, n = fidx (q48.p a1) l0_1 := ⟨_, rfl⟩
 rw [← hn] at hi ⊢
 clear hn
 have hu := Try.underlying25
 go_enter Try.func48, Try.ntmps48
 go_wp2_with (go_at_call 70; refine hi.mono ?_; rintro e w' ⟨rfl, hb⟩)
 go_ret
 exact ⟨rfl, q70 H.out H.out.size hb⟩
end Go.Proofs.Ytaiglhfmmdajdaa.Pm
end
