/- Walks and plain laws on the way to the law PackNumbers: several texts of this workplace and of the kit's printer, merged; what is not used is struck, by a program. No condition. -/
import Derived.Test.YtaiglhfmmdajdaaMPackNumbers0
import Derived.Test.YtaiglhfmmdajdaaMPackNumbers2
import Derived.Test.YtaiglhfmmdajdaaMPackNumbers3
import Derived.Deep.Slices
import Derived.Lib.SmallJoins
import Derived.SizedLaws
import Derived.Test.YtaiglhfmmdajdaaMPackNumbers1
section
namespace Go.Proofs.Ytaiglhfmmdajdaa.Pm
open Go.RowKit Go.Proofs.YtaiglhfmmdajdaaW.PrintWords Go.Proofs.YtaiglhfmmdajdaaW.PrintLast Go.Proofs.YtaiglhfmmdajdaaW.PrintMore
attribute [local go_sem] max2_int min2_int max_two min_two max_three min_three max_four min_four   -- for this text's walks alone
set_option linter.unusedVariables false
set_option linter.unusedSimpArgs false
mutual
def sentryref4_Is.j0 : Nat → Bool → List ByteArray → List (S48) → Option (Bool)
 | 0, _, _, _ => none
 | k + 1, x21, x145000, x145001 => if x21 = true then (some false) else (sentryref4_Is.l0 k 0 x145000 x145001)
def sentryref4_Is.l0 : Nat → Int → List ByteArray → List (S48) → Option (Bool)
 | 0, _, _, _ => none
 | k + 1, x3, x145000, x145001 => if x3 < (x145000.length : Int) then (if 0 ≤ x3 then ((sentryref1_Is.f k (rdOf ByteArray.empty x145000 x3)).bind fun t146 => (if t146 = true then (if x3 ≤ (x145000.length : Int) then ((sentryref4_File.f k (x145000.take (x3 : Int).toNat) (rdOf ByteArray.empty x145000 x3)).bind fun t149 => (if t149 = true then (some false) else (sentryref4_Is.l0 k (wrap64 (x3 + 1)) x145000 x145001))) else (none)) else (some false))) else (none)) else (sentryref4_Is.l1 k 0 x145000 x145001)
def sentryref4_Is.l1 : Nat → Int → List ByteArray → List (S48) → Option (Bool)
 | 0, _, _, _ => none
 | k + 1, x4, x145000, x145001 => if x4 < (x145001.length : Int) then ((sentryref4_item.f k x145000 x145001 x4).bind fun t150 => (if t150 = true then (sentryref4_Is.l1 k (wrap64 (x4 + 1)) x145000 x145001) else (some false))) else (sentryref4_Is.l2 k 0 x145000 x145001)
def sentryref4_Is.l2 : Nat → Int → List ByteArray → List (S48) → Option (Bool)
 | 0, _, _, _ => none
 | k + 1, x5, x145000, x145001 => if x5 < (x145001.length : Int) then (if 0 ≤ x5 then ((sentryref4_sentries.f k x145000 x145001 ((rd_T48 x145001 x5).f5)).bind fun t152 => (if t152 = true then ((sentryref4_sentries.f k x145000 x145001 ((rd_T48 x145001 x5).f6)).bind fun t154 => (if t154 = true then (sentryref4_Is.l2 k (wrap64 (x5 + 1)) x145000 x145001) else (some false))) else (some false))) else (none)) else (some true)
end
def sentryref4_Is.f (k : Nat) (l0_0 : List ByteArray) (l0_1 : List (S48)) : Option (Bool) := if (l0_0.length : Int) > 6 then (sentryref4_Is.j0 k true l0_0 l0_1) else (if (l0_1.length : Int) < 1 then (sentryref4_Is.j0 k true l0_0 l0_1) else (sentryref4_Is.j0 k (decide ((l0_1.length : Int) > 16)) l0_0 l0_1))
theorem sentryref4_Is.mono_l : ∀ k, (∀ y0 y1 y2, LeO (sentryref4_Is.j0 k y0 y1 y2) (sentryref4_Is.j0 (k + 1) y0 y1 y2)) ∧ (∀ y0 y1 y2, LeO (sentryref4_Is.l0 k y0 y1 y2) (sentryref4_Is.l0 (k + 1) y0 y1 y2)) ∧ (∀ y0 y1 y2, LeO (sentryref4_Is.l1 k y0 y1 y2) (sentryref4_Is.l1 (k + 1) y0 y1 y2)) ∧ (∀ y0 y1 y2, LeO (sentryref4_Is.l2 k y0 y1 y2) (sentryref4_Is.l2 (k + 1) y0 y1 y2))
 | 0 => ⟨fun _ _ _ r h => by simp [sentryref4_Is.j0] at h, fun _ _ _ r h => by simp [sentryref4_Is.l0] at h, fun _ _ _ r h => by simp [sentryref4_Is.l1] at h, fun _ _ _ r h => by simp [sentryref4_Is.l2] at h⟩
 | k + 1 => by
  obtain ⟨ih0, ih1, ih2, ih3⟩ := sentryref4_Is.mono_l k
  refine ⟨?_, ?_, ?_, ?_⟩
  intro y0 y1 y2
  unfold sentryref4_Is.j0
  rotate_left
  intro y0 y1 y2
  unfold sentryref4_Is.l0
  rotate_left
  intro y0 y1 y2
  unfold sentryref4_Is.l1
  rotate_left
  intro y0 y1 y2
  unfold sentryref4_Is.l2
  rotate_left
  all_goals repeat' first
   | (with_reducible exact ih0 _ _ _)
   | (with_reducible exact ih1 _ _ _)
   | (with_reducible exact ih2 _ _ _)
   | (with_reducible exact ih3 _ _ _)
   | (with_reducible exact sentryref1_Is.mono _ _)
   | (with_reducible exact sentryref4_File.mono _ _ _)
   | (with_reducible exact sentryref4_item.mono _ _ _ _)
   | (with_reducible exact sentryref4_sentries.mono _ _ _ _)
   | (with_reducible exact LeO.refl _)
   | (with_reducible exact LeO.none _)
   | (with_reducible refine LeO.ite ?_ ?_)
   | (with_reducible refine LeO.bind ?_ (fun _ => ?_))
   | exact ih0 _ _ _
   | exact ih1 _ _ _
   | exact ih2 _ _ _
   | exact ih3 _ _ _
   | exact sentryref1_Is.mono _ _
   | exact sentryref4_File.mono _ _ _
   | exact sentryref4_item.mono _ _ _ _
   | exact sentryref4_sentries.mono _ _ _ _
   | exact LeO.none _
   | refine LeO.ite ?_ ?_
   | refine LeO.bind ?_ (fun _ => ?_)
theorem sentryref4_Is.mono : ∀ a0 a1 k, LeO (sentryref4_Is.f k a0 a1) (sentryref4_Is.f (k + 1) a0 a1) := by
 intro a0 a1 k
 obtain ⟨ih0, ih1, ih2, ih3⟩ := sentryref4_Is.mono_l k
 unfold sentryref4_Is.f
 repeat' first
   | (with_reducible exact ih0 _ _ _)
   | (with_reducible exact ih1 _ _ _)
   | (with_reducible exact ih2 _ _ _)
   | (with_reducible exact ih3 _ _ _)
   | (with_reducible exact sentryref1_Is.mono _ _)
   | (with_reducible exact sentryref4_File.mono _ _ _)
   | (with_reducible exact sentryref4_item.mono _ _ _ _)
   | (with_reducible exact sentryref4_sentries.mono _ _ _ _)
   | (with_reducible exact LeO.refl _)
   | (with_reducible exact LeO.none _)
   | (with_reducible refine LeO.ite ?_ ?_)
   | (with_reducible refine LeO.bind ?_ (fun _ => ?_))
   | exact ih0 _ _ _
   | exact ih1 _ _ _
   | exact ih2 _ _ _
   | exact ih3 _ _ _
   | exact sentryref1_Is.mono _ _
   | exact sentryref4_File.mono _ _ _
   | exact sentryref4_item.mono _ _ _ _
   | exact sentryref4_sentries.mono _ _ _ _
   | exact LeO.none _
   | refine LeO.ite ?_ ?_
   | refine LeO.bind ?_ (fun _ => ?_)
def sentryref4_Is.T6 : Bool × List (List Nat × List Nat) := (true, [([], []), ([0], [0]), ([], []), ([1, 2], [1, 2]), ([3], [3]), ([4], [4]), ([5], [5]), ([6, 5], [6]), ([7], [7]), ([8, 7], [7, 8]), ([7], [7]), ([9, 10, 7], [7, 9, 10]), ([7], [7]), ([12, 7], [7, 12]), ([7], [7]), ([13, 14, 7], [7, 13, 14]), ([15, 7], [7, 15]), ([11, 16, 7, 7], [7, 11, 16]), ([7, 17], [7, 17])])
def sentryref4_Is.B6 : List Nat := [0, 1, 0, 7, 15, 31, 63, 127, 255, 511, 255, 2047, 255, 4351, 255, 28927, 61695, 131071, 262143]
theorem sentryref4_Is.tab6 : rtab .any (opsOf Try.f19 6) = sentryref4_Is.T6 := by kernel_rfl
theorem sentryref4_Is.bits6 : waitsOk sentryref4_Is.T6.2 sentryref4_Is.B6 = true := by kernel_rfl
def sentryref4_Is.T16 : Bool × List (List Nat × List Nat) := (true, [([], []), ([], []), ([1], [1]), ([], []), ([2, 3], [2, 3]), ([4], [4]), ([5], [5]), ([0, 6], [0, 6]), ([7], [7]), ([8, 7], [8]), ([9], [9]), ([9], [9]), ([11, 9], [9, 11]), ([9], [9]), ([12, 13, 9], [9, 12, 13]), ([14, 9], [9, 14]), ([15, 9], [9, 15]), ([10, 16, 9, 9], [9, 10, 16]), ([17, 9], [9, 17]), ([9, 18], [9, 18])])
def sentryref4_Is.B16 : List Nat := [0, 0, 2, 0, 14, 30, 62, 127, 255, 511, 1023, 1023, 3071, 1023, 15359, 31743, 64511, 131071, 262143, 524287]
theorem sentryref4_Is.tab16 : rtab .any (opsOf Try.f19 16) = sentryref4_Is.T16 := by kernel_rfl
theorem sentryref4_Is.bits16 : waitsOk sentryref4_Is.T16.2 sentryref4_Is.B16 = true := by kernel_rfl
set_option maxHeartbeats 8000000 in
set_option maxRecDepth 100000 in
theorem sentryref4_Is.calls (k : Nat) (A0_0 : Option Addr) (c0_0 : Nat) (l0_0 : List ByteArray) (A0_1 : Option Addr) (c0_1 : Nat) (l0_1 : List (S48)) (r : Bool) (w : World) (hr0_0 : Kd.C Kd.string w A0_0 l0_0.length l0_0) (hc0_0 : l0_0.length ≤ c0_0) (hr0_1 : Kd.C k48 w A0_1 l0_1.length l0_1) (hc0_1 : l0_1.length ≤ c0_1) (h : sentryref4_Is.f k l0_0 l0_1 = some r) :
  Calls Try.prog 19 #[.agg #[.slice A0_0 l0_0.length c0_0, .slice A0_1 l0_1.length c0_1]] w fun e w' => e = .returned (.bool r) ∧ Below w.heap.size w w' := by
 have hu25 := Try.underlying25
 have HR0_0 := Aside0.mk hr0_0
 have HC0_0 := Aside0.mk hc0_0
 clear hr0_0 hc0_0
 have HR0_1 := Aside0.mk hr0_1
 have HC0_1 := Aside0.mk hc0_1
 clear hr0_1 hc0_1
 have HB := Aside0.mk (Below.refl w.heap.size w)
 have H : (if (l0_0.length : Int) > 6 then (sentryref4_Is.j0 k true l0_0 l0_1) else (if (l0_1.length : Int) < 1 then (sentryref4_Is.j0 k true l0_0 l0_1) else (sentryref4_Is.j0 k (decide ((l0_1.length : Int) > 16)) l0_0 l0_1))) = some r := h
 clear h
 have HC2 := Aside0.mk H
 clear H
 go_enter Try.func19, Try.ntmps19
 go_upto_region 1 with (first | ((with_reducible refine gate_dst (N := 1) rfl ?_); (try (refine gate_guard (by rfl) ?_; dsimp only)); refine box_event ?hg (N := 1) ?hd (cs := #[.slice A0_0 l0_0.length c0_0, .slice A0_1 l0_1.length c0_1]) (t := 25) ?hr ?_; (case hd => rfl); (case hg => rfl); (case hr => first | (go_simp; done) | (go_simp; rfl)); intro gb144 hg w3 hbox hb; have n0_ := hb_ HB hb; have n1_ := Aside0.mk (hbox); have n2_ := Aside0.mk ((by rw [hg]; exact (below_size (by repeat (first | (with_reducible first | exact HB.out | apply below_alloc | apply pw_below_drewN | apply below_drew1) | exact HB.out))) : w.heap.size ≤ gb144)); have n3_ := Aside0.mk ((by rw [hg]; exact (below_size (by repeat (first | (with_reducible first | exact HB.out | apply below_alloc | apply pw_below_drewN | apply below_drew1) | exact HB.out))) : w.heap.size ≤ gb144)); clear HB; have HB := n0_; have BK144 := n1_; have GW144 := n2_; have GE144 := n3_; clear n0_ n1_ n2_ n3_; clear hb hbox hg))
 (try simp only [Act.put, List.setIfInBounds_toArray, List.set_cons_zero, List.set_cons_succ])
 go_cut [21] (fun v21 wc => ∃ (kq : Nat) (x21_1 : Bool), v21 = .bool x21_1 ∧ Aside0 (sentryref4_Is.j0 kq x21_1 l0_0 l0_1 = some r) ∧ Aside0 (kq ≤ k) ∧ Aside0 (wc.heap[gb144]? = some (.cells #[(.slice A0_0 l0_0.length c0_0), (.slice A0_1 l0_1.length c0_1)] 25 (0, 0))) ∧ Aside0 (Below w.heap.size w wc))
 case first =>
  have H := HC2.out
  clear HC2
  by_cases c4 : (l0_0.length : Int) > 6
  ·rw [if_pos c4] at H
   have c4b0 : decide (6 < (l0_0.length : Int)) = true := decide_eq_true c4
   have c4b1 : decide (6 < l0_0.length) = true := decide_eq_true (by omega)
   clear c4
   (first | rw [c4b0] | (simp only [i64_w, i32_w]; rw [c4b0]) | skip)
   have H' := Aside0.mk H
   clear H
   obtain ⟨hcz5_0, hcz5_1, hfz5_0, hfz5_1⟩ := bs2_ BK144
   go_wp2
   go_meet
   case rel => exact ⟨_, (true), (by first | rfl | (simp; done) | (simp [*]; done)), H', ⟨by first | omega | exact Nat.le_refl _⟩, ⟨gx_ BK144⟩, ⟨hf_⟩⟩
  ·rw [if_neg c4] at H
   have c4b0 : decide (6 < (l0_0.length : Int)) = false := decide_eq_false c4
   have c4b1 : decide (6 < l0_0.length) = false := decide_eq_false (by omega)
   clear c4
   (first | rw [c4b0] | (simp only [i64_w, i32_w]; rw [c4b0]) | skip)
   by_cases c6 : (l0_1.length : Int) < 1
   ·rw [if_pos c6] at H
    have c6b0 : decide ((l0_1.length : Int) < 1) = true := decide_eq_true c6
    have c6b1 : decide (l0_1.length < 1) = true := decide_eq_true (by omega)
    clear c6
    have H' := Aside0.mk H
    clear H
    obtain ⟨hcz7_0, hcz7_1, hfz7_0, hfz7_1⟩ := bs2_ BK144
    go_wp2
    go_meet
    case rel => exact ⟨_, (true), (by first | rfl | (simp; done) | (simp [*]; done)), H', ⟨by first | omega | exact Nat.le_refl _⟩, ⟨gx_ BK144⟩, ⟨hf_⟩⟩
   ·rw [if_neg c6] at H
    have c6b0 : decide ((l0_1.length : Int) < 1) = false := decide_eq_false c6
    have c6b1 : decide (l0_1.length < 1) = false := decide_eq_false (by omega)
    clear c6
    have H' := Aside0.mk H
    clear H
    obtain ⟨hcz8_0, hcz8_1, hfz8_0, hfz8_1⟩ := bs2_ BK144
    go_wp2
    go_meet
    case rel => exact ⟨_, (decide ((l0_1.length : Int) > 16)), (by first | rfl | (simp; done) | (simp [*]; done)), H', ⟨by first | omega | exact Nat.le_refl _⟩, ⟨gx_ BK144⟩, ⟨hf_⟩⟩
 case rest =>
  clear HC2
  (try clear c1); (try clear p2); (try clear c4); (try clear c4b0); (try clear c4b1); (try clear c6); (try clear c6b0); (try clear c6b1); (try clear hcz5_0); (try clear hcz5_1); (try clear hcz7_0); (try clear hcz7_1); (try clear hcz8_0); (try clear hcz8_1); (try clear hfz5_0); (try clear hfz5_1); (try clear hfz7_0); (try clear hfz7_1); (try clear hfz8_0); (try clear hfz8_1)
  obtain ⟨kq, x21_1, rfl, HA, HJ1, BK144, HB⟩ := hcut
  cases kq with
  | zero => exact absurd HA.out (by simp [sentryref4_Is.j0])
  | succ kj1 =>
   have H := HA.out
   clear HA
   simp only [sentryref4_Is.j0] at H
   by_cases c9 : x21_1 = true
   ·subst c9
    have H1 : (some false) = some r := by rw [if_pos rfl] at H; exact H
    clear H
    have H := H1
    clear H1
    obtain rfl := Option.some.inj H
    go_wp2
    go_ret
    exact ⟨er_, hf_⟩
   ·replace c9 := Bool.eq_false_iff.mpr c9
    subst c9
    have H1 : (sentryref4_Is.l0 kj1 0 l0_0 l0_1) = some r := by rw [if_neg (show ¬ (false = true) by decide)] at H; exact H
    clear H
    have H := H1
    clear H1
    have H' := Aside0.mk H
    clear H
    go_wp2
    go_loopg [3] kj1 (fun kq v3 w' => ∃ (x3_2 : Int), v3 = .int .i64 x3_2 ∧ Aside0 (sentryref4_Is.l0 kq x3_2 l0_0 l0_1 = some r) ∧ Aside0 (kq ≤ kj1) ∧ Aside0 (w'.heap[gb144]? = some (.cells #[(.slice A0_0 l0_0.length c0_0), (.slice A0_1 l0_1.length c0_1)] 25 (0, 0))) ∧ Aside0 (Below w.heap.size w w'))
    case atStart => exact ⟨(0), (by first | rfl | (simp; done) | (simp [*]; done)), H', ⟨Nat.le_refl _⟩, ⟨gx_ BK144⟩, ⟨hf_⟩⟩
    case round =>
     clear H'
     (try clear c1); (try clear p2); (try clear c4); (try clear c4b0); (try clear c4b1); (try clear c6); (try clear c6b0); (try clear c6b1); (try clear c9); (try clear hcz5_0); (try clear hcz5_1); (try clear hcz7_0); (try clear hcz7_1); (try clear hcz8_0); (try clear hcz8_1); (try clear hfz5_0); (try clear hfz5_1); (try clear hfz7_0); (try clear hfz7_1); (try clear hfz8_0); (try clear hfz8_1); (try clear p2)
     obtain ⟨x3_2, rfl, HA, HK2, BK144, HB⟩ := hrel
     cases gk with
     | zero => exact absurd HA.out (by simp [sentryref4_Is.l0])
     | succ k2 =>
      have H := HA.out
      clear HA
      simp only [sentryref4_Is.l0] at H
      by_cases c10 : x3_2 < (l0_0.length : Int)
      ·rw [if_pos c10] at H
       have c10b0 : decide (x3_2 < (l0_0.length : Int)) = true := decide_eq_true c10
       clear c10
       by_cases c11 : 0 ≤ x3_2
       ·rw [if_pos c11] at H
        have c11b0 : decide (0 ≤ x3_2) = true := decide_eq_true c11
        clear c11
        replace H := Option.bind_eq_some_iff.mp H
        obtain ⟨t146, A120, H⟩ := H
        replace H : (if t146 = true then (if x3_2 ≤ (l0_0.length : Int) then ((sentryref4_File.f k2 (l0_0.take (x3_2 : Int).toNat) (rdOf ByteArray.empty l0_0 x3_2)).bind fun t149 => (if t149 = true then (some false) else (sentryref4_Is.l0 k2 (wrap64 (x3_2 + 1)) l0_0 l0_1))) else (none)) else (some false)) = some r := H
        have A12 := Aside0.mk A120
        clear A120
        by_cases c13 : t146 = true
        ·subst c13
         have H1 : (if x3_2 ≤ (l0_0.length : Int) then ((sentryref4_File.f k2 (l0_0.take (x3_2 : Int).toNat) (rdOf ByteArray.empty l0_0 x3_2)).bind fun t149 => (if t149 = true then (some false) else (sentryref4_Is.l0 k2 (wrap64 (x3_2 + 1)) l0_0 l0_1))) else (none)) = some r := by rw [if_pos rfl] at H; exact H
         clear H
         have H := H1
         clear H1
         have c14b0 := eq_true (od_ : 0 ≤ x3_2)
         by_cases c15 : x3_2 ≤ (l0_0.length : Int)
         ·rw [if_pos c15] at H
          have c15b0 := eq_true c15
          have c15b1 : decide (x3_2 ≤ (l0_0.length : Int)) = true := decide_eq_true c15
          clear c15
          replace H := Option.bind_eq_some_iff.mp H
          obtain ⟨t149, A160, H⟩ := H
          replace H : (if t149 = true then (some false) else (sentryref4_Is.l0 k2 (wrap64 (x3_2 + 1)) l0_0 l0_1)) = some r := H
          have A16 := Aside0.mk A160
          clear A160
          by_cases c17 : t149 = true
          ·subst c17
           have H1 : (some false) = some r := by rw [if_pos rfl] at H; exact H
           clear H
           have H := H1
           clear H1
           obtain rfl := Option.some.inj H
           obtain ⟨hcz18_0, hcz18_1, hfz18_0, hfz18_1⟩ := bs2_ BK144
           try go_wp2
           replace BK144 := Aside0.mk (blk_drew BK144.out)
           replace HB := Aside0.mk (below_drew1 HB.out)
           have p145 : 0 ≤ (x3_2 : Int) := od_
           have q145 : x3_2 < (l0_0.length : Int) := od_
           obtain ⟨ad145, e145, hx145_0⟩ := Kd.at_string HR0_0.out x3_2 p145 q145
           have hw145_0 := hx145_0
           cases e145
           replace hx145_0 := rr_ HB hx145_0
           replace p145 := eq_true p145
           replace q145 := eq_true q145
           have p148 : 0 ≤ (x3_2 : Int) := od_
           have q148 : x3_2 < (l0_0.length : Int) := od_
           obtain ⟨ad148, e148, hx148_0⟩ := Kd.at_string HR0_0.out x3_2 p148 q148
           have hw148_0 := hx148_0
           obtain rfl : ad145 = ad148 := (by injection e148)
           replace hx148_0 := rr_ HB hx148_0
           replace p148 := eq_true p148
           replace q148 := eq_true q148
           refine start_ (n := 19) (S := fun w' => w'.cell? ⟨gb144, 0, none⟩ = some (.slice (some ad145) l0_0.length c0_0) ∧ w'.cell? ⟨gb144, 1, none⟩ = some (.slice A0_1 l0_1.length c0_1) ∧ w'.cell? (ad145.add (x3_2).toNat) = some (.string (rdOf ByteArray.empty l0_0 x3_2)) ∧ w'.cell? (ad145.add (x3_2).toNat) = some (.string (rdOf ByteArray.empty l0_0 x3_2))) (ds := []) #[false, false, false, false, false, false, false, false, false, false, false, false, false, false, false, false, false, false, false] (by kernel_rfl) rfl rfl ⟨(bk0_ BK144 :), (bk1_ BK144 :), (rr_ HB hw145_0 :), (rr_ HB hw148_0 :)⟩ (fun hHeld => ?_); refine with_tabW sentryref4_Is.tab6 sentryref4_Is.bits6 (fun HT_ HW_ => ?_)
           generalize wr.drew = w19 at BK144 HB hx145_0 hx148_0 hHeld ⊢
           refine pz_ 0 (some 29) (bits_ 19 1) HT_.out ?_
           refine pz_ 2 (some 31) (bits_ 19 5) HT_.out ?_
           refine tz_ 1 (some 30) (bits_ 19 7) HT_.out HW_.out hHeld ?_ (hy := by rintro w' ⟨s0, s1, s2, s3⟩; go_simp; with_reducible rfl)
           refine pz_ 3 (some 32) (bits_ 19 15) HT_.out ?_
           refine tz_ 4 (some 33) (bits_ 19 31) HT_.out HW_.out hHeld ?_ (hy := by rintro w' ⟨s0, s1, s2, s3⟩; go_simp; with_reducible rfl)
           refine oz_ 5 (some 34) (bits_ 19 63) HT_.out (fun K hK => ?_)
           refine go_s_ Try.func28 #[.string (rdOf ByteArray.empty l0_0 x3_2)] ?_
           with_reducible refine (sentryref1_Is.calls k2 (rdOf ByteArray.empty l0_0 x3_2) true _ A12.out).mono ?_
           rintro e w' ⟨rfl, ⟨nd, rfl⟩⟩
           refine ⟨_, rfl, ?_⟩
           obtain ⟨i020, hi020, _, hsz20, _⟩ := info_parts info9
           obtain ⟨hcut20, hA20, hC20⟩ := print_take_of (P := Try.prog) Value.string (⟨#[]⟩ : ByteArray) 22 9 .i64 Try.underlying22 hi020 hsz20 (some ad145) c0_0 l0_0 x3_2 (od_) (od_) HC0_0.out
           have HR147 := Aside0.mk (Kd.C_of_reads (h1 := fun _ => rfl) (hA20 _ (Kd.reads_of_C HR0_0.out)))
           have HC147 := Aside0.mk hC20
           clear hA20 hC20 hi020 hsz20
           refine hK.out _ _ ⟨(bk0_ BK144 :), (bk1_ BK144 :), (rr_ HB hw145_0 :), (rr_ HB hw148_0 :)⟩ (fun hHeld => ?_)
           clear hK K
           refine nz_ (some 34) ?_
           refine pz_ 6 (some 35) (bits_ 19 127) HT_.out ?_
           refine pz_ 7 (some 36) (bits_ 19 255) HT_.out ?_
           refine pz_ 8 (some 37) (bits_ 19 511) HT_.out ?_
           refine pz_ 10 (some 39) (bits_ 19 1535) HT_.out ?_
           refine pz_ 12 (some 41) (bits_ 19 5631) HT_.out ?_
           refine pz_ 14 (some 43) (bits_ 19 22015) HT_.out ?_
           refine tz_ 9 (some 38) (bits_ 19 22527) HT_.out HW_.out hHeld ?_ (hy := by rintro w' ⟨s0, s1, s2, s3⟩; go_simp; with_reducible rfl)
           refine pz_ 11 (some 40) (bits_ 19 24575) HT_.out ?_
           refine tz_ 13 (some 42) (bits_ 19 32767) HT_.out HW_.out hHeld ?_ (hy := by rintro w' ⟨s0, s1, s2, s3⟩; go_simp; with_reducible rfl)
           refine pz_ 15 (some 44) (bits_ 19 65535) HT_.out ?_
           refine tz_ 16 (some 45) (bits_ 19 131071) HT_.out HW_.out hHeld ?_ (hy := by rintro w' ⟨s0, s1, s2, s3⟩; go_simp; with_reducible rfl)
           refine oz_ 17 (some 46) (bits_ 19 262143) HT_.out (fun K hK => ?_)
           refine goes_ Try.func29 (by kernel_rfl) rfl #[.slice (some ad145) (l0_0.take (x3_2 : Int).toNat).length c0_0, .string (rdOf ByteArray.empty l0_0 x3_2)] (by rfl) rfl rfl (by (try simp only [List.map_toArray, List.map_cons, List.map_nil]); first | done | (rw [show (l0_0.take (x3_2 : Int).toNat).length = x3_2.toNat from (by rw [List.length_take]; have h_ : (x3_2 : Int) ≤ (l0_0.length : Int) := od_; omega)] <;> rfl) | rfl | (simp only [List.length_drop, List.length_take]; rfl)) ?_
           with_reducible refine (sentryref4_File.calls k2 _ _ (l0_0.take (x3_2 : Int).toNat) (rdOf ByteArray.empty l0_0 x3_2) true _ ?side1 ?side2 A16.out).mono ?_
           (case side1 => repeat (first | exact (Kd.C_below HR147.out (by repeat (first | (with_reducible first | exact HB.out | apply below_alloc | apply pw_below_drewN | apply below_drew1 | refine below_set ?_ GE144.out) | exact HB.out))) | (with_reducible refine Kd.C_alloc ?_ _) | (with_reducible refine Kd.C_drewN ?_ _) | (with_reducible refine Kd.C_drew ?_)))
           (case side2 => exact HC147.out)
           rintro e w' ⟨rfl, ⟨nd, rfl⟩⟩
           refine ⟨_, rfl, ?_⟩
           refine hK.out _ _ ⟨(bk0_ BK144 :), (bk1_ BK144 :), (rr_ HB hw145_0 :), (rr_ HB hw148_0 :)⟩ (fun hHeld => ?_)
           clear hK K
           refine nz_ (some 46) ?_
           refine pz_ 18 (some 47) (bits_ 19 524287) HT_.out ?_
           refine done_ (done_of HT_.out (by kernel_rfl)) ?_
           try go_wp2
           go_ret
           exact ⟨er_, hf_⟩
          ·replace c17 := Bool.eq_false_iff.mpr c17
           subst c17
           have H1 : (sentryref4_Is.l0 k2 (wrap64 (x3_2 + 1)) l0_0 l0_1) = some r := by rw [if_neg (show ¬ (false = true) by decide)] at H; exact H
           clear H
           have H := H1
           clear H1
           have H' := Aside0.mk H
           clear H
           obtain ⟨hcz21_0, hcz21_1, hfz21_0, hfz21_1⟩ := bs2_ BK144
           try go_wp2
           replace BK144 := Aside0.mk (blk_drew BK144.out)
           replace HB := Aside0.mk (below_drew1 HB.out)
           have p145 : 0 ≤ (x3_2 : Int) := od_
           have q145 : x3_2 < (l0_0.length : Int) := od_
           obtain ⟨ad145, e145, hx145_0⟩ := Kd.at_string HR0_0.out x3_2 p145 q145
           have hw145_0 := hx145_0
           cases e145
           replace hx145_0 := rr_ HB hx145_0
           replace p145 := eq_true p145
           replace q145 := eq_true q145
           have p148 : 0 ≤ (x3_2 : Int) := od_
           have q148 : x3_2 < (l0_0.length : Int) := od_
           obtain ⟨ad148, e148, hx148_0⟩ := Kd.at_string HR0_0.out x3_2 p148 q148
           have hw148_0 := hx148_0
           obtain rfl : ad145 = ad148 := (by injection e148)
           replace hx148_0 := rr_ HB hx148_0
           replace p148 := eq_true p148
           replace q148 := eq_true q148
           refine start_ (n := 19) (S := fun w' => w'.cell? ⟨gb144, 0, none⟩ = some (.slice (some ad145) l0_0.length c0_0) ∧ w'.cell? ⟨gb144, 1, none⟩ = some (.slice A0_1 l0_1.length c0_1) ∧ w'.cell? (ad145.add (x3_2).toNat) = some (.string (rdOf ByteArray.empty l0_0 x3_2)) ∧ w'.cell? (ad145.add (x3_2).toNat) = some (.string (rdOf ByteArray.empty l0_0 x3_2))) (ds := []) #[false, false, false, false, false, false, false, false, false, false, false, false, false, false, false, false, false, false, false] (by kernel_rfl) rfl rfl ⟨(bk0_ BK144 :), (bk1_ BK144 :), (rr_ HB hw145_0 :), (rr_ HB hw148_0 :)⟩ (fun hHeld => ?_); refine with_tabW sentryref4_Is.tab6 sentryref4_Is.bits6 (fun HT_ HW_ => ?_)
           generalize wr.drew = w22 at BK144 HB hx145_0 hx148_0 hHeld ⊢
           refine pz_ 0 (some 29) (bits_ 19 1) HT_.out ?_
           refine pz_ 2 (some 31) (bits_ 19 5) HT_.out ?_
           refine tz_ 1 (some 30) (bits_ 19 7) HT_.out HW_.out hHeld ?_ (hy := by rintro w' ⟨s0, s1, s2, s3⟩; go_simp; with_reducible rfl)
           refine pz_ 3 (some 32) (bits_ 19 15) HT_.out ?_
           refine tz_ 4 (some 33) (bits_ 19 31) HT_.out HW_.out hHeld ?_ (hy := by rintro w' ⟨s0, s1, s2, s3⟩; go_simp; with_reducible rfl)
           refine oz_ 5 (some 34) (bits_ 19 63) HT_.out (fun K hK => ?_)
           refine go_s_ Try.func28 #[.string (rdOf ByteArray.empty l0_0 x3_2)] ?_
           with_reducible refine (sentryref1_Is.calls k2 (rdOf ByteArray.empty l0_0 x3_2) true _ A12.out).mono ?_
           rintro e w' ⟨rfl, ⟨nd, rfl⟩⟩
           refine ⟨_, rfl, ?_⟩
           obtain ⟨i023, hi023, _, hsz23, _⟩ := info_parts info9
           obtain ⟨hcut23, hA23, hC23⟩ := print_take_of (P := Try.prog) Value.string (⟨#[]⟩ : ByteArray) 22 9 .i64 Try.underlying22 hi023 hsz23 (some ad145) c0_0 l0_0 x3_2 (od_) (od_) HC0_0.out
           have HR147 := Aside0.mk (Kd.C_of_reads (h1 := fun _ => rfl) (hA23 _ (Kd.reads_of_C HR0_0.out)))
           have HC147 := Aside0.mk hC23
           clear hA23 hC23 hi023 hsz23
           refine hK.out _ _ ⟨(bk0_ BK144 :), (bk1_ BK144 :), (rr_ HB hw145_0 :), (rr_ HB hw148_0 :)⟩ (fun hHeld => ?_)
           clear hK K
           refine nz_ (some 34) ?_
           refine pz_ 6 (some 35) (bits_ 19 127) HT_.out ?_
           refine pz_ 7 (some 36) (bits_ 19 255) HT_.out ?_
           refine pz_ 8 (some 37) (bits_ 19 511) HT_.out ?_
           refine pz_ 10 (some 39) (bits_ 19 1535) HT_.out ?_
           refine pz_ 12 (some 41) (bits_ 19 5631) HT_.out ?_
           refine pz_ 14 (some 43) (bits_ 19 22015) HT_.out ?_
           refine tz_ 9 (some 38) (bits_ 19 22527) HT_.out HW_.out hHeld ?_ (hy := by rintro w' ⟨s0, s1, s2, s3⟩; go_simp; with_reducible rfl)
           refine pz_ 11 (some 40) (bits_ 19 24575) HT_.out ?_
           refine tz_ 13 (some 42) (bits_ 19 32767) HT_.out HW_.out hHeld ?_ (hy := by rintro w' ⟨s0, s1, s2, s3⟩; go_simp; with_reducible rfl)
           refine pz_ 15 (some 44) (bits_ 19 65535) HT_.out ?_
           refine tz_ 16 (some 45) (bits_ 19 131071) HT_.out HW_.out hHeld ?_ (hy := by rintro w' ⟨s0, s1, s2, s3⟩; go_simp; with_reducible rfl)
           refine oz_ 17 (some 46) (bits_ 19 262143) HT_.out (fun K hK => ?_)
           refine goes_ Try.func29 (by kernel_rfl) rfl #[.slice (some ad145) (l0_0.take (x3_2 : Int).toNat).length c0_0, .string (rdOf ByteArray.empty l0_0 x3_2)] (by rfl) rfl rfl (by (try simp only [List.map_toArray, List.map_cons, List.map_nil]); first | done | (rw [show (l0_0.take (x3_2 : Int).toNat).length = x3_2.toNat from (by rw [List.length_take]; have h_ : (x3_2 : Int) ≤ (l0_0.length : Int) := od_; omega)] <;> rfl) | rfl | (simp only [List.length_drop, List.length_take]; rfl)) ?_
           with_reducible refine (sentryref4_File.calls k2 _ _ (l0_0.take (x3_2 : Int).toNat) (rdOf ByteArray.empty l0_0 x3_2) false _ ?side1 ?side2 A16.out).mono ?_
           (case side1 => repeat (first | exact (Kd.C_below HR147.out (by repeat (first | (with_reducible first | exact HB.out | apply below_alloc | apply pw_below_drewN | apply below_drew1 | refine below_set ?_ GE144.out) | exact HB.out))) | (with_reducible refine Kd.C_alloc ?_ _) | (with_reducible refine Kd.C_drewN ?_ _) | (with_reducible refine Kd.C_drew ?_)))
           (case side2 => exact HC147.out)
           rintro e w' ⟨rfl, ⟨nd, rfl⟩⟩
           refine ⟨_, rfl, ?_⟩
           refine hK.out _ _ ⟨(bk0_ BK144 :), (bk1_ BK144 :), (rr_ HB hw145_0 :), (rr_ HB hw148_0 :)⟩ (fun hHeld => ?_)
           clear hK K
           refine nz_ (some 46) ?_
           refine pz_ 18 (some 47) (bits_ 19 524287) HT_.out ?_
           refine done_ (done_of HT_.out (by kernel_rfl)) ?_
           try go_wp2
           go_roundg k2
           case measure => have := HJ1.out; have := HK2.out; omega
           case rel => exact ⟨(wrap64 (x3_2 + 1)), (by first | rfl | (simp; done) | (simp [*]; done)), H', ⟨by have := HJ1.out; have := HK2.out; omega⟩, ⟨gx_ BK144⟩, ⟨hf_⟩⟩
         ·rw [if_neg c15] at H
          exact absurd H (by simp)
        ·replace c13 := Bool.eq_false_iff.mpr c13
         subst c13
         have H1 : (some false) = some r := by rw [if_neg (show ¬ (false = true) by decide)] at H; exact H
         clear H
         have H := H1
         clear H1
         obtain rfl := Option.some.inj H
         obtain ⟨hcz24_0, hcz24_1, hfz24_0, hfz24_1⟩ := bs2_ BK144
         try go_wp2
         replace BK144 := Aside0.mk (blk_drew BK144.out)
         replace HB := Aside0.mk (below_drew1 HB.out)
         have p145 : 0 ≤ (x3_2 : Int) := od_
         have q145 : x3_2 < (l0_0.length : Int) := od_
         obtain ⟨ad145, e145, hx145_0⟩ := Kd.at_string HR0_0.out x3_2 p145 q145
         have hw145_0 := hx145_0
         cases e145
         replace hx145_0 := rr_ HB hx145_0
         replace p145 := eq_true p145
         replace q145 := eq_true q145
         refine start_ (n := 19) (S := fun w' => w'.cell? ⟨gb144, 0, none⟩ = some (.slice (some ad145) l0_0.length c0_0) ∧ w'.cell? ⟨gb144, 1, none⟩ = some (.slice A0_1 l0_1.length c0_1) ∧ w'.cell? (ad145.add (x3_2).toNat) = some (.string (rdOf ByteArray.empty l0_0 x3_2))) (ds := []) #[false, false, false, false, false, false, false, false, false, false, false, false, false, false, false, false, false, false, false] (by kernel_rfl) rfl rfl ⟨(bk0_ BK144 :), (bk1_ BK144 :), (rr_ HB hw145_0 :)⟩ (fun hHeld => ?_); refine with_tabW sentryref4_Is.tab6 sentryref4_Is.bits6 (fun HT_ HW_ => ?_)
         generalize wr.drew = w25 at BK144 HB hx145_0 hHeld ⊢
         refine pz_ 0 (some 29) (bits_ 19 1) HT_.out ?_
         refine pz_ 2 (some 31) (bits_ 19 5) HT_.out ?_
         refine tz_ 1 (some 30) (bits_ 19 7) HT_.out HW_.out hHeld ?_ (hy := by rintro w' ⟨s0, s1, s2⟩; go_simp; with_reducible rfl)
         refine pz_ 3 (some 32) (bits_ 19 15) HT_.out ?_
         refine tz_ 4 (some 33) (bits_ 19 31) HT_.out HW_.out hHeld ?_ (hy := by rintro w' ⟨s0, s1, s2⟩; go_simp; with_reducible rfl)
         refine oz_ 5 (some 34) (bits_ 19 63) HT_.out (fun K hK => ?_)
         refine go_s_ Try.func28 #[.string (rdOf ByteArray.empty l0_0 x3_2)] ?_
         with_reducible refine (sentryref1_Is.calls k2 (rdOf ByteArray.empty l0_0 x3_2) false _ A12.out).mono ?_
         rintro e w' ⟨rfl, ⟨nd, rfl⟩⟩
         refine ⟨_, rfl, ?_⟩
         refine hK.out _ _ ⟨(bk0_ BK144 :), (bk1_ BK144 :), (rr_ HB hw145_0 :)⟩ (fun hHeld => ?_)
         clear hK K
         refine nz_ (some 34) ?_
         refine pz_ 6 (some 35) (bits_ 19 127) HT_.out ?_
         refine pz_ 7 (some 36) (bits_ 19 255) HT_.out ?_
         refine sz_ 8 (some 37) (bits_ 19 511) HT_.out ?_
         refine sz_ 9 (some 38) (bits_ 19 1023) HT_.out ?_
         refine sz_ 10 (some 39) (bits_ 19 2047) HT_.out ?_
         refine sz_ 11 (some 40) (bits_ 19 4095) HT_.out ?_
         refine sz_ 12 (some 41) (bits_ 19 8191) HT_.out ?_
         refine sz_ 13 (some 42) (bits_ 19 16383) HT_.out ?_
         refine sz_ 14 (some 43) (bits_ 19 32767) HT_.out ?_
         refine sz_ 15 (some 44) (bits_ 19 65535) HT_.out ?_
         refine sz_ 16 (some 45) (bits_ 19 131071) HT_.out ?_
         refine sz_ 17 (some 46) (bits_ 19 262143) HT_.out ?_
         refine pz_ 18 (some 47) (bits_ 19 524287) HT_.out ?_
         refine done_ (done_of HT_.out (by kernel_rfl)) ?_
         try go_wp2
         go_ret
         exact ⟨er_, hf_⟩
       ·rw [if_neg c11] at H
        exact absurd H (by simp)
      ·rw [if_neg c10] at H
       have c10b0 : decide (x3_2 < (l0_0.length : Int)) = false := decide_eq_false c10
       clear c10
       have H' := Aside0.mk H
       clear H
       obtain ⟨hcz26_0, hcz26_1, hfz26_0, hfz26_1⟩ := bs2_ BK144
       go_wp2
       go_loopg [4] k2 (fun kq v4 w' => ∃ (x4_3 : Int), v4 = .int .i64 x4_3 ∧ Aside0 (sentryref4_Is.l1 kq x4_3 l0_0 l0_1 = some r) ∧ Aside0 (kq ≤ k2) ∧ Aside0 (w'.heap[gb144]? = some (.cells #[(.slice A0_0 l0_0.length c0_0), (.slice A0_1 l0_1.length c0_1)] 25 (0, 0))) ∧ Aside0 (Below w.heap.size w w'))
       case atStart => exact ⟨(0), (by first | rfl | (simp; done) | (simp [*]; done)), H', ⟨Nat.le_refl _⟩, ⟨gx_ BK144⟩, ⟨hf_⟩⟩
       case round =>
        clear H'
        (try clear c1); (try clear p1); (try clear q1); (try clear hx1); (try clear c2); (try clear p2); (try clear p6); (try clear c10); (try clear c10b0); (try clear c11); (try clear c13); (try clear c14); (try clear c14b0); (try clear p14); (try clear q14); (try clear hx14); (try clear c15); (try clear c15b0); (try clear c15b1); (try clear c17); (try clear hcz18_0); (try clear hcz18_1); (try clear hcz21_0); (try clear hcz21_1); (try clear hcz24_0); (try clear hcz24_1); (try clear hcz26_0); (try clear hcz26_1); (try clear hfz18_0); (try clear hfz18_1); (try clear hfz21_0); (try clear hfz21_1); (try clear hfz24_0); (try clear hfz24_1); (try clear hfz26_0); (try clear hfz26_1); (try clear hx145_0); (try clear hx148_0); (try clear p145); (try clear p148); (try clear q145); (try clear q148)
        obtain ⟨x4_3, rfl, HA, HK3, BK144, HB⟩ := hrel
        cases gk with
        | zero => exact absurd HA.out (by simp [sentryref4_Is.l1])
        | succ k3 =>
         have H := HA.out
         clear HA
         simp only [sentryref4_Is.l1] at H
         by_cases c27 : x4_3 < (l0_1.length : Int)
         ·rw [if_pos c27] at H
          have c27b0 : decide (x4_3 < (l0_1.length : Int)) = true := decide_eq_true c27
          clear c27
          replace H := Option.bind_eq_some_iff.mp H
          obtain ⟨t150, A280, H⟩ := H
          replace H : (if t150 = true then (sentryref4_Is.l1 k3 (wrap64 (x4_3 + 1)) l0_0 l0_1) else (some false)) = some r := H
          have A28 := Aside0.mk A280
          clear A280
          by_cases c29 : t150 = true
          ·subst c29
           have H1 : (sentryref4_Is.l1 k3 (wrap64 (x4_3 + 1)) l0_0 l0_1) = some r := by rw [if_pos rfl] at H; exact H
           clear H
           have H := H1
           clear H1
           have H' := Aside0.mk H
           clear H
           obtain ⟨hcz30_0, hcz30_1, hfz30_0, hfz30_1⟩ := bs2_ BK144
           go_wp2_with (first | ((with_reducible refine gate_callee (f := 30) rfl ?_); refine gl_ (some 57) Try.func30 #[.agg #[.slice A0_0 l0_0.length c0_0, .slice A0_1 l0_1.length c0_1], .int .i64 x4_3] ?_; (with_reducible refine (sentryref4_item.calls k3 _ _ l0_0 _ _ l0_1 x4_3 true _ ?side1 ?side2 ?side3 ?side4 A28.out).mono ?_); (case side1 => exact kc_ HR0_0 HB); (case side2 => exact HC0_0.out); (case side3 => exact kc_ HR0_1 HB); (case side4 => exact HC0_1.out); rintro e w31 ⟨rfl, hb⟩; refine ⟨_, rfl, ?_⟩; have n0_ := bb_ BK144 hb; have n1_ := hb_ HB hb; clear BK144; clear HB; have BK144 := n0_; have HB := n1_; clear n0_ n1_; (try clear hb); (try clear hb2); (try clear hk); (try clear hi)))
           go_roundg k3
           case measure => have := HJ1.out; have := HK2.out; have := HK3.out; omega
           case rel => exact ⟨(wrap64 (x4_3 + 1)), (by first | rfl | (simp; done) | (simp [*]; done)), H', ⟨by have := HJ1.out; have := HK2.out; have := HK3.out; omega⟩, ⟨gx_ BK144⟩, ⟨hf_⟩⟩
          ·replace c29 := Bool.eq_false_iff.mpr c29
           subst c29
           have H1 : (some false) = some r := by rw [if_neg (show ¬ (false = true) by decide)] at H; exact H
           clear H
           have H := H1
           clear H1
           obtain rfl := Option.some.inj H
           obtain ⟨hcz32_0, hcz32_1, hfz32_0, hfz32_1⟩ := bs2_ BK144
           go_wp2_with (first | ((with_reducible refine gate_callee (f := 30) rfl ?_); refine gl_ (some 57) Try.func30 #[.agg #[.slice A0_0 l0_0.length c0_0, .slice A0_1 l0_1.length c0_1], .int .i64 x4_3] ?_; (with_reducible refine (sentryref4_item.calls k3 _ _ l0_0 _ _ l0_1 x4_3 false _ ?side1 ?side2 ?side3 ?side4 A28.out).mono ?_); (case side1 => exact kc_ HR0_0 HB); (case side2 => exact HC0_0.out); (case side3 => exact kc_ HR0_1 HB); (case side4 => exact HC0_1.out); rintro e w33 ⟨rfl, hb⟩; refine ⟨_, rfl, ?_⟩; have n0_ := bb_ BK144 hb; have n1_ := hb_ HB hb; clear BK144; clear HB; have BK144 := n0_; have HB := n1_; clear n0_ n1_; (try clear hb); (try clear hb2); (try clear hk); (try clear hi)))
           go_ret
           exact ⟨er_, hf_⟩
         ·rw [if_neg c27] at H
          have c27b0 : decide (x4_3 < (l0_1.length : Int)) = false := decide_eq_false c27
          clear c27
          have H' := Aside0.mk H
          clear H
          obtain ⟨hcz34_0, hcz34_1, hfz34_0, hfz34_1⟩ := bs2_ BK144
          go_wp2
          go_loopg [5] k3 (fun kq v5 w' => ∃ (x5_4 : Int), v5 = .int .i64 x5_4 ∧ Aside0 (sentryref4_Is.l2 kq x5_4 l0_0 l0_1 = some r) ∧ Aside0 (kq ≤ k3) ∧ Aside0 (w'.heap[gb144]? = some (.cells #[(.slice A0_0 l0_0.length c0_0), (.slice A0_1 l0_1.length c0_1)] 25 (0, 0))) ∧ Aside0 (Below w.heap.size w w'))
          case atStart => exact ⟨(0), (by first | rfl | (simp; done) | (simp [*]; done)), H', ⟨Nat.le_refl _⟩, ⟨gx_ BK144⟩, ⟨hf_⟩⟩
          case round =>
           clear H'
           (try clear c1); (try clear p1); (try clear q1); (try clear hx1); (try clear c2); (try clear p2); (try clear c3); (try clear p6); (try clear c10); (try clear c10b0); (try clear c11); (try clear c13); (try clear c14); (try clear c14b0); (try clear p14); (try clear q14); (try clear hx14); (try clear c15); (try clear c15b0); (try clear c15b1); (try clear c17); (try clear c27); (try clear c27b0); (try clear c28); (try clear c29); (try clear c30); (try clear hcz18_0); (try clear hcz18_1); (try clear hcz21_0); (try clear hcz21_1); (try clear hcz24_0); (try clear hcz24_1); (try clear hcz26_0); (try clear hcz26_1); (try clear hcz30_0); (try clear hcz30_1); (try clear hcz32_0); (try clear hcz32_1); (try clear hcz34_0); (try clear hcz34_1); (try clear hfz18_0); (try clear hfz18_1); (try clear hfz21_0); (try clear hfz21_1); (try clear hfz24_0); (try clear hfz24_1); (try clear hfz26_0); (try clear hfz26_1); (try clear hfz30_0); (try clear hfz30_1); (try clear hfz32_0); (try clear hfz32_1); (try clear hfz34_0); (try clear hfz34_1); (try clear hx145_0); (try clear hx148_0); (try clear p1); (try clear p14); (try clear p145); (try clear p148); (try clear p2); (try clear p6); (try clear q1); (try clear q14); (try clear q145); (try clear q148)
           obtain ⟨x5_4, rfl, HA, HK4, BK144, HB⟩ := hrel
           cases gk with
           | zero => exact absurd HA.out (by simp [sentryref4_Is.l2])
           | succ k4 =>
            have H := HA.out
            clear HA
            simp only [sentryref4_Is.l2] at H
            by_cases c35 : x5_4 < (l0_1.length : Int)
            ·rw [if_pos c35] at H
             have c35b0 : decide (x5_4 < (l0_1.length : Int)) = true := decide_eq_true c35
             clear c35
             by_cases c36 : 0 ≤ x5_4
             ·rw [if_pos c36] at H
              have c36b0 : decide (0 ≤ x5_4) = true := decide_eq_true c36
              clear c36
              replace H := Option.bind_eq_some_iff.mp H
              obtain ⟨t152, A370, H⟩ := H
              replace H : (if t152 = true then ((sentryref4_sentries.f k4 l0_0 l0_1 ((rd_T48 l0_1 x5_4).f6)).bind fun t154 => (if t154 = true then (sentryref4_Is.l2 k4 (wrap64 (x5_4 + 1)) l0_0 l0_1) else (some false))) else (some false)) = some r := H
              have A37 := Aside0.mk A370
              clear A370
              by_cases c38 : t152 = true
              ·subst c38
               have H1 : ((sentryref4_sentries.f k4 l0_0 l0_1 ((rd_T48 l0_1 x5_4).f6)).bind fun t154 => (if t154 = true then (sentryref4_Is.l2 k4 (wrap64 (x5_4 + 1)) l0_0 l0_1) else (some false))) = some r := by rw [if_pos rfl] at H; exact H
               clear H
               have H := H1
               clear H1
               replace H := Option.bind_eq_some_iff.mp H
               obtain ⟨t154, A390, H⟩ := H
               replace H : (if t154 = true then (sentryref4_Is.l2 k4 (wrap64 (x5_4 + 1)) l0_0 l0_1) else (some false)) = some r := H
               have A39 := Aside0.mk A390
               clear A390
               by_cases c40 : t154 = true
               ·subst c40
                have H1 : (sentryref4_Is.l2 k4 (wrap64 (x5_4 + 1)) l0_0 l0_1) = some r := by rw [if_pos rfl] at H; exact H
                clear H
                have H := H1
                clear H1
                have H' := Aside0.mk H
                clear H
                obtain ⟨hcz41_0, hcz41_1, hfz41_0, hfz41_1⟩ := bs2_ BK144
                try go_wp2
                replace BK144 := Aside0.mk (blk_drew BK144.out)
                replace HB := Aside0.mk (below_drew1 HB.out)
                have p151 : 0 ≤ (x5_4 : Int) := od_
                have q151 : x5_4 < (l0_1.length : Int) := od_
                obtain ⟨ad151, A151_5, c151_5, A151_6, c151_6, e151, hx151_0, hx151_1, hx151_2, hx151_3, hx151_4, hx151_5, hx151_6, hl151_5, hi151_5, hl151_6, hi151_6⟩ := at_T48 HR0_1.out x5_4 p151 q151
                have hw151_6 := hx151_6
                have hw151_5 := hx151_5
                have hw151_4 := hx151_4
                have hw151_3 := hx151_3
                have hw151_2 := hx151_2
                have hw151_1 := hx151_1
                have hw151_0 := hx151_0
                cases e151
                replace hx151_0 := rr_ HB hx151_0
                replace hx151_1 := rr_ HB hx151_1
                replace hx151_2 := rr_ HB hx151_2
                replace hx151_3 := rr_ HB hx151_3
                replace hx151_4 := rr_ HB hx151_4
                replace hx151_5 := rr_ HB hx151_5
                replace hx151_6 := rr_ HB hx151_6
                have HR151_5 := Aside0.mk hi151_5
                have HC151_5 := Aside0.mk hl151_5
                clear hi151_5 hl151_5
                have HR151_6 := Aside0.mk hi151_6
                have HC151_6 := Aside0.mk hl151_6
                clear hi151_6 hl151_6
                replace p151 := eq_true p151
                replace q151 := eq_true q151
                have p153 : 0 ≤ (x5_4 : Int) := od_
                have q153 : x5_4 < (l0_1.length : Int) := od_
                obtain ⟨ad153, A153_5, c153_5, A153_6, c153_6, e153, hx153_0, hx153_1, hx153_2, hx153_3, hx153_4, hx153_5, hx153_6, hl153_5, hi153_5, hl153_6, hi153_6⟩ := at_T48 HR0_1.out x5_4 p153 q153
                have hw153_6 := hx153_6
                have hw153_5 := hx153_5
                have hw153_4 := hx153_4
                have hw153_3 := hx153_3
                have hw153_2 := hx153_2
                have hw153_1 := hx153_1
                have hw153_0 := hx153_0
                obtain rfl : ad151 = ad153 := (by injection e153)
                obtain ⟨rfl, rfl⟩ : A151_5 = A153_5 ∧ c151_5 = c153_5 := by (have z := Option.some.inj (hw151_5.symm.trans hw153_5); injection z with z1 z2 z3; exact ⟨z1, z3⟩)
                obtain ⟨rfl, rfl⟩ : A151_6 = A153_6 ∧ c151_6 = c153_6 := by (have z := Option.some.inj (hw151_6.symm.trans hw153_6); injection z with z1 z2 z3; exact ⟨z1, z3⟩)
                replace hx153_0 := rr_ HB hx153_0
                replace hx153_1 := rr_ HB hx153_1
                replace hx153_2 := rr_ HB hx153_2
                replace hx153_3 := rr_ HB hx153_3
                replace hx153_4 := rr_ HB hx153_4
                replace hx153_5 := rr_ HB hx153_5
                replace hx153_6 := rr_ HB hx153_6
                have HR153_5 := Aside0.mk hi153_5
                have HC153_5 := Aside0.mk hl153_5
                clear hi153_5 hl153_5
                have HR153_6 := Aside0.mk hi153_6
                have HC153_6 := Aside0.mk hl153_6
                clear hi153_6 hl153_6
                replace p153 := eq_true p153
                replace q153 := eq_true q153
                refine start_ (n := 20) (S := fun w' => w'.cell? ⟨gb144, 0, none⟩ = some (.slice A0_0 l0_0.length c0_0) ∧ w'.cell? ⟨gb144, 1, none⟩ = some (.slice (some ad151) l0_1.length c0_1) ∧ w'.cell? (ad151.add ((x5_4).toNat * 7)) = some (.string ((rd_T48 l0_1 x5_4).f0)) ∧ w'.cell? ⟨(ad151.add ((x5_4).toNat * 7)).block, (ad151.add ((x5_4).toNat * 7)).off + 1, none⟩ = some (.int .i64 ((rd_T48 l0_1 x5_4).f1)) ∧ w'.cell? ⟨(ad151.add ((x5_4).toNat * 7)).block, (ad151.add ((x5_4).toNat * 7)).off + 2, none⟩ = some (.string ((rd_T48 l0_1 x5_4).f2)) ∧ w'.cell? ⟨(ad151.add ((x5_4).toNat * 7)).block, (ad151.add ((x5_4).toNat * 7)).off + 3, none⟩ = some (.bool ((rd_T48 l0_1 x5_4).f3)) ∧ w'.cell? ⟨(ad151.add ((x5_4).toNat * 7)).block, (ad151.add ((x5_4).toNat * 7)).off + 4, none⟩ = some (.int .i64 ((rd_T48 l0_1 x5_4).f4)) ∧ w'.cell? ⟨(ad151.add ((x5_4).toNat * 7)).block, (ad151.add ((x5_4).toNat * 7)).off + 5, none⟩ = some (.slice A151_5 ((rd_T48 l0_1 x5_4).f5).length c151_5) ∧ w'.cell? ⟨(ad151.add ((x5_4).toNat * 7)).block, (ad151.add ((x5_4).toNat * 7)).off + 6, none⟩ = some (.slice A151_6 ((rd_T48 l0_1 x5_4).f6).length c151_6) ∧ w'.cell? (ad151.add ((x5_4).toNat * 7)) = some (.string ((rd_T48 l0_1 x5_4).f0)) ∧ w'.cell? ⟨(ad151.add ((x5_4).toNat * 7)).block, (ad151.add ((x5_4).toNat * 7)).off + 1, none⟩ = some (.int .i64 ((rd_T48 l0_1 x5_4).f1)) ∧ w'.cell? ⟨(ad151.add ((x5_4).toNat * 7)).block, (ad151.add ((x5_4).toNat * 7)).off + 2, none⟩ = some (.string ((rd_T48 l0_1 x5_4).f2)) ∧ w'.cell? ⟨(ad151.add ((x5_4).toNat * 7)).block, (ad151.add ((x5_4).toNat * 7)).off + 3, none⟩ = some (.bool ((rd_T48 l0_1 x5_4).f3)) ∧ w'.cell? ⟨(ad151.add ((x5_4).toNat * 7)).block, (ad151.add ((x5_4).toNat * 7)).off + 4, none⟩ = some (.int .i64 ((rd_T48 l0_1 x5_4).f4)) ∧ w'.cell? ⟨(ad151.add ((x5_4).toNat * 7)).block, (ad151.add ((x5_4).toNat * 7)).off + 5, none⟩ = some (.slice A151_5 ((rd_T48 l0_1 x5_4).f5).length c151_5) ∧ w'.cell? ⟨(ad151.add ((x5_4).toNat * 7)).block, (ad151.add ((x5_4).toNat * 7)).off + 6, none⟩ = some (.slice A151_6 ((rd_T48 l0_1 x5_4).f6).length c151_6)) (ds := []) #[false, false, false, false, false, false, false, false, false, false, false, false, false, false, false, false, false, false, false, false] (by kernel_rfl) rfl rfl ⟨(bk0_ BK144 :), (bk1_ BK144 :), (rr_ HB hw151_0 :), (rr_ HB hw151_1 :), (rr_ HB hw151_2 :), (rr_ HB hw151_3 :), (rr_ HB hw151_4 :), (rr_ HB hw151_5 :), (rr_ HB hw151_6 :), (rr_ HB hw153_0 :), (rr_ HB hw153_1 :), (rr_ HB hw153_2 :), (rr_ HB hw153_3 :), (rr_ HB hw153_4 :), (rr_ HB hw153_5 :), (rr_ HB hw153_6 :)⟩ (fun hHeld => ?_); refine with_tabW sentryref4_Is.tab16 sentryref4_Is.bits16 (fun HT_ HW_ => ?_)
                generalize wr.drew = w42 at BK144 HB HR151_5 HR151_6 HR153_5 HR153_6 hx151_0 hx151_1 hx151_2 hx151_3 hx151_4 hx151_5 hx151_6 hx153_0 hx153_1 hx153_2 hx153_3 hx153_4 hx153_5 hx153_6 hHeld ⊢
                refine pz_ 1 (some 67) (bits_ 20 2) HT_.out ?_
                refine pz_ 3 (some 69) (bits_ 20 10) HT_.out ?_
                refine tz_ 0 (some 66) (bits_ 20 11) HT_.out HW_.out hHeld ?_ (hy := by rintro w' ⟨s0, s1, s2, s3, s4, s5, s6, s7, s8, s9, s10, s11, s12, s13, s14, s15⟩; go_simp; with_reducible rfl)
                refine tz_ 2 (some 68) (bits_ 20 15) HT_.out HW_.out hHeld ?_ (hy := by rintro w' ⟨s0, s1, s2, s3, s4, s5, s6, s7, s8, s9, s10, s11, s12, s13, s14, s15⟩; go_simp; with_reducible rfl)
                refine pz_ 4 (some 70) (bits_ 20 31) HT_.out ?_
                refine pz_ 5 (some 71) (bits_ 20 63) HT_.out ?_
                refine tz_ 6 (some 72) (bits_ 20 127) HT_.out HW_.out hHeld ?_ (hy := by rintro w' ⟨s0, s1, s2, s3, s4, s5, s6, s7, s8, s9, s10, s11, s12, s13, s14, s15⟩; go_simp; with_reducible rfl)
                refine oz_ 7 (some 73) (bits_ 20 255) HT_.out (fun K hK => ?_)
                refine go_s_ Try.func31 #[.agg #[.slice A0_0 l0_0.length c0_0, .slice (some ad151) l0_1.length c0_1], .slice A151_5 ((rd_T48 l0_1 x5_4).f5).length c151_5] ?_
                with_reducible refine (sentryref4_sentries.calls k4 _ _ l0_0 _ _ l0_1 _ _ ((rd_T48 l0_1 x5_4).f5) true _ ?side1 ?side2 ?side3 ?side4 ?side5 ?side6 A37.out).mono ?_
                (case side1 => exact kc_ HR0_0 HB)
                (case side2 => exact HC0_0.out)
                (case side3 => exact kc_ HR0_1 HB)
                (case side4 => exact HC0_1.out)
                (case side5 => exact kc_ HR151_5 HB)
                (case side6 => exact HC151_5.out)
                rintro e w43 ⟨rfl, hb⟩
                refine ⟨_, rfl, ?_⟩
                replace BK144 := bb_ BK144 hb
                replace HB := hb_ HB hb
                (try clear hb); (try clear hb2); (try clear hk); (try clear hi)
                refine hK.out _ _ ⟨(bk0_ BK144 :), (bk1_ BK144 :), (rr_ HB hw151_0 :), (rr_ HB hw151_1 :), (rr_ HB hw151_2 :), (rr_ HB hw151_3 :), (rr_ HB hw151_4 :), (rr_ HB hw151_5 :), (rr_ HB hw151_6 :), (rr_ HB hw153_0 :), (rr_ HB hw153_1 :), (rr_ HB hw153_2 :), (rr_ HB hw153_3 :), (rr_ HB hw153_4 :), (rr_ HB hw153_5 :), (rr_ HB hw153_6 :)⟩ (fun hHeld => ?_)
                clear hK K
                refine nz_ (some 73) ?_
                refine pz_ 8 (some 74) (bits_ 20 511) HT_.out ?_
                refine pz_ 9 (some 75) (bits_ 20 1023) HT_.out ?_
                refine pz_ 11 (some 77) (bits_ 20 3071) HT_.out ?_
                refine pz_ 13 (some 79) (bits_ 20 11263) HT_.out ?_
                refine tz_ 10 (some 76) (bits_ 20 12287) HT_.out HW_.out hHeld ?_ (hy := by rintro w' ⟨s0, s1, s2, s3, s4, s5, s6, s7, s8, s9, s10, s11, s12, s13, s14, s15⟩; go_simp; with_reducible rfl)
                refine tz_ 12 (some 78) (bits_ 20 16383) HT_.out HW_.out hHeld ?_ (hy := by rintro w' ⟨s0, s1, s2, s3, s4, s5, s6, s7, s8, s9, s10, s11, s12, s13, s14, s15⟩; go_simp; with_reducible rfl)
                refine pz_ 14 (some 80) (bits_ 20 32767) HT_.out ?_
                refine pz_ 15 (some 81) (bits_ 20 65535) HT_.out ?_
                refine tz_ 16 (some 82) (bits_ 20 131071) HT_.out HW_.out hHeld ?_ (hy := by rintro w' ⟨s0, s1, s2, s3, s4, s5, s6, s7, s8, s9, s10, s11, s12, s13, s14, s15⟩; go_simp; with_reducible rfl)
                refine oz_ 17 (some 83) (bits_ 20 262143) HT_.out (fun K hK => ?_)
                refine go_s_ Try.func31 #[.agg #[.slice A0_0 l0_0.length c0_0, .slice (some ad151) l0_1.length c0_1], .slice A151_6 ((rd_T48 l0_1 x5_4).f6).length c151_6] ?_
                with_reducible refine (sentryref4_sentries.calls k4 _ _ l0_0 _ _ l0_1 _ _ ((rd_T48 l0_1 x5_4).f6) true _ ?side1 ?side2 ?side3 ?side4 ?side5 ?side6 A39.out).mono ?_
                (case side1 => exact kc_ HR0_0 HB)
                (case side2 => exact HC0_0.out)
                (case side3 => exact kc_ HR0_1 HB)
                (case side4 => exact HC0_1.out)
                (case side5 => exact kc_ HR153_6 HB)
                (case side6 => exact HC153_6.out)
                rintro e w44 ⟨rfl, hb⟩
                refine ⟨_, rfl, ?_⟩
                replace BK144 := bb_ BK144 hb
                replace HB := hb_ HB hb
                (try clear hb); (try clear hb2); (try clear hk); (try clear hi)
                refine hK.out _ _ ⟨(bk0_ BK144 :), (bk1_ BK144 :), (rr_ HB hw151_0 :), (rr_ HB hw151_1 :), (rr_ HB hw151_2 :), (rr_ HB hw151_3 :), (rr_ HB hw151_4 :), (rr_ HB hw151_5 :), (rr_ HB hw151_6 :), (rr_ HB hw153_0 :), (rr_ HB hw153_1 :), (rr_ HB hw153_2 :), (rr_ HB hw153_3 :), (rr_ HB hw153_4 :), (rr_ HB hw153_5 :), (rr_ HB hw153_6 :)⟩ (fun hHeld => ?_)
                clear hK K
                refine nz_ (some 83) ?_
                refine pz_ 18 (some 84) (bits_ 20 524287) HT_.out ?_
                refine pz_ 19 (some 85) (bits_ 20 1048575) HT_.out ?_
                refine done_ (done_of HT_.out (by kernel_rfl)) ?_
                try go_wp2
                go_roundg k4
                case measure => have := HJ1.out; have := HK2.out; have := HK3.out; have := HK4.out; omega
                case rel => exact ⟨(wrap64 (x5_4 + 1)), (by first | rfl | (simp; done) | (simp [*]; done)), H', ⟨by have := HJ1.out; have := HK2.out; have := HK3.out; have := HK4.out; omega⟩, ⟨gx_ BK144⟩, ⟨hf_⟩⟩
               ·replace c40 := Bool.eq_false_iff.mpr c40
                subst c40
                have H1 : (some false) = some r := by rw [if_neg (show ¬ (false = true) by decide)] at H; exact H
                clear H
                have H := H1
                clear H1
                obtain rfl := Option.some.inj H
                obtain ⟨hcz45_0, hcz45_1, hfz45_0, hfz45_1⟩ := bs2_ BK144
                try go_wp2
                replace BK144 := Aside0.mk (blk_drew BK144.out)
                replace HB := Aside0.mk (below_drew1 HB.out)
                have p151 : 0 ≤ (x5_4 : Int) := od_
                have q151 : x5_4 < (l0_1.length : Int) := od_
                obtain ⟨ad151, A151_5, c151_5, A151_6, c151_6, e151, hx151_0, hx151_1, hx151_2, hx151_3, hx151_4, hx151_5, hx151_6, hl151_5, hi151_5, hl151_6, hi151_6⟩ := at_T48 HR0_1.out x5_4 p151 q151
                have hw151_6 := hx151_6
                have hw151_5 := hx151_5
                have hw151_4 := hx151_4
                have hw151_3 := hx151_3
                have hw151_2 := hx151_2
                have hw151_1 := hx151_1
                have hw151_0 := hx151_0
                cases e151
                replace hx151_0 := rr_ HB hx151_0
                replace hx151_1 := rr_ HB hx151_1
                replace hx151_2 := rr_ HB hx151_2
                replace hx151_3 := rr_ HB hx151_3
                replace hx151_4 := rr_ HB hx151_4
                replace hx151_5 := rr_ HB hx151_5
                replace hx151_6 := rr_ HB hx151_6
                have HR151_5 := Aside0.mk hi151_5
                have HC151_5 := Aside0.mk hl151_5
                clear hi151_5 hl151_5
                have HR151_6 := Aside0.mk hi151_6
                have HC151_6 := Aside0.mk hl151_6
                clear hi151_6 hl151_6
                replace p151 := eq_true p151
                replace q151 := eq_true q151
                have p153 : 0 ≤ (x5_4 : Int) := od_
                have q153 : x5_4 < (l0_1.length : Int) := od_
                obtain ⟨ad153, A153_5, c153_5, A153_6, c153_6, e153, hx153_0, hx153_1, hx153_2, hx153_3, hx153_4, hx153_5, hx153_6, hl153_5, hi153_5, hl153_6, hi153_6⟩ := at_T48 HR0_1.out x5_4 p153 q153
                have hw153_6 := hx153_6
                have hw153_5 := hx153_5
                have hw153_4 := hx153_4
                have hw153_3 := hx153_3
                have hw153_2 := hx153_2
                have hw153_1 := hx153_1
                have hw153_0 := hx153_0
                obtain rfl : ad151 = ad153 := (by injection e153)
                obtain ⟨rfl, rfl⟩ : A151_5 = A153_5 ∧ c151_5 = c153_5 := by (have z := Option.some.inj (hw151_5.symm.trans hw153_5); injection z with z1 z2 z3; exact ⟨z1, z3⟩)
                obtain ⟨rfl, rfl⟩ : A151_6 = A153_6 ∧ c151_6 = c153_6 := by (have z := Option.some.inj (hw151_6.symm.trans hw153_6); injection z with z1 z2 z3; exact ⟨z1, z3⟩)
                replace hx153_0 := rr_ HB hx153_0
                replace hx153_1 := rr_ HB hx153_1
                replace hx153_2 := rr_ HB hx153_2
                replace hx153_3 := rr_ HB hx153_3
                replace hx153_4 := rr_ HB hx153_4
                replace hx153_5 := rr_ HB hx153_5
                replace hx153_6 := rr_ HB hx153_6
                have HR153_5 := Aside0.mk hi153_5
                have HC153_5 := Aside0.mk hl153_5
                clear hi153_5 hl153_5
                have HR153_6 := Aside0.mk hi153_6
                have HC153_6 := Aside0.mk hl153_6
                clear hi153_6 hl153_6
                replace p153 := eq_true p153
                replace q153 := eq_true q153
                refine start_ (n := 20) (S := fun w' => w'.cell? ⟨gb144, 0, none⟩ = some (.slice A0_0 l0_0.length c0_0) ∧ w'.cell? ⟨gb144, 1, none⟩ = some (.slice (some ad151) l0_1.length c0_1) ∧ w'.cell? (ad151.add ((x5_4).toNat * 7)) = some (.string ((rd_T48 l0_1 x5_4).f0)) ∧ w'.cell? ⟨(ad151.add ((x5_4).toNat * 7)).block, (ad151.add ((x5_4).toNat * 7)).off + 1, none⟩ = some (.int .i64 ((rd_T48 l0_1 x5_4).f1)) ∧ w'.cell? ⟨(ad151.add ((x5_4).toNat * 7)).block, (ad151.add ((x5_4).toNat * 7)).off + 2, none⟩ = some (.string ((rd_T48 l0_1 x5_4).f2)) ∧ w'.cell? ⟨(ad151.add ((x5_4).toNat * 7)).block, (ad151.add ((x5_4).toNat * 7)).off + 3, none⟩ = some (.bool ((rd_T48 l0_1 x5_4).f3)) ∧ w'.cell? ⟨(ad151.add ((x5_4).toNat * 7)).block, (ad151.add ((x5_4).toNat * 7)).off + 4, none⟩ = some (.int .i64 ((rd_T48 l0_1 x5_4).f4)) ∧ w'.cell? ⟨(ad151.add ((x5_4).toNat * 7)).block, (ad151.add ((x5_4).toNat * 7)).off + 5, none⟩ = some (.slice A151_5 ((rd_T48 l0_1 x5_4).f5).length c151_5) ∧ w'.cell? ⟨(ad151.add ((x5_4).toNat * 7)).block, (ad151.add ((x5_4).toNat * 7)).off + 6, none⟩ = some (.slice A151_6 ((rd_T48 l0_1 x5_4).f6).length c151_6) ∧ w'.cell? (ad151.add ((x5_4).toNat * 7)) = some (.string ((rd_T48 l0_1 x5_4).f0)) ∧ w'.cell? ⟨(ad151.add ((x5_4).toNat * 7)).block, (ad151.add ((x5_4).toNat * 7)).off + 1, none⟩ = some (.int .i64 ((rd_T48 l0_1 x5_4).f1)) ∧ w'.cell? ⟨(ad151.add ((x5_4).toNat * 7)).block, (ad151.add ((x5_4).toNat * 7)).off + 2, none⟩ = some (.string ((rd_T48 l0_1 x5_4).f2)) ∧ w'.cell? ⟨(ad151.add ((x5_4).toNat * 7)).block, (ad151.add ((x5_4).toNat * 7)).off + 3, none⟩ = some (.bool ((rd_T48 l0_1 x5_4).f3)) ∧ w'.cell? ⟨(ad151.add ((x5_4).toNat * 7)).block, (ad151.add ((x5_4).toNat * 7)).off + 4, none⟩ = some (.int .i64 ((rd_T48 l0_1 x5_4).f4)) ∧ w'.cell? ⟨(ad151.add ((x5_4).toNat * 7)).block, (ad151.add ((x5_4).toNat * 7)).off + 5, none⟩ = some (.slice A151_5 ((rd_T48 l0_1 x5_4).f5).length c151_5) ∧ w'.cell? ⟨(ad151.add ((x5_4).toNat * 7)).block, (ad151.add ((x5_4).toNat * 7)).off + 6, none⟩ = some (.slice A151_6 ((rd_T48 l0_1 x5_4).f6).length c151_6)) (ds := []) #[false, false, false, false, false, false, false, false, false, false, false, false, false, false, false, false, false, false, false, false] (by kernel_rfl) rfl rfl ⟨(bk0_ BK144 :), (bk1_ BK144 :), (rr_ HB hw151_0 :), (rr_ HB hw151_1 :), (rr_ HB hw151_2 :), (rr_ HB hw151_3 :), (rr_ HB hw151_4 :), (rr_ HB hw151_5 :), (rr_ HB hw151_6 :), (rr_ HB hw153_0 :), (rr_ HB hw153_1 :), (rr_ HB hw153_2 :), (rr_ HB hw153_3 :), (rr_ HB hw153_4 :), (rr_ HB hw153_5 :), (rr_ HB hw153_6 :)⟩ (fun hHeld => ?_); refine with_tabW sentryref4_Is.tab16 sentryref4_Is.bits16 (fun HT_ HW_ => ?_)
                generalize wr.drew = w46 at BK144 HB HR151_5 HR151_6 HR153_5 HR153_6 hx151_0 hx151_1 hx151_2 hx151_3 hx151_4 hx151_5 hx151_6 hx153_0 hx153_1 hx153_2 hx153_3 hx153_4 hx153_5 hx153_6 hHeld ⊢
                refine pz_ 1 (some 67) (bits_ 20 2) HT_.out ?_
                refine pz_ 3 (some 69) (bits_ 20 10) HT_.out ?_
                refine tz_ 0 (some 66) (bits_ 20 11) HT_.out HW_.out hHeld ?_ (hy := by rintro w' ⟨s0, s1, s2, s3, s4, s5, s6, s7, s8, s9, s10, s11, s12, s13, s14, s15⟩; go_simp; with_reducible rfl)
                refine tz_ 2 (some 68) (bits_ 20 15) HT_.out HW_.out hHeld ?_ (hy := by rintro w' ⟨s0, s1, s2, s3, s4, s5, s6, s7, s8, s9, s10, s11, s12, s13, s14, s15⟩; go_simp; with_reducible rfl)
                refine pz_ 4 (some 70) (bits_ 20 31) HT_.out ?_
                refine pz_ 5 (some 71) (bits_ 20 63) HT_.out ?_
                refine tz_ 6 (some 72) (bits_ 20 127) HT_.out HW_.out hHeld ?_ (hy := by rintro w' ⟨s0, s1, s2, s3, s4, s5, s6, s7, s8, s9, s10, s11, s12, s13, s14, s15⟩; go_simp; with_reducible rfl)
                refine oz_ 7 (some 73) (bits_ 20 255) HT_.out (fun K hK => ?_)
                refine go_s_ Try.func31 #[.agg #[.slice A0_0 l0_0.length c0_0, .slice (some ad151) l0_1.length c0_1], .slice A151_5 ((rd_T48 l0_1 x5_4).f5).length c151_5] ?_
                with_reducible refine (sentryref4_sentries.calls k4 _ _ l0_0 _ _ l0_1 _ _ ((rd_T48 l0_1 x5_4).f5) true _ ?side1 ?side2 ?side3 ?side4 ?side5 ?side6 A37.out).mono ?_
                (case side1 => exact kc_ HR0_0 HB)
                (case side2 => exact HC0_0.out)
                (case side3 => exact kc_ HR0_1 HB)
                (case side4 => exact HC0_1.out)
                (case side5 => exact kc_ HR151_5 HB)
                (case side6 => exact HC151_5.out)
                rintro e w47 ⟨rfl, hb⟩
                refine ⟨_, rfl, ?_⟩
                replace BK144 := bb_ BK144 hb
                replace HB := hb_ HB hb
                (try clear hb); (try clear hb2); (try clear hk); (try clear hi)
                refine hK.out _ _ ⟨(bk0_ BK144 :), (bk1_ BK144 :), (rr_ HB hw151_0 :), (rr_ HB hw151_1 :), (rr_ HB hw151_2 :), (rr_ HB hw151_3 :), (rr_ HB hw151_4 :), (rr_ HB hw151_5 :), (rr_ HB hw151_6 :), (rr_ HB hw153_0 :), (rr_ HB hw153_1 :), (rr_ HB hw153_2 :), (rr_ HB hw153_3 :), (rr_ HB hw153_4 :), (rr_ HB hw153_5 :), (rr_ HB hw153_6 :)⟩ (fun hHeld => ?_)
                clear hK K
                refine nz_ (some 73) ?_
                refine pz_ 8 (some 74) (bits_ 20 511) HT_.out ?_
                refine pz_ 9 (some 75) (bits_ 20 1023) HT_.out ?_
                refine pz_ 11 (some 77) (bits_ 20 3071) HT_.out ?_
                refine pz_ 13 (some 79) (bits_ 20 11263) HT_.out ?_
                refine tz_ 10 (some 76) (bits_ 20 12287) HT_.out HW_.out hHeld ?_ (hy := by rintro w' ⟨s0, s1, s2, s3, s4, s5, s6, s7, s8, s9, s10, s11, s12, s13, s14, s15⟩; go_simp; with_reducible rfl)
                refine tz_ 12 (some 78) (bits_ 20 16383) HT_.out HW_.out hHeld ?_ (hy := by rintro w' ⟨s0, s1, s2, s3, s4, s5, s6, s7, s8, s9, s10, s11, s12, s13, s14, s15⟩; go_simp; with_reducible rfl)
                refine pz_ 14 (some 80) (bits_ 20 32767) HT_.out ?_
                refine pz_ 15 (some 81) (bits_ 20 65535) HT_.out ?_
                refine tz_ 16 (some 82) (bits_ 20 131071) HT_.out HW_.out hHeld ?_ (hy := by rintro w' ⟨s0, s1, s2, s3, s4, s5, s6, s7, s8, s9, s10, s11, s12, s13, s14, s15⟩; go_simp; with_reducible rfl)
                refine oz_ 17 (some 83) (bits_ 20 262143) HT_.out (fun K hK => ?_)
                refine go_s_ Try.func31 #[.agg #[.slice A0_0 l0_0.length c0_0, .slice (some ad151) l0_1.length c0_1], .slice A151_6 ((rd_T48 l0_1 x5_4).f6).length c151_6] ?_
                with_reducible refine (sentryref4_sentries.calls k4 _ _ l0_0 _ _ l0_1 _ _ ((rd_T48 l0_1 x5_4).f6) false _ ?side1 ?side2 ?side3 ?side4 ?side5 ?side6 A39.out).mono ?_
                (case side1 => exact kc_ HR0_0 HB)
                (case side2 => exact HC0_0.out)
                (case side3 => exact kc_ HR0_1 HB)
                (case side4 => exact HC0_1.out)
                (case side5 => exact kc_ HR153_6 HB)
                (case side6 => exact HC153_6.out)
                rintro e w48 ⟨rfl, hb⟩
                refine ⟨_, rfl, ?_⟩
                replace BK144 := bb_ BK144 hb
                replace HB := hb_ HB hb
                (try clear hb); (try clear hb2); (try clear hk); (try clear hi)
                refine hK.out _ _ ⟨(bk0_ BK144 :), (bk1_ BK144 :), (rr_ HB hw151_0 :), (rr_ HB hw151_1 :), (rr_ HB hw151_2 :), (rr_ HB hw151_3 :), (rr_ HB hw151_4 :), (rr_ HB hw151_5 :), (rr_ HB hw151_6 :), (rr_ HB hw153_0 :), (rr_ HB hw153_1 :), (rr_ HB hw153_2 :), (rr_ HB hw153_3 :), (rr_ HB hw153_4 :), (rr_ HB hw153_5 :), (rr_ HB hw153_6 :)⟩ (fun hHeld => ?_)
                clear hK K
                refine nz_ (some 83) ?_
                refine pz_ 18 (some 84) (bits_ 20 524287) HT_.out ?_
                refine pz_ 19 (some 85) (bits_ 20 1048575) HT_.out ?_
                refine done_ (done_of HT_.out (by kernel_rfl)) ?_
                try go_wp2
                go_ret
                exact ⟨er_, hf_⟩
              ·replace c38 := Bool.eq_false_iff.mpr c38
               subst c38
               have H1 : (some false) = some r := by rw [if_neg (show ¬ (false = true) by decide)] at H; exact H
               clear H
               have H := H1
               clear H1
               obtain rfl := Option.some.inj H
               obtain ⟨hcz49_0, hcz49_1, hfz49_0, hfz49_1⟩ := bs2_ BK144
               try go_wp2
               replace BK144 := Aside0.mk (blk_drew BK144.out)
               replace HB := Aside0.mk (below_drew1 HB.out)
               have p151 : 0 ≤ (x5_4 : Int) := od_
               have q151 : x5_4 < (l0_1.length : Int) := od_
               obtain ⟨ad151, A151_5, c151_5, A151_6, c151_6, e151, hx151_0, hx151_1, hx151_2, hx151_3, hx151_4, hx151_5, hx151_6, hl151_5, hi151_5, hl151_6, hi151_6⟩ := at_T48 HR0_1.out x5_4 p151 q151
               have hw151_6 := hx151_6
               have hw151_5 := hx151_5
               have hw151_4 := hx151_4
               have hw151_3 := hx151_3
               have hw151_2 := hx151_2
               have hw151_1 := hx151_1
               have hw151_0 := hx151_0
               cases e151
               replace hx151_0 := rr_ HB hx151_0
               replace hx151_1 := rr_ HB hx151_1
               replace hx151_2 := rr_ HB hx151_2
               replace hx151_3 := rr_ HB hx151_3
               replace hx151_4 := rr_ HB hx151_4
               replace hx151_5 := rr_ HB hx151_5
               replace hx151_6 := rr_ HB hx151_6
               have HR151_5 := Aside0.mk hi151_5
               have HC151_5 := Aside0.mk hl151_5
               clear hi151_5 hl151_5
               have HR151_6 := Aside0.mk hi151_6
               have HC151_6 := Aside0.mk hl151_6
               clear hi151_6 hl151_6
               replace p151 := eq_true p151
               replace q151 := eq_true q151
               refine start_ (n := 20) (S := fun w' => w'.cell? ⟨gb144, 0, none⟩ = some (.slice A0_0 l0_0.length c0_0) ∧ w'.cell? ⟨gb144, 1, none⟩ = some (.slice (some ad151) l0_1.length c0_1) ∧ w'.cell? (ad151.add ((x5_4).toNat * 7)) = some (.string ((rd_T48 l0_1 x5_4).f0)) ∧ w'.cell? ⟨(ad151.add ((x5_4).toNat * 7)).block, (ad151.add ((x5_4).toNat * 7)).off + 1, none⟩ = some (.int .i64 ((rd_T48 l0_1 x5_4).f1)) ∧ w'.cell? ⟨(ad151.add ((x5_4).toNat * 7)).block, (ad151.add ((x5_4).toNat * 7)).off + 2, none⟩ = some (.string ((rd_T48 l0_1 x5_4).f2)) ∧ w'.cell? ⟨(ad151.add ((x5_4).toNat * 7)).block, (ad151.add ((x5_4).toNat * 7)).off + 3, none⟩ = some (.bool ((rd_T48 l0_1 x5_4).f3)) ∧ w'.cell? ⟨(ad151.add ((x5_4).toNat * 7)).block, (ad151.add ((x5_4).toNat * 7)).off + 4, none⟩ = some (.int .i64 ((rd_T48 l0_1 x5_4).f4)) ∧ w'.cell? ⟨(ad151.add ((x5_4).toNat * 7)).block, (ad151.add ((x5_4).toNat * 7)).off + 5, none⟩ = some (.slice A151_5 ((rd_T48 l0_1 x5_4).f5).length c151_5) ∧ w'.cell? ⟨(ad151.add ((x5_4).toNat * 7)).block, (ad151.add ((x5_4).toNat * 7)).off + 6, none⟩ = some (.slice A151_6 ((rd_T48 l0_1 x5_4).f6).length c151_6)) (ds := []) #[false, false, false, false, false, false, false, false, false, false, false, false, false, false, false, false, false, false, false, false] (by kernel_rfl) rfl rfl ⟨(bk0_ BK144 :), (bk1_ BK144 :), (rr_ HB hw151_0 :), (rr_ HB hw151_1 :), (rr_ HB hw151_2 :), (rr_ HB hw151_3 :), (rr_ HB hw151_4 :), (rr_ HB hw151_5 :), (rr_ HB hw151_6 :)⟩ (fun hHeld => ?_); refine with_tabW sentryref4_Is.tab16 sentryref4_Is.bits16 (fun HT_ HW_ => ?_)
               generalize wr.drew = w50 at BK144 HB HR151_5 HR151_6 hx151_0 hx151_1 hx151_2 hx151_3 hx151_4 hx151_5 hx151_6 hHeld ⊢
               refine pz_ 1 (some 67) (bits_ 20 2) HT_.out ?_
               refine pz_ 3 (some 69) (bits_ 20 10) HT_.out ?_
               refine tz_ 0 (some 66) (bits_ 20 11) HT_.out HW_.out hHeld ?_ (hy := by rintro w' ⟨s0, s1, s2, s3, s4, s5, s6, s7, s8⟩; go_simp; with_reducible rfl)
               refine tz_ 2 (some 68) (bits_ 20 15) HT_.out HW_.out hHeld ?_ (hy := by rintro w' ⟨s0, s1, s2, s3, s4, s5, s6, s7, s8⟩; go_simp; with_reducible rfl)
               refine pz_ 4 (some 70) (bits_ 20 31) HT_.out ?_
               refine pz_ 5 (some 71) (bits_ 20 63) HT_.out ?_
               refine tz_ 6 (some 72) (bits_ 20 127) HT_.out HW_.out hHeld ?_ (hy := by rintro w' ⟨s0, s1, s2, s3, s4, s5, s6, s7, s8⟩; go_simp; with_reducible rfl)
               refine oz_ 7 (some 73) (bits_ 20 255) HT_.out (fun K hK => ?_)
               refine go_s_ Try.func31 #[.agg #[.slice A0_0 l0_0.length c0_0, .slice (some ad151) l0_1.length c0_1], .slice A151_5 ((rd_T48 l0_1 x5_4).f5).length c151_5] ?_
               with_reducible refine (sentryref4_sentries.calls k4 _ _ l0_0 _ _ l0_1 _ _ ((rd_T48 l0_1 x5_4).f5) false _ ?side1 ?side2 ?side3 ?side4 ?side5 ?side6 A37.out).mono ?_
               (case side1 => exact kc_ HR0_0 HB)
               (case side2 => exact HC0_0.out)
               (case side3 => exact kc_ HR0_1 HB)
               (case side4 => exact HC0_1.out)
               (case side5 => exact kc_ HR151_5 HB)
               (case side6 => exact HC151_5.out)
               rintro e w51 ⟨rfl, hb⟩
               refine ⟨_, rfl, ?_⟩
               replace BK144 := bb_ BK144 hb
               replace HB := hb_ HB hb
               (try clear hb); (try clear hb2); (try clear hk); (try clear hi)
               refine hK.out _ _ ⟨(bk0_ BK144 :), (bk1_ BK144 :), (rr_ HB hw151_0 :), (rr_ HB hw151_1 :), (rr_ HB hw151_2 :), (rr_ HB hw151_3 :), (rr_ HB hw151_4 :), (rr_ HB hw151_5 :), (rr_ HB hw151_6 :)⟩ (fun hHeld => ?_)
               clear hK K
               refine nz_ (some 73) ?_
               refine pz_ 8 (some 74) (bits_ 20 511) HT_.out ?_
               refine pz_ 9 (some 75) (bits_ 20 1023) HT_.out ?_
               refine sz_ 10 (some 76) (bits_ 20 2047) HT_.out ?_
               refine sz_ 11 (some 77) (bits_ 20 4095) HT_.out ?_
               refine sz_ 12 (some 78) (bits_ 20 8191) HT_.out ?_
               refine sz_ 13 (some 79) (bits_ 20 16383) HT_.out ?_
               refine sz_ 14 (some 80) (bits_ 20 32767) HT_.out ?_
               refine sz_ 15 (some 81) (bits_ 20 65535) HT_.out ?_
               refine sz_ 16 (some 82) (bits_ 20 131071) HT_.out ?_
               refine sz_ 17 (some 83) (bits_ 20 262143) HT_.out ?_
               refine sz_ 18 (some 84) (bits_ 20 524287) HT_.out ?_
               refine pz_ 19 (some 85) (bits_ 20 1048575) HT_.out ?_
               refine done_ (done_of HT_.out (by kernel_rfl)) ?_
               try go_wp2
               go_ret
               exact ⟨er_, hf_⟩
             ·rw [if_neg c36] at H
              exact absurd H (by simp)
            ·rw [if_neg c35] at H
             have c35b0 : decide (x5_4 < (l0_1.length : Int)) = false := decide_eq_false c35
             clear c35
             obtain rfl := Option.some.inj H
             obtain ⟨hcz52_0, hcz52_1, hfz52_0, hfz52_1⟩ := bs2_ BK144
             go_wp2
             go_ret
             exact ⟨er_, hf_⟩
end Go.Proofs.Ytaiglhfmmdajdaa.Pm
end
section
namespace Go.Proofs.Ytaiglhfmmdajdaa.Pm
open Go.RowKit Go.Proofs.YtaiglhfmmdajdaaW.PrintWords Go.Proofs.YtaiglhfmmdajdaaW.PrintLast Go.Proofs.YtaiglhfmmdajdaaW.PrintMore
attribute [local go_sem] max2_int min2_int max_two min_two max_three min_three max_four min_four   -- for this text's walks alone
set_option linter.unusedVariables false
set_option linter.unusedSimpArgs false
theorem eqA50 (d : Nat) (w : World) (x0 y0 : ByteArray) (x1 y1 : ByteArray) (x2 y2 : Int) :
    (Op.equalIn (d + 2) 50 (.agg #[.string x0, .string x1, .int .i64 x2]) (.agg #[.string y0, .string y1, .int .i64 y2])).run Try.prog w = .ok (x0.toList == y0.toList && (x1.toList == y1.toList && (x2 == y2))) w := by
  refine eqA_of Try.underlying50 (by kernel_rfl) ?_
  refine eqf_cons (by rfl) (by go_simp; rfl) (by go_simp; rfl) (by go_simp) ?_
  refine eqf_cons (by rfl) (by go_simp; rfl) (by go_simp; rfl) (by go_simp) ?_
  exact eqf_last (by rfl) (by go_simp; rfl) (by go_simp; rfl) (by go_simp)
end Go.Proofs.Ytaiglhfmmdajdaa.Pm
end
section
namespace Go.Proofs.Ytaiglhfmmdajdaa.Pm
open Go.RowKit Go.Proofs.YtaiglhfmmdajdaaW.PrintWords Go.Proofs.YtaiglhfmmdajdaaW.PrintLast Go.Proofs.YtaiglhfmmdajdaaW.PrintMore
attribute [local go_sem] max2_int min2_int max_two min_two max_three min_three max_four min_four   -- for this text's walks alone
set_option linter.unusedVariables false
set_option linter.unusedSimpArgs false
attribute [local go_sem high] eqA50 eqA103
mutual
def sentryref4_SameSentries.l0 : Nat → List (S54) → List (S54) → Int → Option (Bool)
 | 0, _, _, _ => none
 | k + 1, x0, x1, x5 => if x5 < (x0.length : Int) then (if 0 ≤ x5 then (if x5 < (x1.length : Int) then (if (((rd_T54 x0 x5).f0).length : Int) = (((rd_T54 x1 x5).f0).length : Int) then (sentryref4_SameSentries.j1 k x0 x1 x5 ((((rd_T54 x0 x5).f1).length : Int) != (((rd_T54 x1 x5).f1).length : Int))) else (sentryref4_SameSentries.j1 k x0 x1 x5 true)) else (none)) else (none)) else (some true)
def sentryref4_SameSentries.j1 : Nat → List (S54) → List (S54) → Int → Bool → Option (Bool)
 | 0, _, _, _, _ => none
 | k + 1, x0, x1, x5, x46 => if x46 = true then (some false) else (sentryref4_SameSentries.l1 k x0 x1 x5 0)
def sentryref4_SameSentries.l1 : Nat → List (S54) → List (S54) → Int → Int → Option (Bool)
 | 0, _, _, _, _ => none
 | k + 1, x0, x1, x5, x6 => if 0 ≤ x5 then (if x5 < (x0.length : Int) then (if x6 < (((rd_T54 x0 x5).f0).length : Int) then (if 0 ≤ x6 then (if x5 < (x1.length : Int) then (if x6 < (((rd_T54 x1 x5).f0).length : Int) then (if (!((((rd_T103 ((rd_T54 x0 x5).f0) x6).f0).toList) == (((rd_T103 ((rd_T54 x1 x5).f0) x6).f0).toList)) || (!(((rd_T103 ((rd_T54 x0 x5).f0) x6).f1) == ((rd_T103 ((rd_T54 x1 x5).f0) x6).f1)))) = true then (some false) else (sentryref4_SameSentries.l1 k x0 x1 x5 (wrap64 (x6 + 1)))) else (none)) else (none)) else (none)) else (sentryref4_SameSentries.l2 k x0 x1 x5 0)) else (none)) else (none)
def sentryref4_SameSentries.l2 : Nat → List (S54) → List (S54) → Int → Int → Option (Bool)
 | 0, _, _, _, _ => none
 | k + 1, x0, x1, x5, x7 => if 0 ≤ x5 then (if x5 < (x0.length : Int) then (if x7 < (((rd_T54 x0 x5).f1).length : Int) then (if 0 ≤ x7 then (if x5 < (x1.length : Int) then (if x7 < (((rd_T54 x1 x5).f1).length : Int) then (if (!((((rd_T50 ((rd_T54 x0 x5).f1) x7).f0).toList) == (((rd_T50 ((rd_T54 x1 x5).f1) x7).f0).toList)) || (!((((rd_T50 ((rd_T54 x0 x5).f1) x7).f1).toList) == (((rd_T50 ((rd_T54 x1 x5).f1) x7).f1).toList)) || (!(((rd_T50 ((rd_T54 x0 x5).f1) x7).f2) == ((rd_T50 ((rd_T54 x1 x5).f1) x7).f2))))) = true then (some false) else (sentryref4_SameSentries.l2 k x0 x1 x5 (wrap64 (x7 + 1)))) else (none)) else (none)) else (none)) else (sentryref4_SameSentries.l0 k x0 x1 (wrap64 (x5 + 1)))) else (none)) else (none)
end
def sentryref4_SameSentries.f (k : Nat) (l0 : List (S54)) (l1 : List (S54)) : Option (Bool) := if (l0.length : Int) = (l1.length : Int) then (sentryref4_SameSentries.l0 k l0 l1 0) else (some false)
theorem sentryref4_SameSentries.mono_l : ∀ k, (∀ y0 y1 y2, LeO (sentryref4_SameSentries.l0 k y0 y1 y2) (sentryref4_SameSentries.l0 (k + 1) y0 y1 y2)) ∧ (∀ y0 y1 y2 y3, LeO (sentryref4_SameSentries.j1 k y0 y1 y2 y3) (sentryref4_SameSentries.j1 (k + 1) y0 y1 y2 y3)) ∧ (∀ y0 y1 y2 y3, LeO (sentryref4_SameSentries.l1 k y0 y1 y2 y3) (sentryref4_SameSentries.l1 (k + 1) y0 y1 y2 y3)) ∧ (∀ y0 y1 y2 y3, LeO (sentryref4_SameSentries.l2 k y0 y1 y2 y3) (sentryref4_SameSentries.l2 (k + 1) y0 y1 y2 y3))
 | 0 => ⟨fun _ _ _ r h => by simp [sentryref4_SameSentries.l0] at h, fun _ _ _ _ r h => by simp [sentryref4_SameSentries.j1] at h, fun _ _ _ _ r h => by simp [sentryref4_SameSentries.l1] at h, fun _ _ _ _ r h => by simp [sentryref4_SameSentries.l2] at h⟩
 | k + 1 => by
  obtain ⟨ih0, ih1, ih2, ih3⟩ := sentryref4_SameSentries.mono_l k
  refine ⟨?_, ?_, ?_, ?_⟩
  intro y0 y1 y2
  unfold sentryref4_SameSentries.l0
  rotate_left
  intro y0 y1 y2 y3
  unfold sentryref4_SameSentries.j1
  rotate_left
  intro y0 y1 y2 y3
  unfold sentryref4_SameSentries.l1
  rotate_left
  intro y0 y1 y2 y3
  unfold sentryref4_SameSentries.l2
  rotate_left
  all_goals repeat' first
   | (with_reducible exact ih0 _ _ _)
   | (with_reducible exact ih1 _ _ _ _)
   | (with_reducible exact ih2 _ _ _ _)
   | (with_reducible exact ih3 _ _ _ _)
   | (with_reducible exact LeO.refl _)
   | (with_reducible exact LeO.none _)
   | (with_reducible refine LeO.ite ?_ ?_)
   | (with_reducible refine LeO.bind ?_ (fun _ => ?_))
   | exact ih0 _ _ _
   | exact ih1 _ _ _ _
   | exact ih2 _ _ _ _
   | exact ih3 _ _ _ _
   | exact LeO.none _
   | refine LeO.ite ?_ ?_
   | refine LeO.bind ?_ (fun _ => ?_)
theorem sentryref4_SameSentries.mono : ∀ a0 a1 k, LeO (sentryref4_SameSentries.f k a0 a1) (sentryref4_SameSentries.f (k + 1) a0 a1) := by
 intro a0 a1 k
 obtain ⟨ih0, ih1, ih2, ih3⟩ := sentryref4_SameSentries.mono_l k
 unfold sentryref4_SameSentries.f
 repeat' first
   | (with_reducible exact ih0 _ _ _)
   | (with_reducible exact ih1 _ _ _ _)
   | (with_reducible exact ih2 _ _ _ _)
   | (with_reducible exact ih3 _ _ _ _)
   | (with_reducible exact LeO.refl _)
   | (with_reducible exact LeO.none _)
   | (with_reducible refine LeO.ite ?_ ?_)
   | (with_reducible refine LeO.bind ?_ (fun _ => ?_))
   | exact ih0 _ _ _
   | exact ih1 _ _ _ _
   | exact ih2 _ _ _ _
   | exact ih3 _ _ _ _
   | exact LeO.none _
   | refine LeO.ite ?_ ?_
   | refine LeO.bind ?_ (fun _ => ?_)
set_option maxHeartbeats 8000000 in
set_option maxRecDepth 100000 in
theorem sentryref4_SameSentries.calls (k : Nat) (A0 : Option Addr) (c0 : Nat) (l0 : List (S54)) (A1 : Option Addr) (c1 : Nat) (l1 : List (S54)) (r : Bool) (w : World) (hr0 : Kd.C k54 w A0 l0.length l0) (hc0 : l0.length ≤ c0) (hr1 : Kd.C k54 w A1 l1.length l1) (hc1 : l1.length ≤ c1) (h : sentryref4_SameSentries.f k l0 l1 = some r) :
  Calls Try.prog 78 #[.slice A0 l0.length c0, .slice A1 l1.length c1] w fun e w' => e = .returned (.bool r) ∧ Drawn0 w w' := by
 have hu103 := Try.underlying103
 have hu50 := Try.underlying50
 have HR0 := Aside0.mk hr0
 have HC0 := Aside0.mk hc0
 clear hr0 hc0
 have HR1 := Aside0.mk hr1
 have HC1 := Aside0.mk hc1
 clear hr1 hc1
 have H : (if (l0.length : Int) = (l1.length : Int) then (sentryref4_SameSentries.l0 k l0 l1 0) else (some false)) = some r := h
 clear h
 by_cases c3 : (l0.length : Int) = (l1.length : Int)
 ·rw [if_pos c3] at H
  have c3b0 : ((l0.length : Int) == (l1.length : Int)) = true := beq_iff_eq.mpr c3
  have c3b1 : ((l0.length : Int) != (l1.length : Int)) = false := bne_eq_false_iff_eq.mpr c3
  have c3b2 : (l0.length == l1.length) = true := by first | simpa using c3 | (simp at c3 ⊢; omega)
  clear c3
  have H' := Aside0.mk H
  clear H
  go_enter Try.func78, Try.ntmps78
  go_wp2
  repeat (go_quiet (fail); try go_wp2)
  go_loopg [5] k (fun kq v5 w' => ∃ (x5_1 : Int), v5 = .int .i64 x5_1 ∧ Aside0 (sentryref4_SameSentries.l0 kq l0 l1 x5_1 = some r) ∧ Aside0 (kq ≤ k) ∧ Drawn0 w w')
  case atStart => exact ⟨(0), (by first | rfl | (simp; done) | (simp [*]; done)), H', ⟨Nat.le_refl _⟩, by repeat (first | exact Drawn0.refl _ | apply Drawn0.step)⟩
  case round =>
   clear H'
   (try clear c1); (try clear p2); (try clear c3); (try clear c3b0); (try clear c3b1); (try clear c3b2)
   obtain ⟨x5_1, rfl, HA, HK1, ⟨m1, rfl⟩⟩ := hrel
   cases gk with
   | zero => exact absurd HA.out (by simp [sentryref4_SameSentries.l0])
   | succ k1 =>
    have H := HA.out
    clear HA
    simp only [sentryref4_SameSentries.l0] at H
    by_cases c4 : x5_1 < (l0.length : Int)
    ·rw [if_pos c4] at H
     have c4b0 : decide (x5_1 < (l0.length : Int)) = true := decide_eq_true c4
     clear c4
     have HC5 := Aside0.mk H
     clear H
     go_upto_region 6 with (fail)
     repeat (go_quiet (fail); go_upto_region 6 with (fail))
     go_cut [46] (fun v46 wc => ∃ (kq : Nat) (x46_4 : Bool), v46 = .bool x46_4 ∧ Aside0 (sentryref4_SameSentries.j1 kq l0 l1 x5_1 x46_4 = some r) ∧ Aside0 (kq ≤ k1) ∧ Drawn0 w wc)
     case first =>
      have H := HC5.out
      clear HC5
      by_cases c6 : 0 ≤ x5_1
      ·rw [if_pos c6] at H
       have c6b0 : decide (0 ≤ x5_1) = true := decide_eq_true c6
       clear c6
       (first | rw [c6b0] | (simp only [i64_w, i32_w]; rw [c6b0]) | skip)
       by_cases c7 : x5_1 < (l1.length : Int)
       ·rw [if_pos c7] at H
        have c7b0 : decide (x5_1 < (l1.length : Int)) = true := decide_eq_true c7
        clear c7
        by_cases c8 : (((rd_T54 l0 x5_1).f0).length : Int) = (((rd_T54 l1 x5_1).f0).length : Int)
        ·rw [if_pos c8] at H
         have c8b0 : ((((rd_T54 l0 x5_1).f0).length : Int) == (((rd_T54 l1 x5_1).f0).length : Int)) = true := beq_iff_eq.mpr c8
         have c8b1 : ((((rd_T54 l0 x5_1).f0).length : Int) != (((rd_T54 l1 x5_1).f0).length : Int)) = false := bne_eq_false_iff_eq.mpr c8
         have c8b2 : (((rd_T54 l0 x5_1).f0).length == ((rd_T54 l1 x5_1).f0).length) = true := by first | simpa using c8 | (simp at c8 ⊢; omega)
         clear c8
         have H' := Aside0.mk H
         clear H
         have p345 : 0 ≤ (x5_1 : Int) := od_
         have q345 : x5_1 < (l0.length : Int) := od_
         obtain ⟨ad345, A345_0, c345_0, A345_1, c345_1, e345, hx345_0, hx345_1, hl345_0, hi345_0, hl345_1, hi345_1⟩ := at_T54 HR0.out x5_1 p345 q345
         cases e345
         have HR345_0 := Aside0.mk hi345_0
         have HC345_0 := Aside0.mk hl345_0
         clear hi345_0 hl345_0
         have HR345_1 := Aside0.mk hi345_1
         have HC345_1 := Aside0.mk hl345_1
         clear hi345_1 hl345_1
         replace p345 := eq_true p345
         replace q345 := eq_true q345
         have p346 : 0 ≤ (x5_1 : Int) := od_
         have q346 : x5_1 < (l1.length : Int) := od_
         obtain ⟨ad346, A346_0, c346_0, A346_1, c346_1, e346, hx346_0, hx346_1, hl346_0, hi346_0, hl346_1, hi346_1⟩ := at_T54 HR1.out x5_1 p346 q346
         cases e346
         have HR346_0 := Aside0.mk hi346_0
         have HC346_0 := Aside0.mk hl346_0
         clear hi346_0 hl346_0
         have HR346_1 := Aside0.mk hi346_1
         have HC346_1 := Aside0.mk hl346_1
         clear hi346_1 hl346_1
         replace p346 := eq_true p346
         replace q346 := eq_true q346
         have p347 : 0 ≤ (x5_1 : Int) := od_
         have q347 : x5_1 < (l0.length : Int) := od_
         obtain ⟨ad347, A347_0, c347_0, A347_1, c347_1, e347, hx347_0, hx347_1, hl347_0, hi347_0, hl347_1, hi347_1⟩ := at_T54 HR0.out x5_1 p347 q347
         obtain rfl : ad345 = ad347 := (by injection e347)
         have HR347_0 := Aside0.mk hi347_0
         have HC347_0 := Aside0.mk hl347_0
         clear hi347_0 hl347_0
         have HR347_1 := Aside0.mk hi347_1
         have HC347_1 := Aside0.mk hl347_1
         clear hi347_1 hl347_1
         replace p347 := eq_true p347
         replace q347 := eq_true q347
         have ea_ := Option.some.inj (hx345_0.symm.trans hx347_0)
         injection ea_ with ea_ en_ ec_
         subst ea_
         subst ec_
         clear en_
         have ea_ := Option.some.inj (hx345_1.symm.trans hx347_1)
         injection ea_ with ea_ en_ ec_
         subst ea_
         subst ec_
         clear en_
         have p348 : 0 ≤ (x5_1 : Int) := od_
         have q348 : x5_1 < (l1.length : Int) := od_
         obtain ⟨ad348, A348_0, c348_0, A348_1, c348_1, e348, hx348_0, hx348_1, hl348_0, hi348_0, hl348_1, hi348_1⟩ := at_T54 HR1.out x5_1 p348 q348
         obtain rfl : ad346 = ad348 := (by injection e348)
         have HR348_0 := Aside0.mk hi348_0
         have HC348_0 := Aside0.mk hl348_0
         clear hi348_0 hl348_0
         have HR348_1 := Aside0.mk hi348_1
         have HC348_1 := Aside0.mk hl348_1
         clear hi348_1 hl348_1
         replace p348 := eq_true p348
         replace q348 := eq_true q348
         have ea_ := Option.some.inj (hx346_0.symm.trans hx348_0)
         injection ea_ with ea_ en_ ec_
         subst ea_
         subst ec_
         clear en_
         have ea_ := Option.some.inj (hx346_1.symm.trans hx348_1)
         injection ea_ with ea_ en_ ec_
         subst ea_
         subst ec_
         clear en_
         go_wp2
         repeat (go_quiet (fail); try go_wp2)
         go_meet
         case rel => exact ⟨_, (((((rd_T54 l0 x5_1).f1).length : Int) != (((rd_T54 l1 x5_1).f1).length : Int))), (by first | rfl | (simp; done) | (simp [*]; done)), H', ⟨by have := HK1.out; first | omega | exact Nat.le_refl _⟩, by repeat (first | exact Drawn0.refl _ | apply Drawn0.step)⟩
        ·rw [if_neg c8] at H
         have c8b0 : ((((rd_T54 l0 x5_1).f0).length : Int) == (((rd_T54 l1 x5_1).f0).length : Int)) = false := beq_eq_false_iff_ne.mpr c8
         have c8b1 : ((((rd_T54 l0 x5_1).f0).length : Int) != (((rd_T54 l1 x5_1).f0).length : Int)) = true := bne_iff_ne.mpr c8
         have c8b2 : (((rd_T54 l0 x5_1).f0).length == ((rd_T54 l1 x5_1).f0).length) = false := by first | simpa using c8 | (simp at c8 ⊢; omega)
         have H' := Aside0.mk H
         clear H
         have p345 : 0 ≤ (x5_1 : Int) := od_
         have q345 : x5_1 < (l0.length : Int) := od_
         obtain ⟨ad345, A345_0, c345_0, A345_1, c345_1, e345, hx345_0, hx345_1, hl345_0, hi345_0, hl345_1, hi345_1⟩ := at_T54 HR0.out x5_1 p345 q345
         cases e345
         have HR345_0 := Aside0.mk hi345_0
         have HC345_0 := Aside0.mk hl345_0
         clear hi345_0 hl345_0
         have HR345_1 := Aside0.mk hi345_1
         have HC345_1 := Aside0.mk hl345_1
         clear hi345_1 hl345_1
         replace p345 := eq_true p345
         replace q345 := eq_true q345
         have p346 : 0 ≤ (x5_1 : Int) := od_
         have q346 : x5_1 < (l1.length : Int) := od_
         obtain ⟨ad346, A346_0, c346_0, A346_1, c346_1, e346, hx346_0, hx346_1, hl346_0, hi346_0, hl346_1, hi346_1⟩ := at_T54 HR1.out x5_1 p346 q346
         cases e346
         have HR346_0 := Aside0.mk hi346_0
         have HC346_0 := Aside0.mk hl346_0
         clear hi346_0 hl346_0
         have HR346_1 := Aside0.mk hi346_1
         have HC346_1 := Aside0.mk hl346_1
         clear hi346_1 hl346_1
         replace p346 := eq_true p346
         replace q346 := eq_true q346
         go_wp2
         repeat (go_quiet (fail); try go_wp2)
         go_meet
         case rel => exact ⟨_, (true), (by first | rfl | (simp; done) | (simp [*]; done)), H', ⟨by have := HK1.out; first | omega | exact Nat.le_refl _⟩, by repeat (first | exact Drawn0.refl _ | apply Drawn0.step)⟩
       ·rw [if_neg c7] at H
        exact absurd H (by simp)
      ·rw [if_neg c6] at H
       exact absurd H (by simp)
     case rest =>
      clear HC5
      (try clear c1); (try clear p2); (try clear c3); (try clear c3b0); (try clear c3b1); (try clear c3b2); (try clear p3); (try clear q3); (try clear hx3); (try clear c4); (try clear c4b0); (try clear c6); (try clear c6b0); (try clear c7); (try clear c7b0); (try clear c8); (try clear c8b0); (try clear c8b1); (try clear c8b2); (try clear hx345_0); (try clear hx345_1); (try clear hx346_0); (try clear hx346_1); (try clear hx347_0); (try clear hx347_1); (try clear hx348_0); (try clear hx348_1); (try clear p2); (try clear p345); (try clear p346); (try clear p347); (try clear p348); (try clear q345); (try clear q346); (try clear q347); (try clear q348)
      obtain ⟨kq, x46_4, rfl, HA, HJ4, ⟨mc4, rfl⟩⟩ := hcut
      cases kq with
      | zero => exact absurd HA.out (by simp [sentryref4_SameSentries.j1])
      | succ kj4 =>
       have H := HA.out
       clear HA
       simp only [sentryref4_SameSentries.j1] at H
       by_cases c9 : x46_4 = true
       ·subst c9
        have H1 : (some false) = some r := by rw [if_pos rfl] at H; exact H
        clear H
        have H := H1
        clear H1
        obtain rfl := Option.some.inj H
        go_wp2
        repeat (go_quiet (fail); try go_wp2)
        go_ret
        exact ⟨by first | rfl | (simp; done) | (simp [*]; done), by repeat (first | exact Drawn0.refl _ | apply Drawn0.step)⟩
       ·replace c9 := Bool.eq_false_iff.mpr c9
        subst c9
        have H1 : (sentryref4_SameSentries.l1 kj4 l0 l1 x5_1 0) = some r := by rw [if_neg (show ¬ (false = true) by decide)] at H; exact H
        clear H
        have H := H1
        clear H1
        have H' := Aside0.mk H
        clear H
        go_wp2
        repeat (go_quiet (fail); try go_wp2)
        go_loopg [6] kj4 (fun kq v6 w' => ∃ (x6_3 : Int), v6 = .int .i64 x6_3 ∧ Aside0 (sentryref4_SameSentries.l1 kq l0 l1 x5_1 x6_3 = some r) ∧ Aside0 (kq ≤ kj4) ∧ Drawn0 w w')
        case atStart => exact ⟨(0), (by first | rfl | (simp; done) | (simp [*]; done)), H', ⟨Nat.le_refl _⟩, by repeat (first | exact Drawn0.refl _ | apply Drawn0.step)⟩
        case round =>
         clear H'
         (try clear c1); (try clear p2); (try clear c3); (try clear c3b0); (try clear c3b1); (try clear c3b2); (try clear p3); (try clear q3); (try clear hx3); (try clear c4); (try clear c4b0); (try clear c6); (try clear c6b0); (try clear c7); (try clear c7b0); (try clear c8); (try clear c8b0); (try clear c8b1); (try clear c8b2); (try clear c9); (try clear hx345_0); (try clear hx345_1); (try clear hx346_0); (try clear hx346_1); (try clear hx347_0); (try clear hx347_1); (try clear hx348_0); (try clear hx348_1); (try clear p2); (try clear p3); (try clear p345); (try clear p346); (try clear p347); (try clear p348); (try clear q3); (try clear q345); (try clear q346); (try clear q347); (try clear q348)
         obtain ⟨x6_3, rfl, HA, HK3, ⟨m3, rfl⟩⟩ := hrel
         cases gk with
         | zero => exact absurd HA.out (by simp [sentryref4_SameSentries.l1])
         | succ k3 =>
          have H := HA.out
          clear HA
          simp only [sentryref4_SameSentries.l1] at H
          by_cases c10 : 0 ≤ x5_1
          ·rw [if_pos c10] at H
           have c10b0 : decide (0 ≤ x5_1) = true := decide_eq_true c10
           clear c10
           by_cases c11 : x5_1 < (l0.length : Int)
           ·rw [if_pos c11] at H
            have c11b0 : decide (x5_1 < (l0.length : Int)) = true := decide_eq_true c11
            clear c11
            by_cases c12 : x6_3 < (((rd_T54 l0 x5_1).f0).length : Int)
            ·rw [if_pos c12] at H
             have c12b0 : decide (x6_3 < (((rd_T54 l0 x5_1).f0).length : Int)) = true := decide_eq_true c12
             clear c12
             by_cases c13 : 0 ≤ x6_3
             ·rw [if_pos c13] at H
              have c13b0 : decide (0 ≤ x6_3) = true := decide_eq_true c13
              clear c13
              by_cases c14 : x5_1 < (l1.length : Int)
              ·rw [if_pos c14] at H
               have c14b0 : decide (x5_1 < (l1.length : Int)) = true := decide_eq_true c14
               clear c14
               by_cases c15 : x6_3 < (((rd_T54 l1 x5_1).f0).length : Int)
               ·rw [if_pos c15] at H
                have c15b0 : decide (x6_3 < (((rd_T54 l1 x5_1).f0).length : Int)) = true := decide_eq_true c15
                clear c15
                by_cases c16 : (!((((rd_T103 ((rd_T54 l0 x5_1).f0) x6_3).f0).toList) == (((rd_T103 ((rd_T54 l1 x5_1).f0) x6_3).f0).toList)) || (!(((rd_T103 ((rd_T54 l0 x5_1).f0) x6_3).f1) == ((rd_T103 ((rd_T54 l1 x5_1).f0) x6_3).f1)))) = true
                ·rw [if_pos c16] at H
                 have c16b0 : (!((((rd_T103 ((rd_T54 l0 x5_1).f0) x6_3).f0).toList) == (((rd_T103 ((rd_T54 l1 x5_1).f0) x6_3).f0).toList)) || (!(((rd_T103 ((rd_T54 l0 x5_1).f0) x6_3).f1) == ((rd_T103 ((rd_T54 l1 x5_1).f0) x6_3).f1)))) = true := c16
                 clear c16
                 obtain rfl := Option.some.inj H
                 have p349 : 0 ≤ (x5_1 : Int) := od_
                 have q349 : x5_1 < (l0.length : Int) := od_
                 obtain ⟨ad349, A349_0, c349_0, A349_1, c349_1, e349, hx349_0, hx349_1, hl349_0, hi349_0, hl349_1, hi349_1⟩ := at_T54 HR0.out x5_1 p349 q349
                 cases e349
                 have HR349_0 := Aside0.mk hi349_0
                 have HC349_0 := Aside0.mk hl349_0
                 clear hi349_0 hl349_0
                 have HR349_1 := Aside0.mk hi349_1
                 have HC349_1 := Aside0.mk hl349_1
                 clear hi349_1 hl349_1
                 replace p349 := eq_true p349
                 replace q349 := eq_true q349
                 have p350 : 0 ≤ (x5_1 : Int) := od_
                 have q350 : x5_1 < (l0.length : Int) := od_
                 obtain ⟨ad350, A350_0, c350_0, A350_1, c350_1, e350, hx350_0, hx350_1, hl350_0, hi350_0, hl350_1, hi350_1⟩ := at_T54 HR0.out x5_1 p350 q350
                 obtain rfl : ad349 = ad350 := (by injection e350)
                 have HR350_0 := Aside0.mk hi350_0
                 have HC350_0 := Aside0.mk hl350_0
                 clear hi350_0 hl350_0
                 have HR350_1 := Aside0.mk hi350_1
                 have HC350_1 := Aside0.mk hl350_1
                 clear hi350_1 hl350_1
                 replace p350 := eq_true p350
                 replace q350 := eq_true q350
                 have ea_ := Option.some.inj (hx349_0.symm.trans hx350_0)
                 injection ea_ with ea_ en_ ec_
                 subst ea_
                 subst ec_
                 clear en_
                 have ea_ := Option.some.inj (hx349_1.symm.trans hx350_1)
                 injection ea_ with ea_ en_ ec_
                 subst ea_
                 subst ec_
                 clear en_
                 have p351 : 0 ≤ (x6_3 : Int) := od_
                 have q351 : x6_3 < (((rd_T54 l0 x5_1).f0).length : Int) := od_
                 obtain ⟨ad351, e351, hx351_0, hx351_1⟩ := at_T103 HR350_0.out x6_3 p351 q351
                 cases e351
                 replace p351 := eq_true p351
                 replace q351 := eq_true q351
                 have p352 : 0 ≤ (x5_1 : Int) := od_
                 have q352 : x5_1 < (l1.length : Int) := od_
                 obtain ⟨ad352, A352_0, c352_0, A352_1, c352_1, e352, hx352_0, hx352_1, hl352_0, hi352_0, hl352_1, hi352_1⟩ := at_T54 HR1.out x5_1 p352 q352
                 cases e352
                 have HR352_0 := Aside0.mk hi352_0
                 have HC352_0 := Aside0.mk hl352_0
                 clear hi352_0 hl352_0
                 have HR352_1 := Aside0.mk hi352_1
                 have HC352_1 := Aside0.mk hl352_1
                 clear hi352_1 hl352_1
                 replace p352 := eq_true p352
                 replace q352 := eq_true q352
                 have p353 : 0 ≤ (x6_3 : Int) := od_
                 have q353 : x6_3 < (((rd_T54 l1 x5_1).f0).length : Int) := od_
                 obtain ⟨ad353, e353, hx353_0, hx353_1⟩ := at_T103 HR352_0.out x6_3 p353 q353
                 cases e353
                 replace p353 := eq_true p353
                 replace q353 := eq_true q353
                 go_wp2
                 repeat (go_quiet (fail); try go_wp2)
                 go_ret
                 exact ⟨by first | rfl | (simp; done) | (simp [*]; done), by repeat (first | exact Drawn0.refl _ | apply Drawn0.step)⟩
                ·rw [if_neg c16] at H
                 have c16b0 : (!((((rd_T103 ((rd_T54 l0 x5_1).f0) x6_3).f0).toList) == (((rd_T103 ((rd_T54 l1 x5_1).f0) x6_3).f0).toList)) || (!(((rd_T103 ((rd_T54 l0 x5_1).f0) x6_3).f1) == ((rd_T103 ((rd_T54 l1 x5_1).f0) x6_3).f1)))) = false := by simpa using c16
                 clear c16
                 have H' := Aside0.mk H
                 clear H
                 have p349 : 0 ≤ (x5_1 : Int) := od_
                 have q349 : x5_1 < (l0.length : Int) := od_
                 obtain ⟨ad349, A349_0, c349_0, A349_1, c349_1, e349, hx349_0, hx349_1, hl349_0, hi349_0, hl349_1, hi349_1⟩ := at_T54 HR0.out x5_1 p349 q349
                 cases e349
                 have HR349_0 := Aside0.mk hi349_0
                 have HC349_0 := Aside0.mk hl349_0
                 clear hi349_0 hl349_0
                 have HR349_1 := Aside0.mk hi349_1
                 have HC349_1 := Aside0.mk hl349_1
                 clear hi349_1 hl349_1
                 replace p349 := eq_true p349
                 replace q349 := eq_true q349
                 have p350 : 0 ≤ (x5_1 : Int) := od_
                 have q350 : x5_1 < (l0.length : Int) := od_
                 obtain ⟨ad350, A350_0, c350_0, A350_1, c350_1, e350, hx350_0, hx350_1, hl350_0, hi350_0, hl350_1, hi350_1⟩ := at_T54 HR0.out x5_1 p350 q350
                 obtain rfl : ad349 = ad350 := (by injection e350)
                 have HR350_0 := Aside0.mk hi350_0
                 have HC350_0 := Aside0.mk hl350_0
                 clear hi350_0 hl350_0
                 have HR350_1 := Aside0.mk hi350_1
                 have HC350_1 := Aside0.mk hl350_1
                 clear hi350_1 hl350_1
                 replace p350 := eq_true p350
                 replace q350 := eq_true q350
                 have ea_ := Option.some.inj (hx349_0.symm.trans hx350_0)
                 injection ea_ with ea_ en_ ec_
                 subst ea_
                 subst ec_
                 clear en_
                 have ea_ := Option.some.inj (hx349_1.symm.trans hx350_1)
                 injection ea_ with ea_ en_ ec_
                 subst ea_
                 subst ec_
                 clear en_
                 have p351 : 0 ≤ (x6_3 : Int) := od_
                 have q351 : x6_3 < (((rd_T54 l0 x5_1).f0).length : Int) := od_
                 obtain ⟨ad351, e351, hx351_0, hx351_1⟩ := at_T103 HR350_0.out x6_3 p351 q351
                 cases e351
                 replace p351 := eq_true p351
                 replace q351 := eq_true q351
                 have p352 : 0 ≤ (x5_1 : Int) := od_
                 have q352 : x5_1 < (l1.length : Int) := od_
                 obtain ⟨ad352, A352_0, c352_0, A352_1, c352_1, e352, hx352_0, hx352_1, hl352_0, hi352_0, hl352_1, hi352_1⟩ := at_T54 HR1.out x5_1 p352 q352
                 cases e352
                 have HR352_0 := Aside0.mk hi352_0
                 have HC352_0 := Aside0.mk hl352_0
                 clear hi352_0 hl352_0
                 have HR352_1 := Aside0.mk hi352_1
                 have HC352_1 := Aside0.mk hl352_1
                 clear hi352_1 hl352_1
                 replace p352 := eq_true p352
                 replace q352 := eq_true q352
                 have p353 : 0 ≤ (x6_3 : Int) := od_
                 have q353 : x6_3 < (((rd_T54 l1 x5_1).f0).length : Int) := od_
                 obtain ⟨ad353, e353, hx353_0, hx353_1⟩ := at_T103 HR352_0.out x6_3 p353 q353
                 cases e353
                 replace p353 := eq_true p353
                 replace q353 := eq_true q353
                 go_wp2
                 repeat (go_quiet (fail); try go_wp2)
                 go_roundg k3
                 case measure => have := HK1.out; have := HJ4.out; have := HK3.out; omega
                 case rel => exact ⟨(wrap64 (x6_3 + 1)), (by first | rfl | (simp; done) | (simp [*]; done)), H', ⟨by have := HK1.out; have := HJ4.out; have := HK3.out; omega⟩, by repeat (first | exact Drawn0.refl _ | apply Drawn0.step)⟩
               ·rw [if_neg c15] at H
                exact absurd H (by simp)
              ·rw [if_neg c14] at H
               exact absurd H (by simp)
             ·rw [if_neg c13] at H
              exact absurd H (by simp)
            ·rw [if_neg c12] at H
             have c12b0 : decide (x6_3 < (((rd_T54 l0 x5_1).f0).length : Int)) = false := decide_eq_false c12
             clear c12
             have H' := Aside0.mk H
             clear H
             have p349 : 0 ≤ (x5_1 : Int) := od_
             have q349 : x5_1 < (l0.length : Int) := od_
             obtain ⟨ad349, A349_0, c349_0, A349_1, c349_1, e349, hx349_0, hx349_1, hl349_0, hi349_0, hl349_1, hi349_1⟩ := at_T54 HR0.out x5_1 p349 q349
             cases e349
             have HR349_0 := Aside0.mk hi349_0
             have HC349_0 := Aside0.mk hl349_0
             clear hi349_0 hl349_0
             have HR349_1 := Aside0.mk hi349_1
             have HC349_1 := Aside0.mk hl349_1
             clear hi349_1 hl349_1
             replace p349 := eq_true p349
             replace q349 := eq_true q349
             go_wp2
             repeat (go_quiet (fail); try go_wp2)
             go_loopg [7] k3 (fun kq v7 w' => ∃ (x7_4 : Int), v7 = .int .i64 x7_4 ∧ Aside0 (sentryref4_SameSentries.l2 kq l0 l1 x5_1 x7_4 = some r) ∧ Aside0 (kq ≤ k3) ∧ Drawn0 w w')
             case atStart => exact ⟨(0), (by first | rfl | (simp; done) | (simp [*]; done)), H', ⟨Nat.le_refl _⟩, by repeat (first | exact Drawn0.refl _ | apply Drawn0.step)⟩
             case round =>
              clear H'
              (try clear c1); (try clear p2); (try clear c3); (try clear c3b0); (try clear c3b1); (try clear c3b2); (try clear p3); (try clear q3); (try clear hx3); (try clear c4); (try clear c4b0); (try clear c6); (try clear c6b0); (try clear p6); (try clear c7); (try clear c7b0); (try clear c8); (try clear c8b0); (try clear c8b1); (try clear c8b2); (try clear c9); (try clear c10); (try clear c10b0); (try clear c11); (try clear c11b0); (try clear c12); (try clear c12b0); (try clear c13); (try clear c13b0); (try clear c14); (try clear c14b0); (try clear c15); (try clear c15b0); (try clear c16); (try clear c16b0); (try clear hx345_0); (try clear hx345_1); (try clear hx346_0); (try clear hx346_1); (try clear hx347_0); (try clear hx347_1); (try clear hx348_0); (try clear hx348_1); (try clear hx349_0); (try clear hx349_1); (try clear hx350_0); (try clear hx350_1); (try clear hx351_0); (try clear hx351_1); (try clear hx352_0); (try clear hx352_1); (try clear hx353_0); (try clear hx353_1); (try clear p2); (try clear p3); (try clear p345); (try clear p346); (try clear p347); (try clear p348); (try clear p349); (try clear p350); (try clear p351); (try clear p352); (try clear p353); (try clear q3); (try clear q345); (try clear q346); (try clear q347); (try clear q348); (try clear q349); (try clear q350); (try clear q351); (try clear q352); (try clear q353)
              obtain ⟨x7_4, rfl, HA, HK4, ⟨m4, rfl⟩⟩ := hrel
              cases gk with
              | zero => exact absurd HA.out (by simp [sentryref4_SameSentries.l2])
              | succ k4 =>
               have H := HA.out
               clear HA
               simp only [sentryref4_SameSentries.l2] at H
               by_cases c17 : 0 ≤ x5_1
               ·rw [if_pos c17] at H
                have c17b0 : decide (0 ≤ x5_1) = true := decide_eq_true c17
                clear c17
                by_cases c18 : x5_1 < (l0.length : Int)
                ·rw [if_pos c18] at H
                 have c18b0 : decide (x5_1 < (l0.length : Int)) = true := decide_eq_true c18
                 clear c18
                 by_cases c19 : x7_4 < (((rd_T54 l0 x5_1).f1).length : Int)
                 ·rw [if_pos c19] at H
                  have c19b0 : decide (x7_4 < (((rd_T54 l0 x5_1).f1).length : Int)) = true := decide_eq_true c19
                  clear c19
                  by_cases c20 : 0 ≤ x7_4
                  ·rw [if_pos c20] at H
                   have c20b0 : decide (0 ≤ x7_4) = true := decide_eq_true c20
                   clear c20
                   by_cases c21 : x5_1 < (l1.length : Int)
                   ·rw [if_pos c21] at H
                    have c21b0 : decide (x5_1 < (l1.length : Int)) = true := decide_eq_true c21
                    clear c21
                    by_cases c22 : x7_4 < (((rd_T54 l1 x5_1).f1).length : Int)
                    ·rw [if_pos c22] at H
                     have c22b0 : decide (x7_4 < (((rd_T54 l1 x5_1).f1).length : Int)) = true := decide_eq_true c22
                     clear c22
                     by_cases c23 : (!((((rd_T50 ((rd_T54 l0 x5_1).f1) x7_4).f0).toList) == (((rd_T50 ((rd_T54 l1 x5_1).f1) x7_4).f0).toList)) || (!((((rd_T50 ((rd_T54 l0 x5_1).f1) x7_4).f1).toList) == (((rd_T50 ((rd_T54 l1 x5_1).f1) x7_4).f1).toList)) || (!(((rd_T50 ((rd_T54 l0 x5_1).f1) x7_4).f2) == ((rd_T50 ((rd_T54 l1 x5_1).f1) x7_4).f2))))) = true
                     ·rw [if_pos c23] at H
                      have c23b0 : (!((((rd_T50 ((rd_T54 l0 x5_1).f1) x7_4).f0).toList) == (((rd_T50 ((rd_T54 l1 x5_1).f1) x7_4).f0).toList)) || (!((((rd_T50 ((rd_T54 l0 x5_1).f1) x7_4).f1).toList) == (((rd_T50 ((rd_T54 l1 x5_1).f1) x7_4).f1).toList)) || (!(((rd_T50 ((rd_T54 l0 x5_1).f1) x7_4).f2) == ((rd_T50 ((rd_T54 l1 x5_1).f1) x7_4).f2))))) = true := c23
                      clear c23
                      obtain rfl := Option.some.inj H
                      have p354 : 0 ≤ (x5_1 : Int) := od_
                      have q354 : x5_1 < (l0.length : Int) := od_
                      obtain ⟨ad354, A354_0, c354_0, A354_1, c354_1, e354, hx354_0, hx354_1, hl354_0, hi354_0, hl354_1, hi354_1⟩ := at_T54 HR0.out x5_1 p354 q354
                      obtain rfl : ad349 = ad354 := (by injection e354)
                      have HR354_0 := Aside0.mk hi354_0
                      have HC354_0 := Aside0.mk hl354_0
                      clear hi354_0 hl354_0
                      have HR354_1 := Aside0.mk hi354_1
                      have HC354_1 := Aside0.mk hl354_1
                      clear hi354_1 hl354_1
                      replace p354 := eq_true p354
                      replace q354 := eq_true q354
                      have p355 : 0 ≤ (x5_1 : Int) := od_
                      have q355 : x5_1 < (l0.length : Int) := od_
                      obtain ⟨ad355, A355_0, c355_0, A355_1, c355_1, e355, hx355_0, hx355_1, hl355_0, hi355_0, hl355_1, hi355_1⟩ := at_T54 HR0.out x5_1 p355 q355
                      obtain rfl : ad349 = ad355 := (by injection e355)
                      have HR355_0 := Aside0.mk hi355_0
                      have HC355_0 := Aside0.mk hl355_0
                      clear hi355_0 hl355_0
                      have HR355_1 := Aside0.mk hi355_1
                      have HC355_1 := Aside0.mk hl355_1
                      clear hi355_1 hl355_1
                      replace p355 := eq_true p355
                      replace q355 := eq_true q355
                      have ea_ := Option.some.inj (hx354_0.symm.trans hx355_0)
                      injection ea_ with ea_ en_ ec_
                      subst ea_
                      subst ec_
                      clear en_
                      have ea_ := Option.some.inj (hx354_1.symm.trans hx355_1)
                      injection ea_ with ea_ en_ ec_
                      subst ea_
                      subst ec_
                      clear en_
                      have p356 : 0 ≤ (x7_4 : Int) := od_
                      have q356 : x7_4 < (((rd_T54 l0 x5_1).f1).length : Int) := od_
                      obtain ⟨ad356, e356, hx356_0, hx356_1, hx356_2⟩ := at_T50 HR355_1.out x7_4 p356 q356
                      cases e356
                      replace p356 := eq_true p356
                      replace q356 := eq_true q356
                      have p357 : 0 ≤ (x5_1 : Int) := od_
                      have q357 : x5_1 < (l1.length : Int) := od_
                      obtain ⟨ad357, A357_0, c357_0, A357_1, c357_1, e357, hx357_0, hx357_1, hl357_0, hi357_0, hl357_1, hi357_1⟩ := at_T54 HR1.out x5_1 p357 q357
                      cases e357
                      have HR357_0 := Aside0.mk hi357_0
                      have HC357_0 := Aside0.mk hl357_0
                      clear hi357_0 hl357_0
                      have HR357_1 := Aside0.mk hi357_1
                      have HC357_1 := Aside0.mk hl357_1
                      clear hi357_1 hl357_1
                      replace p357 := eq_true p357
                      replace q357 := eq_true q357
                      have p358 : 0 ≤ (x7_4 : Int) := od_
                      have q358 : x7_4 < (((rd_T54 l1 x5_1).f1).length : Int) := od_
                      obtain ⟨ad358, e358, hx358_0, hx358_1, hx358_2⟩ := at_T50 HR357_1.out x7_4 p358 q358
                      cases e358
                      replace p358 := eq_true p358
                      replace q358 := eq_true q358
                      go_wp2
                      repeat (go_quiet (fail); try go_wp2)
                      go_ret
                      exact ⟨by first | rfl | (simp; done) | (simp [*]; done), by repeat (first | exact Drawn0.refl _ | apply Drawn0.step)⟩
                     ·rw [if_neg c23] at H
                      have c23b0 : (!((((rd_T50 ((rd_T54 l0 x5_1).f1) x7_4).f0).toList) == (((rd_T50 ((rd_T54 l1 x5_1).f1) x7_4).f0).toList)) || (!((((rd_T50 ((rd_T54 l0 x5_1).f1) x7_4).f1).toList) == (((rd_T50 ((rd_T54 l1 x5_1).f1) x7_4).f1).toList)) || (!(((rd_T50 ((rd_T54 l0 x5_1).f1) x7_4).f2) == ((rd_T50 ((rd_T54 l1 x5_1).f1) x7_4).f2))))) = false := by simpa using c23
                      clear c23
                      have H' := Aside0.mk H
                      clear H
                      have p354 : 0 ≤ (x5_1 : Int) := od_
                      have q354 : x5_1 < (l0.length : Int) := od_
                      obtain ⟨ad354, A354_0, c354_0, A354_1, c354_1, e354, hx354_0, hx354_1, hl354_0, hi354_0, hl354_1, hi354_1⟩ := at_T54 HR0.out x5_1 p354 q354
                      obtain rfl : ad349 = ad354 := (by injection e354)
                      have HR354_0 := Aside0.mk hi354_0
                      have HC354_0 := Aside0.mk hl354_0
                      clear hi354_0 hl354_0
                      have HR354_1 := Aside0.mk hi354_1
                      have HC354_1 := Aside0.mk hl354_1
                      clear hi354_1 hl354_1
                      replace p354 := eq_true p354
                      replace q354 := eq_true q354
                      have p355 : 0 ≤ (x5_1 : Int) := od_
                      have q355 : x5_1 < (l0.length : Int) := od_
                      obtain ⟨ad355, A355_0, c355_0, A355_1, c355_1, e355, hx355_0, hx355_1, hl355_0, hi355_0, hl355_1, hi355_1⟩ := at_T54 HR0.out x5_1 p355 q355
                      obtain rfl : ad349 = ad355 := (by injection e355)
                      have HR355_0 := Aside0.mk hi355_0
                      have HC355_0 := Aside0.mk hl355_0
                      clear hi355_0 hl355_0
                      have HR355_1 := Aside0.mk hi355_1
                      have HC355_1 := Aside0.mk hl355_1
                      clear hi355_1 hl355_1
                      replace p355 := eq_true p355
                      replace q355 := eq_true q355
                      have ea_ := Option.some.inj (hx354_0.symm.trans hx355_0)
                      injection ea_ with ea_ en_ ec_
                      subst ea_
                      subst ec_
                      clear en_
                      have ea_ := Option.some.inj (hx354_1.symm.trans hx355_1)
                      injection ea_ with ea_ en_ ec_
                      subst ea_
                      subst ec_
                      clear en_
                      have p356 : 0 ≤ (x7_4 : Int) := od_
                      have q356 : x7_4 < (((rd_T54 l0 x5_1).f1).length : Int) := od_
                      obtain ⟨ad356, e356, hx356_0, hx356_1, hx356_2⟩ := at_T50 HR355_1.out x7_4 p356 q356
                      cases e356
                      replace p356 := eq_true p356
                      replace q356 := eq_true q356
                      have p357 : 0 ≤ (x5_1 : Int) := od_
                      have q357 : x5_1 < (l1.length : Int) := od_
                      obtain ⟨ad357, A357_0, c357_0, A357_1, c357_1, e357, hx357_0, hx357_1, hl357_0, hi357_0, hl357_1, hi357_1⟩ := at_T54 HR1.out x5_1 p357 q357
                      cases e357
                      have HR357_0 := Aside0.mk hi357_0
                      have HC357_0 := Aside0.mk hl357_0
                      clear hi357_0 hl357_0
                      have HR357_1 := Aside0.mk hi357_1
                      have HC357_1 := Aside0.mk hl357_1
                      clear hi357_1 hl357_1
                      replace p357 := eq_true p357
                      replace q357 := eq_true q357
                      have p358 : 0 ≤ (x7_4 : Int) := od_
                      have q358 : x7_4 < (((rd_T54 l1 x5_1).f1).length : Int) := od_
                      obtain ⟨ad358, e358, hx358_0, hx358_1, hx358_2⟩ := at_T50 HR357_1.out x7_4 p358 q358
                      cases e358
                      replace p358 := eq_true p358
                      replace q358 := eq_true q358
                      go_wp2
                      repeat (go_quiet (fail); try go_wp2)
                      go_roundg k4
                      case measure => have := HK1.out; have := HJ4.out; have := HK3.out; have := HK4.out; omega
                      case rel => exact ⟨(wrap64 (x7_4 + 1)), (by first | rfl | (simp; done) | (simp [*]; done)), H', ⟨by have := HK1.out; have := HJ4.out; have := HK3.out; have := HK4.out; omega⟩, by repeat (first | exact Drawn0.refl _ | apply Drawn0.step)⟩
                    ·rw [if_neg c22] at H
                     exact absurd H (by simp)
                   ·rw [if_neg c21] at H
                    exact absurd H (by simp)
                  ·rw [if_neg c20] at H
                   exact absurd H (by simp)
                 ·rw [if_neg c19] at H
                  have c19b0 : decide (x7_4 < (((rd_T54 l0 x5_1).f1).length : Int)) = false := decide_eq_false c19
                  clear c19
                  have H' := Aside0.mk H
                  clear H
                  have p354 : 0 ≤ (x5_1 : Int) := od_
                  have q354 : x5_1 < (l0.length : Int) := od_
                  obtain ⟨ad354, A354_0, c354_0, A354_1, c354_1, e354, hx354_0, hx354_1, hl354_0, hi354_0, hl354_1, hi354_1⟩ := at_T54 HR0.out x5_1 p354 q354
                  obtain rfl : ad349 = ad354 := (by injection e354)
                  have HR354_0 := Aside0.mk hi354_0
                  have HC354_0 := Aside0.mk hl354_0
                  clear hi354_0 hl354_0
                  have HR354_1 := Aside0.mk hi354_1
                  have HC354_1 := Aside0.mk hl354_1
                  clear hi354_1 hl354_1
                  replace p354 := eq_true p354
                  replace q354 := eq_true q354
                  go_wp2
                  repeat (go_quiet (fail); try go_wp2)
                  go_roundg k4
                  case measure => have := HK1.out; have := HJ4.out; have := HK3.out; have := HK4.out; omega
                  case rel => exact ⟨(wrap64 (x5_1 + 1)), (by first | rfl | (simp; done) | (simp [*]; done)), H', ⟨by have := HK1.out; have := HJ4.out; have := HK3.out; have := HK4.out; omega⟩, by repeat (first | exact Drawn0.refl _ | apply Drawn0.step)⟩
                ·rw [if_neg c18] at H
                 exact absurd H (by simp)
               ·rw [if_neg c17] at H
                exact absurd H (by simp)
           ·rw [if_neg c11] at H
            exact absurd H (by simp)
          ·rw [if_neg c10] at H
           exact absurd H (by simp)
    ·rw [if_neg c4] at H
     have c4b0 : decide (x5_1 < (l0.length : Int)) = false := decide_eq_false c4
     clear c4
     obtain rfl := Option.some.inj H
     go_wp2
     repeat (go_quiet (fail); try go_wp2)
     go_ret
     exact ⟨by first | rfl | (simp; done) | (simp [*]; done), by repeat (first | exact Drawn0.refl _ | apply Drawn0.step)⟩
 ·rw [if_neg c3] at H
  have c3b0 : ((l0.length : Int) == (l1.length : Int)) = false := beq_eq_false_iff_ne.mpr c3
  have c3b1 : ((l0.length : Int) != (l1.length : Int)) = true := bne_iff_ne.mpr c3
  have c3b2 : (l0.length == l1.length) = false := by first | simpa using c3 | (simp at c3 ⊢; omega)
  obtain rfl := Option.some.inj H
  go_enter Try.func78, Try.ntmps78
  go_wp2
  repeat (go_quiet (fail); try go_wp2)
  go_ret
  exact ⟨by first | rfl | (simp; done) | (simp [*]; done), by repeat (first | exact Drawn0.refl _ | apply Drawn0.step)⟩
end Go.Proofs.Ytaiglhfmmdajdaa.Pm
end
section
namespace Go.Proofs.Ytaiglhfmmdajdaa.Pm
open Go.RowKit Go.Proofs.YtaiglhfmmdajdaaW.PrintWords Go.Proofs.YtaiglhfmmdajdaaW.PrintLast Go.Proofs.YtaiglhfmmdajdaaW.PrintMore
attribute [local go_sem] max2_int min2_int max_two min_two max_three min_three max_four min_four   -- for this text's walks alone
set_option linter.unusedVariables false
set_option linter.unusedSimpArgs false
def sentryref4_SameItem.f (k : Nat) (a0_0 : ByteArray) (a0_1 : Int) (a0_2 : ByteArray) (a0_3 : Bool) (a0_4 : Int) (l0_5 : List (S54)) (l0_6 : List (S54)) (a1_0 : ByteArray) (a1_1 : Int) (a1_2 : ByteArray) (a1_3 : Bool) (a1_4 : Int) (l1_5 : List (S54)) (l1_6 : List (S54)) : Option (Bool) := if a0_0.toList = a1_0.toList then (if a0_1 = a1_1 then (if a0_2.toList = a1_2.toList then (if (a0_3 == a1_3) = true then (if a0_4 = a1_4 then ((sentryref4_SameSentries.f k l0_5 l1_5).bind fun t361 => (if t361 = true then ((sentryref4_SameSentries.f k l0_6 l1_6).bind fun t362 => (some t362)) else (some false))) else (some false)) else (some false)) else (some false)) else (some false)) else (some false)
theorem sentryref4_SameItem.mono : ∀ a0 a1 a2 a3 a4 a5 a6 a7 a8 a9 a10 a11 a12 a13 k, LeO (sentryref4_SameItem.f k a0 a1 a2 a3 a4 a5 a6 a7 a8 a9 a10 a11 a12 a13) (sentryref4_SameItem.f (k + 1) a0 a1 a2 a3 a4 a5 a6 a7 a8 a9 a10 a11 a12 a13) := by
 intro a0 a1 a2 a3 a4 a5 a6 a7 a8 a9 a10 a11 a12 a13 k
 unfold sentryref4_SameItem.f
 repeat' first
   | (with_reducible exact sentryref4_SameSentries.mono _ _ _)
   | (with_reducible exact LeO.refl _)
   | (with_reducible exact LeO.none _)
   | (with_reducible refine LeO.ite ?_ ?_)
   | (with_reducible refine LeO.bind ?_ (fun _ => ?_))
   | exact sentryref4_SameSentries.mono _ _ _
   | exact LeO.none _
   | refine LeO.ite ?_ ?_
   | refine LeO.bind ?_ (fun _ => ?_)
set_option maxHeartbeats 8000000 in
set_option maxRecDepth 100000 in
theorem sentryref4_SameItem.calls (k : Nat) (a0_0 : ByteArray) (a0_1 : Int) (a0_2 : ByteArray) (a0_3 : Bool) (a0_4 : Int) (A0_5 : Option Addr) (c0_5 : Nat) (l0_5 : List (S54)) (A0_6 : Option Addr) (c0_6 : Nat) (l0_6 : List (S54)) (a1_0 : ByteArray) (a1_1 : Int) (a1_2 : ByteArray) (a1_3 : Bool) (a1_4 : Int) (A1_5 : Option Addr) (c1_5 : Nat) (l1_5 : List (S54)) (A1_6 : Option Addr) (c1_6 : Nat) (l1_6 : List (S54)) (r : Bool) (w : World) (hr0_5 : Kd.C k54 w A0_5 l0_5.length l0_5) (hc0_5 : l0_5.length ≤ c0_5) (hr0_6 : Kd.C k54 w A0_6 l0_6.length l0_6) (hc0_6 : l0_6.length ≤ c0_6) (hr1_5 : Kd.C k54 w A1_5 l1_5.length l1_5) (hc1_5 : l1_5.length ≤ c1_5) (hr1_6 : Kd.C k54 w A1_6 l1_6.length l1_6) (hc1_6 : l1_6.length ≤ c1_6) (h : sentryref4_SameItem.f k a0_0 a0_1 a0_2 a0_3 a0_4 l0_5 l0_6 a1_0 a1_1 a1_2 a1_3 a1_4 l1_5 l1_6 = some r) :
  Calls Try.prog 61 #[.agg #[.string a0_0, .int .i64 a0_1, .string a0_2, .bool a0_3, .int .i64 a0_4, .slice A0_5 l0_5.length c0_5, .slice A0_6 l0_6.length c0_6], .agg #[.string a1_0, .int .i64 a1_1, .string a1_2, .bool a1_3, .int .i64 a1_4, .slice A1_5 l1_5.length c1_5, .slice A1_6 l1_6.length c1_6]] w fun e w' => e = .returned (.bool r) ∧ Below w.heap.size w w' := by
 have hu48 := Try.underlying48
 have HR0_5 := Aside0.mk hr0_5
 have HC0_5 := Aside0.mk hc0_5
 clear hr0_5 hc0_5
 have HR0_6 := Aside0.mk hr0_6
 have HC0_6 := Aside0.mk hc0_6
 clear hr0_6 hc0_6
 have HR1_5 := Aside0.mk hr1_5
 have HC1_5 := Aside0.mk hc1_5
 clear hr1_5 hc1_5
 have HR1_6 := Aside0.mk hr1_6
 have HC1_6 := Aside0.mk hc1_6
 clear hr1_6 hc1_6
 have HB := Aside0.mk (Below.refl w.heap.size w)
 have H : (if a0_0.toList = a1_0.toList then (if a0_1 = a1_1 then (if a0_2.toList = a1_2.toList then (if (a0_3 == a1_3) = true then (if a0_4 = a1_4 then ((sentryref4_SameSentries.f k l0_5 l1_5).bind fun t361 => (if t361 = true then ((sentryref4_SameSentries.f k l0_6 l1_6).bind fun t362 => (some t362)) else (some false))) else (some false)) else (some false)) else (some false)) else (some false)) else (some false)) = some r := h
 clear h
 by_cases c3 : a0_0.toList = a1_0.toList
 ·rw [if_pos c3] at H
  have c3b0 : (a0_0.toList == a1_0.toList) = true := beq_iff_eq.mpr c3
  have c3b1 : (a0_0.toList != a1_0.toList) = false := bne_eq_false_iff_eq.mpr c3
  clear c3
  by_cases c4 : a0_1 = a1_1
  ·rw [if_pos c4] at H
   have c4b0 : (a0_1 == a1_1) = true := beq_iff_eq.mpr c4
   have c4b1 : (a0_1 != a1_1) = false := bne_eq_false_iff_eq.mpr c4
   clear c4
   by_cases c5 : a0_2.toList = a1_2.toList
   ·rw [if_pos c5] at H
    have c5b0 : (a0_2.toList == a1_2.toList) = true := beq_iff_eq.mpr c5
    have c5b1 : (a0_2.toList != a1_2.toList) = false := bne_eq_false_iff_eq.mpr c5
    clear c5
    by_cases c6 : (a0_3 == a1_3) = true
    ·rw [if_pos c6] at H
     have c6b0 : (a0_3 == a1_3) = true := c6
     (try (have c6b1 : decide (a0_3 = a1_3) = true := by simpa using c6))
     (try (have c6b2 : (a0_3 == a1_3) = true := by simpa using c6))
     clear c6
     by_cases c7 : a0_4 = a1_4
     ·rw [if_pos c7] at H
      have c7b0 : (a0_4 == a1_4) = true := beq_iff_eq.mpr c7
      have c7b1 : (a0_4 != a1_4) = false := bne_eq_false_iff_eq.mpr c7
      clear c7
      replace H := Option.bind_eq_some_iff.mp H
      obtain ⟨t361, A80, H⟩ := H
      replace H : (if t361 = true then ((sentryref4_SameSentries.f k l0_6 l1_6).bind fun t362 => (some t362)) else (some false)) = some r := H
      have A8 := Aside0.mk A80
      clear A80
      by_cases c9 : t361 = true
      ·subst c9
       have H1 : ((sentryref4_SameSentries.f k l0_6 l1_6).bind fun t362 => (some t362)) = some r := by rw [if_pos rfl] at H; exact H
       clear H
       have H := H1
       clear H1
       replace H := Option.bind_eq_some_iff.mp H
       obtain ⟨t362, A100, H⟩ := H
       replace H : (some t362) = some r := H
       have A10 := Aside0.mk A100
       clear A100
       obtain rfl := Option.some.inj H
       go_enter Try.func61, Try.ntmps61
       go_wp2_with (first | ((with_reducible refine gate_dst (N := 2) rfl ?_); refine box_event ?hg (N := 2) ?hd (cs := #[.string a0_0, .int .i64 a0_1, .string a0_2, .bool a0_3, .int .i64 a0_4, .slice A0_5 l0_5.length c0_5, .slice A0_6 l0_6.length c0_6]) (t := 48) ?hr ?_; (case hd => rfl); (case hg => rfl); (case hr => first | (go_simp; done) | (go_simp; rfl)); intro gb359 hg w11 hbox hb; have n0_ := hb_ HB hb; have n1_ := Aside0.mk (hbox); have n2_ := Aside0.mk ((by rw [hg]; exact (below_size (by repeat (first | (with_reducible first | exact HB.out | apply below_alloc | apply pw_below_drewN | apply below_drew1) | exact HB.out))) : w.heap.size ≤ gb359)); have n3_ := Aside0.mk ((by rw [hg]; exact (below_size (by repeat (first | (with_reducible first | exact HB.out | apply below_alloc | apply pw_below_drewN | apply below_drew1) | exact HB.out))) : w.heap.size ≤ gb359)); clear HB; have HB := n0_; have BK359 := n1_; have GW359 := n2_; have GE359 := n3_; clear n0_ n1_ n2_ n3_; clear hb hbox hg) | ((with_reducible refine gate_dst (N := 3) rfl ?_); refine box_event ?hg (N := 3) ?hd (cs := #[.string a1_0, .int .i64 a1_1, .string a1_2, .bool a1_3, .int .i64 a1_4, .slice A1_5 l1_5.length c1_5, .slice A1_6 l1_6.length c1_6]) (t := 48) ?hr ?_; (case hd => rfl); (case hg => rfl); (case hr => first | (go_simp; done) | (go_simp; rfl)); intro gb360 hg w12 hbox hb; have n0_ := bb_ BK359 hb; have n1_ := hb_ HB hb; have n2_ := Aside0.mk (hbox); have n3_ := Aside0.mk ((by rw [hg]; exact (below_size (by repeat (first | (with_reducible first | exact HB.out | apply below_alloc | apply pw_below_drewN | apply below_drew1 | refine below_set ?_ GE359.out) | exact HB.out))) : w.heap.size ≤ gb360)); have n4_ := Aside0.mk ((by rw [hg]; exact (below_size (by repeat (first | (with_reducible first | exact HB.out | apply below_alloc | apply pw_below_drewN | apply below_drew1 | refine below_set ?_ GE359.out) | exact HB.out))) : w.heap.size ≤ gb360)); have n5_ := Aside0.mk ((by rw [hg]; exact Nat.ne_of_lt (blk_lt (g := gb359) (o := .cells #[.string a0_0, .int .i64 a0_1, .string a0_2, .bool a0_3, .int .i64 a0_4, .slice A0_5 l0_5.length c0_5, .slice A0_6 l0_6.length c0_6] 48 (0, 0)) (by (with_reducible repeat (first | refine blk_drewN ?_ _ | refine blk_drew ?_ | refine blk_alloc ?_ _)); exact BK359.out)) : gb359 ≠ gb360)); have n6_ := Aside0.mk ((by rw [hg]; exact Nat.ne_of_gt (blk_lt (g := gb359) (o := .cells #[.string a0_0, .int .i64 a0_1, .string a0_2, .bool a0_3, .int .i64 a0_4, .slice A0_5 l0_5.length c0_5, .slice A0_6 l0_6.length c0_6] 48 (0, 0)) (by (with_reducible repeat (first | refine blk_drewN ?_ _ | refine blk_drew ?_ | refine blk_alloc ?_ _)); exact BK359.out)) : gb360 ≠ gb359)); clear BK359; clear HB; have BK359 := n0_; have HB := n1_; have BK360 := n2_; have GW360 := n3_; have GE360 := n4_; have NB359_360 := n5_; have NB360_359 := n6_; clear n0_ n1_ n2_ n3_ n4_ n5_ n6_; clear hb hbox hg; have hnb13 := NB359_360.out; have hnc13 := NB360_359.out; obtain ⟨hcz14_0, hcz14_1, hcz14_2, hcz14_3, hcz14_4, hcz14_5, hcz14_6, hfz14_0, hfz14_1, hfz14_2, hfz14_3, hfz14_4, hfz14_5, hfz14_6⟩ := bs7_ BK359; obtain ⟨hcz15_0, hcz15_1, hcz15_2, hcz15_3, hcz15_4, hcz15_5, hcz15_6, hfz15_0, hfz15_1, hfz15_2, hfz15_3, hfz15_4, hfz15_5, hfz15_6⟩ := bs7_ BK360) | (go_at_call 78; (with_reducible refine (sentryref4_SameSentries.calls k _ _ l0_5 _ _ l1_5 true _ ?side1 ?side2 ?side3 ?side4 A8.out).mono ?_); (case side1 => exact kc_ HR0_5 HB); (case side2 => exact HC0_5.out); (case side3 => exact kc_ HR1_5 HB); (case side4 => exact HC1_5.out); rintro e w' ⟨rfl, ⟨nd, rfl⟩⟩) | (go_at_call 78; (with_reducible refine (sentryref4_SameSentries.calls k _ _ l0_6 _ _ l1_6 t362 _ ?side1 ?side2 ?side3 ?side4 A10.out).mono ?_); (case side1 => repeat (first | exact (Kd.C_below HR0_6.out (by repeat (first | (with_reducible first | exact HB.out | apply below_alloc | apply pw_below_drewN | apply below_drew1 | refine below_set ?_ GE359.out | refine below_set ?_ GE360.out) | exact HB.out))) | (with_reducible refine Kd.C_alloc ?_ _) | (with_reducible refine Kd.C_drewN ?_ _) | (with_reducible refine Kd.C_drew ?_))); (case side2 => exact HC0_6.out); (case side3 => repeat (first | exact (Kd.C_below HR1_6.out (by repeat (first | (with_reducible first | exact HB.out | apply below_alloc | apply pw_below_drewN | apply below_drew1 | refine below_set ?_ GE359.out | refine below_set ?_ GE360.out) | exact HB.out))) | (with_reducible refine Kd.C_alloc ?_ _) | (with_reducible refine Kd.C_drewN ?_ _) | (with_reducible refine Kd.C_drew ?_))); (case side4 => exact HC1_6.out); rintro e w' ⟨rfl, ⟨nd, rfl⟩⟩))
       go_ret
       exact ⟨er_, hf_⟩
      ·replace c9 := Bool.eq_false_iff.mpr c9
       subst c9
       have H1 : (some false) = some r := by rw [if_neg (show ¬ (false = true) by decide)] at H; exact H
       clear H
       have H := H1
       clear H1
       obtain rfl := Option.some.inj H
       go_enter Try.func61, Try.ntmps61
       go_wp2_with (first | ((with_reducible refine gate_dst (N := 2) rfl ?_); refine box_event ?hg (N := 2) ?hd (cs := #[.string a0_0, .int .i64 a0_1, .string a0_2, .bool a0_3, .int .i64 a0_4, .slice A0_5 l0_5.length c0_5, .slice A0_6 l0_6.length c0_6]) (t := 48) ?hr ?_; (case hd => rfl); (case hg => rfl); (case hr => first | (go_simp; done) | (go_simp; rfl)); intro gb359 hg w16 hbox hb; have n0_ := hb_ HB hb; have n1_ := Aside0.mk (hbox); have n2_ := Aside0.mk ((by rw [hg]; exact (below_size (by repeat (first | (with_reducible first | exact HB.out | apply below_alloc | apply pw_below_drewN | apply below_drew1) | exact HB.out))) : w.heap.size ≤ gb359)); have n3_ := Aside0.mk ((by rw [hg]; exact (below_size (by repeat (first | (with_reducible first | exact HB.out | apply below_alloc | apply pw_below_drewN | apply below_drew1) | exact HB.out))) : w.heap.size ≤ gb359)); clear HB; have HB := n0_; have BK359 := n1_; have GW359 := n2_; have GE359 := n3_; clear n0_ n1_ n2_ n3_; clear hb hbox hg) | ((with_reducible refine gate_dst (N := 3) rfl ?_); refine box_event ?hg (N := 3) ?hd (cs := #[.string a1_0, .int .i64 a1_1, .string a1_2, .bool a1_3, .int .i64 a1_4, .slice A1_5 l1_5.length c1_5, .slice A1_6 l1_6.length c1_6]) (t := 48) ?hr ?_; (case hd => rfl); (case hg => rfl); (case hr => first | (go_simp; done) | (go_simp; rfl)); intro gb360 hg w17 hbox hb; have n0_ := bb_ BK359 hb; have n1_ := hb_ HB hb; have n2_ := Aside0.mk (hbox); have n3_ := Aside0.mk ((by rw [hg]; exact (below_size (by repeat (first | (with_reducible first | exact HB.out | apply below_alloc | apply pw_below_drewN | apply below_drew1 | refine below_set ?_ GE359.out) | exact HB.out))) : w.heap.size ≤ gb360)); have n4_ := Aside0.mk ((by rw [hg]; exact (below_size (by repeat (first | (with_reducible first | exact HB.out | apply below_alloc | apply pw_below_drewN | apply below_drew1 | refine below_set ?_ GE359.out) | exact HB.out))) : w.heap.size ≤ gb360)); have n5_ := Aside0.mk ((by rw [hg]; exact Nat.ne_of_lt (blk_lt (g := gb359) (o := .cells #[.string a0_0, .int .i64 a0_1, .string a0_2, .bool a0_3, .int .i64 a0_4, .slice A0_5 l0_5.length c0_5, .slice A0_6 l0_6.length c0_6] 48 (0, 0)) (by (with_reducible repeat (first | refine blk_drewN ?_ _ | refine blk_drew ?_ | refine blk_alloc ?_ _)); exact BK359.out)) : gb359 ≠ gb360)); have n6_ := Aside0.mk ((by rw [hg]; exact Nat.ne_of_gt (blk_lt (g := gb359) (o := .cells #[.string a0_0, .int .i64 a0_1, .string a0_2, .bool a0_3, .int .i64 a0_4, .slice A0_5 l0_5.length c0_5, .slice A0_6 l0_6.length c0_6] 48 (0, 0)) (by (with_reducible repeat (first | refine blk_drewN ?_ _ | refine blk_drew ?_ | refine blk_alloc ?_ _)); exact BK359.out)) : gb360 ≠ gb359)); clear BK359; clear HB; have BK359 := n0_; have HB := n1_; have BK360 := n2_; have GW360 := n3_; have GE360 := n4_; have NB359_360 := n5_; have NB360_359 := n6_; clear n0_ n1_ n2_ n3_ n4_ n5_ n6_; clear hb hbox hg; have hnb18 := NB359_360.out; have hnc18 := NB360_359.out; obtain ⟨hcz19_0, hcz19_1, hcz19_2, hcz19_3, hcz19_4, hcz19_5, hcz19_6, hfz19_0, hfz19_1, hfz19_2, hfz19_3, hfz19_4, hfz19_5, hfz19_6⟩ := bs7_ BK359; obtain ⟨hcz20_0, hcz20_1, hcz20_2, hcz20_3, hcz20_4, hcz20_5, hcz20_6, hfz20_0, hfz20_1, hfz20_2, hfz20_3, hfz20_4, hfz20_5, hfz20_6⟩ := bs7_ BK360) | (go_at_call 78; (with_reducible refine (sentryref4_SameSentries.calls k _ _ l0_5 _ _ l1_5 false _ ?side1 ?side2 ?side3 ?side4 A8.out).mono ?_); (case side1 => exact kc_ HR0_5 HB); (case side2 => exact HC0_5.out); (case side3 => exact kc_ HR1_5 HB); (case side4 => exact HC1_5.out); rintro e w' ⟨rfl, ⟨nd, rfl⟩⟩))
       go_ret
       exact ⟨er_, hf_⟩
     ·rw [if_neg c7] at H
      have c7b0 : (a0_4 == a1_4) = false := beq_eq_false_iff_ne.mpr c7
      have c7b1 : (a0_4 != a1_4) = true := bne_iff_ne.mpr c7
      obtain rfl := Option.some.inj H
      go_enter Try.func61, Try.ntmps61
      go_wp2_with (first | ((with_reducible refine gate_dst (N := 2) rfl ?_); refine box_event ?hg (N := 2) ?hd (cs := #[.string a0_0, .int .i64 a0_1, .string a0_2, .bool a0_3, .int .i64 a0_4, .slice A0_5 l0_5.length c0_5, .slice A0_6 l0_6.length c0_6]) (t := 48) ?hr ?_; (case hd => rfl); (case hg => rfl); (case hr => first | (go_simp; done) | (go_simp; rfl)); intro gb359 hg w21 hbox hb; have n0_ := hb_ HB hb; have n1_ := Aside0.mk (hbox); have n2_ := Aside0.mk ((by rw [hg]; exact (below_size (by repeat (first | (with_reducible first | exact HB.out | apply below_alloc | apply pw_below_drewN | apply below_drew1) | exact HB.out))) : w.heap.size ≤ gb359)); have n3_ := Aside0.mk ((by rw [hg]; exact (below_size (by repeat (first | (with_reducible first | exact HB.out | apply below_alloc | apply pw_below_drewN | apply below_drew1) | exact HB.out))) : w.heap.size ≤ gb359)); clear HB; have HB := n0_; have BK359 := n1_; have GW359 := n2_; have GE359 := n3_; clear n0_ n1_ n2_ n3_; clear hb hbox hg) | ((with_reducible refine gate_dst (N := 3) rfl ?_); refine box_event ?hg (N := 3) ?hd (cs := #[.string a1_0, .int .i64 a1_1, .string a1_2, .bool a1_3, .int .i64 a1_4, .slice A1_5 l1_5.length c1_5, .slice A1_6 l1_6.length c1_6]) (t := 48) ?hr ?_; (case hd => rfl); (case hg => rfl); (case hr => first | (go_simp; done) | (go_simp; rfl)); intro gb360 hg w22 hbox hb; have n0_ := bb_ BK359 hb; have n1_ := hb_ HB hb; have n2_ := Aside0.mk (hbox); have n3_ := Aside0.mk ((by rw [hg]; exact (below_size (by repeat (first | (with_reducible first | exact HB.out | apply below_alloc | apply pw_below_drewN | apply below_drew1 | refine below_set ?_ GE359.out) | exact HB.out))) : w.heap.size ≤ gb360)); have n4_ := Aside0.mk ((by rw [hg]; exact (below_size (by repeat (first | (with_reducible first | exact HB.out | apply below_alloc | apply pw_below_drewN | apply below_drew1 | refine below_set ?_ GE359.out) | exact HB.out))) : w.heap.size ≤ gb360)); have n5_ := Aside0.mk ((by rw [hg]; exact Nat.ne_of_lt (blk_lt (g := gb359) (o := .cells #[.string a0_0, .int .i64 a0_1, .string a0_2, .bool a0_3, .int .i64 a0_4, .slice A0_5 l0_5.length c0_5, .slice A0_6 l0_6.length c0_6] 48 (0, 0)) (by (with_reducible repeat (first | refine blk_drewN ?_ _ | refine blk_drew ?_ | refine blk_alloc ?_ _)); exact BK359.out)) : gb359 ≠ gb360)); have n6_ := Aside0.mk ((by rw [hg]; exact Nat.ne_of_gt (blk_lt (g := gb359) (o := .cells #[.string a0_0, .int .i64 a0_1, .string a0_2, .bool a0_3, .int .i64 a0_4, .slice A0_5 l0_5.length c0_5, .slice A0_6 l0_6.length c0_6] 48 (0, 0)) (by (with_reducible repeat (first | refine blk_drewN ?_ _ | refine blk_drew ?_ | refine blk_alloc ?_ _)); exact BK359.out)) : gb360 ≠ gb359)); clear BK359; clear HB; have BK359 := n0_; have HB := n1_; have BK360 := n2_; have GW360 := n3_; have GE360 := n4_; have NB359_360 := n5_; have NB360_359 := n6_; clear n0_ n1_ n2_ n3_ n4_ n5_ n6_; clear hb hbox hg; have hnb23 := NB359_360.out; have hnc23 := NB360_359.out; obtain ⟨hcz24_0, hcz24_1, hcz24_2, hcz24_3, hcz24_4, hcz24_5, hcz24_6, hfz24_0, hfz24_1, hfz24_2, hfz24_3, hfz24_4, hfz24_5, hfz24_6⟩ := bs7_ BK359; obtain ⟨hcz25_0, hcz25_1, hcz25_2, hcz25_3, hcz25_4, hcz25_5, hcz25_6, hfz25_0, hfz25_1, hfz25_2, hfz25_3, hfz25_4, hfz25_5, hfz25_6⟩ := bs7_ BK360))
      go_ret
      exact ⟨er_, hf_⟩
    ·rw [if_neg c6] at H
     have c6b0 : (a0_3 == a1_3) = false := by simpa using c6
     (try (have c6b1 : decide (a0_3 = a1_3) = false := by simpa using c6))
     (try (have c6b2 : (a0_3 == a1_3) = false := by simpa using c6))
     (try (have c6b3 : ¬ (a0_3 = a1_3) := by simpa using c6))
     clear c6
     obtain rfl := Option.some.inj H
     go_enter Try.func61, Try.ntmps61
     go_wp2_with (first | ((with_reducible refine gate_dst (N := 2) rfl ?_); refine box_event ?hg (N := 2) ?hd (cs := #[.string a0_0, .int .i64 a0_1, .string a0_2, .bool a0_3, .int .i64 a0_4, .slice A0_5 l0_5.length c0_5, .slice A0_6 l0_6.length c0_6]) (t := 48) ?hr ?_; (case hd => rfl); (case hg => rfl); (case hr => first | (go_simp; done) | (go_simp; rfl)); intro gb359 hg w26 hbox hb; have n0_ := hb_ HB hb; have n1_ := Aside0.mk (hbox); have n2_ := Aside0.mk ((by rw [hg]; exact (below_size (by repeat (first | (with_reducible first | exact HB.out | apply below_alloc | apply pw_below_drewN | apply below_drew1) | exact HB.out))) : w.heap.size ≤ gb359)); have n3_ := Aside0.mk ((by rw [hg]; exact (below_size (by repeat (first | (with_reducible first | exact HB.out | apply below_alloc | apply pw_below_drewN | apply below_drew1) | exact HB.out))) : w.heap.size ≤ gb359)); clear HB; have HB := n0_; have BK359 := n1_; have GW359 := n2_; have GE359 := n3_; clear n0_ n1_ n2_ n3_; clear hb hbox hg) | ((with_reducible refine gate_dst (N := 3) rfl ?_); refine box_event ?hg (N := 3) ?hd (cs := #[.string a1_0, .int .i64 a1_1, .string a1_2, .bool a1_3, .int .i64 a1_4, .slice A1_5 l1_5.length c1_5, .slice A1_6 l1_6.length c1_6]) (t := 48) ?hr ?_; (case hd => rfl); (case hg => rfl); (case hr => first | (go_simp; done) | (go_simp; rfl)); intro gb360 hg w27 hbox hb; have n0_ := bb_ BK359 hb; have n1_ := hb_ HB hb; have n2_ := Aside0.mk (hbox); have n3_ := Aside0.mk ((by rw [hg]; exact (below_size (by repeat (first | (with_reducible first | exact HB.out | apply below_alloc | apply pw_below_drewN | apply below_drew1 | refine below_set ?_ GE359.out) | exact HB.out))) : w.heap.size ≤ gb360)); have n4_ := Aside0.mk ((by rw [hg]; exact (below_size (by repeat (first | (with_reducible first | exact HB.out | apply below_alloc | apply pw_below_drewN | apply below_drew1 | refine below_set ?_ GE359.out) | exact HB.out))) : w.heap.size ≤ gb360)); have n5_ := Aside0.mk ((by rw [hg]; exact Nat.ne_of_lt (blk_lt (g := gb359) (o := .cells #[.string a0_0, .int .i64 a0_1, .string a0_2, .bool a0_3, .int .i64 a0_4, .slice A0_5 l0_5.length c0_5, .slice A0_6 l0_6.length c0_6] 48 (0, 0)) (by (with_reducible repeat (first | refine blk_drewN ?_ _ | refine blk_drew ?_ | refine blk_alloc ?_ _)); exact BK359.out)) : gb359 ≠ gb360)); have n6_ := Aside0.mk ((by rw [hg]; exact Nat.ne_of_gt (blk_lt (g := gb359) (o := .cells #[.string a0_0, .int .i64 a0_1, .string a0_2, .bool a0_3, .int .i64 a0_4, .slice A0_5 l0_5.length c0_5, .slice A0_6 l0_6.length c0_6] 48 (0, 0)) (by (with_reducible repeat (first | refine blk_drewN ?_ _ | refine blk_drew ?_ | refine blk_alloc ?_ _)); exact BK359.out)) : gb360 ≠ gb359)); clear BK359; clear HB; have BK359 := n0_; have HB := n1_; have BK360 := n2_; have GW360 := n3_; have GE360 := n4_; have NB359_360 := n5_; have NB360_359 := n6_; clear n0_ n1_ n2_ n3_ n4_ n5_ n6_; clear hb hbox hg; have hnb28 := NB359_360.out; have hnc28 := NB360_359.out; obtain ⟨hcz29_0, hcz29_1, hcz29_2, hcz29_3, hcz29_4, hcz29_5, hcz29_6, hfz29_0, hfz29_1, hfz29_2, hfz29_3, hfz29_4, hfz29_5, hfz29_6⟩ := bs7_ BK359; obtain ⟨hcz30_0, hcz30_1, hcz30_2, hcz30_3, hcz30_4, hcz30_5, hcz30_6, hfz30_0, hfz30_1, hfz30_2, hfz30_3, hfz30_4, hfz30_5, hfz30_6⟩ := bs7_ BK360))
     go_ret
     exact ⟨er_, hf_⟩
   ·rw [if_neg c5] at H
    have c5b0 : (a0_2.toList == a1_2.toList) = false := beq_eq_false_iff_ne.mpr c5
    have c5b1 : (a0_2.toList != a1_2.toList) = true := bne_iff_ne.mpr c5
    obtain rfl := Option.some.inj H
    go_enter Try.func61, Try.ntmps61
    go_wp2_with (first | ((with_reducible refine gate_dst (N := 2) rfl ?_); refine box_event ?hg (N := 2) ?hd (cs := #[.string a0_0, .int .i64 a0_1, .string a0_2, .bool a0_3, .int .i64 a0_4, .slice A0_5 l0_5.length c0_5, .slice A0_6 l0_6.length c0_6]) (t := 48) ?hr ?_; (case hd => rfl); (case hg => rfl); (case hr => first | (go_simp; done) | (go_simp; rfl)); intro gb359 hg w31 hbox hb; have n0_ := hb_ HB hb; have n1_ := Aside0.mk (hbox); have n2_ := Aside0.mk ((by rw [hg]; exact (below_size (by repeat (first | (with_reducible first | exact HB.out | apply below_alloc | apply pw_below_drewN | apply below_drew1) | exact HB.out))) : w.heap.size ≤ gb359)); have n3_ := Aside0.mk ((by rw [hg]; exact (below_size (by repeat (first | (with_reducible first | exact HB.out | apply below_alloc | apply pw_below_drewN | apply below_drew1) | exact HB.out))) : w.heap.size ≤ gb359)); clear HB; have HB := n0_; have BK359 := n1_; have GW359 := n2_; have GE359 := n3_; clear n0_ n1_ n2_ n3_; clear hb hbox hg) | ((with_reducible refine gate_dst (N := 3) rfl ?_); refine box_event ?hg (N := 3) ?hd (cs := #[.string a1_0, .int .i64 a1_1, .string a1_2, .bool a1_3, .int .i64 a1_4, .slice A1_5 l1_5.length c1_5, .slice A1_6 l1_6.length c1_6]) (t := 48) ?hr ?_; (case hd => rfl); (case hg => rfl); (case hr => first | (go_simp; done) | (go_simp; rfl)); intro gb360 hg w32 hbox hb; have n0_ := bb_ BK359 hb; have n1_ := hb_ HB hb; have n2_ := Aside0.mk (hbox); have n3_ := Aside0.mk ((by rw [hg]; exact (below_size (by repeat (first | (with_reducible first | exact HB.out | apply below_alloc | apply pw_below_drewN | apply below_drew1 | refine below_set ?_ GE359.out) | exact HB.out))) : w.heap.size ≤ gb360)); have n4_ := Aside0.mk ((by rw [hg]; exact (below_size (by repeat (first | (with_reducible first | exact HB.out | apply below_alloc | apply pw_below_drewN | apply below_drew1 | refine below_set ?_ GE359.out) | exact HB.out))) : w.heap.size ≤ gb360)); have n5_ := Aside0.mk ((by rw [hg]; exact Nat.ne_of_lt (blk_lt (g := gb359) (o := .cells #[.string a0_0, .int .i64 a0_1, .string a0_2, .bool a0_3, .int .i64 a0_4, .slice A0_5 l0_5.length c0_5, .slice A0_6 l0_6.length c0_6] 48 (0, 0)) (by (with_reducible repeat (first | refine blk_drewN ?_ _ | refine blk_drew ?_ | refine blk_alloc ?_ _)); exact BK359.out)) : gb359 ≠ gb360)); have n6_ := Aside0.mk ((by rw [hg]; exact Nat.ne_of_gt (blk_lt (g := gb359) (o := .cells #[.string a0_0, .int .i64 a0_1, .string a0_2, .bool a0_3, .int .i64 a0_4, .slice A0_5 l0_5.length c0_5, .slice A0_6 l0_6.length c0_6] 48 (0, 0)) (by (with_reducible repeat (first | refine blk_drewN ?_ _ | refine blk_drew ?_ | refine blk_alloc ?_ _)); exact BK359.out)) : gb360 ≠ gb359)); clear BK359; clear HB; have BK359 := n0_; have HB := n1_; have BK360 := n2_; have GW360 := n3_; have GE360 := n4_; have NB359_360 := n5_; have NB360_359 := n6_; clear n0_ n1_ n2_ n3_ n4_ n5_ n6_; clear hb hbox hg; have hnb33 := NB359_360.out; have hnc33 := NB360_359.out; obtain ⟨hcz34_0, hcz34_1, hcz34_2, hcz34_3, hcz34_4, hcz34_5, hcz34_6, hfz34_0, hfz34_1, hfz34_2, hfz34_3, hfz34_4, hfz34_5, hfz34_6⟩ := bs7_ BK359; obtain ⟨hcz35_0, hcz35_1, hcz35_2, hcz35_3, hcz35_4, hcz35_5, hcz35_6, hfz35_0, hfz35_1, hfz35_2, hfz35_3, hfz35_4, hfz35_5, hfz35_6⟩ := bs7_ BK360))
    go_ret
    exact ⟨er_, hf_⟩
  ·rw [if_neg c4] at H
   have c4b0 : (a0_1 == a1_1) = false := beq_eq_false_iff_ne.mpr c4
   have c4b1 : (a0_1 != a1_1) = true := bne_iff_ne.mpr c4
   obtain rfl := Option.some.inj H
   go_enter Try.func61, Try.ntmps61
   go_wp2_with (first | ((with_reducible refine gate_dst (N := 2) rfl ?_); refine box_event ?hg (N := 2) ?hd (cs := #[.string a0_0, .int .i64 a0_1, .string a0_2, .bool a0_3, .int .i64 a0_4, .slice A0_5 l0_5.length c0_5, .slice A0_6 l0_6.length c0_6]) (t := 48) ?hr ?_; (case hd => rfl); (case hg => rfl); (case hr => first | (go_simp; done) | (go_simp; rfl)); intro gb359 hg w36 hbox hb; have n0_ := hb_ HB hb; have n1_ := Aside0.mk (hbox); have n2_ := Aside0.mk ((by rw [hg]; exact (below_size (by repeat (first | (with_reducible first | exact HB.out | apply below_alloc | apply pw_below_drewN | apply below_drew1) | exact HB.out))) : w.heap.size ≤ gb359)); have n3_ := Aside0.mk ((by rw [hg]; exact (below_size (by repeat (first | (with_reducible first | exact HB.out | apply below_alloc | apply pw_below_drewN | apply below_drew1) | exact HB.out))) : w.heap.size ≤ gb359)); clear HB; have HB := n0_; have BK359 := n1_; have GW359 := n2_; have GE359 := n3_; clear n0_ n1_ n2_ n3_; clear hb hbox hg) | ((with_reducible refine gate_dst (N := 3) rfl ?_); refine box_event ?hg (N := 3) ?hd (cs := #[.string a1_0, .int .i64 a1_1, .string a1_2, .bool a1_3, .int .i64 a1_4, .slice A1_5 l1_5.length c1_5, .slice A1_6 l1_6.length c1_6]) (t := 48) ?hr ?_; (case hd => rfl); (case hg => rfl); (case hr => first | (go_simp; done) | (go_simp; rfl)); intro gb360 hg w37 hbox hb; have n0_ := bb_ BK359 hb; have n1_ := hb_ HB hb; have n2_ := Aside0.mk (hbox); have n3_ := Aside0.mk ((by rw [hg]; exact (below_size (by repeat (first | (with_reducible first | exact HB.out | apply below_alloc | apply pw_below_drewN | apply below_drew1 | refine below_set ?_ GE359.out) | exact HB.out))) : w.heap.size ≤ gb360)); have n4_ := Aside0.mk ((by rw [hg]; exact (below_size (by repeat (first | (with_reducible first | exact HB.out | apply below_alloc | apply pw_below_drewN | apply below_drew1 | refine below_set ?_ GE359.out) | exact HB.out))) : w.heap.size ≤ gb360)); have n5_ := Aside0.mk ((by rw [hg]; exact Nat.ne_of_lt (blk_lt (g := gb359) (o := .cells #[.string a0_0, .int .i64 a0_1, .string a0_2, .bool a0_3, .int .i64 a0_4, .slice A0_5 l0_5.length c0_5, .slice A0_6 l0_6.length c0_6] 48 (0, 0)) (by (with_reducible repeat (first | refine blk_drewN ?_ _ | refine blk_drew ?_ | refine blk_alloc ?_ _)); exact BK359.out)) : gb359 ≠ gb360)); have n6_ := Aside0.mk ((by rw [hg]; exact Nat.ne_of_gt (blk_lt (g := gb359) (o := .cells #[.string a0_0, .int .i64 a0_1, .string a0_2, .bool a0_3, .int .i64 a0_4, .slice A0_5 l0_5.length c0_5, .slice A0_6 l0_6.length c0_6] 48 (0, 0)) (by (with_reducible repeat (first | refine blk_drewN ?_ _ | refine blk_drew ?_ | refine blk_alloc ?_ _)); exact BK359.out)) : gb360 ≠ gb359)); clear BK359; clear HB; have BK359 := n0_; have HB := n1_; have BK360 := n2_; have GW360 := n3_; have GE360 := n4_; have NB359_360 := n5_; have NB360_359 := n6_; clear n0_ n1_ n2_ n3_ n4_ n5_ n6_; clear hb hbox hg; have hnb38 := NB359_360.out; have hnc38 := NB360_359.out; obtain ⟨hcz39_0, hcz39_1, hcz39_2, hcz39_3, hcz39_4, hcz39_5, hcz39_6, hfz39_0, hfz39_1, hfz39_2, hfz39_3, hfz39_4, hfz39_5, hfz39_6⟩ := bs7_ BK359; obtain ⟨hcz40_0, hcz40_1, hcz40_2, hcz40_3, hcz40_4, hcz40_5, hcz40_6, hfz40_0, hfz40_1, hfz40_2, hfz40_3, hfz40_4, hfz40_5, hfz40_6⟩ := bs7_ BK360))
   go_ret
   exact ⟨er_, hf_⟩
 ·rw [if_neg c3] at H
  have c3b0 : (a0_0.toList == a1_0.toList) = false := beq_eq_false_iff_ne.mpr c3
  have c3b1 : (a0_0.toList != a1_0.toList) = true := bne_iff_ne.mpr c3
  obtain rfl := Option.some.inj H
  go_enter Try.func61, Try.ntmps61
  go_wp2_with (first | ((with_reducible refine gate_dst (N := 2) rfl ?_); refine box_event ?hg (N := 2) ?hd (cs := #[.string a0_0, .int .i64 a0_1, .string a0_2, .bool a0_3, .int .i64 a0_4, .slice A0_5 l0_5.length c0_5, .slice A0_6 l0_6.length c0_6]) (t := 48) ?hr ?_; (case hd => rfl); (case hg => rfl); (case hr => first | (go_simp; done) | (go_simp; rfl)); intro gb359 hg w41 hbox hb; have n0_ := hb_ HB hb; have n1_ := Aside0.mk (hbox); have n2_ := Aside0.mk ((by rw [hg]; exact (below_size (by repeat (first | (with_reducible first | exact HB.out | apply below_alloc | apply pw_below_drewN | apply below_drew1) | exact HB.out))) : w.heap.size ≤ gb359)); have n3_ := Aside0.mk ((by rw [hg]; exact (below_size (by repeat (first | (with_reducible first | exact HB.out | apply below_alloc | apply pw_below_drewN | apply below_drew1) | exact HB.out))) : w.heap.size ≤ gb359)); clear HB; have HB := n0_; have BK359 := n1_; have GW359 := n2_; have GE359 := n3_; clear n0_ n1_ n2_ n3_; clear hb hbox hg) | ((with_reducible refine gate_dst (N := 3) rfl ?_); refine box_event ?hg (N := 3) ?hd (cs := #[.string a1_0, .int .i64 a1_1, .string a1_2, .bool a1_3, .int .i64 a1_4, .slice A1_5 l1_5.length c1_5, .slice A1_6 l1_6.length c1_6]) (t := 48) ?hr ?_; (case hd => rfl); (case hg => rfl); (case hr => first | (go_simp; done) | (go_simp; rfl)); intro gb360 hg w42 hbox hb; have n0_ := bb_ BK359 hb; have n1_ := hb_ HB hb; have n2_ := Aside0.mk (hbox); have n3_ := Aside0.mk ((by rw [hg]; exact (below_size (by repeat (first | (with_reducible first | exact HB.out | apply below_alloc | apply pw_below_drewN | apply below_drew1 | refine below_set ?_ GE359.out) | exact HB.out))) : w.heap.size ≤ gb360)); have n4_ := Aside0.mk ((by rw [hg]; exact (below_size (by repeat (first | (with_reducible first | exact HB.out | apply below_alloc | apply pw_below_drewN | apply below_drew1 | refine below_set ?_ GE359.out) | exact HB.out))) : w.heap.size ≤ gb360)); have n5_ := Aside0.mk ((by rw [hg]; exact Nat.ne_of_lt (blk_lt (g := gb359) (o := .cells #[.string a0_0, .int .i64 a0_1, .string a0_2, .bool a0_3, .int .i64 a0_4, .slice A0_5 l0_5.length c0_5, .slice A0_6 l0_6.length c0_6] 48 (0, 0)) (by (with_reducible repeat (first | refine blk_drewN ?_ _ | refine blk_drew ?_ | refine blk_alloc ?_ _)); exact BK359.out)) : gb359 ≠ gb360)); have n6_ := Aside0.mk ((by rw [hg]; exact Nat.ne_of_gt (blk_lt (g := gb359) (o := .cells #[.string a0_0, .int .i64 a0_1, .string a0_2, .bool a0_3, .int .i64 a0_4, .slice A0_5 l0_5.length c0_5, .slice A0_6 l0_6.length c0_6] 48 (0, 0)) (by (with_reducible repeat (first | refine blk_drewN ?_ _ | refine blk_drew ?_ | refine blk_alloc ?_ _)); exact BK359.out)) : gb360 ≠ gb359)); clear BK359; clear HB; have BK359 := n0_; have HB := n1_; have BK360 := n2_; have GW360 := n3_; have GE360 := n4_; have NB359_360 := n5_; have NB360_359 := n6_; clear n0_ n1_ n2_ n3_ n4_ n5_ n6_; clear hb hbox hg; have hnb43 := NB359_360.out; have hnc43 := NB360_359.out; obtain ⟨hcz44_0, hcz44_1, hcz44_2, hcz44_3, hcz44_4, hcz44_5, hcz44_6, hfz44_0, hfz44_1, hfz44_2, hfz44_3, hfz44_4, hfz44_5, hfz44_6⟩ := bs7_ BK359; obtain ⟨hcz45_0, hcz45_1, hcz45_2, hcz45_3, hcz45_4, hcz45_5, hcz45_6, hfz45_0, hfz45_1, hfz45_2, hfz45_3, hfz45_4, hfz45_5, hfz45_6⟩ := bs7_ BK360))
  go_ret
  exact ⟨er_, hf_⟩
end Go.Proofs.Ytaiglhfmmdajdaa.Pm
end
section
namespace Go.Proofs.Ytaiglhfmmdajdaa.Pm
open Go.RowKit Go.Proofs.YtaiglhfmmdajdaaW.PrintWords Go.Proofs.YtaiglhfmmdajdaaW.PrintLast Go.Proofs.YtaiglhfmmdajdaaW.PrintMore
attribute [local go_sem] max2_int min2_int max_two min_two max_three min_three max_four min_four   -- for this text's walks alone
set_option linter.unusedVariables false
set_option linter.unusedSimpArgs false
def sentryref4_SameItems.l0 : Nat → List (S48) → List (S48) → Int → Option (Bool)
 | 0, _, _, _ => none
 | k + 1, x0, x1, x5 => if x5 < (x0.length : Int) then (if 0 ≤ x5 then (if x5 < (x1.length : Int) then ((sentryref4_SameItem.f k ((rd_T48 x0 x5).f0) ((rd_T48 x0 x5).f1) ((rd_T48 x0 x5).f2) ((rd_T48 x0 x5).f3) ((rd_T48 x0 x5).f4) ((rd_T48 x0 x5).f5) ((rd_T48 x0 x5).f6) ((rd_T48 x1 x5).f0) ((rd_T48 x1 x5).f1) ((rd_T48 x1 x5).f2) ((rd_T48 x1 x5).f3) ((rd_T48 x1 x5).f4) ((rd_T48 x1 x5).f5) ((rd_T48 x1 x5).f6)).bind fun t365 => (if t365 = true then (sentryref4_SameItems.l0 k x0 x1 (wrap64 (x5 + 1))) else (some false))) else (none)) else (none)) else (some true)
def sentryref4_SameItems.f (k : Nat) (l0 : List (S48)) (l1 : List (S48)) : Option (Bool) := if (l0.length : Int) = (l1.length : Int) then (sentryref4_SameItems.l0 k l0 l1 0) else (some false)
theorem sentryref4_SameItems.mono_l : ∀ k, (∀ y0 y1 y2, LeO (sentryref4_SameItems.l0 k y0 y1 y2) (sentryref4_SameItems.l0 (k + 1) y0 y1 y2))
 | 0 => fun _ _ _ r h => by simp [sentryref4_SameItems.l0] at h
 | k + 1 => by
  have ih0 := sentryref4_SameItems.mono_l k
  ·intro y0 y1 y2
   unfold sentryref4_SameItems.l0
   repeat' first
   | (with_reducible exact ih0 _ _ _)
   | (with_reducible exact sentryref4_SameItem.mono _ _ _ _ _ _ _ _ _ _ _ _ _ _ _)
   | (with_reducible exact LeO.refl _)
   | (with_reducible exact LeO.none _)
   | (with_reducible refine LeO.ite ?_ ?_)
   | (with_reducible refine LeO.bind ?_ (fun _ => ?_))
   | exact ih0 _ _ _
   | exact sentryref4_SameItem.mono _ _ _ _ _ _ _ _ _ _ _ _ _ _ _
   | exact LeO.none _
   | refine LeO.ite ?_ ?_
   | refine LeO.bind ?_ (fun _ => ?_)
theorem sentryref4_SameItems.mono : ∀ a0 a1 k, LeO (sentryref4_SameItems.f k a0 a1) (sentryref4_SameItems.f (k + 1) a0 a1) := by
 intro a0 a1 k
 have ih0 := sentryref4_SameItems.mono_l k
 unfold sentryref4_SameItems.f
 repeat' first
   | (with_reducible exact ih0 _ _ _)
   | (with_reducible exact sentryref4_SameItem.mono _ _ _ _ _ _ _ _ _ _ _ _ _ _ _)
   | (with_reducible exact LeO.refl _)
   | (with_reducible exact LeO.none _)
   | (with_reducible refine LeO.ite ?_ ?_)
   | (with_reducible refine LeO.bind ?_ (fun _ => ?_))
   | exact ih0 _ _ _
   | exact sentryref4_SameItem.mono _ _ _ _ _ _ _ _ _ _ _ _ _ _ _
   | exact LeO.none _
   | refine LeO.ite ?_ ?_
   | refine LeO.bind ?_ (fun _ => ?_)
def sentryref4_SameItems.T6 : Bool × List (List Nat × List Nat) := (true, [([], []), ([], []), ([0, 1], [0, 1]), ([2], [2]), ([], []), ([], []), ([4, 5], [4, 5]), ([6], [6]), ([3, 7], [3, 7]), ([8], [8])])
def sentryref4_SameItems.B6 : List Nat := [0, 0, 3, 7, 0, 0, 48, 112, 255, 511]
theorem sentryref4_SameItems.tab6 : rtab .any (opsOf Try.f33 6) = sentryref4_SameItems.T6 := by kernel_rfl
theorem sentryref4_SameItems.bits6 : waitsOk sentryref4_SameItems.T6.2 sentryref4_SameItems.B6 = true := by kernel_rfl
set_option maxHeartbeats 8000000 in
set_option maxRecDepth 100000 in
theorem sentryref4_SameItems.calls (k : Nat) (A0 : Option Addr) (c0 : Nat) (l0 : List (S48)) (A1 : Option Addr) (c1 : Nat) (l1 : List (S48)) (r : Bool) (w : World) (hr0 : Kd.C k48 w A0 l0.length l0) (hc0 : l0.length ≤ c0) (hr1 : Kd.C k48 w A1 l1.length l1) (hc1 : l1.length ≤ c1) (h : sentryref4_SameItems.f k l0 l1 = some r) :
  Calls Try.prog 33 #[.slice A0 l0.length c0, .slice A1 l1.length c1] w fun e w' => e = .returned (.bool r) ∧ Below w.heap.size w w' := by
 have hu48 := Try.underlying48
 have HR0 := Aside0.mk hr0
 have HC0 := Aside0.mk hc0
 clear hr0 hc0
 have HR1 := Aside0.mk hr1
 have HC1 := Aside0.mk hc1
 clear hr1 hc1
 have HB := Aside0.mk (Below.refl w.heap.size w)
 have H : (if (l0.length : Int) = (l1.length : Int) then (sentryref4_SameItems.l0 k l0 l1 0) else (some false)) = some r := h
 clear h
 by_cases c3 : (l0.length : Int) = (l1.length : Int)
 ·rw [if_pos c3] at H
  have c3b0 : ((l0.length : Int) == (l1.length : Int)) = true := beq_iff_eq.mpr c3
  have c3b1 : ((l0.length : Int) != (l1.length : Int)) = false := bne_eq_false_iff_eq.mpr c3
  have c3b2 : (l0.length == l1.length) = true := by first | simpa using c3 | (simp at c3 ⊢; omega)
  clear c3
  have H' := Aside0.mk H
  clear H
  go_enter Try.func33, Try.ntmps33
  go_wp2
  go_loopg [5] k (fun kq v5 w' => ∃ (x5_1 : Int), v5 = .int .i64 x5_1 ∧ Aside0 (sentryref4_SameItems.l0 kq l0 l1 x5_1 = some r) ∧ Aside0 (kq ≤ k) ∧ Aside0 (Below w.heap.size w w'))
  case atStart => exact ⟨(0), (by first | rfl | (simp; done) | (simp [*]; done)), H', ⟨Nat.le_refl _⟩, ⟨hf_⟩⟩
  case round =>
   clear H'
   (try clear c1); (try clear p2); (try clear c3); (try clear c3b0); (try clear c3b1); (try clear c3b2)
   obtain ⟨x5_1, rfl, HA, HK1, HB⟩ := hrel
   cases gk with
   | zero => exact absurd HA.out (by simp [sentryref4_SameItems.l0])
   | succ k1 =>
    have H := HA.out
    clear HA
    simp only [sentryref4_SameItems.l0] at H
    by_cases c4 : x5_1 < (l0.length : Int)
    ·rw [if_pos c4] at H
     have c4b0 : decide (x5_1 < (l0.length : Int)) = true := decide_eq_true c4
     clear c4
     by_cases c5 : 0 ≤ x5_1
     ·rw [if_pos c5] at H
      have c5b0 : decide (0 ≤ x5_1) = true := decide_eq_true c5
      clear c5
      by_cases c6 : x5_1 < (l1.length : Int)
      ·rw [if_pos c6] at H
       have c6b0 : decide (x5_1 < (l1.length : Int)) = true := decide_eq_true c6
       clear c6
       replace H := Option.bind_eq_some_iff.mp H
       obtain ⟨t365, A70, H⟩ := H
       replace H : (if t365 = true then (sentryref4_SameItems.l0 k1 l0 l1 (wrap64 (x5_1 + 1))) else (some false)) = some r := H
       have A7 := Aside0.mk A70
       clear A70
       by_cases c8 : t365 = true
       ·subst c8
        have H1 : (sentryref4_SameItems.l0 k1 l0 l1 (wrap64 (x5_1 + 1))) = some r := by rw [if_pos rfl] at H; exact H
        clear H
        have H := H1
        clear H1
        have H' := Aside0.mk H
        clear H
        try go_wp2
        replace HB := Aside0.mk (below_drew1 HB.out)
        have p363 : 0 ≤ (x5_1 : Int) := od_
        have q363 : x5_1 < (l0.length : Int) := od_
        obtain ⟨ad363, A363_5, c363_5, A363_6, c363_6, e363, hx363_0, hx363_1, hx363_2, hx363_3, hx363_4, hx363_5, hx363_6, hl363_5, hi363_5, hl363_6, hi363_6⟩ := at_T48 HR0.out x5_1 p363 q363
        have hw363_6 := hx363_6
        have hw363_5 := hx363_5
        have hw363_4 := hx363_4
        have hw363_3 := hx363_3
        have hw363_2 := hx363_2
        have hw363_1 := hx363_1
        have hw363_0 := hx363_0
        cases e363
        replace hx363_0 := rr_ HB hx363_0
        replace hx363_1 := rr_ HB hx363_1
        replace hx363_2 := rr_ HB hx363_2
        replace hx363_3 := rr_ HB hx363_3
        replace hx363_4 := rr_ HB hx363_4
        replace hx363_5 := rr_ HB hx363_5
        replace hx363_6 := rr_ HB hx363_6
        have HR363_5 := Aside0.mk hi363_5
        have HC363_5 := Aside0.mk hl363_5
        clear hi363_5 hl363_5
        have HR363_6 := Aside0.mk hi363_6
        have HC363_6 := Aside0.mk hl363_6
        clear hi363_6 hl363_6
        replace p363 := eq_true p363
        replace q363 := eq_true q363
        have p364 : 0 ≤ (x5_1 : Int) := od_
        have q364 : x5_1 < (l1.length : Int) := od_
        obtain ⟨ad364, A364_5, c364_5, A364_6, c364_6, e364, hx364_0, hx364_1, hx364_2, hx364_3, hx364_4, hx364_5, hx364_6, hl364_5, hi364_5, hl364_6, hi364_6⟩ := at_T48 HR1.out x5_1 p364 q364
        have hw364_6 := hx364_6
        have hw364_5 := hx364_5
        have hw364_4 := hx364_4
        have hw364_3 := hx364_3
        have hw364_2 := hx364_2
        have hw364_1 := hx364_1
        have hw364_0 := hx364_0
        cases e364
        replace hx364_0 := rr_ HB hx364_0
        replace hx364_1 := rr_ HB hx364_1
        replace hx364_2 := rr_ HB hx364_2
        replace hx364_3 := rr_ HB hx364_3
        replace hx364_4 := rr_ HB hx364_4
        replace hx364_5 := rr_ HB hx364_5
        replace hx364_6 := rr_ HB hx364_6
        have HR364_5 := Aside0.mk hi364_5
        have HC364_5 := Aside0.mk hl364_5
        clear hi364_5 hl364_5
        have HR364_6 := Aside0.mk hi364_6
        have HC364_6 := Aside0.mk hl364_6
        clear hi364_6 hl364_6
        replace p364 := eq_true p364
        replace q364 := eq_true q364
        refine start_ (n := 10) (S := fun w' => w'.cell? (ad363.add ((x5_1).toNat * 7)) = some (.string ((rd_T48 l0 x5_1).f0)) ∧ w'.cell? ⟨(ad363.add ((x5_1).toNat * 7)).block, (ad363.add ((x5_1).toNat * 7)).off + 1, none⟩ = some (.int .i64 ((rd_T48 l0 x5_1).f1)) ∧ w'.cell? ⟨(ad363.add ((x5_1).toNat * 7)).block, (ad363.add ((x5_1).toNat * 7)).off + 2, none⟩ = some (.string ((rd_T48 l0 x5_1).f2)) ∧ w'.cell? ⟨(ad363.add ((x5_1).toNat * 7)).block, (ad363.add ((x5_1).toNat * 7)).off + 3, none⟩ = some (.bool ((rd_T48 l0 x5_1).f3)) ∧ w'.cell? ⟨(ad363.add ((x5_1).toNat * 7)).block, (ad363.add ((x5_1).toNat * 7)).off + 4, none⟩ = some (.int .i64 ((rd_T48 l0 x5_1).f4)) ∧ w'.cell? ⟨(ad363.add ((x5_1).toNat * 7)).block, (ad363.add ((x5_1).toNat * 7)).off + 5, none⟩ = some (.slice A363_5 ((rd_T48 l0 x5_1).f5).length c363_5) ∧ w'.cell? ⟨(ad363.add ((x5_1).toNat * 7)).block, (ad363.add ((x5_1).toNat * 7)).off + 6, none⟩ = some (.slice A363_6 ((rd_T48 l0 x5_1).f6).length c363_6) ∧ w'.cell? (ad364.add ((x5_1).toNat * 7)) = some (.string ((rd_T48 l1 x5_1).f0)) ∧ w'.cell? ⟨(ad364.add ((x5_1).toNat * 7)).block, (ad364.add ((x5_1).toNat * 7)).off + 1, none⟩ = some (.int .i64 ((rd_T48 l1 x5_1).f1)) ∧ w'.cell? ⟨(ad364.add ((x5_1).toNat * 7)).block, (ad364.add ((x5_1).toNat * 7)).off + 2, none⟩ = some (.string ((rd_T48 l1 x5_1).f2)) ∧ w'.cell? ⟨(ad364.add ((x5_1).toNat * 7)).block, (ad364.add ((x5_1).toNat * 7)).off + 3, none⟩ = some (.bool ((rd_T48 l1 x5_1).f3)) ∧ w'.cell? ⟨(ad364.add ((x5_1).toNat * 7)).block, (ad364.add ((x5_1).toNat * 7)).off + 4, none⟩ = some (.int .i64 ((rd_T48 l1 x5_1).f4)) ∧ w'.cell? ⟨(ad364.add ((x5_1).toNat * 7)).block, (ad364.add ((x5_1).toNat * 7)).off + 5, none⟩ = some (.slice A364_5 ((rd_T48 l1 x5_1).f5).length c364_5) ∧ w'.cell? ⟨(ad364.add ((x5_1).toNat * 7)).block, (ad364.add ((x5_1).toNat * 7)).off + 6, none⟩ = some (.slice A364_6 ((rd_T48 l1 x5_1).f6).length c364_6)) (ds := []) #[false, false, false, false, false, false, false, false, false, false] (by kernel_rfl) rfl rfl ⟨(rr_ HB hw363_0 :), (rr_ HB hw363_1 :), (rr_ HB hw363_2 :), (rr_ HB hw363_3 :), (rr_ HB hw363_4 :), (rr_ HB hw363_5 :), (rr_ HB hw363_6 :), (rr_ HB hw364_0 :), (rr_ HB hw364_1 :), (rr_ HB hw364_2 :), (rr_ HB hw364_3 :), (rr_ HB hw364_4 :), (rr_ HB hw364_5 :), (rr_ HB hw364_6 :)⟩ (fun hHeld => ?_); refine with_tabW sentryref4_SameItems.tab6 sentryref4_SameItems.bits6 (fun HT_ HW_ => ?_)
        generalize wr.drew = w9 at HB HR363_5 HR363_6 HR364_5 HR364_6 hx363_0 hx363_1 hx363_2 hx363_3 hx363_4 hx363_5 hx363_6 hx364_0 hx364_1 hx364_2 hx364_3 hx364_4 hx364_5 hx364_6 hHeld ⊢
        refine pz_ 0 (some 17) (bits_ 10 1) HT_.out ?_
        refine pz_ 1 (some 18) (bits_ 10 3) HT_.out ?_
        refine pz_ 2 (some 19) (bits_ 10 7) HT_.out ?_
        refine pz_ 4 (some 21) (bits_ 10 23) HT_.out ?_
        refine pz_ 5 (some 22) (bits_ 10 55) HT_.out ?_
        refine pz_ 6 (some 23) (bits_ 10 119) HT_.out ?_
        refine tz_ 3 (some 20) (bits_ 10 127) HT_.out HW_.out hHeld ?_ (hy := by rintro w' ⟨s0, s1, s2, s3, s4, s5, s6, s7, s8, s9, s10, s11, s12, s13⟩; go_simp; with_reducible rfl)
        refine tz_ 7 (some 24) (bits_ 10 255) HT_.out HW_.out hHeld ?_ (hy := by rintro w' ⟨s0, s1, s2, s3, s4, s5, s6, s7, s8, s9, s10, s11, s12, s13⟩; go_simp; with_reducible rfl)
        refine oz_ 8 (some 25) (bits_ 10 511) HT_.out (fun K hK => ?_)
        refine go_s_ Try.func61 #[.agg #[.string ((rd_T48 l0 x5_1).f0), .int .i64 ((rd_T48 l0 x5_1).f1), .string ((rd_T48 l0 x5_1).f2), .bool ((rd_T48 l0 x5_1).f3), .int .i64 ((rd_T48 l0 x5_1).f4), .slice A363_5 ((rd_T48 l0 x5_1).f5).length c363_5, .slice A363_6 ((rd_T48 l0 x5_1).f6).length c363_6], .agg #[.string ((rd_T48 l1 x5_1).f0), .int .i64 ((rd_T48 l1 x5_1).f1), .string ((rd_T48 l1 x5_1).f2), .bool ((rd_T48 l1 x5_1).f3), .int .i64 ((rd_T48 l1 x5_1).f4), .slice A364_5 ((rd_T48 l1 x5_1).f5).length c364_5, .slice A364_6 ((rd_T48 l1 x5_1).f6).length c364_6]] ?_
        with_reducible refine (sentryref4_SameItem.calls k1 ((rd_T48 l0 x5_1).f0) ((rd_T48 l0 x5_1).f1) ((rd_T48 l0 x5_1).f2) ((rd_T48 l0 x5_1).f3) ((rd_T48 l0 x5_1).f4) _ _ ((rd_T48 l0 x5_1).f5) _ _ ((rd_T48 l0 x5_1).f6) ((rd_T48 l1 x5_1).f0) ((rd_T48 l1 x5_1).f1) ((rd_T48 l1 x5_1).f2) ((rd_T48 l1 x5_1).f3) ((rd_T48 l1 x5_1).f4) _ _ ((rd_T48 l1 x5_1).f5) _ _ ((rd_T48 l1 x5_1).f6) true _ ?side1 ?side2 ?side3 ?side4 ?side5 ?side6 ?side7 ?side8 A7.out).mono ?_
        (case side1 => exact kc_ HR363_5 HB)
        (case side2 => exact HC363_5.out)
        (case side3 => exact kc_ HR363_6 HB)
        (case side4 => exact HC363_6.out)
        (case side5 => exact kc_ HR364_5 HB)
        (case side6 => exact HC364_5.out)
        (case side7 => exact kc_ HR364_6 HB)
        (case side8 => exact HC364_6.out)
        rintro e w10 ⟨rfl, hb⟩
        refine ⟨_, rfl, ?_⟩
        replace HB := hb_ HB hb
        (try clear hb); (try clear hb2); (try clear hk); (try clear hi)
        refine hK.out _ _ ⟨(rr_ HB hw363_0 :), (rr_ HB hw363_1 :), (rr_ HB hw363_2 :), (rr_ HB hw363_3 :), (rr_ HB hw363_4 :), (rr_ HB hw363_5 :), (rr_ HB hw363_6 :), (rr_ HB hw364_0 :), (rr_ HB hw364_1 :), (rr_ HB hw364_2 :), (rr_ HB hw364_3 :), (rr_ HB hw364_4 :), (rr_ HB hw364_5 :), (rr_ HB hw364_6 :)⟩ (fun hHeld => ?_)
        clear hK K
        refine nz_ (some 25) ?_
        refine pz_ 9 (some 26) (bits_ 10 1023) HT_.out ?_
        refine done_ (done_of HT_.out (by kernel_rfl)) ?_
        try go_wp2
        go_roundg k1
        case measure => have := HK1.out; omega
        case rel => exact ⟨(wrap64 (x5_1 + 1)), (by first | rfl | (simp; done) | (simp [*]; done)), H', ⟨by have := HK1.out; omega⟩, ⟨hf_⟩⟩
       ·replace c8 := Bool.eq_false_iff.mpr c8
        subst c8
        have H1 : (some false) = some r := by rw [if_neg (show ¬ (false = true) by decide)] at H; exact H
        clear H
        have H := H1
        clear H1
        obtain rfl := Option.some.inj H
        try go_wp2
        replace HB := Aside0.mk (below_drew1 HB.out)
        have p363 : 0 ≤ (x5_1 : Int) := od_
        have q363 : x5_1 < (l0.length : Int) := od_
        obtain ⟨ad363, A363_5, c363_5, A363_6, c363_6, e363, hx363_0, hx363_1, hx363_2, hx363_3, hx363_4, hx363_5, hx363_6, hl363_5, hi363_5, hl363_6, hi363_6⟩ := at_T48 HR0.out x5_1 p363 q363
        have hw363_6 := hx363_6
        have hw363_5 := hx363_5
        have hw363_4 := hx363_4
        have hw363_3 := hx363_3
        have hw363_2 := hx363_2
        have hw363_1 := hx363_1
        have hw363_0 := hx363_0
        cases e363
        replace hx363_0 := rr_ HB hx363_0
        replace hx363_1 := rr_ HB hx363_1
        replace hx363_2 := rr_ HB hx363_2
        replace hx363_3 := rr_ HB hx363_3
        replace hx363_4 := rr_ HB hx363_4
        replace hx363_5 := rr_ HB hx363_5
        replace hx363_6 := rr_ HB hx363_6
        have HR363_5 := Aside0.mk hi363_5
        have HC363_5 := Aside0.mk hl363_5
        clear hi363_5 hl363_5
        have HR363_6 := Aside0.mk hi363_6
        have HC363_6 := Aside0.mk hl363_6
        clear hi363_6 hl363_6
        replace p363 := eq_true p363
        replace q363 := eq_true q363
        have p364 : 0 ≤ (x5_1 : Int) := od_
        have q364 : x5_1 < (l1.length : Int) := od_
        obtain ⟨ad364, A364_5, c364_5, A364_6, c364_6, e364, hx364_0, hx364_1, hx364_2, hx364_3, hx364_4, hx364_5, hx364_6, hl364_5, hi364_5, hl364_6, hi364_6⟩ := at_T48 HR1.out x5_1 p364 q364
        have hw364_6 := hx364_6
        have hw364_5 := hx364_5
        have hw364_4 := hx364_4
        have hw364_3 := hx364_3
        have hw364_2 := hx364_2
        have hw364_1 := hx364_1
        have hw364_0 := hx364_0
        cases e364
        replace hx364_0 := rr_ HB hx364_0
        replace hx364_1 := rr_ HB hx364_1
        replace hx364_2 := rr_ HB hx364_2
        replace hx364_3 := rr_ HB hx364_3
        replace hx364_4 := rr_ HB hx364_4
        replace hx364_5 := rr_ HB hx364_5
        replace hx364_6 := rr_ HB hx364_6
        have HR364_5 := Aside0.mk hi364_5
        have HC364_5 := Aside0.mk hl364_5
        clear hi364_5 hl364_5
        have HR364_6 := Aside0.mk hi364_6
        have HC364_6 := Aside0.mk hl364_6
        clear hi364_6 hl364_6
        replace p364 := eq_true p364
        replace q364 := eq_true q364
        refine start_ (n := 10) (S := fun w' => w'.cell? (ad363.add ((x5_1).toNat * 7)) = some (.string ((rd_T48 l0 x5_1).f0)) ∧ w'.cell? ⟨(ad363.add ((x5_1).toNat * 7)).block, (ad363.add ((x5_1).toNat * 7)).off + 1, none⟩ = some (.int .i64 ((rd_T48 l0 x5_1).f1)) ∧ w'.cell? ⟨(ad363.add ((x5_1).toNat * 7)).block, (ad363.add ((x5_1).toNat * 7)).off + 2, none⟩ = some (.string ((rd_T48 l0 x5_1).f2)) ∧ w'.cell? ⟨(ad363.add ((x5_1).toNat * 7)).block, (ad363.add ((x5_1).toNat * 7)).off + 3, none⟩ = some (.bool ((rd_T48 l0 x5_1).f3)) ∧ w'.cell? ⟨(ad363.add ((x5_1).toNat * 7)).block, (ad363.add ((x5_1).toNat * 7)).off + 4, none⟩ = some (.int .i64 ((rd_T48 l0 x5_1).f4)) ∧ w'.cell? ⟨(ad363.add ((x5_1).toNat * 7)).block, (ad363.add ((x5_1).toNat * 7)).off + 5, none⟩ = some (.slice A363_5 ((rd_T48 l0 x5_1).f5).length c363_5) ∧ w'.cell? ⟨(ad363.add ((x5_1).toNat * 7)).block, (ad363.add ((x5_1).toNat * 7)).off + 6, none⟩ = some (.slice A363_6 ((rd_T48 l0 x5_1).f6).length c363_6) ∧ w'.cell? (ad364.add ((x5_1).toNat * 7)) = some (.string ((rd_T48 l1 x5_1).f0)) ∧ w'.cell? ⟨(ad364.add ((x5_1).toNat * 7)).block, (ad364.add ((x5_1).toNat * 7)).off + 1, none⟩ = some (.int .i64 ((rd_T48 l1 x5_1).f1)) ∧ w'.cell? ⟨(ad364.add ((x5_1).toNat * 7)).block, (ad364.add ((x5_1).toNat * 7)).off + 2, none⟩ = some (.string ((rd_T48 l1 x5_1).f2)) ∧ w'.cell? ⟨(ad364.add ((x5_1).toNat * 7)).block, (ad364.add ((x5_1).toNat * 7)).off + 3, none⟩ = some (.bool ((rd_T48 l1 x5_1).f3)) ∧ w'.cell? ⟨(ad364.add ((x5_1).toNat * 7)).block, (ad364.add ((x5_1).toNat * 7)).off + 4, none⟩ = some (.int .i64 ((rd_T48 l1 x5_1).f4)) ∧ w'.cell? ⟨(ad364.add ((x5_1).toNat * 7)).block, (ad364.add ((x5_1).toNat * 7)).off + 5, none⟩ = some (.slice A364_5 ((rd_T48 l1 x5_1).f5).length c364_5) ∧ w'.cell? ⟨(ad364.add ((x5_1).toNat * 7)).block, (ad364.add ((x5_1).toNat * 7)).off + 6, none⟩ = some (.slice A364_6 ((rd_T48 l1 x5_1).f6).length c364_6)) (ds := []) #[false, false, false, false, false, false, false, false, false, false] (by kernel_rfl) rfl rfl ⟨(rr_ HB hw363_0 :), (rr_ HB hw363_1 :), (rr_ HB hw363_2 :), (rr_ HB hw363_3 :), (rr_ HB hw363_4 :), (rr_ HB hw363_5 :), (rr_ HB hw363_6 :), (rr_ HB hw364_0 :), (rr_ HB hw364_1 :), (rr_ HB hw364_2 :), (rr_ HB hw364_3 :), (rr_ HB hw364_4 :), (rr_ HB hw364_5 :), (rr_ HB hw364_6 :)⟩ (fun hHeld => ?_); refine with_tabW sentryref4_SameItems.tab6 sentryref4_SameItems.bits6 (fun HT_ HW_ => ?_)
        generalize wr.drew = w11 at HB HR363_5 HR363_6 HR364_5 HR364_6 hx363_0 hx363_1 hx363_2 hx363_3 hx363_4 hx363_5 hx363_6 hx364_0 hx364_1 hx364_2 hx364_3 hx364_4 hx364_5 hx364_6 hHeld ⊢
        refine pz_ 0 (some 17) (bits_ 10 1) HT_.out ?_
        refine pz_ 1 (some 18) (bits_ 10 3) HT_.out ?_
        refine pz_ 2 (some 19) (bits_ 10 7) HT_.out ?_
        refine pz_ 4 (some 21) (bits_ 10 23) HT_.out ?_
        refine pz_ 5 (some 22) (bits_ 10 55) HT_.out ?_
        refine pz_ 6 (some 23) (bits_ 10 119) HT_.out ?_
        refine tz_ 3 (some 20) (bits_ 10 127) HT_.out HW_.out hHeld ?_ (hy := by rintro w' ⟨s0, s1, s2, s3, s4, s5, s6, s7, s8, s9, s10, s11, s12, s13⟩; go_simp; with_reducible rfl)
        refine tz_ 7 (some 24) (bits_ 10 255) HT_.out HW_.out hHeld ?_ (hy := by rintro w' ⟨s0, s1, s2, s3, s4, s5, s6, s7, s8, s9, s10, s11, s12, s13⟩; go_simp; with_reducible rfl)
        refine oz_ 8 (some 25) (bits_ 10 511) HT_.out (fun K hK => ?_)
        refine go_s_ Try.func61 #[.agg #[.string ((rd_T48 l0 x5_1).f0), .int .i64 ((rd_T48 l0 x5_1).f1), .string ((rd_T48 l0 x5_1).f2), .bool ((rd_T48 l0 x5_1).f3), .int .i64 ((rd_T48 l0 x5_1).f4), .slice A363_5 ((rd_T48 l0 x5_1).f5).length c363_5, .slice A363_6 ((rd_T48 l0 x5_1).f6).length c363_6], .agg #[.string ((rd_T48 l1 x5_1).f0), .int .i64 ((rd_T48 l1 x5_1).f1), .string ((rd_T48 l1 x5_1).f2), .bool ((rd_T48 l1 x5_1).f3), .int .i64 ((rd_T48 l1 x5_1).f4), .slice A364_5 ((rd_T48 l1 x5_1).f5).length c364_5, .slice A364_6 ((rd_T48 l1 x5_1).f6).length c364_6]] ?_
        with_reducible refine (sentryref4_SameItem.calls k1 ((rd_T48 l0 x5_1).f0) ((rd_T48 l0 x5_1).f1) ((rd_T48 l0 x5_1).f2) ((rd_T48 l0 x5_1).f3) ((rd_T48 l0 x5_1).f4) _ _ ((rd_T48 l0 x5_1).f5) _ _ ((rd_T48 l0 x5_1).f6) ((rd_T48 l1 x5_1).f0) ((rd_T48 l1 x5_1).f1) ((rd_T48 l1 x5_1).f2) ((rd_T48 l1 x5_1).f3) ((rd_T48 l1 x5_1).f4) _ _ ((rd_T48 l1 x5_1).f5) _ _ ((rd_T48 l1 x5_1).f6) false _ ?side1 ?side2 ?side3 ?side4 ?side5 ?side6 ?side7 ?side8 A7.out).mono ?_
        (case side1 => exact kc_ HR363_5 HB)
        (case side2 => exact HC363_5.out)
        (case side3 => exact kc_ HR363_6 HB)
        (case side4 => exact HC363_6.out)
        (case side5 => exact kc_ HR364_5 HB)
        (case side6 => exact HC364_5.out)
        (case side7 => exact kc_ HR364_6 HB)
        (case side8 => exact HC364_6.out)
        rintro e w12 ⟨rfl, hb⟩
        refine ⟨_, rfl, ?_⟩
        replace HB := hb_ HB hb
        (try clear hb); (try clear hb2); (try clear hk); (try clear hi)
        refine hK.out _ _ ⟨(rr_ HB hw363_0 :), (rr_ HB hw363_1 :), (rr_ HB hw363_2 :), (rr_ HB hw363_3 :), (rr_ HB hw363_4 :), (rr_ HB hw363_5 :), (rr_ HB hw363_6 :), (rr_ HB hw364_0 :), (rr_ HB hw364_1 :), (rr_ HB hw364_2 :), (rr_ HB hw364_3 :), (rr_ HB hw364_4 :), (rr_ HB hw364_5 :), (rr_ HB hw364_6 :)⟩ (fun hHeld => ?_)
        clear hK K
        refine nz_ (some 25) ?_
        refine pz_ 9 (some 26) (bits_ 10 1023) HT_.out ?_
        refine done_ (done_of HT_.out (by kernel_rfl)) ?_
        try go_wp2
        go_ret
        exact ⟨er_, hf_⟩
      ·rw [if_neg c6] at H
       exact absurd H (by simp)
     ·rw [if_neg c5] at H
      exact absurd H (by simp)
    ·rw [if_neg c4] at H
     have c4b0 : decide (x5_1 < (l0.length : Int)) = false := decide_eq_false c4
     clear c4
     obtain rfl := Option.some.inj H
     go_wp2
     go_ret
     exact ⟨er_, hf_⟩
 ·rw [if_neg c3] at H
  have c3b0 : ((l0.length : Int) == (l1.length : Int)) = false := beq_eq_false_iff_ne.mpr c3
  have c3b1 : ((l0.length : Int) != (l1.length : Int)) = true := bne_iff_ne.mpr c3
  have c3b2 : (l0.length == l1.length) = false := by first | simpa using c3 | (simp at c3 ⊢; omega)
  obtain rfl := Option.some.inj H
  go_enter Try.func33, Try.ntmps33
  go_wp2
  go_ret
  exact ⟨er_, hf_⟩
end Go.Proofs.Ytaiglhfmmdajdaa.Pm
end
section
namespace Go.Proofs.Ytaiglhfmmdajdaa.Pm
open Go.RowKit Go.Proofs.YtaiglhfmmdajdaaW.PrintWords Go.Proofs.YtaiglhfmmdajdaaW.PrintLast Go.Proofs.YtaiglhfmmdajdaaW.PrintMore
attribute [local go_sem] max2_int min2_int max_two min_two max_three min_three max_four min_four   -- for this text's walks alone
set_option linter.unusedVariables false
set_option linter.unusedSimpArgs false
def sentryref4_SameTexts.l0 : Nat → List ByteArray → List ByteArray → Int → Option (Bool)
 | 0, _, _, _ => none
 | k + 1, x0, x1, x5 => if x5 < (x0.length : Int) then (if 0 ≤ x5 then (if x5 < (x1.length : Int) then (if (rdOf ByteArray.empty x0 x5).toList = (rdOf ByteArray.empty x1 x5).toList then (sentryref4_SameTexts.l0 k x0 x1 (wrap64 (x5 + 1))) else (some false)) else (none)) else (none)) else (some true)
def sentryref4_SameTexts.f (k : Nat) (l0 : List ByteArray) (l1 : List ByteArray) : Option (Bool) := if (l0.length : Int) = (l1.length : Int) then (sentryref4_SameTexts.l0 k l0 l1 0) else (some false)
theorem sentryref4_SameTexts.mono_l : ∀ k, (∀ y0 y1 y2, LeO (sentryref4_SameTexts.l0 k y0 y1 y2) (sentryref4_SameTexts.l0 (k + 1) y0 y1 y2))
 | 0 => fun _ _ _ r h => by simp [sentryref4_SameTexts.l0] at h
 | k + 1 => by
  have ih0 := sentryref4_SameTexts.mono_l k
  ·intro y0 y1 y2
   unfold sentryref4_SameTexts.l0
   repeat' first
   | (with_reducible exact ih0 _ _ _)
   | (with_reducible exact LeO.refl _)
   | (with_reducible exact LeO.none _)
   | (with_reducible refine LeO.ite ?_ ?_)
   | (with_reducible refine LeO.bind ?_ (fun _ => ?_))
   | exact ih0 _ _ _
   | exact LeO.none _
   | refine LeO.ite ?_ ?_
   | refine LeO.bind ?_ (fun _ => ?_)
theorem sentryref4_SameTexts.mono : ∀ a0 a1 k, LeO (sentryref4_SameTexts.f k a0 a1) (sentryref4_SameTexts.f (k + 1) a0 a1) := by
 intro a0 a1 k
 have ih0 := sentryref4_SameTexts.mono_l k
 unfold sentryref4_SameTexts.f
 repeat' first
   | (with_reducible exact ih0 _ _ _)
   | (with_reducible exact LeO.refl _)
   | (with_reducible exact LeO.none _)
   | (with_reducible refine LeO.ite ?_ ?_)
   | (with_reducible refine LeO.bind ?_ (fun _ => ?_))
   | exact ih0 _ _ _
   | exact LeO.none _
   | refine LeO.ite ?_ ?_
   | refine LeO.bind ?_ (fun _ => ?_)
set_option maxHeartbeats 8000000 in
set_option maxRecDepth 100000 in
theorem sentryref4_SameTexts.calls (k : Nat) (A0 : Option Addr) (c0 : Nat) (l0 : List ByteArray) (A1 : Option Addr) (c1 : Nat) (l1 : List ByteArray) (r : Bool) (w : World) (hr0 : Kd.C Kd.string w A0 l0.length l0) (hc0 : l0.length ≤ c0) (hr1 : Kd.C Kd.string w A1 l1.length l1) (hc1 : l1.length ≤ c1) (h : sentryref4_SameTexts.f k l0 l1 = some r) :
  Calls Try.prog 32 #[.slice A0 l0.length c0, .slice A1 l1.length c1] w fun e w' => e = .returned (.bool r) ∧ Drawn0 w w' := by
 have HR0 := Aside0.mk hr0
 have HC0 := Aside0.mk hc0
 clear hr0 hc0
 have HR1 := Aside0.mk hr1
 have HC1 := Aside0.mk hc1
 clear hr1 hc1
 have H : (if (l0.length : Int) = (l1.length : Int) then (sentryref4_SameTexts.l0 k l0 l1 0) else (some false)) = some r := h
 clear h
 by_cases c3 : (l0.length : Int) = (l1.length : Int)
 ·rw [if_pos c3] at H
  have c3b0 : ((l0.length : Int) == (l1.length : Int)) = true := beq_iff_eq.mpr c3
  have c3b1 : ((l0.length : Int) != (l1.length : Int)) = false := bne_eq_false_iff_eq.mpr c3
  have c3b2 : (l0.length == l1.length) = true := by first | simpa using c3 | (simp at c3 ⊢; omega)
  clear c3
  have H' := Aside0.mk H
  clear H
  go_enter Try.func32, Try.ntmps32
  go_wp2
  repeat (go_quiet (fail); try go_wp2)
  go_loopg [5] k (fun kq v5 w' => ∃ (x5_1 : Int), v5 = .int .i64 x5_1 ∧ Aside0 (sentryref4_SameTexts.l0 kq l0 l1 x5_1 = some r) ∧ Aside0 (kq ≤ k) ∧ Drawn0 w w')
  case atStart => exact ⟨(0), (by first | rfl | (simp; done) | (simp [*]; done)), H', ⟨Nat.le_refl _⟩, by repeat (first | exact Drawn0.refl _ | apply Drawn0.step)⟩
  case round =>
   clear H'
   (try clear c1); (try clear p2); (try clear c3); (try clear c3b0); (try clear c3b1); (try clear c3b2)
   obtain ⟨x5_1, rfl, HA, HK1, ⟨m1, rfl⟩⟩ := hrel
   cases gk with
   | zero => exact absurd HA.out (by simp [sentryref4_SameTexts.l0])
   | succ k1 =>
    have H := HA.out
    clear HA
    simp only [sentryref4_SameTexts.l0] at H
    by_cases c4 : x5_1 < (l0.length : Int)
    ·rw [if_pos c4] at H
     have c4b0 : decide (x5_1 < (l0.length : Int)) = true := decide_eq_true c4
     clear c4
     by_cases c5 : 0 ≤ x5_1
     ·rw [if_pos c5] at H
      have c5b0 : decide (0 ≤ x5_1) = true := decide_eq_true c5
      clear c5
      by_cases c6 : x5_1 < (l1.length : Int)
      ·rw [if_pos c6] at H
       have c6b0 : decide (x5_1 < (l1.length : Int)) = true := decide_eq_true c6
       clear c6
       by_cases c7 : (rdOf ByteArray.empty l0 x5_1).toList = (rdOf ByteArray.empty l1 x5_1).toList
       ·rw [if_pos c7] at H
        have c7b0 : ((rdOf ByteArray.empty l0 x5_1).toList == (rdOf ByteArray.empty l1 x5_1).toList) = true := beq_iff_eq.mpr c7
        have c7b1 : ((rdOf ByteArray.empty l0 x5_1).toList != (rdOf ByteArray.empty l1 x5_1).toList) = false := bne_eq_false_iff_eq.mpr c7
        clear c7
        have H' := Aside0.mk H
        clear H
        have p343 : 0 ≤ (x5_1 : Int) := od_
        have q343 : x5_1 < (l0.length : Int) := od_
        obtain ⟨ad343, e343, hx343_0⟩ := Kd.at_string HR0.out x5_1 p343 q343
        cases e343
        replace p343 := eq_true p343
        replace q343 := eq_true q343
        have p344 : 0 ≤ (x5_1 : Int) := od_
        have q344 : x5_1 < (l1.length : Int) := od_
        obtain ⟨ad344, e344, hx344_0⟩ := Kd.at_string HR1.out x5_1 p344 q344
        cases e344
        replace p344 := eq_true p344
        replace q344 := eq_true q344
        go_wp2
        repeat (go_quiet (fail); try go_wp2)
        go_roundg k1
        case measure => have := HK1.out; omega
        case rel => exact ⟨(wrap64 (x5_1 + 1)), (by first | rfl | (simp; done) | (simp [*]; done)), H', ⟨by have := HK1.out; omega⟩, by repeat (first | exact Drawn0.refl _ | apply Drawn0.step)⟩
       ·rw [if_neg c7] at H
        have c7b0 : ((rdOf ByteArray.empty l0 x5_1).toList == (rdOf ByteArray.empty l1 x5_1).toList) = false := beq_eq_false_iff_ne.mpr c7
        have c7b1 : ((rdOf ByteArray.empty l0 x5_1).toList != (rdOf ByteArray.empty l1 x5_1).toList) = true := bne_iff_ne.mpr c7
        obtain rfl := Option.some.inj H
        have p343 : 0 ≤ (x5_1 : Int) := od_
        have q343 : x5_1 < (l0.length : Int) := od_
        obtain ⟨ad343, e343, hx343_0⟩ := Kd.at_string HR0.out x5_1 p343 q343
        cases e343
        replace p343 := eq_true p343
        replace q343 := eq_true q343
        have p344 : 0 ≤ (x5_1 : Int) := od_
        have q344 : x5_1 < (l1.length : Int) := od_
        obtain ⟨ad344, e344, hx344_0⟩ := Kd.at_string HR1.out x5_1 p344 q344
        cases e344
        replace p344 := eq_true p344
        replace q344 := eq_true q344
        go_wp2
        repeat (go_quiet (fail); try go_wp2)
        go_ret
        exact ⟨by first | rfl | (simp; done) | (simp [*]; done), by repeat (first | exact Drawn0.refl _ | apply Drawn0.step)⟩
      ·rw [if_neg c6] at H
       exact absurd H (by simp)
     ·rw [if_neg c5] at H
      exact absurd H (by simp)
    ·rw [if_neg c4] at H
     have c4b0 : decide (x5_1 < (l0.length : Int)) = false := decide_eq_false c4
     clear c4
     obtain rfl := Option.some.inj H
     go_wp2
     repeat (go_quiet (fail); try go_wp2)
     go_ret
     exact ⟨by first | rfl | (simp; done) | (simp [*]; done), by repeat (first | exact Drawn0.refl _ | apply Drawn0.step)⟩
 ·rw [if_neg c3] at H
  have c3b0 : ((l0.length : Int) == (l1.length : Int)) = false := beq_eq_false_iff_ne.mpr c3
  have c3b1 : ((l0.length : Int) != (l1.length : Int)) = true := bne_iff_ne.mpr c3
  have c3b2 : (l0.length == l1.length) = false := by first | simpa using c3 | (simp at c3 ⊢; omega)
  obtain rfl := Option.some.inj H
  go_enter Try.func32, Try.ntmps32
  go_wp2
  repeat (go_quiet (fail); try go_wp2)
  go_ret
  exact ⟨by first | rfl | (simp; done) | (simp [*]; done), by repeat (first | exact Drawn0.refl _ | apply Drawn0.step)⟩
end Go.Proofs.Ytaiglhfmmdajdaa.Pm
end
section
namespace Go.Proofs.Ytaiglhfmmdajdaa.Pm
open Go.RowKit Go.Proofs.YtaiglhfmmdajdaaW.PrintWords Go.Proofs.YtaiglhfmmdajdaaW.PrintLast Go.Proofs.YtaiglhfmmdajdaaW.PrintMore
attribute [local go_sem] max2_int min2_int max_two min_two max_three min_three max_four min_four   -- for this text's walks alone
set_option linter.unusedVariables false
set_option linter.unusedSimpArgs false
def sentryref4_Same.f (k : Nat) (l0_0 : List ByteArray) (l0_1 : List (S48)) (l1_0 : List ByteArray) (l1_1 : List (S48)) : Option (Bool) := (sentryref4_SameTexts.f k l0_0 l1_0).bind fun t368 => (if t368 = true then ((sentryref4_SameItems.f k l0_1 l1_1).bind fun t369 => (some t369)) else (some false))
theorem sentryref4_Same.mono : ∀ a0 a1 a2 a3 k, LeO (sentryref4_Same.f k a0 a1 a2 a3) (sentryref4_Same.f (k + 1) a0 a1 a2 a3) := by
 intro a0 a1 a2 a3 k
 unfold sentryref4_Same.f
 repeat' first
   | (with_reducible exact sentryref4_SameItems.mono _ _ _)
   | (with_reducible exact sentryref4_SameTexts.mono _ _ _)
   | (with_reducible exact LeO.refl _)
   | (with_reducible exact LeO.none _)
   | (with_reducible refine LeO.ite ?_ ?_)
   | (with_reducible refine LeO.bind ?_ (fun _ => ?_))
   | exact sentryref4_SameItems.mono _ _ _
   | exact sentryref4_SameTexts.mono _ _ _
   | exact LeO.none _
   | refine LeO.ite ?_ ?_
   | refine LeO.bind ?_ (fun _ => ?_)
set_option maxHeartbeats 8000000 in
set_option maxRecDepth 100000 in
theorem sentryref4_Same.calls (k : Nat) (A0_0 : Option Addr) (c0_0 : Nat) (l0_0 : List ByteArray) (A0_1 : Option Addr) (c0_1 : Nat) (l0_1 : List (S48)) (A1_0 : Option Addr) (c1_0 : Nat) (l1_0 : List ByteArray) (A1_1 : Option Addr) (c1_1 : Nat) (l1_1 : List (S48)) (r : Bool) (w : World) (hr0_0 : Kd.C Kd.string w A0_0 l0_0.length l0_0) (hc0_0 : l0_0.length ≤ c0_0) (hr0_1 : Kd.C k48 w A0_1 l0_1.length l0_1) (hc0_1 : l0_1.length ≤ c0_1) (hr1_0 : Kd.C Kd.string w A1_0 l1_0.length l1_0) (hc1_0 : l1_0.length ≤ c1_0) (hr1_1 : Kd.C k48 w A1_1 l1_1.length l1_1) (hc1_1 : l1_1.length ≤ c1_1) (h : sentryref4_Same.f k l0_0 l0_1 l1_0 l1_1 = some r) :
  Calls Try.prog 20 #[.agg #[.slice A0_0 l0_0.length c0_0, .slice A0_1 l0_1.length c0_1], .agg #[.slice A1_0 l1_0.length c1_0, .slice A1_1 l1_1.length c1_1]] w fun e w' => e = .returned (.bool r) ∧ Below w.heap.size w w' := by
 have hu25 := Try.underlying25
 have HR0_0 := Aside0.mk hr0_0
 have HC0_0 := Aside0.mk hc0_0
 clear hr0_0 hc0_0
 have HR0_1 := Aside0.mk hr0_1
 have HC0_1 := Aside0.mk hc0_1
 clear hr0_1 hc0_1
 have HR1_0 := Aside0.mk hr1_0
 have HC1_0 := Aside0.mk hc1_0
 clear hr1_0 hc1_0
 have HR1_1 := Aside0.mk hr1_1
 have HC1_1 := Aside0.mk hc1_1
 clear hr1_1 hc1_1
 have HB := Aside0.mk (Below.refl w.heap.size w)
 have H : ((sentryref4_SameTexts.f k l0_0 l1_0).bind fun t368 => (if t368 = true then ((sentryref4_SameItems.f k l0_1 l1_1).bind fun t369 => (some t369)) else (some false))) = some r := h
 clear h
 replace H := Option.bind_eq_some_iff.mp H
 obtain ⟨t368, A30, H⟩ := H
 replace H : (if t368 = true then ((sentryref4_SameItems.f k l0_1 l1_1).bind fun t369 => (some t369)) else (some false)) = some r := H
 have A3 := Aside0.mk A30
 clear A30
 by_cases c4 : t368 = true
 ·subst c4
  have H1 : ((sentryref4_SameItems.f k l0_1 l1_1).bind fun t369 => (some t369)) = some r := by rw [if_pos rfl] at H; exact H
  clear H
  have H := H1
  clear H1
  replace H := Option.bind_eq_some_iff.mp H
  obtain ⟨t369, A50, H⟩ := H
  replace H : (some t369) = some r := H
  have A5 := Aside0.mk A50
  clear A50
  obtain rfl := Option.some.inj H
  go_enter Try.func20, Try.ntmps20
  go_wp2_with (first | ((with_reducible refine gate_dst (N := 2) rfl ?_); refine box_event ?hg (N := 2) ?hd (cs := #[.slice A0_0 l0_0.length c0_0, .slice A0_1 l0_1.length c0_1]) (t := 25) ?hr ?_; (case hd => rfl); (case hg => rfl); (case hr => first | (go_simp; done) | (go_simp; rfl)); intro gb366 hg w6 hbox hb; have n0_ := hb_ HB hb; have n1_ := Aside0.mk (hbox); have n2_ := Aside0.mk ((by rw [hg]; exact (below_size (by repeat (first | (with_reducible first | exact HB.out | apply below_alloc | apply pw_below_drewN | apply below_drew1) | exact HB.out))) : w.heap.size ≤ gb366)); have n3_ := Aside0.mk ((by rw [hg]; exact (below_size (by repeat (first | (with_reducible first | exact HB.out | apply below_alloc | apply pw_below_drewN | apply below_drew1) | exact HB.out))) : w.heap.size ≤ gb366)); clear HB; have HB := n0_; have BK366 := n1_; have GW366 := n2_; have GE366 := n3_; clear n0_ n1_ n2_ n3_; clear hb hbox hg) | ((with_reducible refine gate_dst (N := 3) rfl ?_); refine box_event ?hg (N := 3) ?hd (cs := #[.slice A1_0 l1_0.length c1_0, .slice A1_1 l1_1.length c1_1]) (t := 25) ?hr ?_; (case hd => rfl); (case hg => rfl); (case hr => first | (go_simp; done) | (go_simp; rfl)); intro gb367 hg w7 hbox hb; have n0_ := bb_ BK366 hb; have n1_ := hb_ HB hb; have n2_ := Aside0.mk (hbox); have n3_ := Aside0.mk ((by rw [hg]; exact (below_size (by repeat (first | (with_reducible first | exact HB.out | apply below_alloc | apply pw_below_drewN | apply below_drew1 | refine below_set ?_ GE366.out) | exact HB.out))) : w.heap.size ≤ gb367)); have n4_ := Aside0.mk ((by rw [hg]; exact (below_size (by repeat (first | (with_reducible first | exact HB.out | apply below_alloc | apply pw_below_drewN | apply below_drew1 | refine below_set ?_ GE366.out) | exact HB.out))) : w.heap.size ≤ gb367)); have n5_ := Aside0.mk ((by rw [hg]; exact Nat.ne_of_lt (blk_lt (g := gb366) (o := .cells #[.slice A0_0 l0_0.length c0_0, .slice A0_1 l0_1.length c0_1] 25 (0, 0)) (by (with_reducible repeat (first | refine blk_drewN ?_ _ | refine blk_drew ?_ | refine blk_alloc ?_ _)); exact BK366.out)) : gb366 ≠ gb367)); have n6_ := Aside0.mk ((by rw [hg]; exact Nat.ne_of_gt (blk_lt (g := gb366) (o := .cells #[.slice A0_0 l0_0.length c0_0, .slice A0_1 l0_1.length c0_1] 25 (0, 0)) (by (with_reducible repeat (first | refine blk_drewN ?_ _ | refine blk_drew ?_ | refine blk_alloc ?_ _)); exact BK366.out)) : gb367 ≠ gb366)); clear BK366; clear HB; have BK366 := n0_; have HB := n1_; have BK367 := n2_; have GW367 := n3_; have GE367 := n4_; have NB366_367 := n5_; have NB367_366 := n6_; clear n0_ n1_ n2_ n3_ n4_ n5_ n6_; clear hb hbox hg; have hnb8 := NB366_367.out; have hnc8 := NB367_366.out; obtain ⟨hcz9_0, hcz9_1, hfz9_0, hfz9_1⟩ := bs2_ BK366; obtain ⟨hcz10_0, hcz10_1, hfz10_0, hfz10_1⟩ := bs2_ BK367) | ((with_reducible refine gate_callee (f := 32) rfl ?_); refine gl_ (some 9) Try.func32 #[.slice A0_0 l0_0.length c0_0, .slice A1_0 l1_0.length c1_0] ?_; (with_reducible refine (sentryref4_SameTexts.calls k _ _ l0_0 _ _ l1_0 true _ ?side1 ?side2 ?side3 ?side4 A3.out).mono ?_); (case side1 => exact kc_ HR0_0 HB); (case side2 => exact HC0_0.out); (case side3 => exact kc_ HR1_0 HB); (case side4 => exact HC1_0.out); rintro e w' ⟨rfl, ⟨nd, rfl⟩⟩; refine ⟨_, rfl, ?_⟩) | (go_at_call 33; (with_reducible refine (sentryref4_SameItems.calls k _ _ l0_1 _ _ l1_1 t369 _ ?side1 ?side2 ?side3 ?side4 A5.out).mono ?_); (case side1 => repeat (first | exact (Kd.C_below HR0_1.out (by repeat (first | (with_reducible first | exact HB.out | apply below_alloc | apply pw_below_drewN | apply below_drew1 | refine below_set ?_ GE366.out | refine below_set ?_ GE367.out) | exact HB.out))) | (with_reducible refine Kd.C_alloc ?_ _) | (with_reducible refine Kd.C_drewN ?_ _) | (with_reducible refine Kd.C_drew ?_))); (case side2 => exact HC0_1.out); (case side3 => repeat (first | exact (Kd.C_below HR1_1.out (by repeat (first | (with_reducible first | exact HB.out | apply below_alloc | apply pw_below_drewN | apply below_drew1 | refine below_set ?_ GE366.out | refine below_set ?_ GE367.out) | exact HB.out))) | (with_reducible refine Kd.C_alloc ?_ _) | (with_reducible refine Kd.C_drewN ?_ _) | (with_reducible refine Kd.C_drew ?_))); (case side4 => exact HC1_1.out); rintro e w11 ⟨rfl, hb⟩; have n0_ := bb_ BK366 hb; have n1_ := bb_ BK367 hb; have n2_ := hb_ HB hb; clear BK366; clear BK367; clear HB; have BK366 := n0_; have BK367 := n1_; have HB := n2_; clear n0_ n1_ n2_; (try clear hb); (try clear hb2); (try clear hk); (try clear hi)))
  go_ret
  exact ⟨er_, hf_⟩
 ·replace c4 := Bool.eq_false_iff.mpr c4
  subst c4
  have H1 : (some false) = some r := by rw [if_neg (show ¬ (false = true) by decide)] at H; exact H
  clear H
  have H := H1
  clear H1
  obtain rfl := Option.some.inj H
  go_enter Try.func20, Try.ntmps20
  go_wp2_with (first | ((with_reducible refine gate_dst (N := 2) rfl ?_); refine box_event ?hg (N := 2) ?hd (cs := #[.slice A0_0 l0_0.length c0_0, .slice A0_1 l0_1.length c0_1]) (t := 25) ?hr ?_; (case hd => rfl); (case hg => rfl); (case hr => first | (go_simp; done) | (go_simp; rfl)); intro gb366 hg w12 hbox hb; have n0_ := hb_ HB hb; have n1_ := Aside0.mk (hbox); have n2_ := Aside0.mk ((by rw [hg]; exact (below_size (by repeat (first | (with_reducible first | exact HB.out | apply below_alloc | apply pw_below_drewN | apply below_drew1) | exact HB.out))) : w.heap.size ≤ gb366)); have n3_ := Aside0.mk ((by rw [hg]; exact (below_size (by repeat (first | (with_reducible first | exact HB.out | apply below_alloc | apply pw_below_drewN | apply below_drew1) | exact HB.out))) : w.heap.size ≤ gb366)); clear HB; have HB := n0_; have BK366 := n1_; have GW366 := n2_; have GE366 := n3_; clear n0_ n1_ n2_ n3_; clear hb hbox hg) | ((with_reducible refine gate_dst (N := 3) rfl ?_); refine box_event ?hg (N := 3) ?hd (cs := #[.slice A1_0 l1_0.length c1_0, .slice A1_1 l1_1.length c1_1]) (t := 25) ?hr ?_; (case hd => rfl); (case hg => rfl); (case hr => first | (go_simp; done) | (go_simp; rfl)); intro gb367 hg w13 hbox hb; have n0_ := bb_ BK366 hb; have n1_ := hb_ HB hb; have n2_ := Aside0.mk (hbox); have n3_ := Aside0.mk ((by rw [hg]; exact (below_size (by repeat (first | (with_reducible first | exact HB.out | apply below_alloc | apply pw_below_drewN | apply below_drew1 | refine below_set ?_ GE366.out) | exact HB.out))) : w.heap.size ≤ gb367)); have n4_ := Aside0.mk ((by rw [hg]; exact (below_size (by repeat (first | (with_reducible first | exact HB.out | apply below_alloc | apply pw_below_drewN | apply below_drew1 | refine below_set ?_ GE366.out) | exact HB.out))) : w.heap.size ≤ gb367)); have n5_ := Aside0.mk ((by rw [hg]; exact Nat.ne_of_lt (blk_lt (g := gb366) (o := .cells #[.slice A0_0 l0_0.length c0_0, .slice A0_1 l0_1.length c0_1] 25 (0, 0)) (by (with_reducible repeat (first | refine blk_drewN ?_ _ | refine blk_drew ?_ | refine blk_alloc ?_ _)); exact BK366.out)) : gb366 ≠ gb367)); have n6_ := Aside0.mk ((by rw [hg]; exact Nat.ne_of_gt (blk_lt (g := gb366) (o := .cells #[.slice A0_0 l0_0.length c0_0, .slice A0_1 l0_1.length c0_1] 25 (0, 0)) (by (with_reducible repeat (first | refine blk_drewN ?_ _ | refine blk_drew ?_ | refine blk_alloc ?_ _)); exact BK366.out)) : gb367 ≠ gb366)); clear BK366; clear HB; have BK366 := n0_; have HB := n1_; have BK367 := n2_; have GW367 := n3_; have GE367 := n4_; have NB366_367 := n5_; have NB367_366 := n6_; clear n0_ n1_ n2_ n3_ n4_ n5_ n6_; clear hb hbox hg; have hnb14 := NB366_367.out; have hnc14 := NB367_366.out; obtain ⟨hcz15_0, hcz15_1, hfz15_0, hfz15_1⟩ := bs2_ BK366; obtain ⟨hcz16_0, hcz16_1, hfz16_0, hfz16_1⟩ := bs2_ BK367) | ((with_reducible refine gate_callee (f := 32) rfl ?_); refine gl_ (some 9) Try.func32 #[.slice A0_0 l0_0.length c0_0, .slice A1_0 l1_0.length c1_0] ?_; (with_reducible refine (sentryref4_SameTexts.calls k _ _ l0_0 _ _ l1_0 false _ ?side1 ?side2 ?side3 ?side4 A3.out).mono ?_); (case side1 => exact kc_ HR0_0 HB); (case side2 => exact HC0_0.out); (case side3 => exact kc_ HR1_0 HB); (case side4 => exact HC1_0.out); rintro e w' ⟨rfl, ⟨nd, rfl⟩⟩; refine ⟨_, rfl, ?_⟩))
  go_ret
  exact ⟨er_, hf_⟩
end Go.Proofs.Ytaiglhfmmdajdaa.Pm
end
section
namespace Go.Proofs.Ytaiglhfmmdajdaa.Pm
open Go.RowKit Go.Proofs.YtaiglhfmmdajdaaW.PrintWords Go.Proofs.YtaiglhfmmdajdaaW.PrintLast Go.Proofs.YtaiglhfmmdajdaaW.PrintMore
attribute [local go_sem] max2_int min2_int max_two min_two max_three min_three max_four min_four   -- for this text's walks alone
set_option linter.unusedVariables false
set_option linter.unusedSimpArgs false
namespace OpenKd
end OpenKd
open OpenKd
def goodSentry (x : S54) : Prop := x.f0.length ≤ 140737488351232 ∧ x.f1.length ≤ 140737488351232
def goodItem (x : S48) : Prop := x.f0.size ≤ 140737488351232 ∧ x.f2.size ≤ 140737488351232 ∧ x.f5.length ≤ 140737488351232 ∧ x.f6.length ≤ 140737488351232 ∧ (∀ s ∈ x.f5, goodSentry s) ∧ ∀ s ∈ x.f6, goodSentry s
end Go.Proofs.Ytaiglhfmmdajdaa.Pm
end
section
namespace Go.Proofs.Ytaiglhfmmdajdaa.Pm
open Go.RowKit Go.Proofs.YtaiglhfmmdajdaaW.PrintWords Go.Proofs.YtaiglhfmmdajdaaW.PrintLast Go.Proofs.YtaiglhfmmdajdaaW.PrintMore
attribute [local go_sem] max2_int min2_int max_two min_two max_three min_three max_four min_four   -- for this text's walks alone
set_option linter.unusedVariables false
set_option linter.unusedSimpArgs false
theorem bt_at (s : ByteArray) (i : Nat) (h : i < s.size) : bt s (i : Int) = byteAt s i := by
  unfold bt byteAt
  rw [dif_pos (by simpa using h), List.getD_eq_getElem?_getD, List.getElem?_eq_getElem (by simpa using h)]
  rfl
theorem first_eq (a : Int) : sentryref1_first.f a = some (letterB a) := letter_eq a
theorem rbyte_eq (a : Int) : sentryref1_Byte.f a = some (moreB a) := more_eq a
theorem ref_name_at (s : ByteArray) (hs : s.size ≤ 12) (d : Nat) : ∀ i k, i + d = s.size → d < k → sentryref1_Is.l0 k s (i : Nat) = some ((List.range' i d).all (fun j => moreB (byteAt s j))) := by
  induction d with
  | zero =>
    intro i k hi hk
    obtain ⟨k, rfl⟩ : ∃ m, k = m + 1 := ⟨k - 1, by omega⟩
    simp only [sentryref1_Is.l0]
    rw [if_neg (by omega)]
    rfl
  | succ d ih =>
    intro i k hi hk
    obtain ⟨k, rfl⟩ : ∃ m, k = m + 1 := ⟨k - 1, by omega⟩
    simp only [sentryref1_Is.l0]
    rw [if_pos (by omega), if_pos (by omega), bt_at s i (by omega), rbyte_eq, Option.bind_some, List.range'_succ, List.all_cons]
    cases moreB (byteAt s i) with
    | false => simp
    | true =>
      rw [if_pos rfl, wrap_lt (n := (s.size : Int)) (by omega) (by omega) (by omega), Bool.true_and]
      exact ih (i + 1) k (by omega) (by omega)
theorem ref_name (s : ByteArray) (k : Nat) (hk : 15 ≤ k) : sentryref1_Is.f k s = some (nameB s) := by
  obtain ⟨k, rfl⟩ : ∃ m, k = m + 1 := ⟨k - 1, by omega⟩
  unfold sentryref1_Is.f nameB
  by_cases h1 : s.size < 1
  · rw [if_pos (by omega), decide_eq_false (by omega)]; simp [sentryref1_Is.j0]
  by_cases h2 : s.size > 12
  · rw [if_neg (by omega), if_pos (by omega), decide_eq_false (by omega)]; simp [sentryref1_Is.j0]
  rw [if_neg (by omega), if_neg (by omega), if_pos (by omega), decide_eq_true (by omega), show (0 : Int) = ((0 : Nat) : Int) from rfl, bt_at s 0 (by omega), first_eq, Option.bind_some]
  cases letterB (byteAt s 0) with
  | false => simp [sentryref1_Is.j0]
  | true =>
    simp only [sentryref1_Is.j0, Bool.not_true, Bool.false_eq_true, if_false]
    rw [show (0 : Int) = ((0 : Nat) : Int) from rfl, ref_name_at s (by omega) s.size 0 k (by omega) (by omega), List.range_eq_range']
    rfl
theorem mem_any_at (l : List ByteArray) (s : ByteArray) (hn : l.length ≤ 9223372036854775807) (d : Nat) : ∀ (i k : Nat), i + d = l.length → d < k → sentryref4_File.l0 k l s (i : Nat) = some ((l.drop i).any (fun x => s.toList == x.toList)) := by
  induction d with
  | zero =>
    intro i k hi hk
    obtain ⟨k, rfl⟩ : ∃ m, k = m + 1 := ⟨k - 1, by omega⟩
    simp only [sentryref4_File.l0]
    rw [if_neg (by omega), List.drop_of_length_le (by omega)]
    rfl
  | succ d ih =>
    intro i k hi hk
    obtain ⟨k, rfl⟩ : ∃ m, k = m + 1 := ⟨k - 1, by omega⟩
    have hlt : i < l.length := by omega
    simp only [sentryref4_File.l0]
    rw [if_pos (by omega), if_pos (by omega), rdOf_get _ _ _ hlt, List.drop_eq_getElem_cons hlt, List.any_cons]
    by_cases he : l[i].toList = s.toList
    · rw [if_pos he, show (s.toList == l[i].toList) = true by rw [he]; simp]; rfl
    · rw [if_neg he, show (s.toList == l[i].toList) = false by simpa using Ne.symm he, Bool.false_or, wrap_lt (n := (l.length : Int)) (by omega) (by omega) (by omega)]
      exact ih (i + 1) k (by omega) (by omega)
theorem ref_file (l : List ByteArray) (s : ByteArray) (hn : l.length ≤ 9223372036854775807) (k : Nat) (hk : l.length < k) : sentryref4_File.f k l s = some (memB l s) := mem_any_at l s hn l.length 0 k (by omega) hk
theorem ref_op_at (s : ByteArray) (l : List ByteArray) (hn : l.length ≤ 9223372036854775807) (d : Nat) : ∀ (i k : Nat), i + d = l.length → d < k → ∃ r, sentryref4_Op.l0 k s l (i : Nat) = some r ∧ decide (r < 0) = !((l.drop i).any (fun x => s.toList == x.toList)) := by
  induction d with
  | zero =>
    intro i k hi hk
    obtain ⟨k, rfl⟩ : ∃ m, k = m + 1 := ⟨k - 1, by omega⟩
    refine ⟨-1, ?_, ?_⟩
    · simp only [sentryref4_Op.l0]
      rw [if_neg (by omega)]
    · rw [List.drop_of_length_le (by omega)]; rfl
  | succ d ih =>
    intro i k hi hk
    obtain ⟨k, rfl⟩ : ∃ m, k = m + 1 := ⟨k - 1, by omega⟩
    have hlt : i < l.length := by omega
    simp only [sentryref4_Op.l0]
    rw [if_pos (by omega), if_pos (by omega), rdOf_get _ _ _ hlt, List.drop_eq_getElem_cons hlt, List.any_cons]
    by_cases he : l[i].toList = s.toList
    · rw [if_pos he]
      refine ⟨i, rfl, ?_⟩
      rw [show (s.toList == l[i].toList) = true by rw [he]; simp, decide_eq_false (by omega)]; rfl
    · rw [if_neg he, show (s.toList == l[i].toList) = false by simpa using Ne.symm he, Bool.false_or, wrap_lt (n := (l.length : Int)) (by omega) (by omega) (by omega)]
      exact ih (i + 1) k (by omega) (by omega)
theorem ref_op (s : ByteArray) (k : Nat) (hk : 6 < k) : ∃ r, sentryref4_Op.f k s = some r ∧ decide (r < 0) = !memB opsL s := ref_op_at s opsL (by decide) 6 0 k (by decide) hk
theorem ref_place_at (fs : List ByteArray) (l : List (S48)) (id : ByteArray) (hn : l.length ≤ 9223372036854775807) (d : Nat) : ∀ (i k : Nat), i + d = l.length → d < k → (∀ j, j < i → model_Place.p id (l.getD j z48) = false) → sentryref4_Place.l0 k id (i : Nat) fs l = some (placeI l id) := by
  induction d with
  | zero =>
    intro i k hi hk hno
    obtain ⟨k, rfl⟩ : ∃ m, k = m + 1 := ⟨k - 1, by omega⟩
    simp only [sentryref4_Place.l0]
    rw [if_neg (by omega)]
    unfold placeI
    rw [fidx_miss _ l z48 (fun j hj => hno j (by omega))]
  | succ d ih =>
    intro i k hi hk hno
    obtain ⟨k, rfl⟩ : ∃ m, k = m + 1 := ⟨k - 1, by omega⟩
    have hlt : i < l.length := by omega
    have hrd : rd_T48 l (i : Int) = l.getD i z48 := rfl
    simp only [sentryref4_Place.l0]
    rw [if_pos (by omega), if_pos (by omega), hrd]
    by_cases he : (l.getD i z48).f0.toList = id.toList
    · rw [if_pos he]
      unfold placeI
      rw [fidx_hit _ l i z48 hlt (by unfold model_Place.p; simpa using he) hno]
    · rw [if_neg he, wrap_lt (n := (l.length : Int)) (by omega) (by omega) (by omega)]
      refine ih (i + 1) k (by omega) (by omega) (fun j hj => ?_)
      by_cases e : j = i
      · subst e; unfold model_Place.p; simpa using he
      · exact hno j (by omega)
theorem ref_place (fs : List ByteArray) (l : List (S48)) (id : ByteArray) (hn : l.length ≤ 9223372036854775807) (k : Nat) (hk : l.length < k) : sentryref4_Place.f k fs l id = some (placeI l id) := ref_place_at fs l id hn l.length 0 k (by omega) hk (fun j hj => by omega)
end Go.Proofs.Ytaiglhfmmdajdaa.Pm
end
section
namespace Go.Proofs.Ytaiglhfmmdajdaa.Pm
open Go.RowKit Go.Proofs.YtaiglhfmmdajdaaW.PrintWords Go.Proofs.YtaiglhfmmdajdaaW.PrintLast Go.Proofs.YtaiglhfmmdajdaaW.PrintMore
attribute [local go_sem] max2_int min2_int max_two min_two max_three min_three max_four min_four   -- for this text's walks alone
set_option linter.unusedVariables false
set_option linter.unusedSimpArgs false
theorem refLegal3 (a b : Int) : sentryref4_Legal.f 3 a b = some (legalB a b) := by
  unfold sentryref4_Legal.f legalB
  by_cases h1 : a < 1
  · rw [if_pos h1]
    simp only [sentryref4_Legal.j0, if_true]
    by_cases h15 : b = 1 ∨ b = 5
    · rw [if_pos h15, decide_eq_false (by omega)]
    · rw [if_neg h15]
      by_cases h23 : b = 2 ∨ b = 3
      · rw [if_pos h23, decide_eq_false (by omega)]
      · rw [if_neg h23]
        by_cases h4 : b = 4
        · rw [if_pos h4, decide_eq_false (by omega)]
        · rw [if_neg h4]
  · rw [if_neg h1]
    by_cases h5 : a > 5
    · rw [decide_eq_true h5]
      simp only [sentryref4_Legal.j0, if_true]
      by_cases h15 : b = 1 ∨ b = 5
      · rw [if_pos h15, decide_eq_false (by omega)]
      · rw [if_neg h15]
        by_cases h23 : b = 2 ∨ b = 3
        · rw [if_pos h23, decide_eq_false (by omega)]
        · rw [if_neg h23]
          by_cases h4 : b = 4
          · rw [if_pos h4, decide_eq_false (by omega)]
          · rw [if_neg h4]
    · rw [decide_eq_false h5]
      simp only [sentryref4_Legal.j0, Bool.false_eq_true, if_false]
      by_cases e1 : b = 1
      · subst e1; simp [sentryref4_Legal.j1]; omega
      · rw [if_neg e1]
        by_cases e5 : b = 5
        · subst e5; simp [sentryref4_Legal.j1]; omega
        · rw [show (b == 5) = false by simpa using e5, if_neg (by omega)]
          simp only [sentryref4_Legal.j1, Bool.false_eq_true, if_false]
          by_cases e2 : b = 2
          · subst e2; simp [sentryref4_Legal.j2]; rw [Bool.eq_iff_iff]; simp; omega
          · rw [if_neg e2]
            by_cases e3 : b = 3
            · subst e3; simp [sentryref4_Legal.j2]; rw [Bool.eq_iff_iff]; simp; omega
            · rw [show (b == 3) = false by simpa using e3, if_neg (by omega)]
              simp only [sentryref4_Legal.j2, Bool.false_eq_true, if_false]
              by_cases e4 : b = 4
              · subst e4; simp; rw [Bool.eq_iff_iff]; simp; omega
              · simp [e4]
end Go.Proofs.Ytaiglhfmmdajdaa.Pm
end
section
namespace Go.Proofs.Ytaiglhfmmdajdaa.Pm
open Go.RowKit Go.Proofs.YtaiglhfmmdajdaaW.PrintWords Go.Proofs.YtaiglhfmmdajdaaW.PrintLast Go.Proofs.YtaiglhfmmdajdaaW.PrintMore
attribute [local go_sem] max2_int min2_int max_two min_two max_three min_three max_four min_four   -- for this text's walks alone
set_option linter.unusedVariables false
set_option linter.unusedSimpArgs false
theorem Ev.at {α : Type} {g : Nat → Option α} {r : α} (K : Nat) (h : ∀ k, K ≤ k → g k = some r) : Ev g r := ⟨K, h⟩
theorem ev_place (fs : List ByteArray) (l : List (S48)) (id : ByteArray) (hn : l.length ≤ 9223372036854775807) : Ev (fun k => sentryref4_Place.f k fs l id) (placeI l id) := Ev.at (l.length + 1) (fun k hk => ref_place fs l id hn k (by omega))
theorem ev_l2 (fs : List ByteArray) (l : List (S48)) (on : List (S103)) (ifs : List (S50)) (hf : fs.length ≤ 9223372036854775807) (hn : ifs.length ≤ 9223372036854775807) (d : Nat) : ∀ i : Nat, i + d = ifs.length → Ev (fun k => sentryref4_sentry.l2 k (i : Int) fs l on ifs) ((ifs.drop i).all (fun c => ifB fs c.f0 c.f1 c.f2)) := by
  induction d with
  | zero =>
    intro i hi
    refine Ev.step (f := fun _ => some true) (fun k => ?_) ?_
    · simp only [sentryref4_sentry.l2]
      rw [if_neg (by omega)]
    · rw [List.drop_of_length_le (by omega)]
      exact Ev.now true
  | succ d ih =>
    intro i hi
    have hlt : i < ifs.length := by omega
    have hrd : rd_T50 ifs (i : Int) = ifs[i] := by simp [rd_T50, List.getD_eq_getElem?_getD, List.getElem?_eq_getElem hlt]
    refine Ev.step (f := fun k => (sentryref4_File.f k fs (ifs[i]).f0).bind fun t => (if t = true then ((sentryref4_Op.f k (ifs[i]).f1).bind fun t2 => (if t2 < 0 then (some false) else (if (ifs[i]).f2 < (-1000000) then (some false) else (if (ifs[i]).f2 > 1000000 then (some false) else (sentryref4_sentry.l2 k (((i + 1 : Nat)) : Int) fs l on ifs))))) else (some false))) (fun k => ?_) ?_
    · simp only [sentryref4_sentry.l2]
      rw [if_pos (by omega), if_pos (by omega), hrd, wrap_lt (n := (ifs.length : Int)) (by omega) (by omega) (by omega)]
      rfl
    · rw [List.drop_eq_getElem_cons hlt, List.all_cons]
      refine Ev.bind (Ev.at (fs.length + 1) (fun k hk => ref_file fs _ hf k (by omega))) ?_
      unfold ifB
      cases memB fs (ifs[i]).f0 with
      | false =>
        refine Ev.congr (fun k => if_neg (by simp)) ?_
        rw [Bool.false_and, Bool.and_false, Bool.false_and]
        exact Ev.now false
      | true =>
        refine Ev.congr (fun k => if_pos rfl) ?_
        obtain ⟨r, hr, hd⟩ := ref_op (ifs[i]).f1 7 (by omega)
        refine Ev.bind (Ev.at 7 (fun k hk => at_rounds (fun k => sentryref4_Op.mono _ k) hk hr)) ?_
        by_cases h0 : r < 0
        · have : memB opsL (ifs[i]).f1 = false := by rw [decide_eq_true h0] at hd; simpa using hd.symm
          rw [this, Bool.false_and, Bool.false_and]
          refine Ev.congr (fun k => if_pos h0) (Ev.now false)
        · have : memB opsL (ifs[i]).f1 = true := by rw [decide_eq_false h0] at hd; simpa using hd.symm
          rw [this, Bool.true_and, Bool.true_and]
          refine Ev.congr (fun k => if_neg h0) ?_
          by_cases h1 : (ifs[i]).f2 < -1000000
          · rw [decide_eq_false (by omega), Bool.false_and]
            exact Ev.congr (fun k => if_pos h1) (Ev.now false)
          · by_cases h2 : (ifs[i]).f2 > 1000000
            · rw [decide_eq_false (by omega), Bool.false_and]
              exact Ev.congr (fun k => (if_neg h1).trans (if_pos h2)) (Ev.now false)
            · rw [decide_eq_true (by omega), Bool.true_and]
              exact Ev.congr (fun k => (if_neg h1).trans (if_neg h2)) (ih (i + 1) (by omega))
theorem ev_l1 (fs : List ByteArray) (l : List (S48)) (on : List (S103)) (ifs : List (S50)) (hn : on.length ≤ 9223372036854775807) (i : Nat) (hi : i < on.length) (R : Bool) (hR : Ev (fun k => sentryref4_sentry.l0 k (((i + 1 : Nat)) : Int) fs l on ifs) R) (d : Nat) : ∀ j : Nat, j + d = i → Ev (fun k => sentryref4_sentry.l1 k (i : Int) (j : Int) fs l on ifs) (!(((on.take i).drop j).any (hasOn_p (rd_T103 on i).f0 (rd_T103 on i).f1)) && R) := by
  induction d with
  | zero =>
    intro j hj
    refine Ev.step (f := fun k => sentryref4_sentry.l0 k (((i + 1 : Nat)) : Int) fs l on ifs) (fun k => ?_) ?_
    · simp only [sentryref4_sentry.l1]
      rw [if_neg (by omega), wrap_lt (n := (on.length : Int)) (by omega) (by omega) (by omega)]
      rfl
    · rw [List.drop_of_length_le (by rw [List.length_take]; omega)]
      simpa using hR
  | succ d ih =>
    intro j hj
    have hjl : j < (on.take i).length := by rw [List.length_take]; omega
    have hrd : rd_T103 on (j : Int) = (on.take i)[j] := by simp [rd_T103, List.getD_eq_getElem?_getD, List.getElem?_eq_getElem (show j < on.length by omega)]
    rw [List.drop_eq_getElem_cons hjl, List.any_cons]
    have hsym : ((((on.take i)[j]).f0.toList == (rd_T103 on i).f0.toList) && (((on.take i)[j]).f1 == (rd_T103 on i).f1)) = hasOn_p (rd_T103 on i).f0 (rd_T103 on i).f1 (on.take i)[j] := by
      unfold hasOn_p
      rw [Bool.eq_iff_iff]
      simp only [Bool.and_eq_true, beq_iff_eq]
      exact ⟨fun h => ⟨h.1.symm, h.2.symm⟩, fun h => ⟨h.1.symm, h.2.symm⟩⟩
    refine Ev.step (f := fun k => if hasOn_p (rd_T103 on i).f0 (rd_T103 on i).f1 (on.take i)[j] = true then some false else sentryref4_sentry.l1 k (i : Int) (((j + 1 : Nat)) : Int) fs l on ifs) (fun k => ?_) ?_
    · simp only [sentryref4_sentry.l1]
      rw [if_pos (by omega), if_pos (by omega), if_pos (by omega), if_pos (by omega), if_pos (by omega), hrd, hsym, wrap_lt (n := (on.length : Int)) (by omega) (by omega) (by omega)]
      rfl
    · cases hq : hasOn_p (rd_T103 on i).f0 (rd_T103 on i).f1 (on.take i)[j] with
      | true => exact Ev.congr (fun k => if_pos rfl) (by simpa using Ev.now false)
      | false => exact Ev.congr (fun k => if_neg (by simp)) (by simpa using ih (j + 1) (by omega))
theorem ev_l0 (fs : List ByteArray) (l : List (S48)) (on : List (S103)) (ifs : List (S50)) (hf : fs.length ≤ 9223372036854775807) (hl : l.length ≤ 9223372036854775807) (hn : on.length ≤ 9223372036854775807) (hi2 : ifs.length ≤ 9223372036854775807) (d : Nat) : ∀ i : Nat, i + d = on.length → Ev (fun k => sentryref4_sentry.l0 k (i : Int) fs l on ifs) ((List.range' i d).all (onOk l on) && ifs.all (fun c => ifB fs c.f0 c.f1 c.f2)) := by
  induction d with
  | zero =>
    intro i hi
    refine Ev.step (f := fun k => sentryref4_sentry.l2 k ((0 : Nat) : Int) fs l on ifs) (fun k => ?_) ?_
    · simp only [sentryref4_sentry.l0]
      rw [if_neg (by omega)]
      rfl
    · simpa using ev_l2 fs l on ifs hf hi2 ifs.length 0 (by omega)
  | succ d ih =>
    intro i hi
    have hlt : i < on.length := by omega
    rw [List.range'_succ, List.all_cons]
    have hok : onOk l on i = (onB l (rd_T103 on i).f0 (rd_T103 on i).f1 && !hasOn (on.take i) (rd_T103 on i).f0 (rd_T103 on i).f1) := rfl
    rw [hok]
    refine Ev.step (f := fun k => (sentryref4_Place.f k fs l (rd_T103 on i).f0).bind fun t => (if t < 0 then (sentryref4_sentry.j2 k (i : Int) true fs l on ifs) else (if 0 ≤ t then (if t < (l.length : Int) then ((sentryref4_Legal.f k ((rd_T48 l t).f1) ((rd_T103 on i).f1)).bind fun t2 => (sentryref4_sentry.j2 k (i : Int) (!t2) fs l on ifs)) else (none)) else (none)))) (fun k => ?_) ?_
    · simp only [sentryref4_sentry.l0]
      rw [if_pos (by omega), if_pos (by omega)]
    · refine Ev.bind (ev_place fs l _ hl) ?_
      have hj2f : Ev (fun k => sentryref4_sentry.j2 k (i : Int) true fs l on ifs) false := Ev.step (f := fun _ => some false) (fun k => by simp [sentryref4_sentry.j2]) (Ev.now false)
      have hj2t : Ev (fun k => sentryref4_sentry.j2 k (i : Int) false fs l on ifs) (!hasOn (on.take i) (rd_T103 on i).f0 (rd_T103 on i).f1 && ((List.range' (i + 1) d).all (onOk l on) && ifs.all (fun c => ifB fs c.f0 c.f1 c.f2))) := by
        refine Ev.step (f := fun k => sentryref4_sentry.l1 k (i : Int) ((0 : Nat) : Int) fs l on ifs) (fun k => by simp [sentryref4_sentry.j2]) ?_
        have := ev_l1 fs l on ifs hn i hlt _ (ih (i + 1) (by omega)) i 0 (by omega)
        simpa [hasOn] using this
      unfold onB
      by_cases hp : 0 ≤ placeI l (rd_T103 on i).f0
      · rw [if_pos hp]
        refine Ev.congr (fun k => (if_neg (by omega)).trans ((if_pos hp).trans (if_pos (placeI_lt l _)))) ?_
        refine Ev.bind (Ev.at 3 (fun k hk => at_rounds (fun k => sentryref4_Legal.mono _ _ k) hk (refLegal3 _ _))) ?_
        cases legalB (rd_T48 l (placeI l (rd_T103 on i).f0)).f1 (rd_T103 on i).f1 with
        | true => simpa [Bool.and_assoc] using hj2t
        | false => simpa using hj2f
      · rw [if_neg hp]
        exact Ev.congr (fun k => if_pos (by omega)) (by simpa using hj2f)
theorem ev_sentry (fs : List ByteArray) (l : List (S48)) (on : List (S103)) (ifs : List (S50)) (hf : fs.length ≤ 9223372036854775807) (hl : l.length ≤ 9223372036854775807) (hn : on.length ≤ 9223372036854775807) (hi2 : ifs.length ≤ 9223372036854775807) : Ev (fun k => sentryref4_sentry.f k fs l on ifs) (sentryB fs l on ifs) := by
  have hjf : Ev (fun k => sentryref4_sentry.j0 k true fs l on ifs) false := Ev.step (f := fun _ => some false) (fun k => by simp [sentryref4_sentry.j0]) (Ev.now false)
  unfold sentryref4_sentry.f sentryB
  by_cases h3 : on.length > 3
  · rw [decide_eq_false (by omega), Bool.false_and]
    exact Ev.congr (fun k => if_pos (by omega)) hjf
  by_cases h2 : ifs.length > 2
  · rw [decide_eq_false (by omega), Bool.false_and]
    exact Ev.congr (fun k => (if_neg (by omega)).trans (if_pos (by omega))) hjf
  refine Ev.congr (fun k => (if_neg (by omega)).trans (if_neg (by omega))) ?_
  have hw : wrap64 ((on.length : Int) + (ifs.length : Int)) = (on.length : Int) + (ifs.length : Int) := by unfold wrap64; omega
  rw [hw]
  by_cases h0 : on.length + ifs.length = 0
  · rw [decide_eq_false (by omega), Bool.false_and, show (((on.length : Int) + (ifs.length : Int)) == 0) = true by simp; omega]
    exact hjf
  · rw [decide_eq_true (by omega), Bool.true_and, show (((on.length : Int) + (ifs.length : Int)) == 0) = false by
      have : (on.length : Int) + (ifs.length : Int) ≠ 0 := by omega
      simpa using this]
    refine Ev.step (f := fun k => sentryref4_sentry.l0 k ((0 : Nat) : Int) fs l on ifs) (fun k => by simp [sentryref4_sentry.j0]) ?_
    have := ev_l0 fs l on ifs hf hl hn hi2 on.length 0 (by omega)
    rw [List.range_eq_range']
    have he : ifsOk fs ifs = ifs.all (fun c => ifB fs c.f0 c.f1 c.f2) := by unfold ifsOk; rw [List.not_any_eq_all_not]; simp
    rw [he]
    exact this
theorem ev_sentries_at (fs : List ByteArray) (l : List (S48)) (ss : List (S54)) (hf : fs.length ≤ 9223372036854775807) (hl : l.length ≤ 9223372036854775807) (hs : ss.length ≤ 9223372036854775807) (hg : ∀ s ∈ ss, s.f0.length ≤ 9223372036854775807 ∧ s.f1.length ≤ 9223372036854775807) (d : Nat) : ∀ i : Nat, i + d = ss.length → Ev (fun k => sentryref4_sentries.l0 k ss (i : Int) fs l) ((ss.drop i).all (fun s => sentryB fs l s.f0 s.f1) && decide (ss.length ≤ 3)) := by
  induction d with
  | zero =>
    intro i hi
    refine Ev.step (f := fun _ => some (decide ((ss.length : Int) ≤ 3))) (fun k => ?_) ?_
    · simp only [sentryref4_sentries.l0]
      rw [if_neg (by omega)]
    · rw [List.drop_of_length_le (by omega), List.all_nil, Bool.true_and, show decide (ss.length ≤ 3) = decide ((ss.length : Int) ≤ 3) by rw [decide_eq_decide]; omega]
      exact Ev.now _
  | succ d ih =>
    intro i hi
    have hlt : i < ss.length := by omega
    have hrd : rd_T54 ss (i : Int) = ss[i] := by simp [rd_T54, List.getD_eq_getElem?_getD, List.getElem?_eq_getElem hlt]
    rw [List.drop_eq_getElem_cons hlt, List.all_cons]
    refine Ev.step (f := fun k => (sentryref4_sentry.f k fs l (ss[i]).f0 (ss[i]).f1).bind fun t => (if t = true then (sentryref4_sentries.l0 k ss (((i + 1 : Nat)) : Int) fs l) else (some false))) (fun k => ?_) ?_
    · simp only [sentryref4_sentries.l0]
      rw [if_pos (by omega), if_pos (by omega), hrd, wrap_lt (n := (ss.length : Int)) (by omega) (by omega) (by omega)]
      rfl
    · have hgi := hg ss[i] (List.getElem_mem hlt)
      refine Ev.bind (ev_sentry fs l _ _ hf hl hgi.1 hgi.2) ?_
      cases sentryB fs l (ss[i]).f0 (ss[i]).f1 with
      | true => exact Ev.congr (fun k => if_pos rfl) (by simpa using ih (i + 1) (by omega))
      | false => exact Ev.congr (fun k => if_neg (by simp)) (by simpa using Ev.now false)
theorem ev_sentries (fs : List ByteArray) (l : List (S48)) (ss : List (S54)) (hf : fs.length ≤ 9223372036854775807) (hl : l.length ≤ 9223372036854775807) (hs : ss.length ≤ 9223372036854775807) (hg : ∀ s ∈ ss, s.f0.length ≤ 9223372036854775807 ∧ s.f1.length ≤ 9223372036854775807) : Ev (fun k => sentryref4_sentries.f k fs l ss) (sentsB fs l ss) := by
  have := ev_sentries_at fs l ss hf hl hs hg ss.length 0 (by omega)
  have e : sentsB fs l ss = ((ss.drop 0).all (fun s => sentryB fs l s.f0 s.f1) && decide (ss.length ≤ 3)) := by
    unfold sentsB
    rw [List.not_any_eq_all_not, Bool.and_comm]
    simp
  rw [e]
  exact this
end Go.Proofs.Ytaiglhfmmdajdaa.Pm
end
section
namespace Go.Proofs.Ytaiglhfmmdajdaa.Pm
open Go.RowKit Go.Proofs.YtaiglhfmmdajdaaW.PrintWords Go.Proofs.YtaiglhfmmdajdaaW.PrintLast Go.Proofs.YtaiglhfmmdajdaaW.PrintMore
attribute [local go_sem] max2_int min2_int max_two min_two max_three min_three max_four min_four   -- for this text's walks alone
set_option linter.unusedVariables false
set_option linter.unusedSimpArgs false
theorem ev_name (s : ByteArray) : Ev (fun k => sentryref1_Is.f k s) (nameB s) := Ev.at 15 (fun k hk => ref_name s k hk)
abbrev nmA (l : List (S48)) (i : Int) : ByteArray := (rd_T48 l i).f0
abbrev kdA (l : List (S48)) (i : Int) : Int := (rd_T48 l i).f1
abbrev paA (l : List (S48)) (i : Int) : ByteArray := (rd_T48 l i).f2
def wnF (l : List (S48)) (id : ByteArray) : Nat → Int → Bool
  | 0, _ => false
  | d + 1, x => if x ≥ 0 then (if (nmA l x).toList = id.toList then true else wnF l id d (placeI l (paA l x))) else false
def dpF (l : List (S48)) : Nat → Int → Int → Int
  | 0, _, _ => -1
  | d + 1, x, c => if x > 0 then dpF l d (placeI l (paA l x)) (c + 1) else if x < 0 then -1 else c
theorem ev_within_at (fs : List ByteArray) (l : List (S48)) (id : ByteArray) (hn : l.length ≤ 9223372036854775806) (d : Nat) : ∀ (x : Int) (c : Nat), c + d = l.length + 1 → x < l.length → Ev (fun k => sentryref4_within.l0 k x id (c : Int) fs l) (wnF l id d x) := by
  induction d with
  | zero =>
    intro x c hc hx
    unfold wnF
    by_cases h : x ≥ 0
    · refine Ev.step (f := fun k => sentryref4_within.j1 k x id (c : Int) false fs l) (fun k => ?_) ?_
      · simp only [sentryref4_within.l0]
        rw [if_pos h, decide_eq_false (by omega)]
      · exact Ev.step (f := fun _ => some false) (fun k => by simp [sentryref4_within.j1]) (Ev.now false)
    · refine Ev.step (f := fun k => sentryref4_within.j1 k x id (c : Int) false fs l) (fun k => ?_) ?_
      · simp only [sentryref4_within.l0]
        rw [if_neg h]
      · exact Ev.step (f := fun _ => some false) (fun k => by simp [sentryref4_within.j1]) (Ev.now false)
  | succ d ih =>
    intro x c hc hx
    unfold wnF
    by_cases h : x ≥ 0
    · rw [if_pos h]
      refine Ev.step (f := fun k => sentryref4_within.j1 k x id (c : Int) true fs l) (fun k => ?_) ?_
      · simp only [sentryref4_within.l0]
        rw [if_pos h, decide_eq_true (by omega)]
      · refine Ev.step (f := fun k => if (nmA l x).toList = id.toList then (some true) else ((sentryref4_Place.f k fs l (paA l x)).bind fun t => (sentryref4_within.l0 k t id (((c + 1 : Nat)) : Int) fs l))) (fun k => ?_) ?_
        · simp only [sentryref4_within.j1]
          rw [if_pos trivial, if_pos h, if_pos hx, show wrap64 ((c : Int) + 1) = ((c + 1 : Nat) : Int) by unfold wrap64; omega]
        · by_cases he : (nmA l x).toList = id.toList
          · rw [if_pos he]
            exact Ev.congr (fun k => if_pos he) (Ev.now true)
          · rw [if_neg he]
            exact Ev.congr (fun k => if_neg he) (Ev.bind (ev_place fs l _ (by omega)) (ih _ (c + 1) (by omega) (placeI_lt l _)))
    · rw [if_neg h]
      refine Ev.step (f := fun k => sentryref4_within.j1 k x id (c : Int) false fs l) (fun k => ?_) ?_
      · simp only [sentryref4_within.l0]
        rw [if_neg h]
      · exact Ev.step (f := fun _ => some false) (fun k => by simp [sentryref4_within.j1]) (Ev.now false)
theorem ev_within (fs : List ByteArray) (l : List (S48)) (id : ByteArray) (hn : l.length ≤ 9223372036854775806) (x : Int) (hx : x < l.length) : Ev (fun k => sentryref4_within.f k fs l x id) (wnF l id (l.length + 1) x) := ev_within_at fs l id hn (l.length + 1) x 0 (by omega) hx
theorem ev_depth_at (fs : List ByteArray) (l : List (S48)) (hn : l.length ≤ 9223372036854775806) (d : Nat) : ∀ (x : Int) (c : Nat), c + d = l.length + 1 → x < l.length → Ev (fun k => sentryref4_Depth.l0 k x (c : Int) fs l) (dpF l d x c) := by
  induction d with
  | zero =>
    intro x c hc hx
    unfold dpF
    refine Ev.step (f := fun _ => some (-1)) (fun k => ?_) (Ev.now _)
    simp only [sentryref4_Depth.l0]
    by_cases h : x > 0
    · rw [if_pos h, if_neg (by omega), if_neg (by omega), if_pos (by omega)]
    · rw [if_neg h]
      by_cases h2 : x < 0
      · rw [if_pos h2]
      · rw [if_neg h2, if_pos (by omega)]
  | succ d ih =>
    intro x c hc hx
    unfold dpF
    by_cases h : x > 0
    · rw [if_pos h]
      refine Ev.step (f := fun k => ((sentryref4_Place.f k fs l (paA l x)).bind fun t => (sentryref4_Depth.l0 k t (((c + 1 : Nat)) : Int) fs l))) (fun k => ?_) ?_
      · simp only [sentryref4_Depth.l0]
        rw [if_pos h, if_pos (by omega), if_pos (by omega), if_pos hx, show wrap64 ((c : Int) + 1) = ((c + 1 : Nat) : Int) by unfold wrap64; omega]
      · exact Ev.bind (ev_place fs l _ (by omega)) (ih _ (c + 1) (by omega) (placeI_lt l _))
    · rw [if_neg h]
      by_cases h2 : x < 0
      · rw [if_pos h2]
        refine Ev.step (f := fun _ => some (-1)) (fun k => ?_) (Ev.now _)
        simp only [sentryref4_Depth.l0]
        rw [if_neg h, if_pos h2]
      · rw [if_neg h2]
        refine Ev.step (f := fun _ => some (c : Int)) (fun k => ?_) (Ev.now _)
        simp only [sentryref4_Depth.l0]
        rw [if_neg h, if_neg h2, if_neg (by omega)]
theorem ev_depth (fs : List ByteArray) (l : List (S48)) (hn : l.length ≤ 9223372036854775806) (x : Int) (hx : x < l.length) : Ev (fun k => sentryref4_Depth.f k fs l x) (dpF l (l.length + 1) x 0) := ev_depth_at fs l hn (l.length + 1) x 0 (by omega) hx
/-- What is asked of an item's place. -/
def rplace (l : List (S48)) (i : Nat) : Bool :=
  if i = 0 then planB (rd_T48 l i).f1 (rd_T48 l i).f2 (rd_T48 l i).f3 (rd_T48 l i).f5.length (rd_T48 l i).f6.length
  else !decide ((paA l i).toList = []) && (decide (0 ≤ placeI l (paA l i) ∧ placeI l (paA l i) < i ∧ kdA l (placeI l (paA l i)) = 1) && (wnF l (paA l i) (l.length + 1) ((i : Int) - 1) && decide (1 ≤ dpF l (l.length + 1) i 0 ∧ dpF l (l.length + 1) i 0 ≤ 5)))
/-- What is asked of an item's own. -/
def rown (x : S48) : Bool := decide (1 ≤ x.f1 ∧ x.f1 ≤ 5) && ((if x.f1 = 5 then decide (1 ≤ x.f4 ∧ x.f4 ≤ 100) else decide (x.f4 = 0)) && !(decide (x.f1 ≥ 4) && (x.f3 || decide (0 < x.f5.length))))
def ritem (l : List (S48)) (i : Nat) : Bool :=
  nameB (nmA l i) && (decide (placeI l (nmA l i) = i) && (rown (rd_T48 l i) && rplace l i))
theorem ev_j2f (fs : List ByteArray) (l : List (S48)) (i : Int) (a0 : ByteArray) (a1 : Int) (a2 : ByteArray) (a3 : Bool) (a4 : Int) (l5 l6 : List (S54)) : Ev (fun k => sentryref4_item.j2 k i true fs l a0 a1 a2 a3 a4 l5 l6) false := Ev.step (f := fun _ => some false) (fun k => by simp [sentryref4_item.j2]) (Ev.now false)
theorem ev_j2 (fs : List ByteArray) (l : List (S48)) (hn : l.length ≤ 9223372036854775806) (i : Nat) (hi : i < l.length) (x : S48) (hx : x = rd_T48 l i) : Ev (fun k => sentryref4_item.j2 k i false fs l x.f0 x.f1 x.f2 x.f3 x.f4 x.f5 x.f6) (rplace l i) := by
  unfold rplace
  rw [← hx]
  show Ev _ (if i = 0 then planB x.f1 x.f2 x.f3 x.f5.length x.f6.length else !decide ((paA l i).toList = []) && (decide (0 ≤ placeI l (paA l i) ∧ placeI l (paA l i) < i ∧ kdA l (placeI l (paA l i)) = 1) && (wnF l (paA l i) (l.length + 1) ((i : Int) - 1) && decide (1 ≤ dpF l (l.length + 1) i 0 ∧ dpF l (l.length + 1) i 0 ≤ 5))))
  have hpa : paA l i = x.f2 := by rw [hx]
  rw [hpa]
  by_cases h0 : i = 0
  · rw [if_pos h0]
    unfold planB
    refine Ev.step (f := fun _ => some (decide (x.f1 = 1) && (decide (x.f2.toList = []) && (!x.f3 && decide (x.f5.length + x.f6.length = 0))))) (fun k => ?_) (Ev.now _)
    simp only [sentryref4_item.j2]
    rw [if_neg (by simp), if_pos (by omega)]
    by_cases h1 : x.f1 = 1
    · by_cases h2 : x.f2.toList = []
      · cases h3 : x.f3 with
        | true => simp [h1, h2]
        | false =>
          by_cases h5 : x.f5.length = 0
          · by_cases h6 : x.f6.length = 0 <;> simp [h1, h2, h5, h6] <;> omega
          · have : ¬ ((x.f5.length : Int) = 0) := by omega
            simp [h1, h2, h5, this]
            
      · simp [h1, h2]
    · simp [h1]
  · rw [if_neg h0]
    refine Ev.step (f := fun k => ((sentryref4_Place.f k fs l x.f2).bind fun t180 => (if x.f2.toList = ([] : List UInt8) then (some false) else (if t180 ≥ 0 then (if t180 < (i : Int) then (if 0 ≤ t180 then (if t180 < (l.length : Int) then (if ((rd_T48 l t180).f1) = 1 then ((sentryref4_within.f k fs l ((i : Int) - 1) x.f2).bind fun t182 => (if t182 = true then ((sentryref4_Depth.f k fs l i).bind fun t183 => (if t183 ≥ 1 then ((sentryref4_Depth.f k fs l i).bind fun t184 => (some (decide (t184 ≤ 5)))) else (some false))) else (some false))) else (some false)) else (none)) else (none)) else (some false)) else (some false))))) (fun k => ?_) ?_
    · simp only [sentryref4_item.j2]
      rw [if_neg (by simp), if_neg (by omega), show wrap64 ((i : Int) - 1) = (i : Int) - 1 by unfold wrap64; omega]
    · refine Ev.bind (ev_place fs l _ (by omega)) ?_
      by_cases h1 : x.f2.toList = []
      · rw [decide_eq_true h1, Bool.not_true, Bool.false_and]
        exact Ev.congr (fun k => if_pos h1) (Ev.now false)
      rw [decide_eq_false h1, Bool.not_false, Bool.true_and]
      refine Ev.congr (fun k => if_neg h1) ?_
      by_cases h2 : 0 ≤ placeI l x.f2
      case neg =>
        rw [decide_eq_false (fun h => h2 h.1), Bool.false_and]
        exact Ev.congr (fun k => if_neg h2) (Ev.now false)
      refine Ev.congr (fun k => if_pos h2) ?_
      by_cases h3 : placeI l x.f2 < (i : Int)
      case neg =>
        rw [decide_eq_false (fun h => h3 h.2.1), Bool.false_and]
        exact Ev.congr (fun k => if_neg h3) (Ev.now false)
      refine Ev.congr (fun k => (if_pos h3).trans ((if_pos h2).trans (if_pos (placeI_lt l _)))) ?_
      by_cases h4 : kdA l (placeI l x.f2) = 1
      case neg =>
        rw [decide_eq_false (fun h => h4 h.2.2), Bool.false_and]
        exact Ev.congr (fun k => if_neg h4) (Ev.now false)
      rw [decide_eq_true ⟨h2, h3, h4⟩, Bool.true_and]
      refine Ev.congr (fun k => if_pos h4) ?_
      refine Ev.bind (ev_within fs l x.f2 hn _ (by omega)) ?_
      cases wnF l x.f2 (l.length + 1) ((i : Int) - 1) with
      | false => exact Ev.congr (fun k => if_neg (by simp)) (by simpa using Ev.now false)
      | true =>
        rw [Bool.true_and]
        refine Ev.congr (fun k => if_pos rfl) ?_
        refine Ev.bind (ev_depth fs l hn _ (by omega)) ?_
        by_cases h5 : dpF l (l.length + 1) i 0 ≥ 1
        case neg =>
          rw [decide_eq_false (fun h => h5 h.1)]
          exact Ev.congr (fun k => if_neg h5) (Ev.now false)
        refine Ev.congr (fun k => if_pos h5) ?_
        refine Ev.bind (ev_depth fs l hn _ (by omega)) ?_
        rw [show decide (1 ≤ dpF l (l.length + 1) i 0 ∧ dpF l (l.length + 1) i 0 ≤ 5) = decide (dpF l (l.length + 1) i 0 ≤ 5) by rw [decide_eq_decide]; exact ⟨fun h => h.2, fun h => ⟨h5, h⟩⟩]
        exact Ev.now _
theorem ev_item (fs : List ByteArray) (l : List (S48)) (hn : l.length ≤ 9223372036854775806) (i : Nat) (hi : i < l.length) : Ev (fun k => sentryref4_item.f k fs l i) (ritem l i) := by
  obtain ⟨x, hx⟩ : ∃ x, x = rd_T48 l i := ⟨_, rfl⟩
  unfold sentryref4_item.f ritem nmA
  rw [← hx]
  refine Ev.congr (fun k => (if_pos (by omega)).trans (if_pos (by omega))) ?_
  refine Ev.bind (ev_name _) ?_
  have hj0f : Ev (fun k => sentryref4_item.j0 k i true fs l x.f0 x.f1 x.f2 x.f3 x.f4 x.f5 x.f6) false := Ev.step (f := fun _ => some false) (fun k => by simp [sentryref4_item.j0]) (Ev.now false)
  cases nameB x.f0 with
  | false => exact Ev.congr (fun k => if_neg (by simp)) (by simpa using hj0f)
  | true =>
    rw [Bool.true_and]
    refine Ev.congr (fun k => if_pos rfl) (Ev.bind (ev_place fs l _ (by omega)) ?_)
    by_cases h1 : placeI l x.f0 = (i : Int)
    case neg =>
      rw [decide_eq_false h1, Bool.false_and]
      exact Ev.congr (fun k => if_neg h1) hj0f
    rw [decide_eq_true h1, Bool.true_and]
    refine Ev.congr (fun k => if_pos h1) ?_
    unfold rown
    by_cases h2 : x.f1 < 1
    · rw [decide_eq_false (p := 1 ≤ x.f1 ∧ x.f1 ≤ 5) (by omega), Bool.false_and, Bool.false_and]
      exact Ev.congr (fun k => if_pos h2) hj0f
    refine Ev.congr (fun k => if_neg h2) ?_
    by_cases h3 : x.f1 > 5
    · rw [decide_eq_false (p := 1 ≤ x.f1 ∧ x.f1 ≤ 5) (by omega), Bool.false_and, Bool.false_and, decide_eq_true (p := x.f1 > 5) h3]
      exact hj0f
    rw [decide_eq_true (p := 1 ≤ x.f1 ∧ x.f1 ≤ 5) (by omega), Bool.true_and, decide_eq_false (p := x.f1 > 5) h3]
    obtain ⟨T, hT⟩ : ∃ T, T = (if x.f1 = 5 then decide (1 ≤ x.f4 ∧ x.f4 ≤ 100) else decide (x.f4 = 0)) := ⟨_, rfl⟩
    rw [← hT]
    refine Ev.step (f := fun k => sentryref4_item.j1 k i T fs l x.f0 x.f1 x.f2 x.f3 x.f4 x.f5 x.f6) (fun k => ?_) ?_
    · simp only [sentryref4_item.j0, Bool.false_eq_true, if_false]
      rw [hT]
      by_cases h5 : x.f1 = 5
      · rw [if_pos h5, if_pos h5]
        by_cases ha : x.f4 ≥ 1
        · rw [if_pos ha, show decide (1 ≤ x.f4 ∧ x.f4 ≤ 100) = decide (x.f4 ≤ 100) by rw [decide_eq_decide]; omega]
        · rw [if_neg ha, decide_eq_false (by omega)]
      · rw [if_neg h5, if_neg h5]
        rfl
    · have hj2 := ev_j2 fs l hn i hi x hx
      have hj2f := ev_j2f fs l i x.f0 x.f1 x.f2 x.f3 x.f4 x.f5 x.f6
      cases T with
      | false => exact Ev.step (f := fun k => sentryref4_item.j2 k i true fs l x.f0 x.f1 x.f2 x.f3 x.f4 x.f5 x.f6) (fun k => by simp [sentryref4_item.j1]) (by simpa using hj2f)
      | true =>
        by_cases h4 : x.f1 ≥ 4
        · rw [decide_eq_true (p := x.f1 ≥ 4) h4, Bool.true_and]
          cases h6 : x.f3 with
          | true =>
            refine Ev.step (f := fun k => sentryref4_item.j2 k i true fs l x.f0 x.f1 x.f2 true x.f4 x.f5 x.f6) (fun k => by simp [sentryref4_item.j1, h4]) ?_
            rw [h6] at hj2f
            simpa using hj2f
          | false =>
            rw [h6] at hj2 hj2f
            by_cases h7 : 0 < x.f5.length
            · refine Ev.step (f := fun k => sentryref4_item.j2 k i true fs l x.f0 x.f1 x.f2 false x.f4 x.f5 x.f6) (fun k => ?_) ?_
              · simp only [sentryref4_item.j1]
                rw [if_pos trivial, if_pos h4, if_neg (by simp), decide_eq_true (by omega)]
              · rw [decide_eq_true h7]; simpa using hj2f
            · refine Ev.step (f := fun k => sentryref4_item.j2 k i false fs l x.f0 x.f1 x.f2 false x.f4 x.f5 x.f6) (fun k => ?_) ?_
              · simp only [sentryref4_item.j1]
                rw [if_pos trivial, if_pos h4, if_neg (by simp), decide_eq_false (by omega)]
              · rw [decide_eq_false h7]; simpa using hj2
        · rw [decide_eq_false (p := x.f1 ≥ 4) h4, Bool.false_and]
          refine Ev.step (f := fun k => sentryref4_item.j2 k i false fs l x.f0 x.f1 x.f2 x.f3 x.f4 x.f5 x.f6) (fun k => ?_) (by simpa using hj2)
          simp only [sentryref4_item.j1]
          rw [if_pos trivial, if_neg h4]
def risB (fs : List ByteArray) (l : List (S48)) : Bool :=
  decide (fs.length ≤ 6 ∧ 1 ≤ l.length ∧ l.length ≤ 16) && (namesB fs && ((List.range l.length).all (ritem l) && l.all (fun x => sentsB fs l x.f5 && sentsB fs l x.f6)))
/-- What fits of a model: no row in it is longer than a row can be. -/
def Fits (fs : List ByteArray) (l : List (S48)) : Prop := fs.length ≤ 9223372036854775806 ∧ l.length ≤ 9223372036854775806 ∧ ∀ x ∈ l, (x.f5.length ≤ 9223372036854775806 ∧ ∀ s ∈ x.f5, s.f0.length ≤ 9223372036854775806 ∧ s.f1.length ≤ 9223372036854775806) ∧ (x.f6.length ≤ 9223372036854775806 ∧ ∀ s ∈ x.f6, s.f0.length ≤ 9223372036854775806 ∧ s.f1.length ≤ 9223372036854775806)
theorem ev_is2 (fs : List ByteArray) (l : List (S48)) (hF : Fits fs l) (d : Nat) : ∀ i : Nat, i + d = l.length → Ev (fun k => sentryref4_Is.l2 k (i : Int) fs l) ((l.drop i).all (fun x => sentsB fs l x.f5 && sentsB fs l x.f6)) := by
  obtain ⟨h1, h2, h3⟩ := hF
  induction d with
  | zero =>
    intro i hi
    refine Ev.step (f := fun _ => some true) (fun k => ?_) ?_
    · simp only [sentryref4_Is.l2]
      rw [if_neg (by omega)]
    · rw [List.drop_of_length_le (by omega)]
      exact Ev.now true
  | succ d ih =>
    intro i hi
    have hlt : i < l.length := by omega
    have hrd : rd_T48 l (i : Int) = l[i] := by simp [rd_T48, List.getD_eq_getElem?_getD, List.getElem?_eq_getElem hlt]
    rw [List.drop_eq_getElem_cons hlt, List.all_cons]
    obtain ⟨⟨a5, b5⟩, a6, b6⟩ := h3 l[i] (List.getElem_mem hlt)
    refine Ev.step (f := fun k => ((sentryref4_sentries.f k fs l (l[i].f5)).bind fun t213 => (if t213 = true then ((sentryref4_sentries.f k fs l (l[i].f6)).bind fun t215 => (if t215 = true then (sentryref4_Is.l2 k (((i + 1 : Nat)) : Int) fs l) else (some false))) else (some false)))) (fun k => ?_) ?_
    · simp only [sentryref4_Is.l2]
      rw [if_pos (by omega), if_pos (by omega), hrd, wrap_lt (n := (l.length : Int)) (by omega) (by omega) (by omega)]
      rfl
    · refine Ev.bind (ev_sentries fs l _ (by omega) (by omega) (by omega) (fun s hs => ⟨by have := (b5 s hs).1; omega, by have := (b5 s hs).2; omega⟩)) ?_
      cases sentsB fs l l[i].f5 with
      | false => exact Ev.congr (fun k => if_neg (by simp)) (by simpa using Ev.now false)
      | true =>
        rw [Bool.true_and]
        refine Ev.congr (fun k => if_pos rfl) ?_
        refine Ev.bind (ev_sentries fs l _ (by omega) (by omega) (by omega) (fun s hs => ⟨by have := (b6 s hs).1; omega, by have := (b6 s hs).2; omega⟩)) ?_
        cases sentsB fs l l[i].f6 with
        | false => exact Ev.congr (fun k => if_neg (by simp)) (by simpa using Ev.now false)
        | true => exact Ev.congr (fun k => if_pos rfl) (by simpa using ih (i + 1) (by omega))
theorem ev_is1 (fs : List ByteArray) (l : List (S48)) (hF : Fits fs l) (d : Nat) : ∀ i : Nat, i + d = l.length → Ev (fun k => sentryref4_Is.l1 k (i : Int) fs l) ((List.range' i d).all (ritem l) && l.all (fun x => sentsB fs l x.f5 && sentsB fs l x.f6)) := by
  have h2 := hF.2.1
  induction d with
  | zero =>
    intro i hi
    refine Ev.step (f := fun k => sentryref4_Is.l2 k ((0 : Nat) : Int) fs l) (fun k => ?_) ?_
    · simp only [sentryref4_Is.l1]
      rw [if_neg (by omega)]
      rfl
    · simpa using ev_is2 fs l hF l.length 0 (by omega)
  | succ d ih =>
    intro i hi
    have hlt : i < l.length := by omega
    rw [List.range'_succ, List.all_cons]
    refine Ev.step (f := fun k => ((sentryref4_item.f k fs l i).bind fun t211 => (if t211 = true then (sentryref4_Is.l1 k (((i + 1 : Nat)) : Int) fs l) else (some false)))) (fun k => ?_) ?_
    · simp only [sentryref4_Is.l1]
      rw [if_pos (by omega), wrap_lt (n := (l.length : Int)) (by omega) (by omega) (by omega)]
      rfl
    · refine Ev.bind (ev_item fs l h2 i hlt) ?_
      cases ritem l i with
      | false => exact Ev.congr (fun k => if_neg (by simp)) (by simpa using Ev.now false)
      | true => exact Ev.congr (fun k => if_pos rfl) (by simpa using ih (i + 1) (by omega))
theorem ev_is0 (fs : List ByteArray) (l : List (S48)) (hF : Fits fs l) (d : Nat) : ∀ i : Nat, i + d = fs.length → Ev (fun k => sentryref4_Is.l0 k (i : Int) fs l) ((List.range' i d).all (nameOk fs) && ((List.range l.length).all (ritem l) && l.all (fun x => sentsB fs l x.f5 && sentsB fs l x.f6))) := by
  have h1 := hF.1
  induction d with
  | zero =>
    intro i hi
    refine Ev.step (f := fun k => sentryref4_Is.l1 k ((0 : Nat) : Int) fs l) (fun k => ?_) ?_
    · simp only [sentryref4_Is.l0]
      rw [if_neg (by omega)]
      rfl
    · have := ev_is1 fs l hF l.length 0 (by omega)
      rw [List.range_eq_range']
      simpa using this
  | succ d ih =>
    intro i hi
    have hlt : i < fs.length := by omega
    rw [List.range'_succ, List.all_cons]
    refine Ev.step (f := fun k => ((sentryref1_Is.f k (rdOf ByteArray.empty fs i)).bind fun t207 => (if t207 = true then ((sentryref4_File.f k (fs.take i) (rdOf ByteArray.empty fs i)).bind fun t210 => (if t210 = true then (some false) else (sentryref4_Is.l0 k (((i + 1 : Nat)) : Int) fs l))) else (some false)))) (fun k => ?_) ?_
    · simp only [sentryref4_Is.l0]
      rw [if_pos (by omega), if_pos (by omega), if_pos (by omega), wrap_lt (n := (fs.length : Int)) (by omega) (by omega) (by omega)]
      rfl
    · refine Ev.bind (ev_name _) ?_
      have hok : nameOk fs i = (nameB (rdOf ByteArray.empty fs i) && !memB (fs.take i) (rdOf ByteArray.empty fs i)) := rfl
      rw [hok]
      cases nameB (rdOf ByteArray.empty fs i) with
      | false => exact Ev.congr (fun k => if_neg (by simp)) (by simpa using Ev.now false)
      | true =>
        rw [Bool.true_and]
        refine Ev.congr (fun k => if_pos rfl) ?_
        refine Ev.bind (Ev.at ((fs.take i).length + 1) (fun k hk => ref_file _ _ (by rw [List.length_take]; omega) k (by omega))) ?_
        cases memB (fs.take i) (rdOf ByteArray.empty fs i) with
        | true => exact Ev.congr (fun k => if_pos rfl) (by simpa using Ev.now false)
        | false => exact Ev.congr (fun k => if_neg (by simp)) (by simpa using ih (i + 1) (by omega))
theorem ev_ris (fs : List ByteArray) (l : List (S48)) (hF : Fits fs l) : Ev (fun k => sentryref4_Is.f k fs l) (risB fs l) := by
  unfold sentryref4_Is.f risB
  have hjf : Ev (fun k => sentryref4_Is.j0 k true fs l) false := Ev.step (f := fun _ => some false) (fun k => by simp [sentryref4_Is.j0]) (Ev.now false)
  by_cases h1 : fs.length > 6
  · rw [decide_eq_false (p := fs.length ≤ 6 ∧ 1 ≤ l.length ∧ l.length ≤ 16) (by omega), Bool.false_and]
    exact Ev.congr (fun k => if_pos (by omega)) hjf
  refine Ev.congr (fun k => if_neg (by omega)) ?_
  by_cases h2 : l.length < 1
  · rw [decide_eq_false (p := fs.length ≤ 6 ∧ 1 ≤ l.length ∧ l.length ≤ 16) (by omega), Bool.false_and]
    exact Ev.congr (fun k => if_pos (by omega)) hjf
  refine Ev.congr (fun k => if_neg (by omega)) ?_
  by_cases h3 : l.length > 16
  · rw [decide_eq_false (p := fs.length ≤ 6 ∧ 1 ≤ l.length ∧ l.length ≤ 16) (by omega), Bool.false_and, decide_eq_true (p := (l.length : Int) > 16) (by omega)]
    exact hjf
  rw [decide_eq_true (p := fs.length ≤ 6 ∧ 1 ≤ l.length ∧ l.length ≤ 16) (by omega), Bool.true_and, decide_eq_false (p := (l.length : Int) > 16) (by omega)]
  refine Ev.step (f := fun k => sentryref4_Is.l0 k ((0 : Nat) : Int) fs l) (fun k => by simp [sentryref4_Is.j0]) ?_
  have := ev_is0 fs l hF fs.length 0 (by omega)
  unfold namesB
  rw [List.range_eq_range' (n := fs.length)]
  exact this
end Go.Proofs.Ytaiglhfmmdajdaa.Pm
end
