/- The law ModelKids: for every input the call answers true, and the input reads as it did. No condition. (Walks and laws of several texts, merged, and what is not used struck, by a program.) -/
import Derived.Test.YtchellnfenekaaaMModelKids3
import Derived.Test.YtchellnfenekaaaMModelKids0
import Derived.Test.YtchellnfenekaaaMModelKids2
import Derived.Deep.Slices
import Derived.Lib.SmallJoins
import Derived.SizedLaws
import Derived.Test.YtchellnfenekaaaMModelKids1
import Derived.Lib.Hide
import Derived.Below
import Derived.ChangeOld
import Derived.ChangeSlices
import Derived.OpenShut
import Derived.ProofKit
import Derived.ShutString
import Derived.Test.YtchellnfenekaaaRows
import Derived.WalkKit
section
namespace Go.Proofs.Ytchellnfenekaaa.Pm
open Go.RowKit Go.Proofs.YtchellnfenekaaaW.PrintWords Go.Proofs.YtchellnfenekaaaW.PrintLast Go.Proofs.YtchellnfenekaaaW.PrintMore
attribute [local go_sem] max2_int min2_int max_two min_two max_three min_three max_four min_four   -- for this text's walks alone
set_option linter.unusedVariables false
set_option linter.unusedSimpArgs false
mutual
def sentrylaw4_ModelKids.j0 : Nat → Bool → List ByteArray → List (S32) → Option (Bool)
 | 0, _, _, _ => none
 | k + 1, x13, x296000, x296001 => if x13 = true then (some true) else (sentrylaw4_ModelKids.l0 k 0 0 x296000 x296001)
def sentrylaw4_ModelKids.l0 : Nat → Int → Int → List ByteArray → List (S32) → Option (Bool)
 | 0, _, _, _, _ => none
 | k + 1, x3, x4, x296000, x296001 => if x4 < (x296001.length : Int) then (if 0 ≤ x4 then ((model_Kids.f k x296000 x296001 ((rd_T32 x296001 x4).f0)).bind fun t307 => (sentrylaw4_ModelKids.l1 k x3 x4 t307 0 x296000 x296001)) else (none)) else (if x3 = (wrap64 ((x296001.length : Int) - 1)) then ((model_Kids.f k x296000 x296001 (⟨#[]⟩ : ByteArray)).bind fun t298 => ((sentryref4_SameInts.f k t298 (([0] : List Int))).bind fun t304 => (if t304 = true then ((sentrylaw4_known.f).bind fun t305 => (some t305)) else (some false)))) else (some false))
def sentrylaw4_ModelKids.l1 : Nat → Int → Int → List Int → Int → List ByteArray → List (S32) → Option (Bool)
 | 0, _, _, _, _, _, _ => none
 | k + 1, x3, x4, x5, x6, x296000, x296001 => if x6 < (x5.length : Int) then (if 0 ≤ x6 then (if (rd x5 x6) ≤ x4 then (some false) else (if (rd x5 x6) ≥ (x296001.length : Int) then (some false) else (if 0 ≤ (rd x5 x6) then (if (rd x5 x6) < (x296001.length : Int) then (if 0 ≤ x4 then (if x4 < (x296001.length : Int) then (if ((rd_T32 x296001 (rd x5 x6)).f2).toList = ((rd_T32 x296001 x4).f0).toList then (if x6 > 0 then (if 0 ≤ (wrap64 (x6 - 1)) then (if (wrap64 (x6 - 1)) < (x5.length : Int) then (if (rd x5 (wrap64 (x6 - 1))) ≥ (rd x5 x6) then (some false) else (sentrylaw4_ModelKids.l1 k (wrap64 (x3 + 1)) x4 x5 (wrap64 (x6 + 1)) x296000 x296001)) else (none)) else (none)) else (sentrylaw4_ModelKids.l1 k (wrap64 (x3 + 1)) x4 x5 (wrap64 (x6 + 1)) x296000 x296001)) else (some false)) else (none)) else (none)) else (none)) else (none)))) else (none)) else (sentrylaw4_ModelKids.l0 k x3 (wrap64 (x4 + 1)) x296000 x296001)
end
def sentrylaw4_ModelKids.f (k : Nat) (l0_0 : List ByteArray) (l0_1 : List (S32)) : Option (Bool) := (sentrylaw4_heavy.f k l0_0 l0_1).bind fun t296 => (if t296 = true then (sentrylaw4_ModelKids.j0 k true l0_0 l0_1) else ((sentryref4_Is.f k l0_0 l0_1).bind fun t297 => (sentrylaw4_ModelKids.j0 k (!t297) l0_0 l0_1)))
theorem sentrylaw4_ModelKids.mono_l : ∀ k, (∀ y0 y1 y2, LeO (sentrylaw4_ModelKids.j0 k y0 y1 y2) (sentrylaw4_ModelKids.j0 (k + 1) y0 y1 y2)) ∧ (∀ y0 y1 y2 y3, LeO (sentrylaw4_ModelKids.l0 k y0 y1 y2 y3) (sentrylaw4_ModelKids.l0 (k + 1) y0 y1 y2 y3)) ∧ (∀ y0 y1 y2 y3 y4 y5, LeO (sentrylaw4_ModelKids.l1 k y0 y1 y2 y3 y4 y5) (sentrylaw4_ModelKids.l1 (k + 1) y0 y1 y2 y3 y4 y5))
 | 0 => ⟨fun _ _ _ r h => by simp [sentrylaw4_ModelKids.j0] at h, fun _ _ _ _ r h => by simp [sentrylaw4_ModelKids.l0] at h, fun _ _ _ _ _ _ r h => by simp [sentrylaw4_ModelKids.l1] at h⟩
 | k + 1 => by
  obtain ⟨ih0, ih1, ih2⟩ := sentrylaw4_ModelKids.mono_l k
  refine ⟨?_, ?_, ?_⟩
  intro y0 y1 y2
  unfold sentrylaw4_ModelKids.j0
  rotate_left
  intro y0 y1 y2 y3
  unfold sentrylaw4_ModelKids.l0
  rotate_left
  intro y0 y1 y2 y3 y4 y5
  unfold sentrylaw4_ModelKids.l1
  rotate_left
  all_goals repeat' first
   | (with_reducible exact ih0 _ _ _)
   | (with_reducible exact ih1 _ _ _ _)
   | (with_reducible exact ih2 _ _ _ _ _ _)
   | (with_reducible exact model_Kids.mono _ _ _ _)
   | (with_reducible exact sentrylaw4_heavy.mono _ _ _)
   | (with_reducible exact sentryref4_Is.mono _ _ _)
   | (with_reducible exact sentryref4_SameInts.mono _ _ _)
   | (with_reducible exact LeO.refl _)
   | (with_reducible exact LeO.none _)
   | (with_reducible refine LeO.ite ?_ ?_)
   | (with_reducible refine LeO.bind ?_ (fun _ => ?_))
   | exact ih0 _ _ _
   | exact ih1 _ _ _ _
   | exact ih2 _ _ _ _ _ _
   | exact model_Kids.mono _ _ _ _
   | exact sentrylaw4_heavy.mono _ _ _
   | exact sentryref4_Is.mono _ _ _
   | exact sentryref4_SameInts.mono _ _ _
   | exact LeO.none _
   | refine LeO.ite ?_ ?_
   | refine LeO.bind ?_ (fun _ => ?_)
theorem sentrylaw4_ModelKids.mono : ∀ a0 a1 k, LeO (sentrylaw4_ModelKids.f k a0 a1) (sentrylaw4_ModelKids.f (k + 1) a0 a1) := by
 intro a0 a1 k
 obtain ⟨ih0, ih1, ih2⟩ := sentrylaw4_ModelKids.mono_l k
 unfold sentrylaw4_ModelKids.f
 repeat' first
   | (with_reducible exact ih0 _ _ _)
   | (with_reducible exact ih1 _ _ _ _)
   | (with_reducible exact ih2 _ _ _ _ _ _)
   | (with_reducible exact model_Kids.mono _ _ _ _)
   | (with_reducible exact sentrylaw4_heavy.mono _ _ _)
   | (with_reducible exact sentryref4_Is.mono _ _ _)
   | (with_reducible exact sentryref4_SameInts.mono _ _ _)
   | (with_reducible exact LeO.refl _)
   | (with_reducible exact LeO.none _)
   | (with_reducible refine LeO.ite ?_ ?_)
   | (with_reducible refine LeO.bind ?_ (fun _ => ?_))
   | exact ih0 _ _ _
   | exact ih1 _ _ _ _
   | exact ih2 _ _ _ _ _ _
   | exact model_Kids.mono _ _ _ _
   | exact sentrylaw4_heavy.mono _ _ _
   | exact sentryref4_Is.mono _ _ _
   | exact sentryref4_SameInts.mono _ _ _
   | exact LeO.none _
   | refine LeO.ite ?_ ?_
   | refine LeO.bind ?_ (fun _ => ?_)
def sentrylaw4_ModelKids.T7 : Bool × List (List Nat × List Nat) := (true, [([], []), ([], []), ([1], [1]), ([], []), ([2, 3], [2, 3]), ([4], [4]), ([5], [5]), ([0, 6], [0, 6]), ([7, 7, 0, 1, 2, 3, 4, 5, 6, 7], [7])])
def sentrylaw4_ModelKids.B7 : List Nat := [0, 0, 2, 0, 14, 30, 62, 127, 255]
theorem sentrylaw4_ModelKids.tab7 : rtab .any (opsOf Try.f9 7) = sentrylaw4_ModelKids.T7 := by kernel_rfl
theorem sentrylaw4_ModelKids.bits7 : waitsOk sentrylaw4_ModelKids.T7.2 sentrylaw4_ModelKids.B7 = true := by kernel_rfl
def sentrylaw4_ModelKids.T11 : Bool × List (List Nat × List Nat) := (true, [([], []), ([], []), ([0, 1], [0, 1]), ([2], [2]), ([], []), ([3, 4], [3, 4]), ([5], [5]), ([6], [6]), ([6], [6]), ([7, 8, 6], [6, 7, 8]), ([9, 6], [6, 9]), ([6], [6]), ([11, 6], [6, 11]), ([12, 6], [6, 12]), ([10, 13, 6], [6, 10, 13]), ([6, 14], [6, 14]), ([15, 6], [15]), ([16], [16]), ([17, 16], [16, 17]), ([16], [16]), ([16], [16]), ([19, 20, 16], [16, 19, 20]), ([21, 16], [16, 21]), ([18, 22, 16], [16, 18, 22]), ([23, 16], [16, 23]), ([24, 16], [16, 24]), ([16], [16]), ([26, 16], [16, 26]), ([16], [16]), ([27, 28, 16], [16, 27, 28]), ([29, 16], [16, 29]), ([30, 16], [16, 30]), ([25, 31, 16], [16, 25, 31]), ([16, 32], [16, 32]), ([33, 16], [33]), ([34], [34]), ([35, 34], [34, 35]), ([36, 34, 34], [34, 36]), ([37], [37]), ([37], [37]), ([39, 37], [37, 39]), ([38, 40, 37], [37, 38, 40]), ([41, 37], [37, 41]), ([37], [37]), ([37], [37]), ([43, 44, 37], [37, 43, 44]), ([45, 37], [37, 45]), ([42, 46, 37], [37, 42, 46]), ([37, 47, 34], [34, 37, 47]), ([34, 48], [34, 48])])
def sentrylaw4_ModelKids.B11 : List Nat := [0, 0, 3, 7, 0, 31, 63, 127, 127, 511, 1023, 127, 2175, 6271, 16383, 32767, 65535, 131071, 262143, 131071, 131071, 1703935, 3801087, 8388607, 16777215, 33554431, 131071, 67239935, 131071, 469893119, 1006764031, 2080505855, 4294967295, 8589934591, 17179869183, 34359738367, 68719476735, 137438953471, 274877906943, 274877906943, 824633720831, 2199023255551, 4398046511103, 274877906943, 274877906943, 26663156973567, 61847529062399, 140737488355327, 281474976710655, 562949953421311]
theorem sentrylaw4_ModelKids.tab11 : rtab .any (opsOf Try.f9 11) = sentrylaw4_ModelKids.T11 := by kernel_rfl
theorem sentrylaw4_ModelKids.bits11 : waitsOk sentrylaw4_ModelKids.T11.2 sentrylaw4_ModelKids.B11 = true := by kernel_rfl
set_option maxHeartbeats 8000000 in
set_option maxRecDepth 100000 in
theorem sentrylaw4_ModelKids.calls (k : Nat) (A0_0 : Option Addr) (c0_0 : Nat) (l0_0 : List ByteArray) (A0_1 : Option Addr) (c0_1 : Nat) (l0_1 : List (S32)) (r : Bool) (w : World) (hr0_0 : Kd.C Kd.string w A0_0 l0_0.length l0_0) (hc0_0 : l0_0.length ≤ c0_0) (hr0_1 : Kd.C k32 w A0_1 l0_1.length l0_1) (hc0_1 : l0_1.length ≤ c0_1) (h : sentrylaw4_ModelKids.f k l0_0 l0_1 = some r) :
  Calls Try.prog 9 #[.agg #[.slice A0_0 l0_0.length c0_0, .slice A0_1 l0_1.length c0_1]] w fun e w' => e = .returned (.bool r) ∧ Below w.heap.size w w' := by
 have hu36 := Try.underlying36
 have HR0_0 := Aside0.mk hr0_0
 have HC0_0 := Aside0.mk hc0_0
 clear hr0_0 hc0_0
 have HR0_1 := Aside0.mk hr0_1
 have HC0_1 := Aside0.mk hc0_1
 clear hr0_1 hc0_1
 have HB := Aside0.mk (Below.refl w.heap.size w)
 have H : ((sentrylaw4_heavy.f k l0_0 l0_1).bind fun t296 => (if t296 = true then (sentrylaw4_ModelKids.j0 k true l0_0 l0_1) else ((sentryref4_Is.f k l0_0 l0_1).bind fun t297 => (sentrylaw4_ModelKids.j0 k (!t297) l0_0 l0_1)))) = some r := h
 clear h
 have HC2 := Aside0.mk H
 clear H
 go_enter Try.func9, Try.ntmps9
 go_upto_region 1 with (first | ((with_reducible refine gate_dst (N := 1) rfl ?_); (try (refine gate_guard (by rfl) ?_; dsimp only)); refine box_event ?hg (N := 1) ?hd (cs := #[.slice A0_0 l0_0.length c0_0, .slice A0_1 l0_1.length c0_1]) (t := 36) ?hr ?_; (case hd => rfl); (case hg => rfl); (case hr => first | (go_simp; done) | (go_simp; rfl)); intro gb295 hg w3 hbox hb; have n0_ := hb_ HB hb; have n1_ := Aside0.mk (hbox); have n2_ := Aside0.mk ((by rw [hg]; exact (below_size (by repeat (first | (with_reducible first | exact HB.out | apply below_alloc | apply pw_below_drewN | apply below_drew1) | exact HB.out))) : w.heap.size ≤ gb295)); have n3_ := Aside0.mk ((by rw [hg]; exact (below_size (by repeat (first | (with_reducible first | exact HB.out | apply below_alloc | apply pw_below_drewN | apply below_drew1) | exact HB.out))) : w.heap.size ≤ gb295)); clear HB; have HB := n0_; have BK295 := n1_; have GW295 := n2_; have GE295 := n3_; clear n0_ n1_ n2_ n3_; clear hb hbox hg))
 (try simp only [Act.put, List.setIfInBounds_toArray, List.set_cons_zero, List.set_cons_succ])
 go_cut [13] (fun v13 wc => ∃ (kq : Nat) (x13_1 : Bool), v13 = .bool x13_1 ∧ Aside0 (sentrylaw4_ModelKids.j0 kq x13_1 l0_0 l0_1 = some r) ∧ Aside0 (kq ≤ k) ∧ Aside0 (wc.heap[gb295]? = some (.cells #[(.slice A0_0 l0_0.length c0_0), (.slice A0_1 l0_1.length c0_1)] 36 (0, 0))) ∧ Aside0 (Below w.heap.size w wc))
 case first =>
  have H := HC2.out
  clear HC2
  replace H := Option.bind_eq_some_iff.mp H
  obtain ⟨t296, A40, H⟩ := H
  replace H : (if t296 = true then (sentrylaw4_ModelKids.j0 k true l0_0 l0_1) else ((sentryref4_Is.f k l0_0 l0_1).bind fun t297 => (sentrylaw4_ModelKids.j0 k (!t297) l0_0 l0_1))) = some r := H
  have A4 := Aside0.mk A40
  clear A40
  by_cases c5 : t296 = true
  ·subst c5
   have H1 : (sentrylaw4_ModelKids.j0 k true l0_0 l0_1) = some r := by rw [if_pos rfl] at H; exact H
   clear H
   have H := H1
   clear H1
   have H' := Aside0.mk H
   clear H
   obtain ⟨hcz6_0, hcz6_1, hfz6_0, hfz6_1⟩ := bs2_ BK295
   go_wp2_with (first | ((with_reducible refine gate_callee (f := 17) rfl ?_); refine gl_ (some 8) Try.func17 #[.agg #[.slice A0_0 l0_0.length c0_0, .slice A0_1 l0_1.length c0_1]] ?_; (with_reducible refine (sentrylaw4_heavy.calls k _ _ l0_0 _ _ l0_1 true _ ?side1 ?side2 ?side3 ?side4 A4.out).mono ?_); (case side1 => exact kc_ HR0_0 HB); (case side2 => exact HC0_0.out); (case side3 => exact kc_ HR0_1 HB); (case side4 => exact HC0_1.out); rintro e w7 ⟨rfl, hb⟩; refine ⟨_, rfl, ?_⟩; have n0_ := bb_ BK295 hb; have n1_ := hb_ HB hb; clear BK295; clear HB; have BK295 := n0_; have HB := n1_; clear n0_ n1_; (try clear hb); (try clear hb2); (try clear hk); (try clear hi)))
   go_meet
   case rel => exact ⟨_, (true), (by first | rfl | (simp; done) | (simp [*]; done)), H', ⟨by first | omega | exact Nat.le_refl _⟩, ⟨gx_ BK295⟩, ⟨hf_⟩⟩
  ·replace c5 := Bool.eq_false_iff.mpr c5
   subst c5
   have H1 : ((sentryref4_Is.f k l0_0 l0_1).bind fun t297 => (sentrylaw4_ModelKids.j0 k (!t297) l0_0 l0_1)) = some r := by rw [if_neg (show ¬ (false = true) by decide)] at H; exact H
   clear H
   have H := H1
   clear H1
   replace H := Option.bind_eq_some_iff.mp H
   obtain ⟨t297, A80, H⟩ := H
   replace H : (sentrylaw4_ModelKids.j0 k (!t297) l0_0 l0_1) = some r := H
   have A8 := Aside0.mk A80
   clear A80
   have H' := Aside0.mk H
   clear H
   obtain ⟨hcz9_0, hcz9_1, hfz9_0, hfz9_1⟩ := bs2_ BK295
   go_wp2_with (first | ((with_reducible refine gate_callee (f := 17) rfl ?_); refine gl_ (some 8) Try.func17 #[.agg #[.slice A0_0 l0_0.length c0_0, .slice A0_1 l0_1.length c0_1]] ?_; (with_reducible refine (sentrylaw4_heavy.calls k _ _ l0_0 _ _ l0_1 false _ ?side1 ?side2 ?side3 ?side4 A4.out).mono ?_); (case side1 => exact kc_ HR0_0 HB); (case side2 => exact HC0_0.out); (case side3 => exact kc_ HR0_1 HB); (case side4 => exact HC0_1.out); rintro e w10 ⟨rfl, hb⟩; refine ⟨_, rfl, ?_⟩; have n0_ := bb_ BK295 hb; have n1_ := hb_ HB hb; clear BK295; clear HB; have BK295 := n0_; have HB := n1_; clear n0_ n1_; (try clear hb); (try clear hb2); (try clear hk); (try clear hi); obtain ⟨hcz11_0, hcz11_1, hfz11_0, hfz11_1⟩ := bs2_ BK295) | (go_at_call 18; (with_reducible refine (sentryref4_Is.calls k _ _ l0_0 _ _ l0_1 t297 _ ?side1 ?side2 ?side3 ?side4 A8.out).mono ?_); (case side1 => exact kc_ HR0_0 HB); (case side2 => exact HC0_0.out); (case side3 => exact kc_ HR0_1 HB); (case side4 => exact HC0_1.out); rintro e w12 ⟨rfl, hb⟩; have n0_ := bb_ BK295 hb; have n1_ := hb_ HB hb; clear BK295; clear HB; have BK295 := n0_; have HB := n1_; clear n0_ n1_; (try clear hb); (try clear hb2); (try clear hk); (try clear hi)))
   go_meet
   case rel => exact ⟨_, (!t297), (by first | rfl | (simp; done) | (simp [*]; done)), H', ⟨by first | omega | exact Nat.le_refl _⟩, ⟨gx_ BK295⟩, ⟨hf_⟩⟩
 case rest =>
  clear HC2
  (try clear c1); (try clear p2); (try clear c5); (try clear c9); (try clear hcz11_0); (try clear hcz11_1); (try clear hcz6_0); (try clear hcz6_1); (try clear hcz9_0); (try clear hcz9_1); (try clear hfz11_0); (try clear hfz11_1); (try clear hfz6_0); (try clear hfz6_1); (try clear hfz9_0); (try clear hfz9_1)
  obtain ⟨kq, x13_1, rfl, HA, HJ1, BK295, HB⟩ := hcut
  cases kq with
  | zero => exact absurd HA.out (by simp [sentrylaw4_ModelKids.j0])
  | succ kj1 =>
   have H := HA.out
   clear HA
   simp only [sentrylaw4_ModelKids.j0] at H
   by_cases c13 : x13_1 = true
   ·subst c13
    have H1 : (some true) = some r := by rw [if_pos rfl] at H; exact H
    clear H
    have H := H1
    clear H1
    obtain rfl := Option.some.inj H
    go_wp2
    go_ret
    exact ⟨er_, hf_⟩
   ·replace c13 := Bool.eq_false_iff.mpr c13
    subst c13
    have H1 : (sentrylaw4_ModelKids.l0 kj1 0 0 l0_0 l0_1) = some r := by rw [if_neg (show ¬ (false = true) by decide)] at H; exact H
    clear H
    have H := H1
    clear H1
    have H' := Aside0.mk H
    clear H
    go_wp2
    go_loopg [3, 4] kj1 (fun kq v3 v4 w' => ∃ (x3_2 : Int) (x4_2 : Int), v3 = .int .i64 x3_2 ∧ v4 = .int .i64 x4_2 ∧ Aside0 (sentrylaw4_ModelKids.l0 kq x3_2 x4_2 l0_0 l0_1 = some r) ∧ Aside0 (kq ≤ kj1) ∧ Aside0 (w'.heap[gb295]? = some (.cells #[(.slice A0_0 l0_0.length c0_0), (.slice A0_1 l0_1.length c0_1)] 36 (0, 0))) ∧ Aside0 (Below w.heap.size w w'))
    case atStart => exact ⟨(0), (0), (by first | rfl | (simp; done) | (simp [*]; done)), (by first | rfl | (simp; done) | (simp [*]; done)), H', ⟨Nat.le_refl _⟩, ⟨gx_ BK295⟩, ⟨hf_⟩⟩
    case round =>
     clear H'
     (try clear c1); (try clear p2); (try clear c5); (try clear c9); (try clear c13); (try clear hcz11_0); (try clear hcz11_1); (try clear hcz6_0); (try clear hcz6_1); (try clear hcz9_0); (try clear hcz9_1); (try clear hfz11_0); (try clear hfz11_1); (try clear hfz6_0); (try clear hfz6_1); (try clear hfz9_0); (try clear hfz9_1); (try clear p2)
     obtain ⟨x3_2, x4_2, rfl, rfl, HA, HK2, BK295, HB⟩ := hrel
     cases gk with
     | zero => exact absurd HA.out (by simp [sentrylaw4_ModelKids.l0])
     | succ k2 =>
      have H := HA.out
      clear HA
      simp only [sentrylaw4_ModelKids.l0] at H
      by_cases c14 : x4_2 < (l0_1.length : Int)
      ·rw [if_pos c14] at H
       have c14b0 : decide (x4_2 < (l0_1.length : Int)) = true := decide_eq_true c14
       clear c14
       by_cases c15 : 0 ≤ x4_2
       ·rw [if_pos c15] at H
        have c15b0 : decide (0 ≤ x4_2) = true := decide_eq_true c15
        clear c15
        replace H := Option.bind_eq_some_iff.mp H
        obtain ⟨t307, A160, H⟩ := H
        replace H : (sentrylaw4_ModelKids.l1 k2 x3_2 x4_2 t307 0 l0_0 l0_1) = some r := H
        have A16 := Aside0.mk A160
        clear A160
        have H' := Aside0.mk H
        clear H
        obtain ⟨hcz17_0, hcz17_1, hfz17_0, hfz17_1⟩ := bs2_ BK295
        try go_wp2
        replace BK295 := Aside0.mk (blk_drew BK295.out)
        replace HB := Aside0.mk (below_drew1 HB.out)
        have p306 : 0 ≤ (x4_2 : Int) := od_
        have q306 : x4_2 < (l0_1.length : Int) := od_
        obtain ⟨ad306, A306_5, c306_5, A306_6, c306_6, e306, hx306_0, hx306_1, hx306_2, hx306_3, hx306_4, hx306_5, hx306_6, hl306_5, hi306_5, hl306_6, hi306_6⟩ := at_T32 HR0_1.out x4_2 p306 q306
        have hw306_6 := hx306_6
        have hw306_5 := hx306_5
        have hw306_4 := hx306_4
        have hw306_3 := hx306_3
        have hw306_2 := hx306_2
        have hw306_1 := hx306_1
        have hw306_0 := hx306_0
        cases e306
        replace hx306_0 := rr_ HB hx306_0
        replace hx306_1 := rr_ HB hx306_1
        replace hx306_2 := rr_ HB hx306_2
        replace hx306_3 := rr_ HB hx306_3
        replace hx306_4 := rr_ HB hx306_4
        replace hx306_5 := rr_ HB hx306_5
        replace hx306_6 := rr_ HB hx306_6
        have HR306_5 := Aside0.mk hi306_5
        have HC306_5 := Aside0.mk hl306_5
        clear hi306_5 hl306_5
        have HR306_6 := Aside0.mk hi306_6
        have HC306_6 := Aside0.mk hl306_6
        clear hi306_6 hl306_6
        replace p306 := eq_true p306
        replace q306 := eq_true q306
        refine start_ (n := 9) (S := fun w' => w'.cell? ⟨gb295, 0, none⟩ = some (.slice A0_0 l0_0.length c0_0) ∧ w'.cell? ⟨gb295, 1, none⟩ = some (.slice (some ad306) l0_1.length c0_1) ∧ w'.cell? (ad306.add ((x4_2).toNat * 7)) = some (.string ((rd_T32 l0_1 x4_2).f0)) ∧ w'.cell? ⟨(ad306.add ((x4_2).toNat * 7)).block, (ad306.add ((x4_2).toNat * 7)).off + 1, none⟩ = some (.int .i64 ((rd_T32 l0_1 x4_2).f1)) ∧ w'.cell? ⟨(ad306.add ((x4_2).toNat * 7)).block, (ad306.add ((x4_2).toNat * 7)).off + 2, none⟩ = some (.string ((rd_T32 l0_1 x4_2).f2)) ∧ w'.cell? ⟨(ad306.add ((x4_2).toNat * 7)).block, (ad306.add ((x4_2).toNat * 7)).off + 3, none⟩ = some (.bool ((rd_T32 l0_1 x4_2).f3)) ∧ w'.cell? ⟨(ad306.add ((x4_2).toNat * 7)).block, (ad306.add ((x4_2).toNat * 7)).off + 4, none⟩ = some (.int .i64 ((rd_T32 l0_1 x4_2).f4)) ∧ w'.cell? ⟨(ad306.add ((x4_2).toNat * 7)).block, (ad306.add ((x4_2).toNat * 7)).off + 5, none⟩ = some (.slice A306_5 ((rd_T32 l0_1 x4_2).f5).length c306_5) ∧ w'.cell? ⟨(ad306.add ((x4_2).toNat * 7)).block, (ad306.add ((x4_2).toNat * 7)).off + 6, none⟩ = some (.slice A306_6 ((rd_T32 l0_1 x4_2).f6).length c306_6)) (ds := []) #[false, false, false, false, false, false, false, false, false] (by kernel_rfl) rfl rfl ⟨(bk0_ BK295 :), (bk1_ BK295 :), (rr_ HB hw306_0 :), (rr_ HB hw306_1 :), (rr_ HB hw306_2 :), (rr_ HB hw306_3 :), (rr_ HB hw306_4 :), (rr_ HB hw306_5 :), (rr_ HB hw306_6 :)⟩ (fun hHeld => ?_); refine with_tabW sentrylaw4_ModelKids.tab7 sentrylaw4_ModelKids.bits7 (fun HT_ HW_ => ?_)
        generalize wr.drew = w18 at BK295 HB HR306_5 HR306_6 hx306_0 hx306_1 hx306_2 hx306_3 hx306_4 hx306_5 hx306_6 hHeld ⊢
        refine pz_ 1 (some 22) (bits_ 9 2) HT_.out ?_
        refine pz_ 3 (some 24) (bits_ 9 10) HT_.out ?_
        refine tz_ 0 (some 21) (bits_ 9 11) HT_.out HW_.out hHeld ?_ (hy := by rintro w' ⟨s0, s1, s2, s3, s4, s5, s6, s7, s8⟩; go_simp; with_reducible rfl)
        refine tz_ 2 (some 23) (bits_ 9 15) HT_.out HW_.out hHeld ?_ (hy := by rintro w' ⟨s0, s1, s2, s3, s4, s5, s6, s7, s8⟩; go_simp; with_reducible rfl)
        refine pz_ 4 (some 25) (bits_ 9 31) HT_.out ?_
        refine pz_ 5 (some 26) (bits_ 9 63) HT_.out ?_
        refine tz_ 6 (some 27) (bits_ 9 127) HT_.out HW_.out hHeld ?_ (hy := by rintro w' ⟨s0, s1, s2, s3, s4, s5, s6, s7, s8⟩; go_simp; with_reducible rfl)
        refine oz_ 7 (some 28) (bits_ 9 255) HT_.out (fun K hK => ?_)
        refine go_s_ Try.func22 #[.agg #[.slice A0_0 l0_0.length c0_0, .slice (some ad306) l0_1.length c0_1], .string ((rd_T32 l0_1 x4_2).f0)] ?_
        with_reducible refine (model_Kids.calls k2 _ _ l0_0 _ _ l0_1 ((rd_T32 l0_1 x4_2).f0) t307 _ ?side1 ?side2 ?side3 ?side4 A16.out).mono ?_
        (case side1 => exact kc_ HR0_0 HB)
        (case side2 => exact HC0_0.out)
        (case side3 => exact kc_ HR0_1 HB)
        (case side4 => exact HC0_1.out)
        rintro e w19 ⟨v308, rfl, ho0, hb⟩
        refine ⟨_, rfl, ?_⟩
        replace HO309 := Aside0.mk (Kd.R_lower ho0 (below_size (by repeat (first | (with_reducible first | exact HB.out | apply below_alloc | apply pw_below_drewN | apply below_drew1 | refine below_set ?_ GE295.out) | exact HB.out))))
        replace BK295 := bb_ BK295 hb
        replace HB := hb_ HB hb
        (try clear hb); (try clear hb2); (try clear hk); (try clear hi); (try clear ho0)
        refine hK.out _ _ ⟨(bk0_ BK295 :), (bk1_ BK295 :), (rr_ HB hw306_0 :), (rr_ HB hw306_1 :), (rr_ HB hw306_2 :), (rr_ HB hw306_3 :), (rr_ HB hw306_4 :), (rr_ HB hw306_5 :), (rr_ HB hw306_6 :)⟩ (fun hHeld => ?_)
        clear hK K
        refine nz_ (some 28) ?_
        refine pz_ 8 (some 5) (bits_ 9 511) HT_.out ?_
        refine done_ (done_of HT_.out (by kernel_rfl)) ?_
        try go_wp2
        go_loopg [3, 6] k2 (fun kq v3 v6 w' => ∃ (x3_3 : Int) (x6_3 : Int), v3 = .int .i64 x3_3 ∧ v6 = .int .i64 x6_3 ∧ Aside0 (sentrylaw4_ModelKids.l1 kq x3_3 x4_2 t307 x6_3 l0_0 l0_1 = some r) ∧ Aside0 (kq ≤ k2) ∧ Aside0 (Kd.R (Kd.int .i64) 3 w' w.heap.size (fun _ => True) v308 t307) ∧ Aside0 (w'.heap[gb295]? = some (.cells #[(.slice A0_0 l0_0.length c0_0), (.slice (some ad306) l0_1.length c0_1)] 36 (0, 0))) ∧ Aside0 (Below w.heap.size w w'))
        case atStart => exact ⟨(x3_2), (0), (by first | rfl | (simp; done) | (simp [*]; done)), (by first | rfl | (simp; done) | (simp [*]; done)), H', ⟨Nat.le_refl _⟩, ⟨by (with_reducible repeat (first | apply Kd.R_alloc | apply Kd.R_drewN | apply Kd.R_drew)); exact HO309.out⟩, ⟨gx_ BK295⟩, ⟨hf_⟩⟩
        case round =>
         clear H'
         (try clear c1); (try clear c2); (try clear p2); (try clear c3); (try clear p3); (try clear q3); (try clear hx3); (try clear c5); (try clear c9); (try clear c13); (try clear c14); (try clear c14b0); (try clear c15); (try clear c15b0); (try clear c17); (try clear hcz11_0); (try clear hcz11_1); (try clear hcz17_0); (try clear hcz17_1); (try clear hcz6_0); (try clear hcz6_1); (try clear hcz9_0); (try clear hcz9_1); (try clear hfz11_0); (try clear hfz11_1); (try clear hfz17_0); (try clear hfz17_1); (try clear hfz6_0); (try clear hfz6_1); (try clear hfz9_0); (try clear hfz9_1); (try clear hx306_0); (try clear hx306_1); (try clear hx306_2); (try clear hx306_3); (try clear hx306_4); (try clear hx306_5); (try clear hx306_6); (try clear p2); (try clear p306); (try clear q306)
         obtain ⟨x3_3, x6_3, rfl, rfl, HA, HK3, HO_5, BK295, HB⟩ := hrel
         cases gk with
         | zero => exact absurd HA.out (by simp [sentrylaw4_ModelKids.l1])
         | succ k3 =>
          have H := HA.out
          clear HA
          simp only [sentrylaw4_ModelKids.l1] at H
          by_cases c20 : x6_3 < (t307.length : Int)
          ·rw [if_pos c20] at H
           have c20b0 : decide (x6_3 < (t307.length : Int)) = true := decide_eq_true c20
           clear c20
           by_cases c21 : 0 ≤ x6_3
           ·rw [if_pos c21] at H
            have c21b0 : decide (0 ≤ x6_3) = true := decide_eq_true c21
            clear c21
            by_cases c22 : (rd t307 x6_3) ≤ x4_2
            ·rw [if_pos c22] at H
             have c22b0 : decide ((rd t307 x6_3) ≤ x4_2) = true := decide_eq_true c22
             clear c22
             obtain rfl := Option.some.inj H
             obtain ⟨Ao23, co23, eo23⟩ := Kd.R_slice HO_5.out
             subst eo23
             try go_wp2
             replace HO_5 := Aside0.mk (Kd.R_drew HO_5.out)
             replace BK295 := Aside0.mk (blk_drew BK295.out)
             replace HB := Aside0.mk (below_drew1 HB.out)
             have p310 : 0 ≤ (x6_3 : Int) := od_
             have q310 : x6_3 < (t307.length : Int) := od_
             obtain ⟨ad310, e310, hx310_0⟩ := Kd.at_int (Kd.R_reads' HO_5.out).2.2 x6_3 p310 q310
             cases e310
             replace p310 := eq_true p310
             replace q310 := eq_true q310
             refine start_ (n := 50) (S := fun w' => w'.cell? (ad310.add (x6_3).toNat) = some (.int .i64 (rd t307 x6_3))) (ds := []) #[false, false, false, false, false, false, false, false, false, false, false, false, false, false, false, false, false, false, false, false, false, false, false, false, false, false, false, false, false, false, false, false, false, false, false, false, false, false, false, false, false, false, false, false, false, false, false, false, false, false] (by kernel_rfl) rfl rfl (hx310_0) (fun hHeld => ?_); refine with_tabW sentrylaw4_ModelKids.tab11 sentrylaw4_ModelKids.bits11 (fun HT_ HW_ => ?_)
             generalize wr.drew = w24 at HO_5 BK295 HB hx310_0 hHeld ⊢
             refine pz_ 0 (some 35) (bits_ 50 1) HT_.out ?_
             refine pz_ 1 (some 36) (bits_ 50 3) HT_.out ?_
             refine pz_ 2 (some 37) (bits_ 50 7) HT_.out ?_
             refine pz_ 4 (some 39) (bits_ 50 23) HT_.out ?_
             refine take_ (i := 3) (N := some 38) (v := ?_) (a' := ?_) #[true, true, true, true, true, false, false, false, false, false, false, false, false, false, false, false, false, false, false, false, false, false, false, false, false, false, false, false, false, false, false, false, false, false, false, false, false, false, false, false, false, false, false, false, false, false, false, false, false, false] rfl rfl (take_ofW HT_.out HW_.out (by kernel_rfl)) (fun _ _ _ h => h) (Or.inl ⟨by rfl, ?_⟩) hHeld ?_ ?_
             rotate_left
             ·intro w' s0
              go_simp
              with_reducible rfl
             rotate_left
             ·simp only [Act.put, List.setIfInBounds_toArray, List.set_cons_zero, List.set_cons_succ, i64_w, i32_w]
              rfl
             refine pz_ 5 (some 40) (bits_ 50 63) HT_.out ?_
             refine pz_ 6 (some 41) (bits_ 50 127) HT_.out ?_
             refine sz_ 7 (some 42) (bits_ 50 255) HT_.out ?_
             refine sz_ 8 (some 43) (bits_ 50 511) HT_.out ?_
             refine sz_ 9 (some 44) (bits_ 50 1023) HT_.out ?_
             refine sz_ 10 (some 45) (bits_ 50 2047) HT_.out ?_
             refine sz_ 11 (some 46) (bits_ 50 4095) HT_.out ?_
             refine sz_ 12 (some 47) (bits_ 50 8191) HT_.out ?_
             refine sz_ 13 (some 48) (bits_ 50 16383) HT_.out ?_
             refine sz_ 14 (some 49) (bits_ 50 32767) HT_.out ?_
             refine pz_ 15 (some 50) (bits_ 50 65535) HT_.out ?_
             refine pz_ 16 (some 51) (bits_ 50 131071) HT_.out ?_
             refine sz_ 17 (some 52) (bits_ 50 262143) HT_.out ?_
             refine sz_ 18 (some 53) (bits_ 50 524287) HT_.out ?_
             refine sz_ 19 (some 54) (bits_ 50 1048575) HT_.out ?_
             refine sz_ 20 (some 55) (bits_ 50 2097151) HT_.out ?_
             refine sz_ 21 (some 56) (bits_ 50 4194303) HT_.out ?_
             refine sz_ 22 (some 57) (bits_ 50 8388607) HT_.out ?_
             refine sz_ 23 (some 58) (bits_ 50 16777215) HT_.out ?_
             refine sz_ 24 (some 59) (bits_ 50 33554431) HT_.out ?_
             refine sz_ 25 (some 60) (bits_ 50 67108863) HT_.out ?_
             refine sz_ 26 (some 61) (bits_ 50 134217727) HT_.out ?_
             refine sz_ 27 (some 62) (bits_ 50 268435455) HT_.out ?_
             refine sz_ 28 (some 63) (bits_ 50 536870911) HT_.out ?_
             refine sz_ 29 (some 64) (bits_ 50 1073741823) HT_.out ?_
             refine sz_ 30 (some 65) (bits_ 50 2147483647) HT_.out ?_
             refine sz_ 31 (some 66) (bits_ 50 4294967295) HT_.out ?_
             refine sz_ 32 (some 67) (bits_ 50 8589934591) HT_.out ?_
             refine pz_ 33 (some 68) (bits_ 50 17179869183) HT_.out ?_
             refine pz_ 34 (some 69) (bits_ 50 34359738367) HT_.out ?_
             refine sz_ 35 (some 70) (bits_ 50 68719476735) HT_.out ?_
             refine sz_ 36 (some 71) (bits_ 50 137438953471) HT_.out ?_
             refine sz_ 37 (some 72) (bits_ 50 274877906943) HT_.out ?_
             refine sz_ 38 (some 73) (bits_ 50 549755813887) HT_.out ?_
             refine sz_ 39 (some 74) (bits_ 50 1099511627775) HT_.out ?_
             refine sz_ 40 (some 75) (bits_ 50 2199023255551) HT_.out ?_
             refine sz_ 41 (some 76) (bits_ 50 4398046511103) HT_.out ?_
             refine sz_ 42 (some 77) (bits_ 50 8796093022207) HT_.out ?_
             refine sz_ 43 (some 78) (bits_ 50 17592186044415) HT_.out ?_
             refine sz_ 44 (some 79) (bits_ 50 35184372088831) HT_.out ?_
             refine sz_ 45 (some 80) (bits_ 50 70368744177663) HT_.out ?_
             refine sz_ 46 (some 81) (bits_ 50 140737488355327) HT_.out ?_
             refine sz_ 47 (some 82) (bits_ 50 281474976710655) HT_.out ?_
             refine sz_ 48 (some 83) (bits_ 50 562949953421311) HT_.out ?_
             refine pz_ 49 (some 84) (bits_ 50 1125899906842623) HT_.out ?_
             refine done_ (done_of HT_.out (by kernel_rfl)) ?_
             try go_wp2
             go_ret
             exact ⟨er_, hf_⟩
            ·rw [if_neg c22] at H
             have c22b0 : decide ((rd t307 x6_3) ≤ x4_2) = false := decide_eq_false c22
             clear c22
             by_cases c25 : (rd t307 x6_3) ≥ (l0_1.length : Int)
             ·rw [if_pos c25] at H
              have c25b0 : decide ((l0_1.length : Int) ≤ (rd t307 x6_3)) = true := decide_eq_true c25
              clear c25
              obtain rfl := Option.some.inj H
              obtain ⟨Ao26, co26, eo26⟩ := Kd.R_slice HO_5.out
              subst eo26
              try go_wp2
              replace HO_5 := Aside0.mk (Kd.R_drew HO_5.out)
              replace BK295 := Aside0.mk (blk_drew BK295.out)
              replace HB := Aside0.mk (below_drew1 HB.out)
              have p310 : 0 ≤ (x6_3 : Int) := od_
              have q310 : x6_3 < (t307.length : Int) := od_
              obtain ⟨ad310, e310, hx310_0⟩ := Kd.at_int (Kd.R_reads' HO_5.out).2.2 x6_3 p310 q310
              cases e310
              replace p310 := eq_true p310
              replace q310 := eq_true q310
              have p311 : 0 ≤ (x6_3 : Int) := od_
              have q311 : x6_3 < (t307.length : Int) := od_
              obtain ⟨ad311, e311, hx311_0⟩ := Kd.at_int (Kd.R_reads' HO_5.out).2.2 x6_3 p311 q311
              obtain rfl : ad310 = ad311 := (by injection e311)
              replace p311 := eq_true p311
              replace q311 := eq_true q311
              refine start_ (n := 50) (S := fun w' => w'.cell? ⟨gb295, 0, none⟩ = some (.slice A0_0 l0_0.length c0_0) ∧ w'.cell? ⟨gb295, 1, none⟩ = some (.slice (some ad306) l0_1.length c0_1) ∧ w'.cell? (ad310.add (x6_3).toNat) = some (.int .i64 (rd t307 x6_3)) ∧ w'.cell? (ad310.add (x6_3).toNat) = some (.int .i64 (rd t307 x6_3))) (ds := []) #[false, false, false, false, false, false, false, false, false, false, false, false, false, false, false, false, false, false, false, false, false, false, false, false, false, false, false, false, false, false, false, false, false, false, false, false, false, false, false, false, false, false, false, false, false, false, false, false, false, false] (by kernel_rfl) rfl rfl ⟨(bk0_ BK295 :), (bk1_ BK295 :), hx310_0, hx311_0⟩ (fun hHeld => ?_); refine with_tabW sentrylaw4_ModelKids.tab11 sentrylaw4_ModelKids.bits11 (fun HT_ HW_ => ?_)
              generalize wr.drew = w27 at HO_5 BK295 HB hx310_0 hx311_0 hHeld ⊢
              refine pz_ 0 (some 35) (bits_ 50 1) HT_.out ?_
              refine pz_ 1 (some 36) (bits_ 50 3) HT_.out ?_
              refine pz_ 2 (some 37) (bits_ 50 7) HT_.out ?_
              refine pz_ 4 (some 39) (bits_ 50 23) HT_.out ?_
              refine tz_ 3 (some 38) (bits_ 50 31) HT_.out HW_.out hHeld ?_ (hy := by rintro w' ⟨s0, s1, s2, s3⟩; go_simp; with_reducible rfl)
              refine pz_ 5 (some 40) (bits_ 50 63) HT_.out ?_
              refine pz_ 6 (some 41) (bits_ 50 127) HT_.out ?_
              refine pz_ 7 (some 42) (bits_ 50 255) HT_.out ?_
              refine pz_ 8 (some 43) (bits_ 50 511) HT_.out ?_
              refine pz_ 9 (some 44) (bits_ 50 1023) HT_.out ?_
              refine pz_ 11 (some 46) (bits_ 50 3071) HT_.out ?_
              refine tz_ 10 (some 45) (bits_ 50 4095) HT_.out HW_.out hHeld ?_ (hy := by rintro w' ⟨s0, s1, s2, s3⟩; go_simp; with_reducible rfl)
              refine tz_ 12 (some 47) (bits_ 50 8191) HT_.out HW_.out hHeld ?_ (hy := by rintro w' ⟨s0, s1, s2, s3⟩; go_simp; with_reducible rfl)
              refine pz_ 13 (some 48) (bits_ 50 16383) HT_.out ?_
              refine pz_ 14 (some 49) (bits_ 50 32767) HT_.out ?_
              refine pz_ 15 (some 50) (bits_ 50 65535) HT_.out ?_
              refine pz_ 16 (some 51) (bits_ 50 131071) HT_.out ?_
              refine sz_ 17 (some 52) (bits_ 50 262143) HT_.out ?_
              refine sz_ 18 (some 53) (bits_ 50 524287) HT_.out ?_
              refine sz_ 19 (some 54) (bits_ 50 1048575) HT_.out ?_
              refine sz_ 20 (some 55) (bits_ 50 2097151) HT_.out ?_
              refine sz_ 21 (some 56) (bits_ 50 4194303) HT_.out ?_
              refine sz_ 22 (some 57) (bits_ 50 8388607) HT_.out ?_
              refine sz_ 23 (some 58) (bits_ 50 16777215) HT_.out ?_
              refine sz_ 24 (some 59) (bits_ 50 33554431) HT_.out ?_
              refine sz_ 25 (some 60) (bits_ 50 67108863) HT_.out ?_
              refine sz_ 26 (some 61) (bits_ 50 134217727) HT_.out ?_
              refine sz_ 27 (some 62) (bits_ 50 268435455) HT_.out ?_
              refine sz_ 28 (some 63) (bits_ 50 536870911) HT_.out ?_
              refine sz_ 29 (some 64) (bits_ 50 1073741823) HT_.out ?_
              refine sz_ 30 (some 65) (bits_ 50 2147483647) HT_.out ?_
              refine sz_ 31 (some 66) (bits_ 50 4294967295) HT_.out ?_
              refine sz_ 32 (some 67) (bits_ 50 8589934591) HT_.out ?_
              refine pz_ 33 (some 68) (bits_ 50 17179869183) HT_.out ?_
              refine pz_ 34 (some 69) (bits_ 50 34359738367) HT_.out ?_
              refine sz_ 35 (some 70) (bits_ 50 68719476735) HT_.out ?_
              refine sz_ 36 (some 71) (bits_ 50 137438953471) HT_.out ?_
              refine sz_ 37 (some 72) (bits_ 50 274877906943) HT_.out ?_
              refine sz_ 38 (some 73) (bits_ 50 549755813887) HT_.out ?_
              refine sz_ 39 (some 74) (bits_ 50 1099511627775) HT_.out ?_
              refine sz_ 40 (some 75) (bits_ 50 2199023255551) HT_.out ?_
              refine sz_ 41 (some 76) (bits_ 50 4398046511103) HT_.out ?_
              refine sz_ 42 (some 77) (bits_ 50 8796093022207) HT_.out ?_
              refine sz_ 43 (some 78) (bits_ 50 17592186044415) HT_.out ?_
              refine sz_ 44 (some 79) (bits_ 50 35184372088831) HT_.out ?_
              refine sz_ 45 (some 80) (bits_ 50 70368744177663) HT_.out ?_
              refine sz_ 46 (some 81) (bits_ 50 140737488355327) HT_.out ?_
              refine sz_ 47 (some 82) (bits_ 50 281474976710655) HT_.out ?_
              refine sz_ 48 (some 83) (bits_ 50 562949953421311) HT_.out ?_
              refine pz_ 49 (some 84) (bits_ 50 1125899906842623) HT_.out ?_
              refine done_ (done_of HT_.out (by kernel_rfl)) ?_
              try go_wp2
              go_ret
              exact ⟨er_, hf_⟩
             ·rw [if_neg c25] at H
              have c25b0 : decide ((l0_1.length : Int) ≤ (rd t307 x6_3)) = false := decide_eq_false c25
              clear c25
              by_cases c28 : 0 ≤ (rd t307 x6_3)
              ·rw [if_pos c28] at H
               have c28b0 : decide (0 ≤ (rd t307 x6_3)) = true := decide_eq_true c28
               clear c28
               by_cases c29 : (rd t307 x6_3) < (l0_1.length : Int)
               ·rw [if_pos c29] at H
                have c29b0 : decide ((rd t307 x6_3) < (l0_1.length : Int)) = true := decide_eq_true c29
                clear c29
                by_cases c30 : 0 ≤ x4_2
                ·rw [if_pos c30] at H
                 have c30b0 : decide (0 ≤ x4_2) = true := decide_eq_true c30
                 clear c30
                 by_cases c31 : x4_2 < (l0_1.length : Int)
                 ·rw [if_pos c31] at H
                  have c31b0 : decide (x4_2 < (l0_1.length : Int)) = true := decide_eq_true c31
                  clear c31
                  by_cases c32 : ((rd_T32 l0_1 (rd t307 x6_3)).f2).toList = ((rd_T32 l0_1 x4_2).f0).toList
                  ·rw [if_pos c32] at H
                   have c32b0 : (((rd_T32 l0_1 (rd t307 x6_3)).f2).toList == ((rd_T32 l0_1 x4_2).f0).toList) = true := beq_iff_eq.mpr c32
                   have c32b1 : (((rd_T32 l0_1 (rd t307 x6_3)).f2).toList != ((rd_T32 l0_1 x4_2).f0).toList) = false := bne_eq_false_iff_eq.mpr c32
                   clear c32
                   by_cases c33 : x6_3 > 0
                   ·rw [if_pos c33] at H
                    have c33b0 : decide (0 < x6_3) = true := decide_eq_true c33
                    clear c33
                    obtain ⟨ji34, hji34⟩ : ∃ j_ : Int, (wrap64 (x6_3 - 1)) = j_ := ⟨_, rfl⟩
                    replace H : (if 0 ≤ (ji34) then (if (ji34) < (t307.length : Int) then (if (rd t307 (ji34)) ≥ (rd t307 x6_3) then (some false) else (sentrylaw4_ModelKids.l1 k3 (wrap64 (x3_3 + 1)) x4_2 t307 (wrap64 (x6_3 + 1)) l0_0 l0_1)) else (none)) else (none)) = some r := by first | (rw [hji34] at H; exact H) | (simp only [hji34] at H ⊢; exact H)
                    have hji34w : (IntKind.i64.wrap (x6_3 - 1)) = ji34 := (i64_w _).trans hji34
                    by_cases c35 : 0 ≤ (ji34)
                    ·rw [if_pos c35] at H
                     have c35b0 : decide (0 ≤ (ji34)) = true := decide_eq_true c35
                     clear c35
                     by_cases c36 : (ji34) < (t307.length : Int)
                     ·rw [if_pos c36] at H
                      have c36b0 : decide ((ji34) < (t307.length : Int)) = true := decide_eq_true c36
                      clear c36
                      by_cases c37 : (rd t307 (ji34)) ≥ (rd t307 x6_3)
                      ·rw [if_pos c37] at H
                       have c37b0 : decide ((rd t307 x6_3) ≤ (rd t307 (ji34))) = true := decide_eq_true c37
                       clear c37
                       obtain rfl := Option.some.inj H
                       obtain ⟨Ao38, co38, eo38⟩ := Kd.R_slice HO_5.out
                       subst eo38
                       try go_wp2
                       replace HO_5 := Aside0.mk (Kd.R_drew HO_5.out)
                       replace BK295 := Aside0.mk (blk_drew BK295.out)
                       replace HB := Aside0.mk (below_drew1 HB.out)
                       have p310 : 0 ≤ (x6_3 : Int) := od_
                       have q310 : x6_3 < (t307.length : Int) := od_
                       obtain ⟨ad310, e310, hx310_0⟩ := Kd.at_int (Kd.R_reads' HO_5.out).2.2 x6_3 p310 q310
                       cases e310
                       replace p310 := eq_true p310
                       replace q310 := eq_true q310
                       have p311 : 0 ≤ (x6_3 : Int) := od_
                       have q311 : x6_3 < (t307.length : Int) := od_
                       obtain ⟨ad311, e311, hx311_0⟩ := Kd.at_int (Kd.R_reads' HO_5.out).2.2 x6_3 p311 q311
                       obtain rfl : ad310 = ad311 := (by injection e311)
                       replace p311 := eq_true p311
                       replace q311 := eq_true q311
                       have p312 : 0 ≤ (x6_3 : Int) := od_
                       have q312 : x6_3 < (t307.length : Int) := od_
                       obtain ⟨ad312, e312, hx312_0⟩ := Kd.at_int (Kd.R_reads' HO_5.out).2.2 x6_3 p312 q312
                       obtain rfl : ad310 = ad312 := (by injection e312)
                       replace p312 := eq_true p312
                       replace q312 := eq_true q312
                       have p313 : 0 ≤ ((rd t307 x6_3) : Int) := od_
                       have q313 : (rd t307 x6_3) < (l0_1.length : Int) := od_
                       obtain ⟨ad313, A313_5, c313_5, A313_6, c313_6, e313, hx313_0, hx313_1, hx313_2, hx313_3, hx313_4, hx313_5, hx313_6, hl313_5, hi313_5, hl313_6, hi313_6⟩ := at_T32 HR0_1.out (rd t307 x6_3) p313 q313
                       have hw313_6 := hx313_6
                       have hw313_5 := hx313_5
                       have hw313_4 := hx313_4
                       have hw313_3 := hx313_3
                       have hw313_2 := hx313_2
                       have hw313_1 := hx313_1
                       have hw313_0 := hx313_0
                       obtain rfl : ad306 = ad313 := (by injection e313)
                       replace hx313_0 := rr_ HB hx313_0
                       replace hx313_1 := rr_ HB hx313_1
                       replace hx313_2 := rr_ HB hx313_2
                       replace hx313_3 := rr_ HB hx313_3
                       replace hx313_4 := rr_ HB hx313_4
                       replace hx313_5 := rr_ HB hx313_5
                       replace hx313_6 := rr_ HB hx313_6
                       have HR313_5 := Aside0.mk hi313_5
                       have HC313_5 := Aside0.mk hl313_5
                       clear hi313_5 hl313_5
                       have HR313_6 := Aside0.mk hi313_6
                       have HC313_6 := Aside0.mk hl313_6
                       clear hi313_6 hl313_6
                       replace p313 := eq_true p313
                       replace q313 := eq_true q313
                       have p314 : 0 ≤ (x4_2 : Int) := od_
                       have q314 : x4_2 < (l0_1.length : Int) := od_
                       obtain ⟨ad314, A314_5, c314_5, A314_6, c314_6, e314, hx314_0, hx314_1, hx314_2, hx314_3, hx314_4, hx314_5, hx314_6, hl314_5, hi314_5, hl314_6, hi314_6⟩ := at_T32 HR0_1.out x4_2 p314 q314
                       have hw314_6 := hx314_6
                       have hw314_5 := hx314_5
                       have hw314_4 := hx314_4
                       have hw314_3 := hx314_3
                       have hw314_2 := hx314_2
                       have hw314_1 := hx314_1
                       have hw314_0 := hx314_0
                       obtain rfl : ad306 = ad314 := (by injection e314)
                       replace hx314_0 := rr_ HB hx314_0
                       replace hx314_1 := rr_ HB hx314_1
                       replace hx314_2 := rr_ HB hx314_2
                       replace hx314_3 := rr_ HB hx314_3
                       replace hx314_4 := rr_ HB hx314_4
                       replace hx314_5 := rr_ HB hx314_5
                       replace hx314_6 := rr_ HB hx314_6
                       have HR314_5 := Aside0.mk hi314_5
                       have HC314_5 := Aside0.mk hl314_5
                       clear hi314_5 hl314_5
                       have HR314_6 := Aside0.mk hi314_6
                       have HC314_6 := Aside0.mk hl314_6
                       clear hi314_6 hl314_6
                       replace p314 := eq_true p314
                       replace q314 := eq_true q314
                       have p315 : 0 ≤ ((ji34) : Int) := od_
                       have q315 : (ji34) < (t307.length : Int) := od_
                       obtain ⟨ad315, e315, hx315_0⟩ := Kd.at_int (Kd.R_reads' HO_5.out).2.2 (ji34) p315 q315
                       obtain rfl : ad310 = ad315 := (by injection e315)
                       replace p315 := eq_true p315
                       replace q315 := eq_true q315
                       have p316 : 0 ≤ (x6_3 : Int) := od_
                       have q316 : x6_3 < (t307.length : Int) := od_
                       obtain ⟨ad316, e316, hx316_0⟩ := Kd.at_int (Kd.R_reads' HO_5.out).2.2 x6_3 p316 q316
                       obtain rfl : ad310 = ad316 := (by injection e316)
                       replace p316 := eq_true p316
                       replace q316 := eq_true q316
                       refine start_ (n := 50) (S := fun w' => w'.cell? ⟨gb295, 0, none⟩ = some (.slice A0_0 l0_0.length c0_0) ∧ w'.cell? ⟨gb295, 1, none⟩ = some (.slice (some ad306) l0_1.length c0_1) ∧ w'.cell? (ad310.add (x6_3).toNat) = some (.int .i64 (rd t307 x6_3)) ∧ w'.cell? (ad310.add (x6_3).toNat) = some (.int .i64 (rd t307 x6_3)) ∧ w'.cell? (ad310.add (x6_3).toNat) = some (.int .i64 (rd t307 x6_3)) ∧ w'.cell? (ad306.add (((rd t307 x6_3)).toNat * 7)) = some (.string ((rd_T32 l0_1 (rd t307 x6_3)).f0)) ∧ w'.cell? ⟨(ad306.add (((rd t307 x6_3)).toNat * 7)).block, (ad306.add (((rd t307 x6_3)).toNat * 7)).off + 1, none⟩ = some (.int .i64 ((rd_T32 l0_1 (rd t307 x6_3)).f1)) ∧ w'.cell? ⟨(ad306.add (((rd t307 x6_3)).toNat * 7)).block, (ad306.add (((rd t307 x6_3)).toNat * 7)).off + 2, none⟩ = some (.string ((rd_T32 l0_1 (rd t307 x6_3)).f2)) ∧ w'.cell? ⟨(ad306.add (((rd t307 x6_3)).toNat * 7)).block, (ad306.add (((rd t307 x6_3)).toNat * 7)).off + 3, none⟩ = some (.bool ((rd_T32 l0_1 (rd t307 x6_3)).f3)) ∧ w'.cell? ⟨(ad306.add (((rd t307 x6_3)).toNat * 7)).block, (ad306.add (((rd t307 x6_3)).toNat * 7)).off + 4, none⟩ = some (.int .i64 ((rd_T32 l0_1 (rd t307 x6_3)).f4)) ∧ w'.cell? ⟨(ad306.add (((rd t307 x6_3)).toNat * 7)).block, (ad306.add (((rd t307 x6_3)).toNat * 7)).off + 5, none⟩ = some (.slice A313_5 ((rd_T32 l0_1 (rd t307 x6_3)).f5).length c313_5) ∧ w'.cell? ⟨(ad306.add (((rd t307 x6_3)).toNat * 7)).block, (ad306.add (((rd t307 x6_3)).toNat * 7)).off + 6, none⟩ = some (.slice A313_6 ((rd_T32 l0_1 (rd t307 x6_3)).f6).length c313_6) ∧ w'.cell? (ad306.add ((x4_2).toNat * 7)) = some (.string ((rd_T32 l0_1 x4_2).f0)) ∧ w'.cell? ⟨(ad306.add ((x4_2).toNat * 7)).block, (ad306.add ((x4_2).toNat * 7)).off + 1, none⟩ = some (.int .i64 ((rd_T32 l0_1 x4_2).f1)) ∧ w'.cell? ⟨(ad306.add ((x4_2).toNat * 7)).block, (ad306.add ((x4_2).toNat * 7)).off + 2, none⟩ = some (.string ((rd_T32 l0_1 x4_2).f2)) ∧ w'.cell? ⟨(ad306.add ((x4_2).toNat * 7)).block, (ad306.add ((x4_2).toNat * 7)).off + 3, none⟩ = some (.bool ((rd_T32 l0_1 x4_2).f3)) ∧ w'.cell? ⟨(ad306.add ((x4_2).toNat * 7)).block, (ad306.add ((x4_2).toNat * 7)).off + 4, none⟩ = some (.int .i64 ((rd_T32 l0_1 x4_2).f4)) ∧ w'.cell? ⟨(ad306.add ((x4_2).toNat * 7)).block, (ad306.add ((x4_2).toNat * 7)).off + 5, none⟩ = some (.slice A314_5 ((rd_T32 l0_1 x4_2).f5).length c314_5) ∧ w'.cell? ⟨(ad306.add ((x4_2).toNat * 7)).block, (ad306.add ((x4_2).toNat * 7)).off + 6, none⟩ = some (.slice A314_6 ((rd_T32 l0_1 x4_2).f6).length c314_6) ∧ w'.cell? (ad310.add ((ji34)).toNat) = some (.int .i64 (rd t307 (ji34))) ∧ w'.cell? (ad310.add (x6_3).toNat) = some (.int .i64 (rd t307 x6_3))) (ds := []) #[false, false, false, false, false, false, false, false, false, false, false, false, false, false, false, false, false, false, false, false, false, false, false, false, false, false, false, false, false, false, false, false, false, false, false, false, false, false, false, false, false, false, false, false, false, false, false, false, false, false] (by kernel_rfl) rfl rfl ⟨(bk0_ BK295 :), (bk1_ BK295 :), hx310_0, hx311_0, hx312_0, (rr_ HB hw313_0 :), (rr_ HB hw313_1 :), (rr_ HB hw313_2 :), (rr_ HB hw313_3 :), (rr_ HB hw313_4 :), (rr_ HB hw313_5 :), (rr_ HB hw313_6 :), (rr_ HB hw314_0 :), (rr_ HB hw314_1 :), (rr_ HB hw314_2 :), (rr_ HB hw314_3 :), (rr_ HB hw314_4 :), (rr_ HB hw314_5 :), (rr_ HB hw314_6 :), hx315_0, hx316_0⟩ (fun hHeld => ?_); refine with_tabW sentrylaw4_ModelKids.tab11 sentrylaw4_ModelKids.bits11 (fun HT_ HW_ => ?_)
                       generalize wr.drew = w39 at HO_5 BK295 HB HR313_5 HR313_6 HR314_5 HR314_6 hx310_0 hx311_0 hx312_0 hx313_0 hx313_1 hx313_2 hx313_3 hx313_4 hx313_5 hx313_6 hx314_0 hx314_1 hx314_2 hx314_3 hx314_4 hx314_5 hx314_6 hx315_0 hx316_0 hHeld ⊢
                       refine pz_ 0 (some 35) (bits_ 50 1) HT_.out ?_
                       refine pz_ 1 (some 36) (bits_ 50 3) HT_.out ?_
                       refine pz_ 2 (some 37) (bits_ 50 7) HT_.out ?_
                       refine pz_ 4 (some 39) (bits_ 50 23) HT_.out ?_
                       refine tz_ 3 (some 38) (bits_ 50 31) HT_.out HW_.out hHeld ?_ (hy := by rintro w' ⟨s0, s1, s2, s3, s4, s5, s6, s7, s8, s9, s10, s11, s12, s13, s14, s15, s16, s17, s18, s19, s20⟩; go_simp; with_reducible rfl)
                       refine pz_ 5 (some 40) (bits_ 50 63) HT_.out ?_
                       refine pz_ 6 (some 41) (bits_ 50 127) HT_.out ?_
                       refine pz_ 7 (some 42) (bits_ 50 255) HT_.out ?_
                       refine pz_ 8 (some 43) (bits_ 50 511) HT_.out ?_
                       refine pz_ 9 (some 44) (bits_ 50 1023) HT_.out ?_
                       refine pz_ 11 (some 46) (bits_ 50 3071) HT_.out ?_
                       refine tz_ 10 (some 45) (bits_ 50 4095) HT_.out HW_.out hHeld ?_ (hy := by rintro w' ⟨s0, s1, s2, s3, s4, s5, s6, s7, s8, s9, s10, s11, s12, s13, s14, s15, s16, s17, s18, s19, s20⟩; go_simp; with_reducible rfl)
                       refine tz_ 12 (some 47) (bits_ 50 8191) HT_.out HW_.out hHeld ?_ (hy := by rintro w' ⟨s0, s1, s2, s3, s4, s5, s6, s7, s8, s9, s10, s11, s12, s13, s14, s15, s16, s17, s18, s19, s20⟩; go_simp; with_reducible rfl)
                       refine pz_ 13 (some 48) (bits_ 50 16383) HT_.out ?_
                       refine pz_ 14 (some 49) (bits_ 50 32767) HT_.out ?_
                       refine pz_ 15 (some 50) (bits_ 50 65535) HT_.out ?_
                       refine pz_ 16 (some 51) (bits_ 50 131071) HT_.out ?_
                       refine pz_ 17 (some 52) (bits_ 50 262143) HT_.out ?_
                       refine pz_ 19 (some 54) (bits_ 50 786431) HT_.out ?_
                       refine pz_ 20 (some 55) (bits_ 50 1835007) HT_.out ?_
                       refine pz_ 21 (some 56) (bits_ 50 3932159) HT_.out ?_
                       refine pz_ 26 (some 61) (bits_ 50 71041023) HT_.out ?_
                       refine pz_ 28 (some 63) (bits_ 50 339476479) HT_.out ?_
                       refine tz_ 18 (some 53) (bits_ 50 339738623) HT_.out HW_.out hHeld ?_ (hy := by rintro w' ⟨s0, s1, s2, s3, s4, s5, s6, s7, s8, s9, s10, s11, s12, s13, s14, s15, s16, s17, s18, s19, s20⟩; go_simp; with_reducible rfl)
                       refine tz_ 22 (some 57) (bits_ 50 343932927) HT_.out HW_.out hHeld ?_ (hy := by rintro w' ⟨s0, s1, s2, s3, s4, s5, s6, s7, s8, s9, s10, s11, s12, s13, s14, s15, s16, s17, s18, s19, s20⟩; go_simp; with_reducible rfl)
                       refine pz_ 23 (some 58) (bits_ 50 352321535) HT_.out ?_
                       refine pz_ 24 (some 59) (bits_ 50 369098751) HT_.out ?_
                       refine tz_ 25 (some 60) (bits_ 50 402653183) HT_.out HW_.out hHeld ?_ (hy := by rintro w' ⟨s0, s1, s2, s3, s4, s5, s6, s7, s8, s9, s10, s11, s12, s13, s14, s15, s16, s17, s18, s19, s20⟩; go_simp; with_reducible rfl)
                       refine tz_ 27 (some 62) (bits_ 50 536870911) HT_.out HW_.out hHeld ?_ (hy := by rintro w' ⟨s0, s1, s2, s3, s4, s5, s6, s7, s8, s9, s10, s11, s12, s13, s14, s15, s16, s17, s18, s19, s20⟩; go_simp; with_reducible rfl)
                       refine pz_ 29 (some 64) (bits_ 50 1073741823) HT_.out ?_
                       refine pz_ 30 (some 65) (bits_ 50 2147483647) HT_.out ?_
                       refine tz_ 31 (some 66) (bits_ 50 4294967295) HT_.out HW_.out hHeld ?_ (hy := by rintro w' ⟨s0, s1, s2, s3, s4, s5, s6, s7, s8, s9, s10, s11, s12, s13, s14, s15, s16, s17, s18, s19, s20⟩; go_simp; with_reducible rfl)
                       refine pz_ 32 (some 67) (bits_ 50 8589934591) HT_.out ?_
                       refine pz_ 33 (some 68) (bits_ 50 17179869183) HT_.out ?_
                       refine pz_ 34 (some 69) (bits_ 50 34359738367) HT_.out ?_
                       refine pz_ 35 (some 70) (bits_ 50 68719476735) HT_.out ?_
                       refine pz_ 36 (some 71) (bits_ 50 137438953471) HT_.out ?_
                       refine pz_ 37 (some 72) (bits_ 50 274877906943) HT_.out ?_
                       refine pz_ 38 (some 73) (bits_ 50 549755813887) HT_.out ?_
                       refine pz_ 39 (some 74) (bits_ 50 1099511627775) HT_.out ?_
                       refine pz_ 40 (some 75) (bits_ 50 2199023255551) HT_.out ?_
                       refine pz_ 41 (some 76) (bits_ 50 4398046511103) HT_.out ?_
                       refine pz_ 43 (some 78) (bits_ 50 13194139533311) HT_.out ?_
                       refine pz_ 44 (some 79) (bits_ 50 30786325577727) HT_.out ?_
                       refine pz_ 45 (some 80) (bits_ 50 65970697666559) HT_.out ?_
                       refine tz_ 42 (some 77) (bits_ 50 70368744177663) HT_.out HW_.out hHeld ?_ (hy := by rintro w' ⟨s0, s1, s2, s3, s4, s5, s6, s7, s8, s9, s10, s11, s12, s13, s14, s15, s16, s17, s18, s19, s20⟩; go_simp; with_reducible rfl)
                       refine tz_ 46 (some 81) (bits_ 50 140737488355327) HT_.out HW_.out hHeld ?_ (hy := by rintro w' ⟨s0, s1, s2, s3, s4, s5, s6, s7, s8, s9, s10, s11, s12, s13, s14, s15, s16, s17, s18, s19, s20⟩; go_simp; with_reducible rfl)
                       refine pz_ 47 (some 82) (bits_ 50 281474976710655) HT_.out ?_
                       refine pz_ 48 (some 83) (bits_ 50 562949953421311) HT_.out ?_
                       refine pz_ 49 (some 84) (bits_ 50 1125899906842623) HT_.out ?_
                       refine done_ (done_of HT_.out (by kernel_rfl)) ?_
                       try go_wp2
                       go_ret
                       exact ⟨by first | rfl | (simp [errW_none, errW_some] <;> rfl) | (simp only [← hji34]; first | rfl | (simp [errW_none, errW_some] <;> rfl)) | (simp [*, errW_none, errW_some] <;> rfl), by repeat (first | (with_reducible first | exact HB.out | apply below_alloc | apply pw_below_drewN | apply below_drew1 | refine below_set ?_ GE295.out) | exact HB.out)⟩
                      ·rw [if_neg c37] at H
                       have c37b0 : decide ((rd t307 x6_3) ≤ (rd t307 (ji34))) = false := decide_eq_false c37
                       clear c37
                       have H' := Aside0.mk H
                       clear H
                       obtain ⟨Ao40, co40, eo40⟩ := Kd.R_slice HO_5.out
                       subst eo40
                       try go_wp2
                       replace HO_5 := Aside0.mk (Kd.R_drew HO_5.out)
                       replace BK295 := Aside0.mk (blk_drew BK295.out)
                       replace HB := Aside0.mk (below_drew1 HB.out)
                       have p310 : 0 ≤ (x6_3 : Int) := od_
                       have q310 : x6_3 < (t307.length : Int) := od_
                       obtain ⟨ad310, e310, hx310_0⟩ := Kd.at_int (Kd.R_reads' HO_5.out).2.2 x6_3 p310 q310
                       cases e310
                       replace p310 := eq_true p310
                       replace q310 := eq_true q310
                       have p311 : 0 ≤ (x6_3 : Int) := od_
                       have q311 : x6_3 < (t307.length : Int) := od_
                       obtain ⟨ad311, e311, hx311_0⟩ := Kd.at_int (Kd.R_reads' HO_5.out).2.2 x6_3 p311 q311
                       obtain rfl : ad310 = ad311 := (by injection e311)
                       replace p311 := eq_true p311
                       replace q311 := eq_true q311
                       have p312 : 0 ≤ (x6_3 : Int) := od_
                       have q312 : x6_3 < (t307.length : Int) := od_
                       obtain ⟨ad312, e312, hx312_0⟩ := Kd.at_int (Kd.R_reads' HO_5.out).2.2 x6_3 p312 q312
                       obtain rfl : ad310 = ad312 := (by injection e312)
                       replace p312 := eq_true p312
                       replace q312 := eq_true q312
                       have p313 : 0 ≤ ((rd t307 x6_3) : Int) := od_
                       have q313 : (rd t307 x6_3) < (l0_1.length : Int) := od_
                       obtain ⟨ad313, A313_5, c313_5, A313_6, c313_6, e313, hx313_0, hx313_1, hx313_2, hx313_3, hx313_4, hx313_5, hx313_6, hl313_5, hi313_5, hl313_6, hi313_6⟩ := at_T32 HR0_1.out (rd t307 x6_3) p313 q313
                       have hw313_6 := hx313_6
                       have hw313_5 := hx313_5
                       have hw313_4 := hx313_4
                       have hw313_3 := hx313_3
                       have hw313_2 := hx313_2
                       have hw313_1 := hx313_1
                       have hw313_0 := hx313_0
                       obtain rfl : ad306 = ad313 := (by injection e313)
                       replace hx313_0 := rr_ HB hx313_0
                       replace hx313_1 := rr_ HB hx313_1
                       replace hx313_2 := rr_ HB hx313_2
                       replace hx313_3 := rr_ HB hx313_3
                       replace hx313_4 := rr_ HB hx313_4
                       replace hx313_5 := rr_ HB hx313_5
                       replace hx313_6 := rr_ HB hx313_6
                       have HR313_5 := Aside0.mk hi313_5
                       have HC313_5 := Aside0.mk hl313_5
                       clear hi313_5 hl313_5
                       have HR313_6 := Aside0.mk hi313_6
                       have HC313_6 := Aside0.mk hl313_6
                       clear hi313_6 hl313_6
                       replace p313 := eq_true p313
                       replace q313 := eq_true q313
                       have p314 : 0 ≤ (x4_2 : Int) := od_
                       have q314 : x4_2 < (l0_1.length : Int) := od_
                       obtain ⟨ad314, A314_5, c314_5, A314_6, c314_6, e314, hx314_0, hx314_1, hx314_2, hx314_3, hx314_4, hx314_5, hx314_6, hl314_5, hi314_5, hl314_6, hi314_6⟩ := at_T32 HR0_1.out x4_2 p314 q314
                       have hw314_6 := hx314_6
                       have hw314_5 := hx314_5
                       have hw314_4 := hx314_4
                       have hw314_3 := hx314_3
                       have hw314_2 := hx314_2
                       have hw314_1 := hx314_1
                       have hw314_0 := hx314_0
                       obtain rfl : ad306 = ad314 := (by injection e314)
                       replace hx314_0 := rr_ HB hx314_0
                       replace hx314_1 := rr_ HB hx314_1
                       replace hx314_2 := rr_ HB hx314_2
                       replace hx314_3 := rr_ HB hx314_3
                       replace hx314_4 := rr_ HB hx314_4
                       replace hx314_5 := rr_ HB hx314_5
                       replace hx314_6 := rr_ HB hx314_6
                       have HR314_5 := Aside0.mk hi314_5
                       have HC314_5 := Aside0.mk hl314_5
                       clear hi314_5 hl314_5
                       have HR314_6 := Aside0.mk hi314_6
                       have HC314_6 := Aside0.mk hl314_6
                       clear hi314_6 hl314_6
                       replace p314 := eq_true p314
                       replace q314 := eq_true q314
                       have p315 : 0 ≤ ((ji34) : Int) := od_
                       have q315 : (ji34) < (t307.length : Int) := od_
                       obtain ⟨ad315, e315, hx315_0⟩ := Kd.at_int (Kd.R_reads' HO_5.out).2.2 (ji34) p315 q315
                       obtain rfl : ad310 = ad315 := (by injection e315)
                       replace p315 := eq_true p315
                       replace q315 := eq_true q315
                       have p316 : 0 ≤ (x6_3 : Int) := od_
                       have q316 : x6_3 < (t307.length : Int) := od_
                       obtain ⟨ad316, e316, hx316_0⟩ := Kd.at_int (Kd.R_reads' HO_5.out).2.2 x6_3 p316 q316
                       obtain rfl : ad310 = ad316 := (by injection e316)
                       replace p316 := eq_true p316
                       replace q316 := eq_true q316
                       refine start_ (n := 50) (S := fun w' => w'.cell? ⟨gb295, 0, none⟩ = some (.slice A0_0 l0_0.length c0_0) ∧ w'.cell? ⟨gb295, 1, none⟩ = some (.slice (some ad306) l0_1.length c0_1) ∧ w'.cell? (ad310.add (x6_3).toNat) = some (.int .i64 (rd t307 x6_3)) ∧ w'.cell? (ad310.add (x6_3).toNat) = some (.int .i64 (rd t307 x6_3)) ∧ w'.cell? (ad310.add (x6_3).toNat) = some (.int .i64 (rd t307 x6_3)) ∧ w'.cell? (ad306.add (((rd t307 x6_3)).toNat * 7)) = some (.string ((rd_T32 l0_1 (rd t307 x6_3)).f0)) ∧ w'.cell? ⟨(ad306.add (((rd t307 x6_3)).toNat * 7)).block, (ad306.add (((rd t307 x6_3)).toNat * 7)).off + 1, none⟩ = some (.int .i64 ((rd_T32 l0_1 (rd t307 x6_3)).f1)) ∧ w'.cell? ⟨(ad306.add (((rd t307 x6_3)).toNat * 7)).block, (ad306.add (((rd t307 x6_3)).toNat * 7)).off + 2, none⟩ = some (.string ((rd_T32 l0_1 (rd t307 x6_3)).f2)) ∧ w'.cell? ⟨(ad306.add (((rd t307 x6_3)).toNat * 7)).block, (ad306.add (((rd t307 x6_3)).toNat * 7)).off + 3, none⟩ = some (.bool ((rd_T32 l0_1 (rd t307 x6_3)).f3)) ∧ w'.cell? ⟨(ad306.add (((rd t307 x6_3)).toNat * 7)).block, (ad306.add (((rd t307 x6_3)).toNat * 7)).off + 4, none⟩ = some (.int .i64 ((rd_T32 l0_1 (rd t307 x6_3)).f4)) ∧ w'.cell? ⟨(ad306.add (((rd t307 x6_3)).toNat * 7)).block, (ad306.add (((rd t307 x6_3)).toNat * 7)).off + 5, none⟩ = some (.slice A313_5 ((rd_T32 l0_1 (rd t307 x6_3)).f5).length c313_5) ∧ w'.cell? ⟨(ad306.add (((rd t307 x6_3)).toNat * 7)).block, (ad306.add (((rd t307 x6_3)).toNat * 7)).off + 6, none⟩ = some (.slice A313_6 ((rd_T32 l0_1 (rd t307 x6_3)).f6).length c313_6) ∧ w'.cell? (ad306.add ((x4_2).toNat * 7)) = some (.string ((rd_T32 l0_1 x4_2).f0)) ∧ w'.cell? ⟨(ad306.add ((x4_2).toNat * 7)).block, (ad306.add ((x4_2).toNat * 7)).off + 1, none⟩ = some (.int .i64 ((rd_T32 l0_1 x4_2).f1)) ∧ w'.cell? ⟨(ad306.add ((x4_2).toNat * 7)).block, (ad306.add ((x4_2).toNat * 7)).off + 2, none⟩ = some (.string ((rd_T32 l0_1 x4_2).f2)) ∧ w'.cell? ⟨(ad306.add ((x4_2).toNat * 7)).block, (ad306.add ((x4_2).toNat * 7)).off + 3, none⟩ = some (.bool ((rd_T32 l0_1 x4_2).f3)) ∧ w'.cell? ⟨(ad306.add ((x4_2).toNat * 7)).block, (ad306.add ((x4_2).toNat * 7)).off + 4, none⟩ = some (.int .i64 ((rd_T32 l0_1 x4_2).f4)) ∧ w'.cell? ⟨(ad306.add ((x4_2).toNat * 7)).block, (ad306.add ((x4_2).toNat * 7)).off + 5, none⟩ = some (.slice A314_5 ((rd_T32 l0_1 x4_2).f5).length c314_5) ∧ w'.cell? ⟨(ad306.add ((x4_2).toNat * 7)).block, (ad306.add ((x4_2).toNat * 7)).off + 6, none⟩ = some (.slice A314_6 ((rd_T32 l0_1 x4_2).f6).length c314_6) ∧ w'.cell? (ad310.add ((ji34)).toNat) = some (.int .i64 (rd t307 (ji34))) ∧ w'.cell? (ad310.add (x6_3).toNat) = some (.int .i64 (rd t307 x6_3))) (ds := []) #[false, false, false, false, false, false, false, false, false, false, false, false, false, false, false, false, false, false, false, false, false, false, false, false, false, false, false, false, false, false, false, false, false, false, false, false, false, false, false, false, false, false, false, false, false, false, false, false, false, false] (by kernel_rfl) rfl rfl ⟨(bk0_ BK295 :), (bk1_ BK295 :), hx310_0, hx311_0, hx312_0, (rr_ HB hw313_0 :), (rr_ HB hw313_1 :), (rr_ HB hw313_2 :), (rr_ HB hw313_3 :), (rr_ HB hw313_4 :), (rr_ HB hw313_5 :), (rr_ HB hw313_6 :), (rr_ HB hw314_0 :), (rr_ HB hw314_1 :), (rr_ HB hw314_2 :), (rr_ HB hw314_3 :), (rr_ HB hw314_4 :), (rr_ HB hw314_5 :), (rr_ HB hw314_6 :), hx315_0, hx316_0⟩ (fun hHeld => ?_); refine with_tabW sentrylaw4_ModelKids.tab11 sentrylaw4_ModelKids.bits11 (fun HT_ HW_ => ?_)
                       generalize wr.drew = w41 at HO_5 BK295 HB HR313_5 HR313_6 HR314_5 HR314_6 hx310_0 hx311_0 hx312_0 hx313_0 hx313_1 hx313_2 hx313_3 hx313_4 hx313_5 hx313_6 hx314_0 hx314_1 hx314_2 hx314_3 hx314_4 hx314_5 hx314_6 hx315_0 hx316_0 hHeld ⊢
                       refine pz_ 0 (some 35) (bits_ 50 1) HT_.out ?_
                       refine pz_ 1 (some 36) (bits_ 50 3) HT_.out ?_
                       refine pz_ 2 (some 37) (bits_ 50 7) HT_.out ?_
                       refine pz_ 4 (some 39) (bits_ 50 23) HT_.out ?_
                       refine tz_ 3 (some 38) (bits_ 50 31) HT_.out HW_.out hHeld ?_ (hy := by rintro w' ⟨s0, s1, s2, s3, s4, s5, s6, s7, s8, s9, s10, s11, s12, s13, s14, s15, s16, s17, s18, s19, s20⟩; go_simp; with_reducible rfl)
                       refine pz_ 5 (some 40) (bits_ 50 63) HT_.out ?_
                       refine pz_ 6 (some 41) (bits_ 50 127) HT_.out ?_
                       refine pz_ 7 (some 42) (bits_ 50 255) HT_.out ?_
                       refine pz_ 8 (some 43) (bits_ 50 511) HT_.out ?_
                       refine pz_ 9 (some 44) (bits_ 50 1023) HT_.out ?_
                       refine pz_ 11 (some 46) (bits_ 50 3071) HT_.out ?_
                       refine tz_ 10 (some 45) (bits_ 50 4095) HT_.out HW_.out hHeld ?_ (hy := by rintro w' ⟨s0, s1, s2, s3, s4, s5, s6, s7, s8, s9, s10, s11, s12, s13, s14, s15, s16, s17, s18, s19, s20⟩; go_simp; with_reducible rfl)
                       refine tz_ 12 (some 47) (bits_ 50 8191) HT_.out HW_.out hHeld ?_ (hy := by rintro w' ⟨s0, s1, s2, s3, s4, s5, s6, s7, s8, s9, s10, s11, s12, s13, s14, s15, s16, s17, s18, s19, s20⟩; go_simp; with_reducible rfl)
                       refine pz_ 13 (some 48) (bits_ 50 16383) HT_.out ?_
                       refine pz_ 14 (some 49) (bits_ 50 32767) HT_.out ?_
                       refine pz_ 15 (some 50) (bits_ 50 65535) HT_.out ?_
                       refine pz_ 16 (some 51) (bits_ 50 131071) HT_.out ?_
                       refine pz_ 17 (some 52) (bits_ 50 262143) HT_.out ?_
                       refine pz_ 19 (some 54) (bits_ 50 786431) HT_.out ?_
                       refine pz_ 20 (some 55) (bits_ 50 1835007) HT_.out ?_
                       refine pz_ 21 (some 56) (bits_ 50 3932159) HT_.out ?_
                       refine pz_ 26 (some 61) (bits_ 50 71041023) HT_.out ?_
                       refine pz_ 28 (some 63) (bits_ 50 339476479) HT_.out ?_
                       refine tz_ 18 (some 53) (bits_ 50 339738623) HT_.out HW_.out hHeld ?_ (hy := by rintro w' ⟨s0, s1, s2, s3, s4, s5, s6, s7, s8, s9, s10, s11, s12, s13, s14, s15, s16, s17, s18, s19, s20⟩; go_simp; with_reducible rfl)
                       refine tz_ 22 (some 57) (bits_ 50 343932927) HT_.out HW_.out hHeld ?_ (hy := by rintro w' ⟨s0, s1, s2, s3, s4, s5, s6, s7, s8, s9, s10, s11, s12, s13, s14, s15, s16, s17, s18, s19, s20⟩; go_simp; with_reducible rfl)
                       refine pz_ 23 (some 58) (bits_ 50 352321535) HT_.out ?_
                       refine pz_ 24 (some 59) (bits_ 50 369098751) HT_.out ?_
                       refine tz_ 25 (some 60) (bits_ 50 402653183) HT_.out HW_.out hHeld ?_ (hy := by rintro w' ⟨s0, s1, s2, s3, s4, s5, s6, s7, s8, s9, s10, s11, s12, s13, s14, s15, s16, s17, s18, s19, s20⟩; go_simp; with_reducible rfl)
                       refine tz_ 27 (some 62) (bits_ 50 536870911) HT_.out HW_.out hHeld ?_ (hy := by rintro w' ⟨s0, s1, s2, s3, s4, s5, s6, s7, s8, s9, s10, s11, s12, s13, s14, s15, s16, s17, s18, s19, s20⟩; go_simp; with_reducible rfl)
                       refine pz_ 29 (some 64) (bits_ 50 1073741823) HT_.out ?_
                       refine pz_ 30 (some 65) (bits_ 50 2147483647) HT_.out ?_
                       refine tz_ 31 (some 66) (bits_ 50 4294967295) HT_.out HW_.out hHeld ?_ (hy := by rintro w' ⟨s0, s1, s2, s3, s4, s5, s6, s7, s8, s9, s10, s11, s12, s13, s14, s15, s16, s17, s18, s19, s20⟩; go_simp; with_reducible rfl)
                       refine pz_ 32 (some 67) (bits_ 50 8589934591) HT_.out ?_
                       refine pz_ 33 (some 68) (bits_ 50 17179869183) HT_.out ?_
                       refine pz_ 34 (some 69) (bits_ 50 34359738367) HT_.out ?_
                       refine pz_ 35 (some 70) (bits_ 50 68719476735) HT_.out ?_
                       refine pz_ 36 (some 71) (bits_ 50 137438953471) HT_.out ?_
                       refine pz_ 37 (some 72) (bits_ 50 274877906943) HT_.out ?_
                       refine pz_ 38 (some 73) (bits_ 50 549755813887) HT_.out ?_
                       refine pz_ 39 (some 74) (bits_ 50 1099511627775) HT_.out ?_
                       refine pz_ 40 (some 75) (bits_ 50 2199023255551) HT_.out ?_
                       refine pz_ 41 (some 76) (bits_ 50 4398046511103) HT_.out ?_
                       refine pz_ 43 (some 78) (bits_ 50 13194139533311) HT_.out ?_
                       refine pz_ 44 (some 79) (bits_ 50 30786325577727) HT_.out ?_
                       refine pz_ 45 (some 80) (bits_ 50 65970697666559) HT_.out ?_
                       refine tz_ 42 (some 77) (bits_ 50 70368744177663) HT_.out HW_.out hHeld ?_ (hy := by rintro w' ⟨s0, s1, s2, s3, s4, s5, s6, s7, s8, s9, s10, s11, s12, s13, s14, s15, s16, s17, s18, s19, s20⟩; go_simp; with_reducible rfl)
                       refine tz_ 46 (some 81) (bits_ 50 140737488355327) HT_.out HW_.out hHeld ?_ (hy := by rintro w' ⟨s0, s1, s2, s3, s4, s5, s6, s7, s8, s9, s10, s11, s12, s13, s14, s15, s16, s17, s18, s19, s20⟩; go_simp; with_reducible rfl)
                       refine pz_ 47 (some 82) (bits_ 50 281474976710655) HT_.out ?_
                       refine pz_ 48 (some 83) (bits_ 50 562949953421311) HT_.out ?_
                       refine pz_ 49 (some 84) (bits_ 50 1125899906842623) HT_.out ?_
                       refine done_ (done_of HT_.out (by kernel_rfl)) ?_
                       try go_wp2
                       go_roundg k3
                       case measure => have := HJ1.out; have := HK2.out; have := HK3.out; omega
                       case rel => exact ⟨(wrap64 (x3_3 + 1)), (wrap64 (x6_3 + 1)), (by first | rfl | (simp; done) | (simp [*]; done)), (by first | rfl | (simp; done) | (simp [*]; done)), H', ⟨by have := HJ1.out; have := HK2.out; have := HK3.out; omega⟩, ⟨by (with_reducible repeat (first | apply Kd.R_alloc | apply Kd.R_drewN | apply Kd.R_drew)); exact HO_5.out⟩, ⟨gx_ BK295⟩, ⟨hf_⟩⟩
                     ·rw [if_neg c36] at H
                      exact absurd H (by simp)
                    ·rw [if_neg c35] at H
                     exact absurd H (by simp)
                   ·rw [if_neg c33] at H
                    have c33b0 : decide (0 < x6_3) = false := decide_eq_false c33
                    clear c33
                    have H' := Aside0.mk H
                    clear H
                    obtain ⟨Ao42, co42, eo42⟩ := Kd.R_slice HO_5.out
                    subst eo42
                    try go_wp2
                    replace HO_5 := Aside0.mk (Kd.R_drew HO_5.out)
                    replace BK295 := Aside0.mk (blk_drew BK295.out)
                    replace HB := Aside0.mk (below_drew1 HB.out)
                    have p310 : 0 ≤ (x6_3 : Int) := od_
                    have q310 : x6_3 < (t307.length : Int) := od_
                    obtain ⟨ad310, e310, hx310_0⟩ := Kd.at_int (Kd.R_reads' HO_5.out).2.2 x6_3 p310 q310
                    cases e310
                    replace p310 := eq_true p310
                    replace q310 := eq_true q310
                    have p311 : 0 ≤ (x6_3 : Int) := od_
                    have q311 : x6_3 < (t307.length : Int) := od_
                    obtain ⟨ad311, e311, hx311_0⟩ := Kd.at_int (Kd.R_reads' HO_5.out).2.2 x6_3 p311 q311
                    obtain rfl : ad310 = ad311 := (by injection e311)
                    replace p311 := eq_true p311
                    replace q311 := eq_true q311
                    have p312 : 0 ≤ (x6_3 : Int) := od_
                    have q312 : x6_3 < (t307.length : Int) := od_
                    obtain ⟨ad312, e312, hx312_0⟩ := Kd.at_int (Kd.R_reads' HO_5.out).2.2 x6_3 p312 q312
                    obtain rfl : ad310 = ad312 := (by injection e312)
                    replace p312 := eq_true p312
                    replace q312 := eq_true q312
                    have p313 : 0 ≤ ((rd t307 x6_3) : Int) := od_
                    have q313 : (rd t307 x6_3) < (l0_1.length : Int) := od_
                    obtain ⟨ad313, A313_5, c313_5, A313_6, c313_6, e313, hx313_0, hx313_1, hx313_2, hx313_3, hx313_4, hx313_5, hx313_6, hl313_5, hi313_5, hl313_6, hi313_6⟩ := at_T32 HR0_1.out (rd t307 x6_3) p313 q313
                    have hw313_6 := hx313_6
                    have hw313_5 := hx313_5
                    have hw313_4 := hx313_4
                    have hw313_3 := hx313_3
                    have hw313_2 := hx313_2
                    have hw313_1 := hx313_1
                    have hw313_0 := hx313_0
                    obtain rfl : ad306 = ad313 := (by injection e313)
                    replace hx313_0 := rr_ HB hx313_0
                    replace hx313_1 := rr_ HB hx313_1
                    replace hx313_2 := rr_ HB hx313_2
                    replace hx313_3 := rr_ HB hx313_3
                    replace hx313_4 := rr_ HB hx313_4
                    replace hx313_5 := rr_ HB hx313_5
                    replace hx313_6 := rr_ HB hx313_6
                    have HR313_5 := Aside0.mk hi313_5
                    have HC313_5 := Aside0.mk hl313_5
                    clear hi313_5 hl313_5
                    have HR313_6 := Aside0.mk hi313_6
                    have HC313_6 := Aside0.mk hl313_6
                    clear hi313_6 hl313_6
                    replace p313 := eq_true p313
                    replace q313 := eq_true q313
                    have p314 : 0 ≤ (x4_2 : Int) := od_
                    have q314 : x4_2 < (l0_1.length : Int) := od_
                    obtain ⟨ad314, A314_5, c314_5, A314_6, c314_6, e314, hx314_0, hx314_1, hx314_2, hx314_3, hx314_4, hx314_5, hx314_6, hl314_5, hi314_5, hl314_6, hi314_6⟩ := at_T32 HR0_1.out x4_2 p314 q314
                    have hw314_6 := hx314_6
                    have hw314_5 := hx314_5
                    have hw314_4 := hx314_4
                    have hw314_3 := hx314_3
                    have hw314_2 := hx314_2
                    have hw314_1 := hx314_1
                    have hw314_0 := hx314_0
                    obtain rfl : ad306 = ad314 := (by injection e314)
                    replace hx314_0 := rr_ HB hx314_0
                    replace hx314_1 := rr_ HB hx314_1
                    replace hx314_2 := rr_ HB hx314_2
                    replace hx314_3 := rr_ HB hx314_3
                    replace hx314_4 := rr_ HB hx314_4
                    replace hx314_5 := rr_ HB hx314_5
                    replace hx314_6 := rr_ HB hx314_6
                    have HR314_5 := Aside0.mk hi314_5
                    have HC314_5 := Aside0.mk hl314_5
                    clear hi314_5 hl314_5
                    have HR314_6 := Aside0.mk hi314_6
                    have HC314_6 := Aside0.mk hl314_6
                    clear hi314_6 hl314_6
                    replace p314 := eq_true p314
                    replace q314 := eq_true q314
                    refine start_ (n := 50) (S := fun w' => w'.cell? ⟨gb295, 0, none⟩ = some (.slice A0_0 l0_0.length c0_0) ∧ w'.cell? ⟨gb295, 1, none⟩ = some (.slice (some ad306) l0_1.length c0_1) ∧ w'.cell? (ad310.add (x6_3).toNat) = some (.int .i64 (rd t307 x6_3)) ∧ w'.cell? (ad310.add (x6_3).toNat) = some (.int .i64 (rd t307 x6_3)) ∧ w'.cell? (ad310.add (x6_3).toNat) = some (.int .i64 (rd t307 x6_3)) ∧ w'.cell? (ad306.add (((rd t307 x6_3)).toNat * 7)) = some (.string ((rd_T32 l0_1 (rd t307 x6_3)).f0)) ∧ w'.cell? ⟨(ad306.add (((rd t307 x6_3)).toNat * 7)).block, (ad306.add (((rd t307 x6_3)).toNat * 7)).off + 1, none⟩ = some (.int .i64 ((rd_T32 l0_1 (rd t307 x6_3)).f1)) ∧ w'.cell? ⟨(ad306.add (((rd t307 x6_3)).toNat * 7)).block, (ad306.add (((rd t307 x6_3)).toNat * 7)).off + 2, none⟩ = some (.string ((rd_T32 l0_1 (rd t307 x6_3)).f2)) ∧ w'.cell? ⟨(ad306.add (((rd t307 x6_3)).toNat * 7)).block, (ad306.add (((rd t307 x6_3)).toNat * 7)).off + 3, none⟩ = some (.bool ((rd_T32 l0_1 (rd t307 x6_3)).f3)) ∧ w'.cell? ⟨(ad306.add (((rd t307 x6_3)).toNat * 7)).block, (ad306.add (((rd t307 x6_3)).toNat * 7)).off + 4, none⟩ = some (.int .i64 ((rd_T32 l0_1 (rd t307 x6_3)).f4)) ∧ w'.cell? ⟨(ad306.add (((rd t307 x6_3)).toNat * 7)).block, (ad306.add (((rd t307 x6_3)).toNat * 7)).off + 5, none⟩ = some (.slice A313_5 ((rd_T32 l0_1 (rd t307 x6_3)).f5).length c313_5) ∧ w'.cell? ⟨(ad306.add (((rd t307 x6_3)).toNat * 7)).block, (ad306.add (((rd t307 x6_3)).toNat * 7)).off + 6, none⟩ = some (.slice A313_6 ((rd_T32 l0_1 (rd t307 x6_3)).f6).length c313_6) ∧ w'.cell? (ad306.add ((x4_2).toNat * 7)) = some (.string ((rd_T32 l0_1 x4_2).f0)) ∧ w'.cell? ⟨(ad306.add ((x4_2).toNat * 7)).block, (ad306.add ((x4_2).toNat * 7)).off + 1, none⟩ = some (.int .i64 ((rd_T32 l0_1 x4_2).f1)) ∧ w'.cell? ⟨(ad306.add ((x4_2).toNat * 7)).block, (ad306.add ((x4_2).toNat * 7)).off + 2, none⟩ = some (.string ((rd_T32 l0_1 x4_2).f2)) ∧ w'.cell? ⟨(ad306.add ((x4_2).toNat * 7)).block, (ad306.add ((x4_2).toNat * 7)).off + 3, none⟩ = some (.bool ((rd_T32 l0_1 x4_2).f3)) ∧ w'.cell? ⟨(ad306.add ((x4_2).toNat * 7)).block, (ad306.add ((x4_2).toNat * 7)).off + 4, none⟩ = some (.int .i64 ((rd_T32 l0_1 x4_2).f4)) ∧ w'.cell? ⟨(ad306.add ((x4_2).toNat * 7)).block, (ad306.add ((x4_2).toNat * 7)).off + 5, none⟩ = some (.slice A314_5 ((rd_T32 l0_1 x4_2).f5).length c314_5) ∧ w'.cell? ⟨(ad306.add ((x4_2).toNat * 7)).block, (ad306.add ((x4_2).toNat * 7)).off + 6, none⟩ = some (.slice A314_6 ((rd_T32 l0_1 x4_2).f6).length c314_6)) (ds := []) #[false, false, false, false, false, false, false, false, false, false, false, false, false, false, false, false, false, false, false, false, false, false, false, false, false, false, false, false, false, false, false, false, false, false, false, false, false, false, false, false, false, false, false, false, false, false, false, false, false, false] (by kernel_rfl) rfl rfl ⟨(bk0_ BK295 :), (bk1_ BK295 :), hx310_0, hx311_0, hx312_0, (rr_ HB hw313_0 :), (rr_ HB hw313_1 :), (rr_ HB hw313_2 :), (rr_ HB hw313_3 :), (rr_ HB hw313_4 :), (rr_ HB hw313_5 :), (rr_ HB hw313_6 :), (rr_ HB hw314_0 :), (rr_ HB hw314_1 :), (rr_ HB hw314_2 :), (rr_ HB hw314_3 :), (rr_ HB hw314_4 :), (rr_ HB hw314_5 :), (rr_ HB hw314_6 :)⟩ (fun hHeld => ?_); refine with_tabW sentrylaw4_ModelKids.tab11 sentrylaw4_ModelKids.bits11 (fun HT_ HW_ => ?_)
                    generalize wr.drew = w43 at HO_5 BK295 HB HR313_5 HR313_6 HR314_5 HR314_6 hx310_0 hx311_0 hx312_0 hx313_0 hx313_1 hx313_2 hx313_3 hx313_4 hx313_5 hx313_6 hx314_0 hx314_1 hx314_2 hx314_3 hx314_4 hx314_5 hx314_6 hHeld ⊢
                    refine pz_ 0 (some 35) (bits_ 50 1) HT_.out ?_
                    refine pz_ 1 (some 36) (bits_ 50 3) HT_.out ?_
                    refine pz_ 2 (some 37) (bits_ 50 7) HT_.out ?_
                    refine pz_ 4 (some 39) (bits_ 50 23) HT_.out ?_
                    refine tz_ 3 (some 38) (bits_ 50 31) HT_.out HW_.out hHeld ?_ (hy := by rintro w' ⟨s0, s1, s2, s3, s4, s5, s6, s7, s8, s9, s10, s11, s12, s13, s14, s15, s16, s17, s18⟩; go_simp; with_reducible rfl)
                    refine pz_ 5 (some 40) (bits_ 50 63) HT_.out ?_
                    refine pz_ 6 (some 41) (bits_ 50 127) HT_.out ?_
                    refine pz_ 7 (some 42) (bits_ 50 255) HT_.out ?_
                    refine pz_ 8 (some 43) (bits_ 50 511) HT_.out ?_
                    refine pz_ 9 (some 44) (bits_ 50 1023) HT_.out ?_
                    refine pz_ 11 (some 46) (bits_ 50 3071) HT_.out ?_
                    refine tz_ 10 (some 45) (bits_ 50 4095) HT_.out HW_.out hHeld ?_ (hy := by rintro w' ⟨s0, s1, s2, s3, s4, s5, s6, s7, s8, s9, s10, s11, s12, s13, s14, s15, s16, s17, s18⟩; go_simp; with_reducible rfl)
                    refine tz_ 12 (some 47) (bits_ 50 8191) HT_.out HW_.out hHeld ?_ (hy := by rintro w' ⟨s0, s1, s2, s3, s4, s5, s6, s7, s8, s9, s10, s11, s12, s13, s14, s15, s16, s17, s18⟩; go_simp; with_reducible rfl)
                    refine pz_ 13 (some 48) (bits_ 50 16383) HT_.out ?_
                    refine pz_ 14 (some 49) (bits_ 50 32767) HT_.out ?_
                    refine pz_ 15 (some 50) (bits_ 50 65535) HT_.out ?_
                    refine pz_ 16 (some 51) (bits_ 50 131071) HT_.out ?_
                    refine pz_ 17 (some 52) (bits_ 50 262143) HT_.out ?_
                    refine pz_ 19 (some 54) (bits_ 50 786431) HT_.out ?_
                    refine pz_ 20 (some 55) (bits_ 50 1835007) HT_.out ?_
                    refine pz_ 21 (some 56) (bits_ 50 3932159) HT_.out ?_
                    refine pz_ 26 (some 61) (bits_ 50 71041023) HT_.out ?_
                    refine pz_ 28 (some 63) (bits_ 50 339476479) HT_.out ?_
                    refine tz_ 18 (some 53) (bits_ 50 339738623) HT_.out HW_.out hHeld ?_ (hy := by rintro w' ⟨s0, s1, s2, s3, s4, s5, s6, s7, s8, s9, s10, s11, s12, s13, s14, s15, s16, s17, s18⟩; go_simp; with_reducible rfl)
                    refine tz_ 22 (some 57) (bits_ 50 343932927) HT_.out HW_.out hHeld ?_ (hy := by rintro w' ⟨s0, s1, s2, s3, s4, s5, s6, s7, s8, s9, s10, s11, s12, s13, s14, s15, s16, s17, s18⟩; go_simp; with_reducible rfl)
                    refine pz_ 23 (some 58) (bits_ 50 352321535) HT_.out ?_
                    refine pz_ 24 (some 59) (bits_ 50 369098751) HT_.out ?_
                    refine tz_ 25 (some 60) (bits_ 50 402653183) HT_.out HW_.out hHeld ?_ (hy := by rintro w' ⟨s0, s1, s2, s3, s4, s5, s6, s7, s8, s9, s10, s11, s12, s13, s14, s15, s16, s17, s18⟩; go_simp; with_reducible rfl)
                    refine tz_ 27 (some 62) (bits_ 50 536870911) HT_.out HW_.out hHeld ?_ (hy := by rintro w' ⟨s0, s1, s2, s3, s4, s5, s6, s7, s8, s9, s10, s11, s12, s13, s14, s15, s16, s17, s18⟩; go_simp; with_reducible rfl)
                    refine pz_ 29 (some 64) (bits_ 50 1073741823) HT_.out ?_
                    refine pz_ 30 (some 65) (bits_ 50 2147483647) HT_.out ?_
                    refine tz_ 31 (some 66) (bits_ 50 4294967295) HT_.out HW_.out hHeld ?_ (hy := by rintro w' ⟨s0, s1, s2, s3, s4, s5, s6, s7, s8, s9, s10, s11, s12, s13, s14, s15, s16, s17, s18⟩; go_simp; with_reducible rfl)
                    refine pz_ 32 (some 67) (bits_ 50 8589934591) HT_.out ?_
                    refine pz_ 33 (some 68) (bits_ 50 17179869183) HT_.out ?_
                    refine pz_ 34 (some 69) (bits_ 50 34359738367) HT_.out ?_
                    refine pz_ 35 (some 70) (bits_ 50 68719476735) HT_.out ?_
                    refine pz_ 36 (some 71) (bits_ 50 137438953471) HT_.out ?_
                    refine pz_ 37 (some 72) (bits_ 50 274877906943) HT_.out ?_
                    refine sz_ 38 (some 73) (bits_ 50 549755813887) HT_.out ?_
                    refine sz_ 39 (some 74) (bits_ 50 1099511627775) HT_.out ?_
                    refine sz_ 40 (some 75) (bits_ 50 2199023255551) HT_.out ?_
                    refine sz_ 41 (some 76) (bits_ 50 4398046511103) HT_.out ?_
                    refine sz_ 42 (some 77) (bits_ 50 8796093022207) HT_.out ?_
                    refine sz_ 43 (some 78) (bits_ 50 17592186044415) HT_.out ?_
                    refine sz_ 44 (some 79) (bits_ 50 35184372088831) HT_.out ?_
                    refine sz_ 45 (some 80) (bits_ 50 70368744177663) HT_.out ?_
                    refine sz_ 46 (some 81) (bits_ 50 140737488355327) HT_.out ?_
                    refine sz_ 47 (some 82) (bits_ 50 281474976710655) HT_.out ?_
                    refine pz_ 48 (some 83) (bits_ 50 562949953421311) HT_.out ?_
                    refine pz_ 49 (some 84) (bits_ 50 1125899906842623) HT_.out ?_
                    refine done_ (done_of HT_.out (by kernel_rfl)) ?_
                    try go_wp2
                    go_roundg k3
                    case measure => have := HJ1.out; have := HK2.out; have := HK3.out; omega
                    case rel => exact ⟨(wrap64 (x3_3 + 1)), (wrap64 (x6_3 + 1)), (by first | rfl | (simp; done) | (simp [*]; done)), (by first | rfl | (simp; done) | (simp [*]; done)), H', ⟨by have := HJ1.out; have := HK2.out; have := HK3.out; omega⟩, ⟨by (with_reducible repeat (first | apply Kd.R_alloc | apply Kd.R_drewN | apply Kd.R_drew)); exact HO_5.out⟩, ⟨gx_ BK295⟩, ⟨hf_⟩⟩
                  ·rw [if_neg c32] at H
                   have c32b0 : (((rd_T32 l0_1 (rd t307 x6_3)).f2).toList == ((rd_T32 l0_1 x4_2).f0).toList) = false := beq_eq_false_iff_ne.mpr c32
                   have c32b1 : (((rd_T32 l0_1 (rd t307 x6_3)).f2).toList != ((rd_T32 l0_1 x4_2).f0).toList) = true := bne_iff_ne.mpr c32
                   obtain rfl := Option.some.inj H
                   obtain ⟨Ao44, co44, eo44⟩ := Kd.R_slice HO_5.out
                   subst eo44
                   try go_wp2
                   replace HO_5 := Aside0.mk (Kd.R_drew HO_5.out)
                   replace BK295 := Aside0.mk (blk_drew BK295.out)
                   replace HB := Aside0.mk (below_drew1 HB.out)
                   have p310 : 0 ≤ (x6_3 : Int) := od_
                   have q310 : x6_3 < (t307.length : Int) := od_
                   obtain ⟨ad310, e310, hx310_0⟩ := Kd.at_int (Kd.R_reads' HO_5.out).2.2 x6_3 p310 q310
                   cases e310
                   replace p310 := eq_true p310
                   replace q310 := eq_true q310
                   have p311 : 0 ≤ (x6_3 : Int) := od_
                   have q311 : x6_3 < (t307.length : Int) := od_
                   obtain ⟨ad311, e311, hx311_0⟩ := Kd.at_int (Kd.R_reads' HO_5.out).2.2 x6_3 p311 q311
                   obtain rfl : ad310 = ad311 := (by injection e311)
                   replace p311 := eq_true p311
                   replace q311 := eq_true q311
                   have p312 : 0 ≤ (x6_3 : Int) := od_
                   have q312 : x6_3 < (t307.length : Int) := od_
                   obtain ⟨ad312, e312, hx312_0⟩ := Kd.at_int (Kd.R_reads' HO_5.out).2.2 x6_3 p312 q312
                   obtain rfl : ad310 = ad312 := (by injection e312)
                   replace p312 := eq_true p312
                   replace q312 := eq_true q312
                   have p313 : 0 ≤ ((rd t307 x6_3) : Int) := od_
                   have q313 : (rd t307 x6_3) < (l0_1.length : Int) := od_
                   obtain ⟨ad313, A313_5, c313_5, A313_6, c313_6, e313, hx313_0, hx313_1, hx313_2, hx313_3, hx313_4, hx313_5, hx313_6, hl313_5, hi313_5, hl313_6, hi313_6⟩ := at_T32 HR0_1.out (rd t307 x6_3) p313 q313
                   have hw313_6 := hx313_6
                   have hw313_5 := hx313_5
                   have hw313_4 := hx313_4
                   have hw313_3 := hx313_3
                   have hw313_2 := hx313_2
                   have hw313_1 := hx313_1
                   have hw313_0 := hx313_0
                   obtain rfl : ad306 = ad313 := (by injection e313)
                   replace hx313_0 := rr_ HB hx313_0
                   replace hx313_1 := rr_ HB hx313_1
                   replace hx313_2 := rr_ HB hx313_2
                   replace hx313_3 := rr_ HB hx313_3
                   replace hx313_4 := rr_ HB hx313_4
                   replace hx313_5 := rr_ HB hx313_5
                   replace hx313_6 := rr_ HB hx313_6
                   have HR313_5 := Aside0.mk hi313_5
                   have HC313_5 := Aside0.mk hl313_5
                   clear hi313_5 hl313_5
                   have HR313_6 := Aside0.mk hi313_6
                   have HC313_6 := Aside0.mk hl313_6
                   clear hi313_6 hl313_6
                   replace p313 := eq_true p313
                   replace q313 := eq_true q313
                   have p314 : 0 ≤ (x4_2 : Int) := od_
                   have q314 : x4_2 < (l0_1.length : Int) := od_
                   obtain ⟨ad314, A314_5, c314_5, A314_6, c314_6, e314, hx314_0, hx314_1, hx314_2, hx314_3, hx314_4, hx314_5, hx314_6, hl314_5, hi314_5, hl314_6, hi314_6⟩ := at_T32 HR0_1.out x4_2 p314 q314
                   have hw314_6 := hx314_6
                   have hw314_5 := hx314_5
                   have hw314_4 := hx314_4
                   have hw314_3 := hx314_3
                   have hw314_2 := hx314_2
                   have hw314_1 := hx314_1
                   have hw314_0 := hx314_0
                   obtain rfl : ad306 = ad314 := (by injection e314)
                   replace hx314_0 := rr_ HB hx314_0
                   replace hx314_1 := rr_ HB hx314_1
                   replace hx314_2 := rr_ HB hx314_2
                   replace hx314_3 := rr_ HB hx314_3
                   replace hx314_4 := rr_ HB hx314_4
                   replace hx314_5 := rr_ HB hx314_5
                   replace hx314_6 := rr_ HB hx314_6
                   have HR314_5 := Aside0.mk hi314_5
                   have HC314_5 := Aside0.mk hl314_5
                   clear hi314_5 hl314_5
                   have HR314_6 := Aside0.mk hi314_6
                   have HC314_6 := Aside0.mk hl314_6
                   clear hi314_6 hl314_6
                   replace p314 := eq_true p314
                   replace q314 := eq_true q314
                   refine start_ (n := 50) (S := fun w' => w'.cell? ⟨gb295, 0, none⟩ = some (.slice A0_0 l0_0.length c0_0) ∧ w'.cell? ⟨gb295, 1, none⟩ = some (.slice (some ad306) l0_1.length c0_1) ∧ w'.cell? (ad310.add (x6_3).toNat) = some (.int .i64 (rd t307 x6_3)) ∧ w'.cell? (ad310.add (x6_3).toNat) = some (.int .i64 (rd t307 x6_3)) ∧ w'.cell? (ad310.add (x6_3).toNat) = some (.int .i64 (rd t307 x6_3)) ∧ w'.cell? (ad306.add (((rd t307 x6_3)).toNat * 7)) = some (.string ((rd_T32 l0_1 (rd t307 x6_3)).f0)) ∧ w'.cell? ⟨(ad306.add (((rd t307 x6_3)).toNat * 7)).block, (ad306.add (((rd t307 x6_3)).toNat * 7)).off + 1, none⟩ = some (.int .i64 ((rd_T32 l0_1 (rd t307 x6_3)).f1)) ∧ w'.cell? ⟨(ad306.add (((rd t307 x6_3)).toNat * 7)).block, (ad306.add (((rd t307 x6_3)).toNat * 7)).off + 2, none⟩ = some (.string ((rd_T32 l0_1 (rd t307 x6_3)).f2)) ∧ w'.cell? ⟨(ad306.add (((rd t307 x6_3)).toNat * 7)).block, (ad306.add (((rd t307 x6_3)).toNat * 7)).off + 3, none⟩ = some (.bool ((rd_T32 l0_1 (rd t307 x6_3)).f3)) ∧ w'.cell? ⟨(ad306.add (((rd t307 x6_3)).toNat * 7)).block, (ad306.add (((rd t307 x6_3)).toNat * 7)).off + 4, none⟩ = some (.int .i64 ((rd_T32 l0_1 (rd t307 x6_3)).f4)) ∧ w'.cell? ⟨(ad306.add (((rd t307 x6_3)).toNat * 7)).block, (ad306.add (((rd t307 x6_3)).toNat * 7)).off + 5, none⟩ = some (.slice A313_5 ((rd_T32 l0_1 (rd t307 x6_3)).f5).length c313_5) ∧ w'.cell? ⟨(ad306.add (((rd t307 x6_3)).toNat * 7)).block, (ad306.add (((rd t307 x6_3)).toNat * 7)).off + 6, none⟩ = some (.slice A313_6 ((rd_T32 l0_1 (rd t307 x6_3)).f6).length c313_6) ∧ w'.cell? (ad306.add ((x4_2).toNat * 7)) = some (.string ((rd_T32 l0_1 x4_2).f0)) ∧ w'.cell? ⟨(ad306.add ((x4_2).toNat * 7)).block, (ad306.add ((x4_2).toNat * 7)).off + 1, none⟩ = some (.int .i64 ((rd_T32 l0_1 x4_2).f1)) ∧ w'.cell? ⟨(ad306.add ((x4_2).toNat * 7)).block, (ad306.add ((x4_2).toNat * 7)).off + 2, none⟩ = some (.string ((rd_T32 l0_1 x4_2).f2)) ∧ w'.cell? ⟨(ad306.add ((x4_2).toNat * 7)).block, (ad306.add ((x4_2).toNat * 7)).off + 3, none⟩ = some (.bool ((rd_T32 l0_1 x4_2).f3)) ∧ w'.cell? ⟨(ad306.add ((x4_2).toNat * 7)).block, (ad306.add ((x4_2).toNat * 7)).off + 4, none⟩ = some (.int .i64 ((rd_T32 l0_1 x4_2).f4)) ∧ w'.cell? ⟨(ad306.add ((x4_2).toNat * 7)).block, (ad306.add ((x4_2).toNat * 7)).off + 5, none⟩ = some (.slice A314_5 ((rd_T32 l0_1 x4_2).f5).length c314_5) ∧ w'.cell? ⟨(ad306.add ((x4_2).toNat * 7)).block, (ad306.add ((x4_2).toNat * 7)).off + 6, none⟩ = some (.slice A314_6 ((rd_T32 l0_1 x4_2).f6).length c314_6)) (ds := []) #[false, false, false, false, false, false, false, false, false, false, false, false, false, false, false, false, false, false, false, false, false, false, false, false, false, false, false, false, false, false, false, false, false, false, false, false, false, false, false, false, false, false, false, false, false, false, false, false, false, false] (by kernel_rfl) rfl rfl ⟨(bk0_ BK295 :), (bk1_ BK295 :), hx310_0, hx311_0, hx312_0, (rr_ HB hw313_0 :), (rr_ HB hw313_1 :), (rr_ HB hw313_2 :), (rr_ HB hw313_3 :), (rr_ HB hw313_4 :), (rr_ HB hw313_5 :), (rr_ HB hw313_6 :), (rr_ HB hw314_0 :), (rr_ HB hw314_1 :), (rr_ HB hw314_2 :), (rr_ HB hw314_3 :), (rr_ HB hw314_4 :), (rr_ HB hw314_5 :), (rr_ HB hw314_6 :)⟩ (fun hHeld => ?_); refine with_tabW sentrylaw4_ModelKids.tab11 sentrylaw4_ModelKids.bits11 (fun HT_ HW_ => ?_)
                   generalize wr.drew = w45 at HO_5 BK295 HB HR313_5 HR313_6 HR314_5 HR314_6 hx310_0 hx311_0 hx312_0 hx313_0 hx313_1 hx313_2 hx313_3 hx313_4 hx313_5 hx313_6 hx314_0 hx314_1 hx314_2 hx314_3 hx314_4 hx314_5 hx314_6 hHeld ⊢
                   refine pz_ 0 (some 35) (bits_ 50 1) HT_.out ?_
                   refine pz_ 1 (some 36) (bits_ 50 3) HT_.out ?_
                   refine pz_ 2 (some 37) (bits_ 50 7) HT_.out ?_
                   refine pz_ 4 (some 39) (bits_ 50 23) HT_.out ?_
                   refine tz_ 3 (some 38) (bits_ 50 31) HT_.out HW_.out hHeld ?_ (hy := by rintro w' ⟨s0, s1, s2, s3, s4, s5, s6, s7, s8, s9, s10, s11, s12, s13, s14, s15, s16, s17, s18⟩; go_simp; with_reducible rfl)
                   refine pz_ 5 (some 40) (bits_ 50 63) HT_.out ?_
                   refine pz_ 6 (some 41) (bits_ 50 127) HT_.out ?_
                   refine pz_ 7 (some 42) (bits_ 50 255) HT_.out ?_
                   refine pz_ 8 (some 43) (bits_ 50 511) HT_.out ?_
                   refine pz_ 9 (some 44) (bits_ 50 1023) HT_.out ?_
                   refine pz_ 11 (some 46) (bits_ 50 3071) HT_.out ?_
                   refine tz_ 10 (some 45) (bits_ 50 4095) HT_.out HW_.out hHeld ?_ (hy := by rintro w' ⟨s0, s1, s2, s3, s4, s5, s6, s7, s8, s9, s10, s11, s12, s13, s14, s15, s16, s17, s18⟩; go_simp; with_reducible rfl)
                   refine tz_ 12 (some 47) (bits_ 50 8191) HT_.out HW_.out hHeld ?_ (hy := by rintro w' ⟨s0, s1, s2, s3, s4, s5, s6, s7, s8, s9, s10, s11, s12, s13, s14, s15, s16, s17, s18⟩; go_simp; with_reducible rfl)
                   refine pz_ 13 (some 48) (bits_ 50 16383) HT_.out ?_
                   refine pz_ 14 (some 49) (bits_ 50 32767) HT_.out ?_
                   refine pz_ 15 (some 50) (bits_ 50 65535) HT_.out ?_
                   refine pz_ 16 (some 51) (bits_ 50 131071) HT_.out ?_
                   refine pz_ 17 (some 52) (bits_ 50 262143) HT_.out ?_
                   refine pz_ 19 (some 54) (bits_ 50 786431) HT_.out ?_
                   refine pz_ 20 (some 55) (bits_ 50 1835007) HT_.out ?_
                   refine pz_ 21 (some 56) (bits_ 50 3932159) HT_.out ?_
                   refine pz_ 26 (some 61) (bits_ 50 71041023) HT_.out ?_
                   refine pz_ 28 (some 63) (bits_ 50 339476479) HT_.out ?_
                   refine tz_ 18 (some 53) (bits_ 50 339738623) HT_.out HW_.out hHeld ?_ (hy := by rintro w' ⟨s0, s1, s2, s3, s4, s5, s6, s7, s8, s9, s10, s11, s12, s13, s14, s15, s16, s17, s18⟩; go_simp; with_reducible rfl)
                   refine tz_ 22 (some 57) (bits_ 50 343932927) HT_.out HW_.out hHeld ?_ (hy := by rintro w' ⟨s0, s1, s2, s3, s4, s5, s6, s7, s8, s9, s10, s11, s12, s13, s14, s15, s16, s17, s18⟩; go_simp; with_reducible rfl)
                   refine pz_ 23 (some 58) (bits_ 50 352321535) HT_.out ?_
                   refine pz_ 24 (some 59) (bits_ 50 369098751) HT_.out ?_
                   refine tz_ 25 (some 60) (bits_ 50 402653183) HT_.out HW_.out hHeld ?_ (hy := by rintro w' ⟨s0, s1, s2, s3, s4, s5, s6, s7, s8, s9, s10, s11, s12, s13, s14, s15, s16, s17, s18⟩; go_simp; with_reducible rfl)
                   refine tz_ 27 (some 62) (bits_ 50 536870911) HT_.out HW_.out hHeld ?_ (hy := by rintro w' ⟨s0, s1, s2, s3, s4, s5, s6, s7, s8, s9, s10, s11, s12, s13, s14, s15, s16, s17, s18⟩; go_simp; with_reducible rfl)
                   refine pz_ 29 (some 64) (bits_ 50 1073741823) HT_.out ?_
                   refine pz_ 30 (some 65) (bits_ 50 2147483647) HT_.out ?_
                   refine tz_ 31 (some 66) (bits_ 50 4294967295) HT_.out HW_.out hHeld ?_ (hy := by rintro w' ⟨s0, s1, s2, s3, s4, s5, s6, s7, s8, s9, s10, s11, s12, s13, s14, s15, s16, s17, s18⟩; go_simp; with_reducible rfl)
                   refine pz_ 32 (some 67) (bits_ 50 8589934591) HT_.out ?_
                   refine pz_ 33 (some 68) (bits_ 50 17179869183) HT_.out ?_
                   refine pz_ 34 (some 69) (bits_ 50 34359738367) HT_.out ?_
                   refine sz_ 35 (some 70) (bits_ 50 68719476735) HT_.out ?_
                   refine sz_ 36 (some 71) (bits_ 50 137438953471) HT_.out ?_
                   refine sz_ 37 (some 72) (bits_ 50 274877906943) HT_.out ?_
                   refine sz_ 38 (some 73) (bits_ 50 549755813887) HT_.out ?_
                   refine sz_ 39 (some 74) (bits_ 50 1099511627775) HT_.out ?_
                   refine sz_ 40 (some 75) (bits_ 50 2199023255551) HT_.out ?_
                   refine sz_ 41 (some 76) (bits_ 50 4398046511103) HT_.out ?_
                   refine sz_ 42 (some 77) (bits_ 50 8796093022207) HT_.out ?_
                   refine sz_ 43 (some 78) (bits_ 50 17592186044415) HT_.out ?_
                   refine sz_ 44 (some 79) (bits_ 50 35184372088831) HT_.out ?_
                   refine sz_ 45 (some 80) (bits_ 50 70368744177663) HT_.out ?_
                   refine sz_ 46 (some 81) (bits_ 50 140737488355327) HT_.out ?_
                   refine sz_ 47 (some 82) (bits_ 50 281474976710655) HT_.out ?_
                   refine sz_ 48 (some 83) (bits_ 50 562949953421311) HT_.out ?_
                   refine pz_ 49 (some 84) (bits_ 50 1125899906842623) HT_.out ?_
                   refine done_ (done_of HT_.out (by kernel_rfl)) ?_
                   try go_wp2
                   go_ret
                   exact ⟨er_, hf_⟩
                 ·rw [if_neg c31] at H
                  exact absurd H (by simp)
                ·rw [if_neg c30] at H
                 exact absurd H (by simp)
               ·rw [if_neg c29] at H
                exact absurd H (by simp)
              ·rw [if_neg c28] at H
               exact absurd H (by simp)
           ·rw [if_neg c21] at H
            exact absurd H (by simp)
          ·rw [if_neg c20] at H
           have c20b0 : decide (x6_3 < (t307.length : Int)) = false := decide_eq_false c20
           clear c20
           have H' := Aside0.mk H
           clear H
           obtain ⟨Ao46, co46, eo46⟩ := Kd.R_slice HO_5.out
           subst eo46
           go_wp2
           go_roundg k3
           case measure => have := HJ1.out; have := HK2.out; have := HK3.out; omega
           case rel => exact ⟨(x3_3), (wrap64 (x4_2 + 1)), (by first | rfl | (simp; done) | (simp [*]; done)), (by first | rfl | (simp; done) | (simp [*]; done)), H', ⟨by have := HJ1.out; have := HK2.out; have := HK3.out; omega⟩, ⟨gx_ BK295⟩, ⟨hf_⟩⟩
       ·rw [if_neg c15] at H
        exact absurd H (by simp)
      ·rw [if_neg c14] at H
       have c14b0 : decide (x4_2 < (l0_1.length : Int)) = false := decide_eq_false c14
       clear c14
       by_cases c47 : x3_2 = (wrap64 ((l0_1.length : Int) - 1))
       ·rw [if_pos c47] at H
        have c47b0 : (x3_2 == (wrap64 ((l0_1.length : Int) - 1))) = true := beq_iff_eq.mpr c47
        have c47b1 : (x3_2 != (wrap64 ((l0_1.length : Int) - 1))) = false := bne_eq_false_iff_eq.mpr c47
        clear c47
        replace H := Option.bind_eq_some_iff.mp H
        obtain ⟨t298, A480, H⟩ := H
        replace H : ((sentryref4_SameInts.f k2 t298 (([0] : List Int))).bind fun t304 => (if t304 = true then ((sentrylaw4_known.f).bind fun t305 => (some t305)) else (some false))) = some r := H
        have A48 := Aside0.mk A480
        clear A480
        obtain ⟨y301, hy301⟩ : ∃ y_ : List Int, y_ = (([0] : List Int)) := ⟨_, rfl⟩
        replace H : ((sentryref4_SameInts.f k2 t298 y301).bind fun t304 => (if t304 = true then ((sentrylaw4_known.f).bind fun t305 => (some t305)) else (some false))) = some r := by first | (rw [hy301]; with_reducible exact H) | (have H2_ := (Option.bind_some _ _).symm.trans H; rw [hy301]; with_reducible exact H2_) | (have H2_ := (Option.bind_some _ _).symm.trans H; with_reducible exact H2_) | with_reducible exact H | (rw [hy301]; exact H) | exact H
        have Ny301 := Aside0.mk hy301
        clear hy301
        replace H := Option.bind_eq_some_iff.mp H
        obtain ⟨t304, A490, H⟩ := H
        replace H : (if t304 = true then ((sentrylaw4_known.f).bind fun t305 => (some t305)) else (some false)) = some r := H
        have A49 := Aside0.mk A490
        clear A490
        by_cases c50 : t304 = true
        ·subst c50
         have H1 : ((sentrylaw4_known.f).bind fun t305 => (some t305)) = some r := by rw [if_pos rfl] at H; exact H
         clear H
         have H := H1
         clear H1
         replace H := Option.bind_eq_some_iff.mp H
         obtain ⟨t305, A510, H⟩ := H
         replace H : (some t305) = some r := H
         have A51 := Aside0.mk A510
         clear A510
         obtain rfl := Option.some.inj H
         obtain ⟨hcz52_0, hcz52_1, hfz52_0, hfz52_1⟩ := bs2_ BK295
         go_wp2_with (first | (go_at_call 22; (with_reducible refine (model_Kids.calls k2 _ _ l0_0 _ _ l0_1 (⟨#[]⟩ : ByteArray) t298 _ ?side1 ?side2 ?side3 ?side4 A48.out).mono ?_); (case side1 => exact kc_ HR0_0 HB); (case side2 => exact HC0_0.out); (case side3 => exact kc_ HR0_1 HB); (case side4 => exact HC0_1.out); rintro e w53 ⟨v299, rfl, ho0, hb⟩; have n0_ := Aside0.mk (Kd.R_lower ho0 (below_size (by repeat (first | (with_reducible first | exact HB.out | apply below_alloc | apply pw_below_drewN | apply below_drew1 | refine below_set ?_ GE295.out) | exact HB.out)))); have n1_ := bb_ BK295 hb; have n2_ := hb_ HB hb; clear BK295; clear HB; have HO300 := n0_; have BK295 := n1_; have HB := n2_; clear n0_ n1_ n2_; (try clear hb); (try clear hb2); (try clear hk); (try clear hi); (try clear ho0)) | ((with_reducible refine gate_dst (N := 96) rfl ?_); (try (refine gate_guard (by rfl) ?_; dsimp only)); refine Kd.R_lit (Kd.int .i64) _ 3 ?hg (N := 96) ?hd (xs := ([0] : List Int)) (inner := [.int .i64 0]) (ok := fun _ => True) (okp := fun _ => True) ?hr ?hp (fun _ hk => hk) trivial (Below.refl _ _) (Nat.le_refl _) (by simp) ?_; (case hd => rfl); (case hg => rfl); (case hr => first | (go_simp; done) | (go_simp; rfl)); (case hp => exact (Reps.one (show Kd.M (Kd.int .i64) _ _ _ 0 [.int .i64 0] from rfl) (Reps.none _ _))); intro v302 w54 ho55 hb hg_ hnew_; clear hg_ hnew_; (first | rw [← Ny301.out] at ho55 | (simp only [Int.reduceToNat] at ho55; rw [← Ny301.out] at ho55)); have n0_ := Aside0.mk (Kd.R_elder' (by (with_reducible repeat (first | apply Kd.R_alloc | apply Kd.R_drewN | apply Kd.R_drew)); exact HO300.out) (Kd.R_base ho55) hb); have n1_ := Aside0.mk (Kd.R_lower (Kd.R_new' ho55 (Kd.R_lt (by (with_reducible repeat (first | apply Kd.R_alloc | apply Kd.R_drewN | apply Kd.R_drew)); exact HO300.out))) (below_size (by repeat (first | (with_reducible first | exact HB.out | apply below_alloc | apply pw_below_drewN | apply below_drew1 | refine below_set ?_ GE295.out) | exact HB.out)))); have n2_ := bb_ BK295 hb; have n3_ := hb_ HB hb; clear HO300; clear BK295; clear HB; have HO300 := n0_; have HO303 := n1_; have BK295 := n2_; have HB := n3_; clear n0_ n1_ n2_ n3_; clear hb ho55; obtain ⟨Ao56, co56, eo56⟩ := Kd.R_slice HO300.out; subst eo56; obtain ⟨Ao57, co57, eo57⟩ := Kd.R_slice HO303.out; subst eo57) | (go_at_call 21; (with_reducible refine (sentryref4_SameInts.calls k2 _ _ t298 _ _ y301 true _ ?side1 ?side2 ?side3 ?side4 A49.out).mono ?_); (case side1 => repeat (first | exact (Kd.R_reads' HO300.out).2.2 | (with_reducible refine Kd.C_alloc ?_ _) | (with_reducible refine Kd.C_drewN ?_ _) | (with_reducible refine Kd.C_drew ?_))); (case side2 => exact (Kd.R_reads' HO300.out).2.1); (case side3 => repeat (first | exact (Kd.R_reads' HO303.out).2.2 | (with_reducible refine Kd.C_alloc ?_ _) | (with_reducible refine Kd.C_drewN ?_ _) | (with_reducible refine Kd.C_drew ?_))); (case side4 => exact (Kd.R_reads' HO303.out).2.1); rintro e w' ⟨rfl, ⟨nd, rfl⟩⟩) | (go_at_call 14; (with_reducible refine (sentrylaw4_known.calls  t305 _ A51.out).mono ?_); rintro e w58 ⟨rfl, hb⟩; have n0_ := Aside0.mk (Kd.R_below (by (with_reducible repeat (first | apply Kd.R_alloc | apply Kd.R_drewN | apply Kd.R_drew)); exact HO300.out) hb); have n1_ := Aside0.mk (Kd.R_below (by (with_reducible repeat (first | apply Kd.R_alloc | apply Kd.R_drewN | apply Kd.R_drew)); exact HO303.out) hb); have n2_ := bb_ BK295 hb; have n3_ := hb_ HB hb; clear HO300; clear HO303; clear BK295; clear HB; have HO300 := n0_; have HO303 := n1_; have BK295 := n2_; have HB := n3_; clear n0_ n1_ n2_ n3_; (try clear hb); (try clear hb2); (try clear hk); (try clear hi)))
         go_ret
         exact ⟨er_, hf_⟩
        ·replace c50 := Bool.eq_false_iff.mpr c50
         subst c50
         have H1 : (some false) = some r := by rw [if_neg (show ¬ (false = true) by decide)] at H; exact H
         clear H
         have H := H1
         clear H1
         obtain rfl := Option.some.inj H
         obtain ⟨hcz59_0, hcz59_1, hfz59_0, hfz59_1⟩ := bs2_ BK295
         go_wp2_with (first | (go_at_call 22; (with_reducible refine (model_Kids.calls k2 _ _ l0_0 _ _ l0_1 (⟨#[]⟩ : ByteArray) t298 _ ?side1 ?side2 ?side3 ?side4 A48.out).mono ?_); (case side1 => exact kc_ HR0_0 HB); (case side2 => exact HC0_0.out); (case side3 => exact kc_ HR0_1 HB); (case side4 => exact HC0_1.out); rintro e w60 ⟨v299, rfl, ho0, hb⟩; have n0_ := Aside0.mk (Kd.R_lower ho0 (below_size (by repeat (first | (with_reducible first | exact HB.out | apply below_alloc | apply pw_below_drewN | apply below_drew1 | refine below_set ?_ GE295.out) | exact HB.out)))); have n1_ := bb_ BK295 hb; have n2_ := hb_ HB hb; clear BK295; clear HB; have HO300 := n0_; have BK295 := n1_; have HB := n2_; clear n0_ n1_ n2_; (try clear hb); (try clear hb2); (try clear hk); (try clear hi); (try clear ho0)) | ((with_reducible refine gate_dst (N := 96) rfl ?_); (try (refine gate_guard (by rfl) ?_; dsimp only)); refine Kd.R_lit (Kd.int .i64) _ 3 ?hg (N := 96) ?hd (xs := ([0] : List Int)) (inner := [.int .i64 0]) (ok := fun _ => True) (okp := fun _ => True) ?hr ?hp (fun _ hk => hk) trivial (Below.refl _ _) (Nat.le_refl _) (by simp) ?_; (case hd => rfl); (case hg => rfl); (case hr => first | (go_simp; done) | (go_simp; rfl)); (case hp => exact (Reps.one (show Kd.M (Kd.int .i64) _ _ _ 0 [.int .i64 0] from rfl) (Reps.none _ _))); intro v302 w61 ho62 hb hg_ hnew_; clear hg_ hnew_; (first | rw [← Ny301.out] at ho62 | (simp only [Int.reduceToNat] at ho62; rw [← Ny301.out] at ho62)); have n0_ := Aside0.mk (Kd.R_elder' (by (with_reducible repeat (first | apply Kd.R_alloc | apply Kd.R_drewN | apply Kd.R_drew)); exact HO300.out) (Kd.R_base ho62) hb); have n1_ := Aside0.mk (Kd.R_lower (Kd.R_new' ho62 (Kd.R_lt (by (with_reducible repeat (first | apply Kd.R_alloc | apply Kd.R_drewN | apply Kd.R_drew)); exact HO300.out))) (below_size (by repeat (first | (with_reducible first | exact HB.out | apply below_alloc | apply pw_below_drewN | apply below_drew1 | refine below_set ?_ GE295.out) | exact HB.out)))); have n2_ := bb_ BK295 hb; have n3_ := hb_ HB hb; clear HO300; clear BK295; clear HB; have HO300 := n0_; have HO303 := n1_; have BK295 := n2_; have HB := n3_; clear n0_ n1_ n2_ n3_; clear hb ho62; obtain ⟨Ao63, co63, eo63⟩ := Kd.R_slice HO300.out; subst eo63; obtain ⟨Ao64, co64, eo64⟩ := Kd.R_slice HO303.out; subst eo64) | (go_at_call 21; (with_reducible refine (sentryref4_SameInts.calls k2 _ _ t298 _ _ y301 false _ ?side1 ?side2 ?side3 ?side4 A49.out).mono ?_); (case side1 => repeat (first | exact (Kd.R_reads' HO300.out).2.2 | (with_reducible refine Kd.C_alloc ?_ _) | (with_reducible refine Kd.C_drewN ?_ _) | (with_reducible refine Kd.C_drew ?_))); (case side2 => exact (Kd.R_reads' HO300.out).2.1); (case side3 => repeat (first | exact (Kd.R_reads' HO303.out).2.2 | (with_reducible refine Kd.C_alloc ?_ _) | (with_reducible refine Kd.C_drewN ?_ _) | (with_reducible refine Kd.C_drew ?_))); (case side4 => exact (Kd.R_reads' HO303.out).2.1); rintro e w' ⟨rfl, ⟨nd, rfl⟩⟩))
         go_ret
         exact ⟨er_, hf_⟩
       ·rw [if_neg c47] at H
        have c47b0 : (x3_2 == (wrap64 ((l0_1.length : Int) - 1))) = false := beq_eq_false_iff_ne.mpr c47
        have c47b1 : (x3_2 != (wrap64 ((l0_1.length : Int) - 1))) = true := bne_iff_ne.mpr c47
        obtain rfl := Option.some.inj H
        obtain ⟨hcz65_0, hcz65_1, hfz65_0, hfz65_1⟩ := bs2_ BK295
        go_wp2
        go_ret
        exact ⟨er_, hf_⟩
end Go.Proofs.Ytchellnfenekaaa.Pm
end
section
namespace Go.Proofs.Ytchellnfenekaaa.OpenKd
open Go Go.RowKit Go.ChangeShapes Go.WideShapes Go.Deep Go.Proofs.YtchellnfenekaaaW.PrintWords
set_option linter.unusedVariables false
set_option linter.unusedSectionVars false
section
variable {H : Type} {enc : TypeId × Value → H} {P : Program} {w : World} {α β : Type}
theorem weights_mem_all {e : TypeId} : ∀ {ds : List (DataW H)} {d : DataW H}, d ∈ ds → ∀ n ∈ d.weights P e, n ∈ DataW.weightsAll P e ds
  | [], _, h, _, _ => by simp at h
  | x :: ds, d, h, n, hn => by
    rcases List.mem_cons.1 h with rfl | h
    · simp [DataW.weightsAll, hn]
    · simp [DataW.weightsAll, weights_mem_all h n hn]
def Light (P : Program) (t : TypeId) (d : DataW H) : Prop := ∀ n ∈ d.weights P t, n ≤ reachBytes
/-- Whatever is read at type t is of the kind d, and good. -/
structure Opens (enc : TypeId × Value → H) (P : Program) (w : World) (t : TypeId) (d : Kd α) (good : α → Prop) : Prop where
  cells : P.cellsOf t = d.sz
  go : ∀ (fuel : Nat) (cs : List Value) (x : DataW H × List MemPlace), DataW.trod enc P w 0 (fun _ => true) true fuel t cs = some x → Light P t x.1 → ∃ a, d.K w a cs ∧ good a
theorem opens_int {t : TypeId} {k : IntKind} (hu : P.underlying t = some (.int k)) (hc : P.cellsOf t = 1) : Opens enc P w t (Kd.int k) (fun n => (Lit.int k n).wf = true) :=
  ⟨hc, fun fuel cs x h _ => by
    obtain ⟨n, rfl, _, hw⟩ := DataW.trod_int hu h
    exact ⟨n, rfl, hw⟩⟩
theorem opens_bool {t : TypeId} (hu : P.underlying t = some .bool) (hc : P.cellsOf t = 1) : Opens enc P w t Kd.bool (fun _ => True) :=
  ⟨hc, fun fuel cs x h _ => by
    obtain ⟨n, rfl, _⟩ := DataW.trod_bool hu h
    exact ⟨n, rfl, trivial⟩⟩
theorem opens_string {t : TypeId} (hu : P.underlying t = some .string) (hc : P.cellsOf t = 1) : Opens enc P w t Kd.string (fun s => s.size ≤ 140737488351232) :=
  ⟨hc, fun fuel cs x h hl => by
    obtain ⟨s, rfl, rfl, _⟩ := DataW.trod_string hu h
    refine ⟨s, rfl, ?_⟩
    have := hl s.data.toList.length (by simp [DataW.weights])
    simpa [reachBytes] using this⟩
theorem opens_slice {t e : TypeId} {d : Kd α} {good : α → Prop} (hu : P.underlying t = some (.slice e)) (hc : P.cellsOf t = 1) (h : Opens enc P w e d good) : Opens enc P w t (Kd.slice e d) (fun xs => xs.length * P.bytesOf e ≤ 140737488351232 ∧ ∀ x ∈ xs, good x) :=
  ⟨hc, fun fuel cs x hx hl => by
    rcases open_slice hu hx with ⟨rfl, rfl⟩ | ⟨a, len, cap, m, n, D, Pl, rfl, hb, hlc, hcm, hm, rfl, hel⟩
    · exact ⟨[], ⟨none, 0, rfl, Nat.le_refl _, ⟨rfl, by simp, fun h => by simp at h⟩⟩, by simp, by simp⟩
    · have hle : len ≤ m := by rw [hm]; split <;> omega
      have hmem : ∀ i, i < m → D i ∈ (List.range len).map D ∨ D i ∈ (List.range (m - len)).map fun j => D (len + j) := by
        intro i hi
        by_cases h1 : i < len
        · exact .inl (List.mem_map.2 ⟨i, List.mem_range.2 h1, rfl⟩)
        · exact .inr (List.mem_map.2 ⟨i - len, List.mem_range.2 (by omega), by congr 1; omega⟩)
      have hlight : ∀ i, i < m → Light P e (D i) := by
        intro i hi q hq
        refine hl q ?_
        simp only [DataW.weights, hu]
        rcases hmem i hi with h1 | h1
        · exact List.mem_cons_of_mem _ (List.mem_append_left _ (weights_mem_all h1 q hq))
        · exact List.mem_cons_of_mem _ (List.mem_append_right _ (weights_mem_all h1 q hq))
      have hall : ∀ i, i < len → ∃ x : α, good x ∧ ∃ c, c.length = d.sz ∧ d.K w x c ∧ ∀ j u, c[j]? = some u → w.cell? (a.add (i * d.sz + j)) = some u := by
        intro i hi
        obtain ⟨cs', hcs, htr⟩ := hel i (by omega)
        obtain ⟨y, hK, hg⟩ := h.go n cs' _ htr (hlight i (by omega))
        obtain ⟨_, hcl, hcc⟩ := World.cells?_some hcs
        refine ⟨y, hg, cs', by rw [hcl, h.cells], hK, fun j u hj => ?_⟩
        have hjl : j < P.cellsOf e := by rw [← hcl]; exact (List.getElem?_eq_some_iff.1 hj).1
        have := hcc j hjl
        rw [hj, Deep.add_add, h.cells] at this
        exact this
      have hlist : ∃ xs : List α, xs.length = len ∧ ∀ i (x : α), xs[i]? = some x → good x ∧ ∃ c, c.length = d.sz ∧ d.K w x c ∧ ∀ j u, c[j]? = some u → w.cell? (a.add (i * d.sz + j)) = some u := by
        clear hmem hlight hle hlc hl hel hx hm
        induction len with
        | zero => exact ⟨[], rfl, fun i x h => by simp at h⟩
        | succ len ih =>
          obtain ⟨xs, hxl, hxs⟩ := ih (fun i hi => hall i (by omega))
          obtain ⟨y, hy⟩ := hall len (by omega)
          refine ⟨xs ++ [y], by simp [hxl], fun i x hi => ?_⟩
          by_cases h1 : i < xs.length
          · rw [List.getElem?_append_left h1] at hi
            exact hxs i x hi
          · rw [List.getElem?_append_right (by omega)] at hi
            have h2 : i = xs.length := by
              have := (List.getElem?_eq_some_iff.1 hi).1
              simp at this
              omega
            subst h2
            simp at hi
            subst hi
            rw [hxl]
            exact hy
      obtain ⟨xs, hxl, hxs⟩ := hlist
      subst hxl
      refine ⟨xs, ⟨some a, cap, rfl, hlc, rfl, by have := hcm; unfold maxLen at this; omega, fun _ => ⟨a, rfl, fun j p hj => (hxs j p hj).2⟩⟩, ?_, fun x hx => ?_⟩
      · have hw := hl ((((List.range xs.length).map D).length + ((List.range (m - xs.length)).map fun j => D (xs.length + j)).length) * P.bytesOf e) (by simp [DataW.weights, hu])
        simp only [List.length_map, List.length_range] at hw
        have h2 : xs.length * P.bytesOf e ≤ (xs.length + (m - xs.length)) * P.bytesOf e := Nat.mul_le_mul_right _ (by omega)
        unfold reachBytes at hw
        omega
      · obtain ⟨i, hi, rfl⟩ := List.getElem_of_mem hx
        exact (hxs i _ (List.getElem?_eq_getElem hi)).1⟩
/-- Fields in line, from cell o on. -/
structure OpensF (enc : TypeId × Value → H) (P : Program) (w : World) (fs : List Field) (o : Nat) (d : Kd α) (good : α → Prop) : Prop where
  go : ∀ (n : Nat) (cs : List Value) (xs : List (DataW H × List MemPlace)), (∀ (i : Nat) (f : Field), fs[i]? = some f → DataW.trod enc P w 0 (fun _ => true) true n f.type ((cs.drop f.offset).take (P.cellsOf f.type)) = xs[i]?) →
    xs.length = fs.length → cs.length = o + d.sz → (∀ q ∈ DataW.weightsEach P (fs.map (·.type)) (xs.map (·.1)), q ≤ reachBytes) → ∃ a, d.K w a (cs.drop o) ∧ good a
theorem opens_last {f : Field} {o : Nat} {d : Kd α} {good : α → Prop} (ho : f.offset = o) (h : Opens enc P w f.type d good) : OpensF enc P w [f] o d good :=
  ⟨fun n cs xs hx hxl hcl hw => by
    match xs, hxl with
    | [x], _ =>
      have h0 := hx 0 f rfl
      rw [ho, h.cells, List.take_of_length_le (by rw [List.length_drop]; omega)] at h0
      exact h.go n _ x (by simpa using h0) (fun q hq => hw q (by simp [DataW.weightsEach, hq]))⟩
theorem opens_cons {f : Field} {fs : List Field} {o o2 : Nat} {a : Kd α} {b : Kd β} {ga : α → Prop} {gb : β → Prop} (ho : f.offset = o) (h : Opens enc P w f.type a ga) (ho2 : o2 = o + a.sz) (h2 : OpensF enc P w fs o2 b gb) :
    OpensF enc P w (f :: fs) o (Kd.pair a b) (fun p => ga p.1 ∧ gb p.2) :=
  ⟨fun n cs xs hx hxl hcl hw => by
    match xs, hxl with
    | x :: xs, hxl =>
      have h0 := hx 0 f rfl
      rw [ho, h.cells] at h0
      have hcl' : cs.length = o + (a.sz + b.sz) := hcl
      obtain ⟨x1, hK1, hg1⟩ := h.go n _ x (by simpa using h0) (fun q hq => hw q (by simp [DataW.weightsEach, hq]))
      obtain ⟨x2, hK2, hg2⟩ := h2.go n cs xs (fun i f' hf => by simpa using hx (i + 1) f' (by simpa using hf)) (by simpa using hxl) (by omega) (fun q hq => hw q (by
        simp only [List.map_cons, DataW.weightsEach]
        exact List.mem_append_right _ hq))
      refine ⟨(x1, x2), ⟨(cs.drop o).take a.sz, cs.drop o2, ?_, hK1, hK2⟩, hg1, hg2⟩
      have h3 := List.take_append_drop a.sz (cs.drop o)
      rw [List.drop_drop] at h3
      rw [ho2]
      exact h3.symm⟩
theorem opens_struct {t : TypeId} {fs : Array Field} {d : Kd α} {good : α → Prop} (hu : P.underlying t = some (.struct fs)) (hc : P.cellsOf t = d.sz) (h : OpensF enc P w fs.toList 0 d good) {f : β → α} (g : α → β) (hg : ∀ a, f (g a) = a) :
    Opens enc P w t (Kd.iso d f) (fun y => good (f y)) :=
  ⟨hc, fun fuel cs x hx hl => by
    obtain ⟨xs, n, _, rfl, hcl, hxl, hxs⟩ := DataW.trod_struct hu hx
    obtain ⟨a, hK, hga⟩ := h.go n cs xs (fun i f' hf => hxs i f' (by rw [← Array.getElem?_toList]; exact hf)) (by simpa using hxl) (by rw [hcl, hc]; omega) (fun q hq => hl q (by simpa [DataW.weights, hu] using hq))
    refine ⟨g a, ?_, by rw [hg]; exact hga⟩
    show d.K w (f (g a)) cs
    rw [hg]
    simpa using hK⟩
end
end Go.Proofs.Ytchellnfenekaaa.OpenKd
end
section
namespace Go.Proofs.Ytchellnfenekaaa.Pm
open Go.RowKit Go.Proofs.YtchellnfenekaaaW.PrintWords Go.Proofs.YtchellnfenekaaaW.PrintLast Go.Proofs.YtchellnfenekaaaW.PrintMore
attribute [local go_sem] max2_int min2_int max_two min_two max_three min_three max_four min_four   -- for this text's walks alone
set_option linter.unusedVariables false
set_option linter.unusedSimpArgs false
open OpenKd
def goodSentry (x : S29) : Prop := x.f0.length ≤ 140737488351232 ∧ x.f1.length ≤ 140737488351232
def goodItem (x : S32) : Prop := x.f0.size ≤ 140737488351232 ∧ x.f2.size ≤ 140737488351232 ∧ x.f5.length ≤ 140737488351232 ∧ x.f6.length ≤ 140737488351232 ∧ (∀ s ∈ x.f5, goodSentry s) ∧ ∀ s ∈ x.f6, goodSentry s
theorem Opens.imp {H : Type} {enc : TypeId × Value → H} {P : Program} {w : World} {t : TypeId} {α : Type} {d : Kd α} {g g' : α → Prop} (h : Opens enc P w t d g) (hg : ∀ x, g x → g' x) : Opens enc P w t d g' :=
  ⟨h.cells, fun n cs x hx hl => let ⟨a, hK, ha⟩ := h.go n cs x hx hl; ⟨a, hK, hg a ha⟩⟩
section
variable {H : Type} {enc : TypeId × Value → H} {w : World}
theorem opens_on : Opens enc Try.prog w 39 k39 (fun _ => True) :=
  Opens.imp (opens_struct Try.underlying39 (by kernel_rfl) (opens_cons rfl (opens_string Try.underlying9 (by kernel_rfl)) rfl (opens_last rfl (opens_int Try.underlying3 (by kernel_rfl)))) (fun a => ⟨a.1, a.2⟩) (fun _ => rfl)) (fun _ _ => trivial)
theorem opens_cond : Opens enc Try.prog w 25 k25 (fun _ => True) :=
  Opens.imp (opens_struct Try.underlying25 (by kernel_rfl) (opens_cons rfl (opens_string Try.underlying9 (by kernel_rfl)) rfl (opens_cons rfl (opens_string Try.underlying9 (by kernel_rfl)) rfl (opens_last rfl (opens_int Try.underlying3 (by kernel_rfl))))) (fun a => ⟨a.1, a.2.1, a.2.2⟩) (fun _ => rfl)) (fun _ _ => trivial)
theorem opens_ons : Opens enc Try.prog w 27 (Kd.slice 39 k39) (fun xs => xs.length ≤ 140737488351232) :=
  Opens.imp (opens_slice Try.underlying27 (by kernel_rfl) opens_on) (fun xs h => by have := h.1; rw [show Try.prog.bytesOf 39 = 24 by kernel_rfl] at this; omega)
theorem opens_conds : Opens enc Try.prog w 26 (Kd.slice 25 k25) (fun xs => xs.length ≤ 140737488351232) :=
  Opens.imp (opens_slice Try.underlying26 (by kernel_rfl) opens_cond) (fun xs h => by have := h.1; rw [show Try.prog.bytesOf 25 = 40 by kernel_rfl] at this; omega)
theorem opens_sentry : Opens enc Try.prog w 29 k29 goodSentry :=
  Opens.imp (opens_struct Try.underlying29 (by kernel_rfl) (opens_cons rfl opens_ons rfl (opens_last rfl opens_conds)) (fun a => ⟨a.1, a.2⟩) (fun _ => rfl)) (fun _ h => h)
theorem opens_sentries : Opens enc Try.prog w 30 (Kd.slice 29 k29) (fun xs => xs.length ≤ 140737488351232 ∧ ∀ s ∈ xs, goodSentry s) :=
  Opens.imp (opens_slice Try.underlying30 (by kernel_rfl) opens_sentry) (fun xs h => ⟨by have := h.1; rw [show Try.prog.bytesOf 29 = 48 by kernel_rfl] at this; omega, h.2⟩)
theorem opens_item : Opens enc Try.prog w 32 k32 goodItem :=
  Opens.imp (opens_struct Try.underlying32 (by kernel_rfl) (opens_cons rfl (opens_string Try.underlying9 (by kernel_rfl)) rfl (opens_cons rfl (opens_int Try.underlying3 (by kernel_rfl)) rfl (opens_cons rfl (opens_string Try.underlying9 (by kernel_rfl)) rfl (opens_cons rfl (opens_bool Try.underlying4 (by kernel_rfl)) rfl (opens_cons rfl (opens_int Try.underlying3 (by kernel_rfl)) rfl (opens_cons rfl opens_sentries rfl (opens_last rfl opens_sentries)))))))
    (fun a => ⟨a.1, a.2.1, a.2.2.1, a.2.2.2.1, a.2.2.2.2.1, a.2.2.2.2.2.1, a.2.2.2.2.2.2⟩) (fun _ => rfl)) (fun x h => ⟨h.1, h.2.2.1, h.2.2.2.2.2.1.1, h.2.2.2.2.2.2.1, h.2.2.2.2.2.1.2, h.2.2.2.2.2.2.2⟩)
theorem opens_items : Opens enc Try.prog w 34 (Kd.slice 32 k32) (fun xs => xs.length ≤ 140737488351232 ∧ ∀ x ∈ xs, goodItem x) :=
  Opens.imp (opens_slice Try.underlying34 (by kernel_rfl) opens_item) (fun xs h => ⟨by have := h.1; rw [show Try.prog.bytesOf 32 = 104 by kernel_rfl] at this; omega, h.2⟩)
theorem opens_files : Opens enc Try.prog w 33 (Kd.slice 9 Kd.string) (fun xs => xs.length ≤ 140737488351232) :=
  Opens.imp (opens_slice Try.underlying33 (by kernel_rfl) (opens_string Try.underlying9 (by kernel_rfl))) (fun xs h => by have := h.1; rw [show Try.prog.bytesOf 9 = 16 by kernel_rfl] at this; omega)
/-- A model, as the print's kinds read it. -/
theorem opens_model : Opens enc Try.prog w 36 (Kd.iso (Kd.pair (Kd.slice 9 Kd.string) (Kd.slice 32 k32)) (fun (p : List ByteArray × List (S32)) => p)) (fun p => p.1.length ≤ 140737488351232 ∧ p.2.length ≤ 140737488351232 ∧ ∀ x ∈ p.2, goodItem x) :=
  opens_struct Try.underlying36 (by kernel_rfl) (opens_cons rfl opens_files rfl (opens_last rfl opens_items)) (fun a => a) (fun _ => rfl)
theorem open_model {b0 : Nat} {v : Value} {d : DataW H} {p : List MemPlace} (hv : Value.okWide Try.prog w .any b0 36 v) (h : DataW.Trod enc Try.prog w 0 (fun _ => true) true 36 v d p) (hl : Light Try.prog 36 d) :
    ∃ A0 c0 fs A1 c1 l, v = .agg #[.slice A0 fs.length c0, .slice A1 l.length c1] ∧ Kd.C Kd.string w A0 fs.length fs ∧ fs.length ≤ c0 ∧ Kd.C k32 w A1 l.length l ∧ l.length ≤ c1 ∧ fs.length ≤ 140737488351232 ∧ l.length ≤ 140737488351232 ∧ ∀ x ∈ l, goodItem x := by
  obtain ⟨cs, rfl, hsz⟩ := Go.WideShapes.okWide_struct Try.underlying36 hv
  obtain ⟨fuel, hf⟩ := h
  obtain ⟨⟨fs, l⟩, hK, h1, h2, h3⟩ := opens_model.go fuel _ _ hf hl
  obtain ⟨z0, z1, hz, ⟨A0, c0, rfl, q1, q2⟩, ⟨A1, c1, rfl, q3, q4⟩⟩ := hK
  have hz' : cs = #[.slice A0 fs.length c0, .slice A1 l.length c1] := by
    have : cs.toList = [.slice A0 fs.length c0, .slice A1 l.length c1] := by simpa [Value.cells] using hz
    rw [← Array.toArray_toList (xs := cs), this]
  exact ⟨A0, c0, fs, A1, c1, l, by rw [hz'], q2, q1, q4, q3, h1, h2, h3⟩
theorem light_of {ts : List TypeId} {ds : List (DataW H)} (h : (DataW.weightsEach Try.prog ts ds).all (· ≤ reachBytes) = true) {j : Nat} {t : TypeId} {d : DataW H} (ht : ts[j]? = some t) (hd : ds[j]? = some d) : Light Try.prog t d := by
  intro n hn
  have := List.all_eq_true.1 h n (DataW.weights_mem_each ht hd n hn)
  simpa using this
end
end Go.Proofs.Ytchellnfenekaaa.Pm
end
section
namespace Go.Proofs.Ytchellnfenekaaa.Pm
open Go.RowKit Go.Proofs.YtchellnfenekaaaW.PrintWords Go.Proofs.YtchellnfenekaaaW.PrintLast Go.Proofs.YtchellnfenekaaaW.PrintMore
attribute [local go_sem] max2_int min2_int max_two min_two max_three min_three max_four min_four   -- for this text's walks alone
set_option linter.unusedVariables false
set_option linter.unusedSimpArgs false
theorem bt_at (s : ByteArray) (i : Nat) (h : i < s.size) : bt s (i : Int) = byteAt s i := by
  unfold bt byteAt
  rw [dif_pos (by simpa using h), List.getD_eq_getElem?_getD, List.getElem?_eq_getElem (by simpa using h)]
  rfl
theorem first_eq (a : Int) : sentryref1_first.f a = some (letterB a) := letter_eq a
theorem rbyte_eq (a : Int) : sentryref1_Byte.f a = some (moreB a) := more_eq a
theorem ref_name_at (s : ByteArray) (hs : s.size ≤ 12) (d : Nat) : ∀ i k, i + d = s.size → d < k → sentryref1_Is.l0 k s (i : Nat) = some ((List.range' i d).all (fun j => moreB (byteAt s j))) := by
  induction d with
  | zero =>
    intro i k hi hk
    obtain ⟨k, rfl⟩ : ∃ m, k = m + 1 := ⟨k - 1, by omega⟩
    simp only [sentryref1_Is.l0]
    rw [if_neg (by omega)]
    rfl
  | succ d ih =>
    intro i k hi hk
    obtain ⟨k, rfl⟩ : ∃ m, k = m + 1 := ⟨k - 1, by omega⟩
    simp only [sentryref1_Is.l0]
    rw [if_pos (by omega), if_pos (by omega), bt_at s i (by omega), rbyte_eq, Option.bind_some, List.range'_succ, List.all_cons]
    cases moreB (byteAt s i) with
    | false => simp
    | true =>
      rw [if_pos rfl, wrap_lt (n := (s.size : Int)) (by omega) (by omega) (by omega), Bool.true_and]
      exact ih (i + 1) k (by omega) (by omega)
theorem ref_name (s : ByteArray) (k : Nat) (hk : 15 ≤ k) : sentryref1_Is.f k s = some (nameB s) := by
  obtain ⟨k, rfl⟩ : ∃ m, k = m + 1 := ⟨k - 1, by omega⟩
  unfold sentryref1_Is.f nameB
  by_cases h1 : s.size < 1
  · rw [if_pos (by omega), decide_eq_false (by omega)]; simp [sentryref1_Is.j0]
  by_cases h2 : s.size > 12
  · rw [if_neg (by omega), if_pos (by omega), decide_eq_false (by omega)]; simp [sentryref1_Is.j0]
  rw [if_neg (by omega), if_neg (by omega), if_pos (by omega), decide_eq_true (by omega), show (0 : Int) = ((0 : Nat) : Int) from rfl, bt_at s 0 (by omega), first_eq, Option.bind_some]
  cases letterB (byteAt s 0) with
  | false => simp [sentryref1_Is.j0]
  | true =>
    simp only [sentryref1_Is.j0, Bool.not_true, Bool.false_eq_true, if_false]
    rw [show (0 : Int) = ((0 : Nat) : Int) from rfl, ref_name_at s (by omega) s.size 0 k (by omega) (by omega), List.range_eq_range']
    rfl
theorem mem_any_at (l : List ByteArray) (s : ByteArray) (hn : l.length ≤ 9223372036854775807) (d : Nat) : ∀ (i k : Nat), i + d = l.length → d < k → sentryref4_File.l0 k l s (i : Nat) = some ((l.drop i).any (fun x => s.toList == x.toList)) := by
  induction d with
  | zero =>
    intro i k hi hk
    obtain ⟨k, rfl⟩ : ∃ m, k = m + 1 := ⟨k - 1, by omega⟩
    simp only [sentryref4_File.l0]
    rw [if_neg (by omega), List.drop_of_length_le (by omega)]
    rfl
  | succ d ih =>
    intro i k hi hk
    obtain ⟨k, rfl⟩ : ∃ m, k = m + 1 := ⟨k - 1, by omega⟩
    have hlt : i < l.length := by omega
    simp only [sentryref4_File.l0]
    rw [if_pos (by omega), if_pos (by omega), rdOf_get _ _ _ hlt, List.drop_eq_getElem_cons hlt, List.any_cons]
    by_cases he : l[i].toList = s.toList
    · rw [if_pos he, show (s.toList == l[i].toList) = true by rw [he]; simp]; rfl
    · rw [if_neg he, show (s.toList == l[i].toList) = false by simpa using Ne.symm he, Bool.false_or, wrap_lt (n := (l.length : Int)) (by omega) (by omega) (by omega)]
      exact ih (i + 1) k (by omega) (by omega)
theorem ref_file (l : List ByteArray) (s : ByteArray) (hn : l.length ≤ 9223372036854775807) (k : Nat) (hk : l.length < k) : sentryref4_File.f k l s = some (memB l s) := mem_any_at l s hn l.length 0 k (by omega) hk
theorem ref_op_at (s : ByteArray) (l : List ByteArray) (hn : l.length ≤ 9223372036854775807) (d : Nat) : ∀ (i k : Nat), i + d = l.length → d < k → ∃ r, sentryref4_Op.l0 k s l (i : Nat) = some r ∧ decide (r < 0) = !((l.drop i).any (fun x => s.toList == x.toList)) := by
  induction d with
  | zero =>
    intro i k hi hk
    obtain ⟨k, rfl⟩ : ∃ m, k = m + 1 := ⟨k - 1, by omega⟩
    refine ⟨-1, ?_, ?_⟩
    · simp only [sentryref4_Op.l0]
      rw [if_neg (by omega)]
    · rw [List.drop_of_length_le (by omega)]; rfl
  | succ d ih =>
    intro i k hi hk
    obtain ⟨k, rfl⟩ : ∃ m, k = m + 1 := ⟨k - 1, by omega⟩
    have hlt : i < l.length := by omega
    simp only [sentryref4_Op.l0]
    rw [if_pos (by omega), if_pos (by omega), rdOf_get _ _ _ hlt, List.drop_eq_getElem_cons hlt, List.any_cons]
    by_cases he : l[i].toList = s.toList
    · rw [if_pos he]
      refine ⟨i, rfl, ?_⟩
      rw [show (s.toList == l[i].toList) = true by rw [he]; simp, decide_eq_false (by omega)]; rfl
    · rw [if_neg he, show (s.toList == l[i].toList) = false by simpa using Ne.symm he, Bool.false_or, wrap_lt (n := (l.length : Int)) (by omega) (by omega) (by omega)]
      exact ih (i + 1) k (by omega) (by omega)
theorem ref_op (s : ByteArray) (k : Nat) (hk : 6 < k) : ∃ r, sentryref4_Op.f k s = some r ∧ decide (r < 0) = !memB opsL s := ref_op_at s opsL (by decide) 6 0 k (by decide) hk
theorem ref_place_at (fs : List ByteArray) (l : List (S32)) (id : ByteArray) (hn : l.length ≤ 9223372036854775807) (d : Nat) : ∀ (i k : Nat), i + d = l.length → d < k → (∀ j, j < i → model_Place.p id (l.getD j z32) = false) → sentryref4_Place.l0 k id (i : Nat) fs l = some (placeI l id) := by
  induction d with
  | zero =>
    intro i k hi hk hno
    obtain ⟨k, rfl⟩ : ∃ m, k = m + 1 := ⟨k - 1, by omega⟩
    simp only [sentryref4_Place.l0]
    rw [if_neg (by omega)]
    unfold placeI
    rw [fidx_miss _ l z32 (fun j hj => hno j (by omega))]
  | succ d ih =>
    intro i k hi hk hno
    obtain ⟨k, rfl⟩ : ∃ m, k = m + 1 := ⟨k - 1, by omega⟩
    have hlt : i < l.length := by omega
    have hrd : rd_T32 l (i : Int) = l.getD i z32 := rfl
    simp only [sentryref4_Place.l0]
    rw [if_pos (by omega), if_pos (by omega), hrd]
    by_cases he : (l.getD i z32).f0.toList = id.toList
    · rw [if_pos he]
      unfold placeI
      rw [fidx_hit _ l i z32 hlt (by unfold model_Place.p; simpa using he) hno]
    · rw [if_neg he, wrap_lt (n := (l.length : Int)) (by omega) (by omega) (by omega)]
      refine ih (i + 1) k (by omega) (by omega) (fun j hj => ?_)
      by_cases e : j = i
      · subst e; unfold model_Place.p; simpa using he
      · exact hno j (by omega)
theorem ref_place (fs : List ByteArray) (l : List (S32)) (id : ByteArray) (hn : l.length ≤ 9223372036854775807) (k : Nat) (hk : l.length < k) : sentryref4_Place.f k fs l id = some (placeI l id) := ref_place_at fs l id hn l.length 0 k (by omega) hk (fun j hj => by omega)
end Go.Proofs.Ytchellnfenekaaa.Pm
end
section
namespace Go.Proofs.Ytchellnfenekaaa.Pm
open Go.RowKit Go.Proofs.YtchellnfenekaaaW.PrintWords Go.Proofs.YtchellnfenekaaaW.PrintLast Go.Proofs.YtchellnfenekaaaW.PrintMore
attribute [local go_sem] max2_int min2_int max_two min_two max_three min_three max_four min_four   -- for this text's walks alone
set_option linter.unusedVariables false
set_option linter.unusedSimpArgs false
theorem refLegal3 (a b : Int) : sentryref4_Legal.f 3 a b = some (legalB a b) := by
  unfold sentryref4_Legal.f legalB
  by_cases h1 : a < 1
  · rw [if_pos h1]
    simp only [sentryref4_Legal.j0, if_true]
    by_cases h15 : b = 1 ∨ b = 5
    · rw [if_pos h15, decide_eq_false (by omega)]
    · rw [if_neg h15]
      by_cases h23 : b = 2 ∨ b = 3
      · rw [if_pos h23, decide_eq_false (by omega)]
      · rw [if_neg h23]
        by_cases h4 : b = 4
        · rw [if_pos h4, decide_eq_false (by omega)]
        · rw [if_neg h4]
  · rw [if_neg h1]
    by_cases h5 : a > 5
    · rw [decide_eq_true h5]
      simp only [sentryref4_Legal.j0, if_true]
      by_cases h15 : b = 1 ∨ b = 5
      · rw [if_pos h15, decide_eq_false (by omega)]
      · rw [if_neg h15]
        by_cases h23 : b = 2 ∨ b = 3
        · rw [if_pos h23, decide_eq_false (by omega)]
        · rw [if_neg h23]
          by_cases h4 : b = 4
          · rw [if_pos h4, decide_eq_false (by omega)]
          · rw [if_neg h4]
    · rw [decide_eq_false h5]
      simp only [sentryref4_Legal.j0, Bool.false_eq_true, if_false]
      by_cases e1 : b = 1
      · subst e1; simp [sentryref4_Legal.j1]; omega
      · rw [if_neg e1]
        by_cases e5 : b = 5
        · subst e5; simp [sentryref4_Legal.j1]; omega
        · rw [show (b == 5) = false by simpa using e5, if_neg (by omega)]
          simp only [sentryref4_Legal.j1, Bool.false_eq_true, if_false]
          by_cases e2 : b = 2
          · subst e2; simp [sentryref4_Legal.j2]; rw [Bool.eq_iff_iff]; simp; omega
          · rw [if_neg e2]
            by_cases e3 : b = 3
            · subst e3; simp [sentryref4_Legal.j2]; rw [Bool.eq_iff_iff]; simp; omega
            · rw [show (b == 3) = false by simpa using e3, if_neg (by omega)]
              simp only [sentryref4_Legal.j2, Bool.false_eq_true, if_false]
              by_cases e4 : b = 4
              · subst e4; simp; rw [Bool.eq_iff_iff]; simp; omega
              · simp [e4]
end Go.Proofs.Ytchellnfenekaaa.Pm
end
section
namespace Go.Proofs.Ytchellnfenekaaa.Pm
open Go.RowKit Go.Proofs.YtchellnfenekaaaW.PrintWords Go.Proofs.YtchellnfenekaaaW.PrintLast Go.Proofs.YtchellnfenekaaaW.PrintMore
attribute [local go_sem] max2_int min2_int max_two min_two max_three min_three max_four min_four   -- for this text's walks alone
set_option linter.unusedVariables false
set_option linter.unusedSimpArgs false
theorem Ev.at {α : Type} {g : Nat → Option α} {r : α} (K : Nat) (h : ∀ k, K ≤ k → g k = some r) : Ev g r := ⟨K, h⟩
theorem ev_place (fs : List ByteArray) (l : List (S32)) (id : ByteArray) (hn : l.length ≤ 9223372036854775807) : Ev (fun k => sentryref4_Place.f k fs l id) (placeI l id) := Ev.at (l.length + 1) (fun k hk => ref_place fs l id hn k (by omega))
theorem ev_l2 (fs : List ByteArray) (l : List (S32)) (on : List (S39)) (ifs : List (S25)) (hf : fs.length ≤ 9223372036854775807) (hn : ifs.length ≤ 9223372036854775807) (d : Nat) : ∀ i : Nat, i + d = ifs.length → Ev (fun k => sentryref4_sentry.l2 k (i : Int) fs l on ifs) ((ifs.drop i).all (fun c => ifB fs c.f0 c.f1 c.f2)) := by
  induction d with
  | zero =>
    intro i hi
    refine Ev.step (f := fun _ => some true) (fun k => ?_) ?_
    · simp only [sentryref4_sentry.l2]
      rw [if_neg (by omega)]
    · rw [List.drop_of_length_le (by omega)]
      exact Ev.now true
  | succ d ih =>
    intro i hi
    have hlt : i < ifs.length := by omega
    have hrd : rd_T25 ifs (i : Int) = ifs[i] := by simp [rd_T25, List.getD_eq_getElem?_getD, List.getElem?_eq_getElem hlt]
    refine Ev.step (f := fun k => (sentryref4_File.f k fs (ifs[i]).f0).bind fun t => (if t = true then ((sentryref4_Op.f k (ifs[i]).f1).bind fun t2 => (if t2 < 0 then (some false) else (if (ifs[i]).f2 < (-1000000) then (some false) else (if (ifs[i]).f2 > 1000000 then (some false) else (sentryref4_sentry.l2 k (((i + 1 : Nat)) : Int) fs l on ifs))))) else (some false))) (fun k => ?_) ?_
    · simp only [sentryref4_sentry.l2]
      rw [if_pos (by omega), if_pos (by omega), hrd, wrap_lt (n := (ifs.length : Int)) (by omega) (by omega) (by omega)]
      rfl
    · rw [List.drop_eq_getElem_cons hlt, List.all_cons]
      refine Ev.bind (Ev.at (fs.length + 1) (fun k hk => ref_file fs _ hf k (by omega))) ?_
      unfold ifB
      cases memB fs (ifs[i]).f0 with
      | false =>
        refine Ev.congr (fun k => if_neg (by simp)) ?_
        rw [Bool.false_and, Bool.and_false, Bool.false_and]
        exact Ev.now false
      | true =>
        refine Ev.congr (fun k => if_pos rfl) ?_
        obtain ⟨r, hr, hd⟩ := ref_op (ifs[i]).f1 7 (by omega)
        refine Ev.bind (Ev.at 7 (fun k hk => at_rounds (fun k => sentryref4_Op.mono _ k) hk hr)) ?_
        by_cases h0 : r < 0
        · have : memB opsL (ifs[i]).f1 = false := by rw [decide_eq_true h0] at hd; simpa using hd.symm
          rw [this, Bool.false_and, Bool.false_and]
          refine Ev.congr (fun k => if_pos h0) (Ev.now false)
        · have : memB opsL (ifs[i]).f1 = true := by rw [decide_eq_false h0] at hd; simpa using hd.symm
          rw [this, Bool.true_and, Bool.true_and]
          refine Ev.congr (fun k => if_neg h0) ?_
          by_cases h1 : (ifs[i]).f2 < -1000000
          · rw [decide_eq_false (by omega), Bool.false_and]
            exact Ev.congr (fun k => if_pos h1) (Ev.now false)
          · by_cases h2 : (ifs[i]).f2 > 1000000
            · rw [decide_eq_false (by omega), Bool.false_and]
              exact Ev.congr (fun k => (if_neg h1).trans (if_pos h2)) (Ev.now false)
            · rw [decide_eq_true (by omega), Bool.true_and]
              exact Ev.congr (fun k => (if_neg h1).trans (if_neg h2)) (ih (i + 1) (by omega))
theorem ev_l1 (fs : List ByteArray) (l : List (S32)) (on : List (S39)) (ifs : List (S25)) (hn : on.length ≤ 9223372036854775807) (i : Nat) (hi : i < on.length) (R : Bool) (hR : Ev (fun k => sentryref4_sentry.l0 k (((i + 1 : Nat)) : Int) fs l on ifs) R) (d : Nat) : ∀ j : Nat, j + d = i → Ev (fun k => sentryref4_sentry.l1 k (i : Int) (j : Int) fs l on ifs) (!(((on.take i).drop j).any (hasOn_p (rd_T39 on i).f0 (rd_T39 on i).f1)) && R) := by
  induction d with
  | zero =>
    intro j hj
    refine Ev.step (f := fun k => sentryref4_sentry.l0 k (((i + 1 : Nat)) : Int) fs l on ifs) (fun k => ?_) ?_
    · simp only [sentryref4_sentry.l1]
      rw [if_neg (by omega), wrap_lt (n := (on.length : Int)) (by omega) (by omega) (by omega)]
      rfl
    · rw [List.drop_of_length_le (by rw [List.length_take]; omega)]
      simpa using hR
  | succ d ih =>
    intro j hj
    have hjl : j < (on.take i).length := by rw [List.length_take]; omega
    have hrd : rd_T39 on (j : Int) = (on.take i)[j] := by simp [rd_T39, List.getD_eq_getElem?_getD, List.getElem?_eq_getElem (show j < on.length by omega)]
    rw [List.drop_eq_getElem_cons hjl, List.any_cons]
    have hsym : ((((on.take i)[j]).f0.toList == (rd_T39 on i).f0.toList) && (((on.take i)[j]).f1 == (rd_T39 on i).f1)) = hasOn_p (rd_T39 on i).f0 (rd_T39 on i).f1 (on.take i)[j] := by
      unfold hasOn_p
      rw [Bool.eq_iff_iff]
      simp only [Bool.and_eq_true, beq_iff_eq]
      exact ⟨fun h => ⟨h.1.symm, h.2.symm⟩, fun h => ⟨h.1.symm, h.2.symm⟩⟩
    refine Ev.step (f := fun k => if hasOn_p (rd_T39 on i).f0 (rd_T39 on i).f1 (on.take i)[j] = true then some false else sentryref4_sentry.l1 k (i : Int) (((j + 1 : Nat)) : Int) fs l on ifs) (fun k => ?_) ?_
    · simp only [sentryref4_sentry.l1]
      rw [if_pos (by omega), if_pos (by omega), if_pos (by omega), if_pos (by omega), if_pos (by omega), hrd, hsym, wrap_lt (n := (on.length : Int)) (by omega) (by omega) (by omega)]
      rfl
    · cases hq : hasOn_p (rd_T39 on i).f0 (rd_T39 on i).f1 (on.take i)[j] with
      | true => exact Ev.congr (fun k => if_pos rfl) (by simpa using Ev.now false)
      | false => exact Ev.congr (fun k => if_neg (by simp)) (by simpa using ih (j + 1) (by omega))
theorem ev_l0 (fs : List ByteArray) (l : List (S32)) (on : List (S39)) (ifs : List (S25)) (hf : fs.length ≤ 9223372036854775807) (hl : l.length ≤ 9223372036854775807) (hn : on.length ≤ 9223372036854775807) (hi2 : ifs.length ≤ 9223372036854775807) (d : Nat) : ∀ i : Nat, i + d = on.length → Ev (fun k => sentryref4_sentry.l0 k (i : Int) fs l on ifs) ((List.range' i d).all (onOk l on) && ifs.all (fun c => ifB fs c.f0 c.f1 c.f2)) := by
  induction d with
  | zero =>
    intro i hi
    refine Ev.step (f := fun k => sentryref4_sentry.l2 k ((0 : Nat) : Int) fs l on ifs) (fun k => ?_) ?_
    · simp only [sentryref4_sentry.l0]
      rw [if_neg (by omega)]
      rfl
    · simpa using ev_l2 fs l on ifs hf hi2 ifs.length 0 (by omega)
  | succ d ih =>
    intro i hi
    have hlt : i < on.length := by omega
    rw [List.range'_succ, List.all_cons]
    have hok : onOk l on i = (onB l (rd_T39 on i).f0 (rd_T39 on i).f1 && !hasOn (on.take i) (rd_T39 on i).f0 (rd_T39 on i).f1) := rfl
    rw [hok]
    refine Ev.step (f := fun k => (sentryref4_Place.f k fs l (rd_T39 on i).f0).bind fun t => (if t < 0 then (sentryref4_sentry.j2 k (i : Int) true fs l on ifs) else (if 0 ≤ t then (if t < (l.length : Int) then ((sentryref4_Legal.f k ((rd_T32 l t).f1) ((rd_T39 on i).f1)).bind fun t2 => (sentryref4_sentry.j2 k (i : Int) (!t2) fs l on ifs)) else (none)) else (none)))) (fun k => ?_) ?_
    · simp only [sentryref4_sentry.l0]
      rw [if_pos (by omega), if_pos (by omega)]
    · refine Ev.bind (ev_place fs l _ hl) ?_
      have hj2f : Ev (fun k => sentryref4_sentry.j2 k (i : Int) true fs l on ifs) false := Ev.step (f := fun _ => some false) (fun k => by simp [sentryref4_sentry.j2]) (Ev.now false)
      have hj2t : Ev (fun k => sentryref4_sentry.j2 k (i : Int) false fs l on ifs) (!hasOn (on.take i) (rd_T39 on i).f0 (rd_T39 on i).f1 && ((List.range' (i + 1) d).all (onOk l on) && ifs.all (fun c => ifB fs c.f0 c.f1 c.f2))) := by
        refine Ev.step (f := fun k => sentryref4_sentry.l1 k (i : Int) ((0 : Nat) : Int) fs l on ifs) (fun k => by simp [sentryref4_sentry.j2]) ?_
        have := ev_l1 fs l on ifs hn i hlt _ (ih (i + 1) (by omega)) i 0 (by omega)
        simpa [hasOn] using this
      unfold onB
      by_cases hp : 0 ≤ placeI l (rd_T39 on i).f0
      · rw [if_pos hp]
        refine Ev.congr (fun k => (if_neg (by omega)).trans ((if_pos hp).trans (if_pos (placeI_lt l _)))) ?_
        refine Ev.bind (Ev.at 3 (fun k hk => at_rounds (fun k => sentryref4_Legal.mono _ _ k) hk (refLegal3 _ _))) ?_
        cases legalB (rd_T32 l (placeI l (rd_T39 on i).f0)).f1 (rd_T39 on i).f1 with
        | true => simpa [Bool.and_assoc] using hj2t
        | false => simpa using hj2f
      · rw [if_neg hp]
        exact Ev.congr (fun k => if_pos (by omega)) (by simpa using hj2f)
theorem ev_sentry (fs : List ByteArray) (l : List (S32)) (on : List (S39)) (ifs : List (S25)) (hf : fs.length ≤ 9223372036854775807) (hl : l.length ≤ 9223372036854775807) (hn : on.length ≤ 9223372036854775807) (hi2 : ifs.length ≤ 9223372036854775807) : Ev (fun k => sentryref4_sentry.f k fs l on ifs) (sentryB fs l on ifs) := by
  have hjf : Ev (fun k => sentryref4_sentry.j0 k true fs l on ifs) false := Ev.step (f := fun _ => some false) (fun k => by simp [sentryref4_sentry.j0]) (Ev.now false)
  unfold sentryref4_sentry.f sentryB
  by_cases h3 : on.length > 3
  · rw [decide_eq_false (by omega), Bool.false_and]
    exact Ev.congr (fun k => if_pos (by omega)) hjf
  by_cases h2 : ifs.length > 2
  · rw [decide_eq_false (by omega), Bool.false_and]
    exact Ev.congr (fun k => (if_neg (by omega)).trans (if_pos (by omega))) hjf
  refine Ev.congr (fun k => (if_neg (by omega)).trans (if_neg (by omega))) ?_
  have hw : wrap64 ((on.length : Int) + (ifs.length : Int)) = (on.length : Int) + (ifs.length : Int) := by unfold wrap64; omega
  rw [hw]
  by_cases h0 : on.length + ifs.length = 0
  · rw [decide_eq_false (by omega), Bool.false_and, show (((on.length : Int) + (ifs.length : Int)) == 0) = true by simp; omega]
    exact hjf
  · rw [decide_eq_true (by omega), Bool.true_and, show (((on.length : Int) + (ifs.length : Int)) == 0) = false by
      have : (on.length : Int) + (ifs.length : Int) ≠ 0 := by omega
      simpa using this]
    refine Ev.step (f := fun k => sentryref4_sentry.l0 k ((0 : Nat) : Int) fs l on ifs) (fun k => by simp [sentryref4_sentry.j0]) ?_
    have := ev_l0 fs l on ifs hf hl hn hi2 on.length 0 (by omega)
    rw [List.range_eq_range']
    have he : ifsOk fs ifs = ifs.all (fun c => ifB fs c.f0 c.f1 c.f2) := by unfold ifsOk; rw [List.not_any_eq_all_not]; simp
    rw [he]
    exact this
theorem ev_sentries_at (fs : List ByteArray) (l : List (S32)) (ss : List (S29)) (hf : fs.length ≤ 9223372036854775807) (hl : l.length ≤ 9223372036854775807) (hs : ss.length ≤ 9223372036854775807) (hg : ∀ s ∈ ss, s.f0.length ≤ 9223372036854775807 ∧ s.f1.length ≤ 9223372036854775807) (d : Nat) : ∀ i : Nat, i + d = ss.length → Ev (fun k => sentryref4_sentries.l0 k ss (i : Int) fs l) ((ss.drop i).all (fun s => sentryB fs l s.f0 s.f1) && decide (ss.length ≤ 3)) := by
  induction d with
  | zero =>
    intro i hi
    refine Ev.step (f := fun _ => some (decide ((ss.length : Int) ≤ 3))) (fun k => ?_) ?_
    · simp only [sentryref4_sentries.l0]
      rw [if_neg (by omega)]
    · rw [List.drop_of_length_le (by omega), List.all_nil, Bool.true_and, show decide (ss.length ≤ 3) = decide ((ss.length : Int) ≤ 3) by rw [decide_eq_decide]; omega]
      exact Ev.now _
  | succ d ih =>
    intro i hi
    have hlt : i < ss.length := by omega
    have hrd : rd_T29 ss (i : Int) = ss[i] := by simp [rd_T29, List.getD_eq_getElem?_getD, List.getElem?_eq_getElem hlt]
    rw [List.drop_eq_getElem_cons hlt, List.all_cons]
    refine Ev.step (f := fun k => (sentryref4_sentry.f k fs l (ss[i]).f0 (ss[i]).f1).bind fun t => (if t = true then (sentryref4_sentries.l0 k ss (((i + 1 : Nat)) : Int) fs l) else (some false))) (fun k => ?_) ?_
    · simp only [sentryref4_sentries.l0]
      rw [if_pos (by omega), if_pos (by omega), hrd, wrap_lt (n := (ss.length : Int)) (by omega) (by omega) (by omega)]
      rfl
    · have hgi := hg ss[i] (List.getElem_mem hlt)
      refine Ev.bind (ev_sentry fs l _ _ hf hl hgi.1 hgi.2) ?_
      cases sentryB fs l (ss[i]).f0 (ss[i]).f1 with
      | true => exact Ev.congr (fun k => if_pos rfl) (by simpa using ih (i + 1) (by omega))
      | false => exact Ev.congr (fun k => if_neg (by simp)) (by simpa using Ev.now false)
theorem ev_sentries (fs : List ByteArray) (l : List (S32)) (ss : List (S29)) (hf : fs.length ≤ 9223372036854775807) (hl : l.length ≤ 9223372036854775807) (hs : ss.length ≤ 9223372036854775807) (hg : ∀ s ∈ ss, s.f0.length ≤ 9223372036854775807 ∧ s.f1.length ≤ 9223372036854775807) : Ev (fun k => sentryref4_sentries.f k fs l ss) (sentsB fs l ss) := by
  have := ev_sentries_at fs l ss hf hl hs hg ss.length 0 (by omega)
  have e : sentsB fs l ss = ((ss.drop 0).all (fun s => sentryB fs l s.f0 s.f1) && decide (ss.length ≤ 3)) := by
    unfold sentsB
    rw [List.not_any_eq_all_not, Bool.and_comm]
    simp
  rw [e]
  exact this
end Go.Proofs.Ytchellnfenekaaa.Pm
end
section
namespace Go.Proofs.Ytchellnfenekaaa.Pm
open Go.RowKit Go.Proofs.YtchellnfenekaaaW.PrintWords Go.Proofs.YtchellnfenekaaaW.PrintLast Go.Proofs.YtchellnfenekaaaW.PrintMore
attribute [local go_sem] max2_int min2_int max_two min_two max_three min_three max_four min_four   -- for this text's walks alone
set_option linter.unusedVariables false
set_option linter.unusedSimpArgs false
theorem ev_name (s : ByteArray) : Ev (fun k => sentryref1_Is.f k s) (nameB s) := Ev.at 15 (fun k hk => ref_name s k hk)
abbrev nmA (l : List (S32)) (i : Int) : ByteArray := (rd_T32 l i).f0
abbrev kdA (l : List (S32)) (i : Int) : Int := (rd_T32 l i).f1
abbrev paA (l : List (S32)) (i : Int) : ByteArray := (rd_T32 l i).f2
def wnF (l : List (S32)) (id : ByteArray) : Nat → Int → Bool
  | 0, _ => false
  | d + 1, x => if x ≥ 0 then (if (nmA l x).toList = id.toList then true else wnF l id d (placeI l (paA l x))) else false
def dpF (l : List (S32)) : Nat → Int → Int → Int
  | 0, _, _ => -1
  | d + 1, x, c => if x > 0 then dpF l d (placeI l (paA l x)) (c + 1) else if x < 0 then -1 else c
theorem ev_within_at (fs : List ByteArray) (l : List (S32)) (id : ByteArray) (hn : l.length ≤ 9223372036854775806) (d : Nat) : ∀ (x : Int) (c : Nat), c + d = l.length + 1 → x < l.length → Ev (fun k => sentryref4_within.l0 k x id (c : Int) fs l) (wnF l id d x) := by
  induction d with
  | zero =>
    intro x c hc hx
    unfold wnF
    by_cases h : x ≥ 0
    · refine Ev.step (f := fun k => sentryref4_within.j1 k x id (c : Int) false fs l) (fun k => ?_) ?_
      · simp only [sentryref4_within.l0]
        rw [if_pos h, decide_eq_false (by omega)]
      · exact Ev.step (f := fun _ => some false) (fun k => by simp [sentryref4_within.j1]) (Ev.now false)
    · refine Ev.step (f := fun k => sentryref4_within.j1 k x id (c : Int) false fs l) (fun k => ?_) ?_
      · simp only [sentryref4_within.l0]
        rw [if_neg h]
      · exact Ev.step (f := fun _ => some false) (fun k => by simp [sentryref4_within.j1]) (Ev.now false)
  | succ d ih =>
    intro x c hc hx
    unfold wnF
    by_cases h : x ≥ 0
    · rw [if_pos h]
      refine Ev.step (f := fun k => sentryref4_within.j1 k x id (c : Int) true fs l) (fun k => ?_) ?_
      · simp only [sentryref4_within.l0]
        rw [if_pos h, decide_eq_true (by omega)]
      · refine Ev.step (f := fun k => if (nmA l x).toList = id.toList then (some true) else ((sentryref4_Place.f k fs l (paA l x)).bind fun t => (sentryref4_within.l0 k t id (((c + 1 : Nat)) : Int) fs l))) (fun k => ?_) ?_
        · simp only [sentryref4_within.j1]
          rw [if_pos trivial, if_pos h, if_pos hx, show wrap64 ((c : Int) + 1) = ((c + 1 : Nat) : Int) by unfold wrap64; omega]
        · by_cases he : (nmA l x).toList = id.toList
          · rw [if_pos he]
            exact Ev.congr (fun k => if_pos he) (Ev.now true)
          · rw [if_neg he]
            exact Ev.congr (fun k => if_neg he) (Ev.bind (ev_place fs l _ (by omega)) (ih _ (c + 1) (by omega) (placeI_lt l _)))
    · rw [if_neg h]
      refine Ev.step (f := fun k => sentryref4_within.j1 k x id (c : Int) false fs l) (fun k => ?_) ?_
      · simp only [sentryref4_within.l0]
        rw [if_neg h]
      · exact Ev.step (f := fun _ => some false) (fun k => by simp [sentryref4_within.j1]) (Ev.now false)
theorem ev_within (fs : List ByteArray) (l : List (S32)) (id : ByteArray) (hn : l.length ≤ 9223372036854775806) (x : Int) (hx : x < l.length) : Ev (fun k => sentryref4_within.f k fs l x id) (wnF l id (l.length + 1) x) := ev_within_at fs l id hn (l.length + 1) x 0 (by omega) hx
theorem ev_depth_at (fs : List ByteArray) (l : List (S32)) (hn : l.length ≤ 9223372036854775806) (d : Nat) : ∀ (x : Int) (c : Nat), c + d = l.length + 1 → x < l.length → Ev (fun k => sentryref4_Depth.l0 k x (c : Int) fs l) (dpF l d x c) := by
  induction d with
  | zero =>
    intro x c hc hx
    unfold dpF
    refine Ev.step (f := fun _ => some (-1)) (fun k => ?_) (Ev.now _)
    simp only [sentryref4_Depth.l0]
    by_cases h : x > 0
    · rw [if_pos h, if_neg (by omega), if_neg (by omega), if_pos (by omega)]
    · rw [if_neg h]
      by_cases h2 : x < 0
      · rw [if_pos h2]
      · rw [if_neg h2, if_pos (by omega)]
  | succ d ih =>
    intro x c hc hx
    unfold dpF
    by_cases h : x > 0
    · rw [if_pos h]
      refine Ev.step (f := fun k => ((sentryref4_Place.f k fs l (paA l x)).bind fun t => (sentryref4_Depth.l0 k t (((c + 1 : Nat)) : Int) fs l))) (fun k => ?_) ?_
      · simp only [sentryref4_Depth.l0]
        rw [if_pos h, if_pos (by omega), if_pos (by omega), if_pos hx, show wrap64 ((c : Int) + 1) = ((c + 1 : Nat) : Int) by unfold wrap64; omega]
      · exact Ev.bind (ev_place fs l _ (by omega)) (ih _ (c + 1) (by omega) (placeI_lt l _))
    · rw [if_neg h]
      by_cases h2 : x < 0
      · rw [if_pos h2]
        refine Ev.step (f := fun _ => some (-1)) (fun k => ?_) (Ev.now _)
        simp only [sentryref4_Depth.l0]
        rw [if_neg h, if_pos h2]
      · rw [if_neg h2]
        refine Ev.step (f := fun _ => some (c : Int)) (fun k => ?_) (Ev.now _)
        simp only [sentryref4_Depth.l0]
        rw [if_neg h, if_neg h2, if_neg (by omega)]
theorem ev_depth (fs : List ByteArray) (l : List (S32)) (hn : l.length ≤ 9223372036854775806) (x : Int) (hx : x < l.length) : Ev (fun k => sentryref4_Depth.f k fs l x) (dpF l (l.length + 1) x 0) := ev_depth_at fs l hn (l.length + 1) x 0 (by omega) hx
/-- What is asked of an item's place. -/
def rplace (l : List (S32)) (i : Nat) : Bool :=
  if i = 0 then planB (rd_T32 l i).f1 (rd_T32 l i).f2 (rd_T32 l i).f3 (rd_T32 l i).f5.length (rd_T32 l i).f6.length
  else !decide ((paA l i).toList = []) && (decide (0 ≤ placeI l (paA l i) ∧ placeI l (paA l i) < i ∧ kdA l (placeI l (paA l i)) = 1) && (wnF l (paA l i) (l.length + 1) ((i : Int) - 1) && decide (1 ≤ dpF l (l.length + 1) i 0 ∧ dpF l (l.length + 1) i 0 ≤ 5)))
/-- What is asked of an item's own. -/
def rown (x : S32) : Bool := decide (1 ≤ x.f1 ∧ x.f1 ≤ 5) && ((if x.f1 = 5 then decide (1 ≤ x.f4 ∧ x.f4 ≤ 100) else decide (x.f4 = 0)) && !(decide (x.f1 ≥ 4) && (x.f3 || decide (0 < x.f5.length))))
def ritem (l : List (S32)) (i : Nat) : Bool :=
  nameB (nmA l i) && (decide (placeI l (nmA l i) = i) && (rown (rd_T32 l i) && rplace l i))
theorem ev_j2f (fs : List ByteArray) (l : List (S32)) (i : Int) (a0 : ByteArray) (a1 : Int) (a2 : ByteArray) (a3 : Bool) (a4 : Int) (l5 l6 : List (S29)) : Ev (fun k => sentryref4_item.j2 k i true fs l a0 a1 a2 a3 a4 l5 l6) false := Ev.step (f := fun _ => some false) (fun k => by simp [sentryref4_item.j2]) (Ev.now false)
theorem ev_j2 (fs : List ByteArray) (l : List (S32)) (hn : l.length ≤ 9223372036854775806) (i : Nat) (hi : i < l.length) (x : S32) (hx : x = rd_T32 l i) : Ev (fun k => sentryref4_item.j2 k i false fs l x.f0 x.f1 x.f2 x.f3 x.f4 x.f5 x.f6) (rplace l i) := by
  unfold rplace
  rw [← hx]
  show Ev _ (if i = 0 then planB x.f1 x.f2 x.f3 x.f5.length x.f6.length else !decide ((paA l i).toList = []) && (decide (0 ≤ placeI l (paA l i) ∧ placeI l (paA l i) < i ∧ kdA l (placeI l (paA l i)) = 1) && (wnF l (paA l i) (l.length + 1) ((i : Int) - 1) && decide (1 ≤ dpF l (l.length + 1) i 0 ∧ dpF l (l.length + 1) i 0 ≤ 5))))
  have hpa : paA l i = x.f2 := by rw [hx]
  rw [hpa]
  by_cases h0 : i = 0
  · rw [if_pos h0]
    unfold planB
    refine Ev.step (f := fun _ => some (decide (x.f1 = 1) && (decide (x.f2.toList = []) && (!x.f3 && decide (x.f5.length + x.f6.length = 0))))) (fun k => ?_) (Ev.now _)
    simp only [sentryref4_item.j2]
    rw [if_neg (by simp), if_pos (by omega)]
    by_cases h1 : x.f1 = 1
    · by_cases h2 : x.f2.toList = []
      · cases h3 : x.f3 with
        | true => simp [h1, h2]
        | false =>
          by_cases h5 : x.f5.length = 0
          · by_cases h6 : x.f6.length = 0 <;> simp [h1, h2, h5, h6] <;> omega
          · have : ¬ ((x.f5.length : Int) = 0) := by omega
            simp [h1, h2, h5, this]
            
      · simp [h1, h2]
    · simp [h1]
  · rw [if_neg h0]
    refine Ev.step (f := fun k => ((sentryref4_Place.f k fs l x.f2).bind fun t180 => (if x.f2.toList = ([] : List UInt8) then (some false) else (if t180 ≥ 0 then (if t180 < (i : Int) then (if 0 ≤ t180 then (if t180 < (l.length : Int) then (if ((rd_T32 l t180).f1) = 1 then ((sentryref4_within.f k fs l ((i : Int) - 1) x.f2).bind fun t182 => (if t182 = true then ((sentryref4_Depth.f k fs l i).bind fun t183 => (if t183 ≥ 1 then ((sentryref4_Depth.f k fs l i).bind fun t184 => (some (decide (t184 ≤ 5)))) else (some false))) else (some false))) else (some false)) else (none)) else (none)) else (some false)) else (some false))))) (fun k => ?_) ?_
    · simp only [sentryref4_item.j2]
      rw [if_neg (by simp), if_neg (by omega), show wrap64 ((i : Int) - 1) = (i : Int) - 1 by unfold wrap64; omega]
    · refine Ev.bind (ev_place fs l _ (by omega)) ?_
      by_cases h1 : x.f2.toList = []
      · rw [decide_eq_true h1, Bool.not_true, Bool.false_and]
        exact Ev.congr (fun k => if_pos h1) (Ev.now false)
      rw [decide_eq_false h1, Bool.not_false, Bool.true_and]
      refine Ev.congr (fun k => if_neg h1) ?_
      by_cases h2 : 0 ≤ placeI l x.f2
      case neg =>
        rw [decide_eq_false (fun h => h2 h.1), Bool.false_and]
        exact Ev.congr (fun k => if_neg h2) (Ev.now false)
      refine Ev.congr (fun k => if_pos h2) ?_
      by_cases h3 : placeI l x.f2 < (i : Int)
      case neg =>
        rw [decide_eq_false (fun h => h3 h.2.1), Bool.false_and]
        exact Ev.congr (fun k => if_neg h3) (Ev.now false)
      refine Ev.congr (fun k => (if_pos h3).trans ((if_pos h2).trans (if_pos (placeI_lt l _)))) ?_
      by_cases h4 : kdA l (placeI l x.f2) = 1
      case neg =>
        rw [decide_eq_false (fun h => h4 h.2.2), Bool.false_and]
        exact Ev.congr (fun k => if_neg h4) (Ev.now false)
      rw [decide_eq_true ⟨h2, h3, h4⟩, Bool.true_and]
      refine Ev.congr (fun k => if_pos h4) ?_
      refine Ev.bind (ev_within fs l x.f2 hn _ (by omega)) ?_
      cases wnF l x.f2 (l.length + 1) ((i : Int) - 1) with
      | false => exact Ev.congr (fun k => if_neg (by simp)) (by simpa using Ev.now false)
      | true =>
        rw [Bool.true_and]
        refine Ev.congr (fun k => if_pos rfl) ?_
        refine Ev.bind (ev_depth fs l hn _ (by omega)) ?_
        by_cases h5 : dpF l (l.length + 1) i 0 ≥ 1
        case neg =>
          rw [decide_eq_false (fun h => h5 h.1)]
          exact Ev.congr (fun k => if_neg h5) (Ev.now false)
        refine Ev.congr (fun k => if_pos h5) ?_
        refine Ev.bind (ev_depth fs l hn _ (by omega)) ?_
        rw [show decide (1 ≤ dpF l (l.length + 1) i 0 ∧ dpF l (l.length + 1) i 0 ≤ 5) = decide (dpF l (l.length + 1) i 0 ≤ 5) by rw [decide_eq_decide]; exact ⟨fun h => h.2, fun h => ⟨h5, h⟩⟩]
        exact Ev.now _
theorem ev_item (fs : List ByteArray) (l : List (S32)) (hn : l.length ≤ 9223372036854775806) (i : Nat) (hi : i < l.length) : Ev (fun k => sentryref4_item.f k fs l i) (ritem l i) := by
  obtain ⟨x, hx⟩ : ∃ x, x = rd_T32 l i := ⟨_, rfl⟩
  unfold sentryref4_item.f ritem nmA
  rw [← hx]
  refine Ev.congr (fun k => (if_pos (by omega)).trans (if_pos (by omega))) ?_
  refine Ev.bind (ev_name _) ?_
  have hj0f : Ev (fun k => sentryref4_item.j0 k i true fs l x.f0 x.f1 x.f2 x.f3 x.f4 x.f5 x.f6) false := Ev.step (f := fun _ => some false) (fun k => by simp [sentryref4_item.j0]) (Ev.now false)
  cases nameB x.f0 with
  | false => exact Ev.congr (fun k => if_neg (by simp)) (by simpa using hj0f)
  | true =>
    rw [Bool.true_and]
    refine Ev.congr (fun k => if_pos rfl) (Ev.bind (ev_place fs l _ (by omega)) ?_)
    by_cases h1 : placeI l x.f0 = (i : Int)
    case neg =>
      rw [decide_eq_false h1, Bool.false_and]
      exact Ev.congr (fun k => if_neg h1) hj0f
    rw [decide_eq_true h1, Bool.true_and]
    refine Ev.congr (fun k => if_pos h1) ?_
    unfold rown
    by_cases h2 : x.f1 < 1
    · rw [decide_eq_false (p := 1 ≤ x.f1 ∧ x.f1 ≤ 5) (by omega), Bool.false_and, Bool.false_and]
      exact Ev.congr (fun k => if_pos h2) hj0f
    refine Ev.congr (fun k => if_neg h2) ?_
    by_cases h3 : x.f1 > 5
    · rw [decide_eq_false (p := 1 ≤ x.f1 ∧ x.f1 ≤ 5) (by omega), Bool.false_and, Bool.false_and, decide_eq_true (p := x.f1 > 5) h3]
      exact hj0f
    rw [decide_eq_true (p := 1 ≤ x.f1 ∧ x.f1 ≤ 5) (by omega), Bool.true_and, decide_eq_false (p := x.f1 > 5) h3]
    obtain ⟨T, hT⟩ : ∃ T, T = (if x.f1 = 5 then decide (1 ≤ x.f4 ∧ x.f4 ≤ 100) else decide (x.f4 = 0)) := ⟨_, rfl⟩
    rw [← hT]
    refine Ev.step (f := fun k => sentryref4_item.j1 k i T fs l x.f0 x.f1 x.f2 x.f3 x.f4 x.f5 x.f6) (fun k => ?_) ?_
    · simp only [sentryref4_item.j0, Bool.false_eq_true, if_false]
      rw [hT]
      by_cases h5 : x.f1 = 5
      · rw [if_pos h5, if_pos h5]
        by_cases ha : x.f4 ≥ 1
        · rw [if_pos ha, show decide (1 ≤ x.f4 ∧ x.f4 ≤ 100) = decide (x.f4 ≤ 100) by rw [decide_eq_decide]; omega]
        · rw [if_neg ha, decide_eq_false (by omega)]
      · rw [if_neg h5, if_neg h5]
        rfl
    · have hj2 := ev_j2 fs l hn i hi x hx
      have hj2f := ev_j2f fs l i x.f0 x.f1 x.f2 x.f3 x.f4 x.f5 x.f6
      cases T with
      | false => exact Ev.step (f := fun k => sentryref4_item.j2 k i true fs l x.f0 x.f1 x.f2 x.f3 x.f4 x.f5 x.f6) (fun k => by simp [sentryref4_item.j1]) (by simpa using hj2f)
      | true =>
        by_cases h4 : x.f1 ≥ 4
        · rw [decide_eq_true (p := x.f1 ≥ 4) h4, Bool.true_and]
          cases h6 : x.f3 with
          | true =>
            refine Ev.step (f := fun k => sentryref4_item.j2 k i true fs l x.f0 x.f1 x.f2 true x.f4 x.f5 x.f6) (fun k => by simp [sentryref4_item.j1, h4]) ?_
            rw [h6] at hj2f
            simpa using hj2f
          | false =>
            rw [h6] at hj2 hj2f
            by_cases h7 : 0 < x.f5.length
            · refine Ev.step (f := fun k => sentryref4_item.j2 k i true fs l x.f0 x.f1 x.f2 false x.f4 x.f5 x.f6) (fun k => ?_) ?_
              · simp only [sentryref4_item.j1]
                rw [if_pos trivial, if_pos h4, if_neg (by simp), decide_eq_true (by omega)]
              · rw [decide_eq_true h7]; simpa using hj2f
            · refine Ev.step (f := fun k => sentryref4_item.j2 k i false fs l x.f0 x.f1 x.f2 false x.f4 x.f5 x.f6) (fun k => ?_) ?_
              · simp only [sentryref4_item.j1]
                rw [if_pos trivial, if_pos h4, if_neg (by simp), decide_eq_false (by omega)]
              · rw [decide_eq_false h7]; simpa using hj2
        · rw [decide_eq_false (p := x.f1 ≥ 4) h4, Bool.false_and]
          refine Ev.step (f := fun k => sentryref4_item.j2 k i false fs l x.f0 x.f1 x.f2 x.f3 x.f4 x.f5 x.f6) (fun k => ?_) (by simpa using hj2)
          simp only [sentryref4_item.j1]
          rw [if_pos trivial, if_neg h4]
def risB (fs : List ByteArray) (l : List (S32)) : Bool :=
  decide (fs.length ≤ 6 ∧ 1 ≤ l.length ∧ l.length ≤ 16) && (namesB fs && ((List.range l.length).all (ritem l) && l.all (fun x => sentsB fs l x.f5 && sentsB fs l x.f6)))
/-- What fits of a model: no row in it is longer than a row can be. -/
def Fits (fs : List ByteArray) (l : List (S32)) : Prop := fs.length ≤ 9223372036854775806 ∧ l.length ≤ 9223372036854775806 ∧ ∀ x ∈ l, (x.f5.length ≤ 9223372036854775806 ∧ ∀ s ∈ x.f5, s.f0.length ≤ 9223372036854775806 ∧ s.f1.length ≤ 9223372036854775806) ∧ (x.f6.length ≤ 9223372036854775806 ∧ ∀ s ∈ x.f6, s.f0.length ≤ 9223372036854775806 ∧ s.f1.length ≤ 9223372036854775806)
theorem ev_is2 (fs : List ByteArray) (l : List (S32)) (hF : Fits fs l) (d : Nat) : ∀ i : Nat, i + d = l.length → Ev (fun k => sentryref4_Is.l2 k (i : Int) fs l) ((l.drop i).all (fun x => sentsB fs l x.f5 && sentsB fs l x.f6)) := by
  obtain ⟨h1, h2, h3⟩ := hF
  induction d with
  | zero =>
    intro i hi
    refine Ev.step (f := fun _ => some true) (fun k => ?_) ?_
    · simp only [sentryref4_Is.l2]
      rw [if_neg (by omega)]
    · rw [List.drop_of_length_le (by omega)]
      exact Ev.now true
  | succ d ih =>
    intro i hi
    have hlt : i < l.length := by omega
    have hrd : rd_T32 l (i : Int) = l[i] := by simp [rd_T32, List.getD_eq_getElem?_getD, List.getElem?_eq_getElem hlt]
    rw [List.drop_eq_getElem_cons hlt, List.all_cons]
    obtain ⟨⟨a5, b5⟩, a6, b6⟩ := h3 l[i] (List.getElem_mem hlt)
    refine Ev.step (f := fun k => ((sentryref4_sentries.f k fs l (l[i].f5)).bind fun t213 => (if t213 = true then ((sentryref4_sentries.f k fs l (l[i].f6)).bind fun t215 => (if t215 = true then (sentryref4_Is.l2 k (((i + 1 : Nat)) : Int) fs l) else (some false))) else (some false)))) (fun k => ?_) ?_
    · simp only [sentryref4_Is.l2]
      rw [if_pos (by omega), if_pos (by omega), hrd, wrap_lt (n := (l.length : Int)) (by omega) (by omega) (by omega)]
      rfl
    · refine Ev.bind (ev_sentries fs l _ (by omega) (by omega) (by omega) (fun s hs => ⟨by have := (b5 s hs).1; omega, by have := (b5 s hs).2; omega⟩)) ?_
      cases sentsB fs l l[i].f5 with
      | false => exact Ev.congr (fun k => if_neg (by simp)) (by simpa using Ev.now false)
      | true =>
        rw [Bool.true_and]
        refine Ev.congr (fun k => if_pos rfl) ?_
        refine Ev.bind (ev_sentries fs l _ (by omega) (by omega) (by omega) (fun s hs => ⟨by have := (b6 s hs).1; omega, by have := (b6 s hs).2; omega⟩)) ?_
        cases sentsB fs l l[i].f6 with
        | false => exact Ev.congr (fun k => if_neg (by simp)) (by simpa using Ev.now false)
        | true => exact Ev.congr (fun k => if_pos rfl) (by simpa using ih (i + 1) (by omega))
theorem ev_is1 (fs : List ByteArray) (l : List (S32)) (hF : Fits fs l) (d : Nat) : ∀ i : Nat, i + d = l.length → Ev (fun k => sentryref4_Is.l1 k (i : Int) fs l) ((List.range' i d).all (ritem l) && l.all (fun x => sentsB fs l x.f5 && sentsB fs l x.f6)) := by
  have h2 := hF.2.1
  induction d with
  | zero =>
    intro i hi
    refine Ev.step (f := fun k => sentryref4_Is.l2 k ((0 : Nat) : Int) fs l) (fun k => ?_) ?_
    · simp only [sentryref4_Is.l1]
      rw [if_neg (by omega)]
      rfl
    · simpa using ev_is2 fs l hF l.length 0 (by omega)
  | succ d ih =>
    intro i hi
    have hlt : i < l.length := by omega
    rw [List.range'_succ, List.all_cons]
    refine Ev.step (f := fun k => ((sentryref4_item.f k fs l i).bind fun t211 => (if t211 = true then (sentryref4_Is.l1 k (((i + 1 : Nat)) : Int) fs l) else (some false)))) (fun k => ?_) ?_
    · simp only [sentryref4_Is.l1]
      rw [if_pos (by omega), wrap_lt (n := (l.length : Int)) (by omega) (by omega) (by omega)]
      rfl
    · refine Ev.bind (ev_item fs l h2 i hlt) ?_
      cases ritem l i with
      | false => exact Ev.congr (fun k => if_neg (by simp)) (by simpa using Ev.now false)
      | true => exact Ev.congr (fun k => if_pos rfl) (by simpa using ih (i + 1) (by omega))
theorem ev_is0 (fs : List ByteArray) (l : List (S32)) (hF : Fits fs l) (d : Nat) : ∀ i : Nat, i + d = fs.length → Ev (fun k => sentryref4_Is.l0 k (i : Int) fs l) ((List.range' i d).all (nameOk fs) && ((List.range l.length).all (ritem l) && l.all (fun x => sentsB fs l x.f5 && sentsB fs l x.f6))) := by
  have h1 := hF.1
  induction d with
  | zero =>
    intro i hi
    refine Ev.step (f := fun k => sentryref4_Is.l1 k ((0 : Nat) : Int) fs l) (fun k => ?_) ?_
    · simp only [sentryref4_Is.l0]
      rw [if_neg (by omega)]
      rfl
    · have := ev_is1 fs l hF l.length 0 (by omega)
      rw [List.range_eq_range']
      simpa using this
  | succ d ih =>
    intro i hi
    have hlt : i < fs.length := by omega
    rw [List.range'_succ, List.all_cons]
    refine Ev.step (f := fun k => ((sentryref1_Is.f k (rdOf ByteArray.empty fs i)).bind fun t207 => (if t207 = true then ((sentryref4_File.f k (fs.take i) (rdOf ByteArray.empty fs i)).bind fun t210 => (if t210 = true then (some false) else (sentryref4_Is.l0 k (((i + 1 : Nat)) : Int) fs l))) else (some false)))) (fun k => ?_) ?_
    · simp only [sentryref4_Is.l0]
      rw [if_pos (by omega), if_pos (by omega), if_pos (by omega), wrap_lt (n := (fs.length : Int)) (by omega) (by omega) (by omega)]
      rfl
    · refine Ev.bind (ev_name _) ?_
      have hok : nameOk fs i = (nameB (rdOf ByteArray.empty fs i) && !memB (fs.take i) (rdOf ByteArray.empty fs i)) := rfl
      rw [hok]
      cases nameB (rdOf ByteArray.empty fs i) with
      | false => exact Ev.congr (fun k => if_neg (by simp)) (by simpa using Ev.now false)
      | true =>
        rw [Bool.true_and]
        refine Ev.congr (fun k => if_pos rfl) ?_
        refine Ev.bind (Ev.at ((fs.take i).length + 1) (fun k hk => ref_file _ _ (by rw [List.length_take]; omega) k (by omega))) ?_
        cases memB (fs.take i) (rdOf ByteArray.empty fs i) with
        | true => exact Ev.congr (fun k => if_pos rfl) (by simpa using Ev.now false)
        | false => exact Ev.congr (fun k => if_neg (by simp)) (by simpa using ih (i + 1) (by omega))
theorem ev_ris (fs : List ByteArray) (l : List (S32)) (hF : Fits fs l) : Ev (fun k => sentryref4_Is.f k fs l) (risB fs l) := by
  unfold sentryref4_Is.f risB
  have hjf : Ev (fun k => sentryref4_Is.j0 k true fs l) false := Ev.step (f := fun _ => some false) (fun k => by simp [sentryref4_Is.j0]) (Ev.now false)
  by_cases h1 : fs.length > 6
  · rw [decide_eq_false (p := fs.length ≤ 6 ∧ 1 ≤ l.length ∧ l.length ≤ 16) (by omega), Bool.false_and]
    exact Ev.congr (fun k => if_pos (by omega)) hjf
  refine Ev.congr (fun k => if_neg (by omega)) ?_
  by_cases h2 : l.length < 1
  · rw [decide_eq_false (p := fs.length ≤ 6 ∧ 1 ≤ l.length ∧ l.length ≤ 16) (by omega), Bool.false_and]
    exact Ev.congr (fun k => if_pos (by omega)) hjf
  refine Ev.congr (fun k => if_neg (by omega)) ?_
  by_cases h3 : l.length > 16
  · rw [decide_eq_false (p := fs.length ≤ 6 ∧ 1 ≤ l.length ∧ l.length ≤ 16) (by omega), Bool.false_and, decide_eq_true (p := (l.length : Int) > 16) (by omega)]
    exact hjf
  rw [decide_eq_true (p := fs.length ≤ 6 ∧ 1 ≤ l.length ∧ l.length ≤ 16) (by omega), Bool.true_and, decide_eq_false (p := (l.length : Int) > 16) (by omega)]
  refine Ev.step (f := fun k => sentryref4_Is.l0 k ((0 : Nat) : Int) fs l) (fun k => by simp [sentryref4_Is.j0]) ?_
  have := ev_is0 fs l hF fs.length 0 (by omega)
  unfold namesB
  rw [List.range_eq_range' (n := fs.length)]
  exact this
end Go.Proofs.Ytchellnfenekaaa.Pm
end
section
namespace Go.Proofs.Ytchellnfenekaaa.Pm
open Go.RowKit Go.Proofs.YtchellnfenekaaaW.PrintWords Go.Proofs.YtchellnfenekaaaW.PrintLast Go.Proofs.YtchellnfenekaaaW.PrintMore
attribute [local go_sem] max2_int min2_int max_two min_two max_three min_three max_four min_four   -- for this text's walks alone
set_option linter.unusedVariables false
set_option linter.unusedSimpArgs false
theorem rd_in (l : List (S32)) (i : Nat) (h : i < l.length) : rd_T32 l (i : Int) = l[i] := by simp [rd_T32, List.getD_eq_getElem?_getD, List.getElem?_eq_getElem h]
theorem rd_getD (l : List (S32)) (i : Nat) : rd_T32 l (i : Int) = l.getD i z32 := rfl
theorem placeI_congr (l : List (S32)) (a b : ByteArray) (h : a.toList = b.toList) : placeI l a = placeI l b := by
  unfold placeI
  have : model_Place.p a = model_Place.p b := by funext x; unfold model_Place.p; rw [h]
  rw [this]
theorem placeI_at (l : List (S32)) (id : ByteArray) (p : Nat) (h : placeI l id = p) : p < l.length ∧ (nmA l p).toList = id.toList := by
  unfold placeI fidx at h
  cases e : l.findIdx? (model_Place.p id) with
  | none => rw [e] at h; simp only at h; omega
  | some q =>
    rw [e] at h
    simp only at h
    obtain rfl : q = p := by omega
    obtain ⟨hq, hp, _⟩ := List.findIdx?_eq_some_iff_getElem.1 e
    refine ⟨hq, ?_⟩
    unfold nmA
    rw [rd_in l q hq]
    unfold model_Place.p at hp
    simpa using hp
/-- An item's name stands first where it stands, just if no item ahead has it. -/
theorem placeI_self (l : List (S32)) (i : Nat) (hi : i < l.length) : decide (placeI l (nmA l i) = i) = !memB ((l.map (·.f0)).take i) (rdOf ByteArray.empty (l.map (·.f0)) (i : Int)) := by
  have hr : rdOf ByteArray.empty (l.map (·.f0)) (i : Int) = nmA l i := by
    rw [rdOf_get _ _ _ (by simpa using hi)]
    unfold nmA
    rw [rd_in l i hi]; simp
  rw [hr]
  cases hm : memB ((l.map (·.f0)).take i) (nmA l i) with
  | false =>
    have : placeI l (nmA l i) = i := by
      unfold placeI
      refine fidx_hit _ l i z32 hi ?_ (fun j hj => ?_)
      · rw [← rd_getD]; unfold model_Place.p; simp
      · unfold memB at hm
        rw [List.any_eq_false] at hm
        have hjl : j < l.length := by omega
        have hmem : l[j].f0 ∈ (l.map (·.f0)).take i := by
          rw [List.mem_take_iff_getElem]
          exact ⟨j, by rw [List.length_map]; omega, by simp⟩
        have := hm _ hmem
        rw [← rd_getD, rd_in l j hjl]
        unfold model_Place.p
        have hne : (nmA l i).toList ≠ l[j].f0.toList := by simpa using this
        simpa using Ne.symm hne
    rw [this]; simp
  | true =>
    unfold memB at hm
    obtain ⟨x, hx, he⟩ := List.any_eq_true.1 hm
    obtain ⟨j, hj, hjx⟩ := List.mem_take_iff_getElem.1 hx
    rw [List.length_map] at hj
    have hjl : j < l.length := by omega
    have : placeI l (nmA l i) ≠ i := by
      intro h
      unfold placeI fidx at h
      cases e : l.findIdx? (model_Place.p (nmA l i)) with
      | none => rw [e] at h; simp only at h; omega
      | some q =>
        rw [e] at h
        simp only at h
        obtain ⟨_, _, hno⟩ := List.findIdx?_eq_some_iff_getElem.1 e
        have := hno j (by omega)
        apply this
        unfold model_Place.p
        have hx2 : x = l[j].f0 := by rw [← hjx]; simp
        have he2 : (nmA l i).toList = x.toList := by simpa using he
        rw [hx2] at he2
        simp [he2]
    simp [this]
/-- The names of the way from the first item down to one. -/
inductive Pth (l : List (S32)) : Nat → List ByteArray → Prop
  | root : Pth l 0 [nmA l 0]
  | kid (p i : Nat) (st : List ByteArray) : Pth l p st → placeI l (paA l i) = p → p < i → Pth l i (st ++ [nmA l i])
theorem Pth.len {l : List (S32)} {i : Nat} {st : List ByteArray} (h : Pth l i st) : st.length ≤ i + 1 ∧ 0 < st.length := by
  induction h with
  | root => simp
  | kid p i st hp e hlt ih => simp only [List.length_append, List.length_singleton]; omega
theorem Pth.head {l : List (S32)} {i : Nat} {st : List ByteArray} (h : Pth l i st) : ∀ m, 0 < m → m ≤ st.length → ∃ q, q ≤ i ∧ Pth l q (st.take m) ∧ st[m-1]? = some (nmA l q) := by
  induction h with
  | root =>
    intro m h0 hm
    simp only [List.length_singleton] at hm
    obtain rfl : m = 1 := by omega
    exact ⟨0, Nat.le_refl _, Pth.root, rfl⟩
  | kid p i st hp e hlt ih =>
    intro m h0 hm
    simp only [List.length_append, List.length_singleton] at hm
    by_cases hq : m ≤ st.length
    · obtain ⟨q, hq1, hq2, hq3⟩ := ih m h0 hq
      refine ⟨q, by omega, ?_, ?_⟩
      · rw [List.take_append_of_le_length hq]; exact hq2
      · rw [List.getElem?_append_left (by omega)]; exact hq3
    · obtain rfl : m = st.length + 1 := by omega
      refine ⟨i, Nat.le_refl _, ?_, ?_⟩
      · rw [List.take_of_length_le (by simp)]
        exact Pth.kid p i st hp e hlt
      · simp
theorem Pth.wn {l : List (S32)} (h0 : placeI l (paA l 0) = -1) (id : ByteArray) {i : Nat} {st : List ByteArray} (h : Pth l i st) : ∀ d, st.length ≤ d → wnF l id d i = st.any (idxP id) := by
  induction h with
  | root =>
    intro d hd
    simp only [List.length_singleton] at hd
    obtain ⟨d, rfl⟩ : ∃ m, d = m + 1 := ⟨d - 1, by omega⟩
    unfold wnF
    rw [if_pos (by omega)]
    by_cases he : (nmA l 0).toList = id.toList
    · rw [if_pos (by exact he)]
      simp [idxP, he]
    · rw [if_neg (by exact he), show ((0 : Nat) : Int) = 0 from rfl, h0]
      have : wnF l id d (-1) = false := by cases d <;> simp [wnF]
      rw [this]
      simp [idxP, Ne.symm he]
  | kid p i st hp e hlt ih =>
    intro d hd
    simp only [List.length_append, List.length_singleton] at hd
    obtain ⟨d, rfl⟩ : ∃ m, d = m + 1 := ⟨d - 1, by omega⟩
    unfold wnF
    rw [if_pos (by omega), List.any_append]
    by_cases he : (nmA l i).toList = id.toList
    · rw [if_pos (by exact he)]
      simp [idxP, he]
    · rw [if_neg (by exact he), e, ih d (by omega)]
      simp [idxP, Ne.symm he]
theorem Pth.dp {l : List (S32)} {i : Nat} {st : List ByteArray} (h : Pth l i st) : ∀ d (c : Int), st.length ≤ d → dpF l d i c = c + st.length - 1 := by
  induction h with
  | root =>
    intro d c hd
    simp only [List.length_singleton] at hd
    obtain ⟨d, rfl⟩ : ∃ m, d = m + 1 := ⟨d - 1, by omega⟩
    simp [dpF]
  | kid p i st hp e hlt ih =>
    intro d c hd
    simp only [List.length_append, List.length_singleton] at hd ⊢
    obtain ⟨d, rfl⟩ : ∃ m, d = m + 1 := ⟨d - 1, by omega⟩
    unfold dpF
    rw [if_pos (by omega), e, ih d _ (by omega)]
    omega
/-- Where names stand once each, the stacks stand just if each item stands where it may. -/
theorem stk_places (l : List (S32)) (hD : ∀ i : Nat, i < l.length → placeI l (nmA l i) = i ∧ (nmA l i).toList ≠ []) (h0 : (paA l 0).toList = []) : ∀ i : Nat, i < l.length → (match stk l (i + 1) with | some st => Pth l i st ∧ ∀ q, q ≤ i → 0 < q → rplace l q = true | none => ∃ q, q ≤ i ∧ 0 < q ∧ rplace l q = false) := by
  have hroot : placeI l (paA l 0) = -1 := by
    unfold placeI
    refine fidx_miss _ l z32 (fun j hj => ?_)
    rw [← rd_getD]
    unfold model_Place.p
    have := (hD j hj).2
    rw [h0]
    simpa using this
  intro i
  induction i with
  | zero =>
    intro hi
    have : stk l (0 + 1) = some [nmA l 0] := by simp [stk, stkStep]
    rw [this]
    exact ⟨Pth.root, fun q h1 h2 => by omega⟩
  | succ i ih =>
    intro hi
    have hi' := ih (by omega)
    have hstk : stk l (i + 1 + 1) = (stk l (i + 1)).bind (stkStep l (i + 1)) := rfl
    rw [hstk]
    cases hs : stk l (i + 1) with
    | none =>
      rw [hs] at hi'
      obtain ⟨q, h1, h2, h3⟩ := hi'
      exact ⟨q, by omega, h2, h3⟩
    | some st =>
      rw [hs] at hi'
      obtain ⟨hp, hall⟩ := hi'
      rw [Option.bind_some]
      obtain ⟨a, ha⟩ : ∃ a, a = paA l ((i + 1 : Nat) : Int) := ⟨_, rfl⟩
      have hlen := hp.len
      have hwn : wnF l a (l.length + 1) ((i + 1 : Nat) - 1) = st.any (idxP a) := by
        have := hp.wn hroot a (l.length + 1) (by omega)
        rw [show (((i + 1 : Nat) : Int) - 1) = (i : Int) by omega]
        exact this
      have hrp : rplace l (i + 1) = (!decide (a.toList = []) && (decide (0 ≤ placeI l a ∧ placeI l a < ((i + 1 : Nat) : Int) ∧ kdA l (placeI l a) = 1) && (wnF l a (l.length + 1) (((i + 1 : Nat) : Int) - 1) && decide (1 ≤ dpF l (l.length + 1) ((i + 1 : Nat) : Int) 0 ∧ dpF l (l.length + 1) ((i + 1 : Nat) : Int) 0 ≤ 5)))) := by
        unfold rplace
        rw [if_neg (by omega), ha]
      rw [hwn] at hrp
      have hst : stkStep l (i + 1) st = if (st.take (fidx (idxP a) st + 1).toNat).length = 0 ∨ 5 < (st.take (fidx (idxP a) st + 1).toNat).length ∨ kdA l (placeI l a) ≠ 1 then none else some (st.take (fidx (idxP a) st + 1).toNat ++ [nmA l ((i + 1 : Nat) : Int)]) := by
        unfold stkStep
        rw [if_neg (by omega), ha]
      rw [hst]
      have hfl := fidx_lt (idxP a) st
      have hfa := fidx_any (idxP a) st
      by_cases hin : st.any (idxP a) = true
      case neg =>
        have hin2 : st.any (idxP a) = false := by simpa using hin
        have hneg : fidx (idxP a) st = -1 := fidx_neg _ _ (by rw [hin2] at hfa; have := of_decide_eq_false hfa; omega)
        rw [hneg, if_pos (Or.inl (by simp))]
        refine ⟨i + 1, Nat.le_refl _, by omega, ?_⟩
        rw [hrp, hin2]; simp
      rw [hin] at hrp hfa
      have hge : fidx (idxP a) st ≥ 0 := of_decide_eq_true hfa
      obtain ⟨m, hm⟩ : ∃ m : Nat, fidx (idxP a) st = m := ⟨(fidx (idxP a) st).toNat, by omega⟩
      rw [hm] at hfl ⊢
      rw [show ((m : Int) + 1).toNat = m + 1 by omega]
      obtain ⟨q, hq1, hq2, hq3⟩ := hp.head (m + 1) (by omega) (by omega)
      have hna : (nmA l q).toList = a.toList := by
        unfold fidx at hm
        cases e : st.findIdx? (idxP a) with
        | none => rw [e] at hm; simp only at hm; omega
        | some j =>
          rw [e] at hm
          simp only at hm
          obtain rfl : j = m := by omega
          obtain ⟨hj, hpj, _⟩ := List.findIdx?_eq_some_iff_getElem.1 e
          have : st[j] = nmA l q := by
            have h := hq3
            rw [show j + 1 - 1 = j by omega, List.getElem?_eq_getElem hj] at h
            exact Option.some.inj h
          unfold idxP at hpj
          rw [this] at hpj
          exact (by simpa using hpj : a.toList = (nmA l q).toList).symm
      have hpq : placeI l a = q := by rw [← placeI_congr l _ _ hna]; exact (hD q (by omega)).1
      have hne : ¬ a.toList = [] := by rw [← hna]; exact (hD q (by omega)).2
      have hpi : placeI l (paA l ((i + 1 : Nat) : Int)) = q := by rw [← ha]; exact hpq
      have hk := Pth.kid q (i + 1) _ hq2 hpi (by omega)
      have htl : (st.take (m + 1)).length = m + 1 := by rw [List.length_take]; omega
      have hd := hk.dp (l.length + 1) 0 (by rw [List.length_append, htl, List.length_singleton]; omega)
      rw [List.length_append, htl, List.length_singleton] at hd
      rw [hd, decide_eq_false hne, hpq] at hrp
      rw [htl, hpq]
      by_cases hc : (m + 1 = 0 ∨ 5 < m + 1 ∨ kdA l q ≠ 1)
      · rw [if_pos hc]
        refine ⟨i + 1, Nat.le_refl _, by omega, ?_⟩
        rw [hrp]
        rcases hc with hc | hc | hc
        · omega
        · rw [decide_eq_false (p := (1 ≤ (0 : Int) + ((m + 1 + 1 : Nat) : Int) - 1 ∧ _)) (by omega)]; simp
        · simp [hc]
      · rw [if_neg hc]
        have hk1 : kdA l q = 1 := by
          by_cases h : kdA l q = 1
          · exact h
          · exact absurd (Or.inr (Or.inr h)) hc
        refine ⟨hk, fun r hr h0 => ?_⟩
        by_cases e : r = i + 1
        · rw [e, hrp, decide_eq_true (p := 0 ≤ (q : Int) ∧ _) ⟨by omega, by omega, hk1⟩, decide_eq_true (p := (1 ≤ (0 : Int) + ((m + 1 + 1 : Nat) : Int) - 1 ∧ _)) (by omega)]
          rfl
        · exact hall r (by omega) h0
theorem stands_places (l : List (S32)) (hn : 0 < l.length) (hD : ∀ i : Nat, i < l.length → placeI l (nmA l i) = i ∧ (nmA l i).toList ≠ []) (h0 : (paA l 0).toList = []) : standsB l = true ↔ ∀ q, q < l.length → 0 < q → rplace l q = true := by
  have h := stk_places l hD h0 (l.length - 1) (by omega)
  rw [show l.length - 1 + 1 = l.length by omega] at h
  unfold standsB
  cases hs : stk l l.length with
  | none =>
    rw [hs] at h
    obtain ⟨q, h1, h2, h3⟩ := h
    constructor
    · intro h; simp at h
    · intro h
      rw [h q (by omega) h2] at h3
      simp at h3
  | some st =>
    rw [hs] at h
    constructor
    · intro _ q hq h0; exact h.2 q (by omega) h0
    · intro _; rfl
theorem nameB_ne (s : ByteArray) (h : nameB s = true) : s.toList ≠ [] := by
  unfold nameB at h
  simp only [Bool.and_eq_true, decide_eq_true_eq] at h
  intro he
  have := empty_size s
  rw [he] at this
  have h2 := of_decide_eq_true (this.symm.trans rfl)
  omega
theorem names_at (l : List (S32)) (i : Nat) (hi : i < l.length) : nameOk (l.map (·.f0)) i = (nameB (nmA l i) && decide (placeI l (nmA l i) = i)) := by
  unfold nameOk
  rw [placeI_self l i hi]
  have hr : rdOf ByteArray.empty (l.map (·.f0)) (i : Int) = nmA l i := by
    rw [rdOf_get _ _ _ (by simpa using hi)]
    unfold nmA
    rw [rd_in l i hi]; simp
  rw [hr]
theorem all_range {l : List (S32)} (p : S32 → Bool) : l.all p = true ↔ ∀ i : Nat, i < l.length → p (rd_T32 l i) = true := by
  rw [List.all_eq_true]
  constructor
  · intro h i hi; rw [rd_in l i hi]; exact h _ (List.getElem_mem hi)
  · intro h x hx
    obtain ⟨i, hi, rfl⟩ := List.getElem_of_mem hx
    rw [← rd_in l i hi]; exact h i hi
theorem itemB_eq (fs : List ByteArray) (l : List (S32)) (x : S32) : itemB fs l x.f1 x.f3 x.f4 x.f5 x.f6 = (rown x && (sentsB fs l x.f5 && sentsB fs l x.f6)) := by
  unfold itemB rown
  by_cases h1 : 1 ≤ x.f1 ∧ x.f1 ≤ 5
  · have h4 : decide (x.f1 = 4 ∨ x.f1 = 5) = decide (x.f1 ≥ 4) := by rw [decide_eq_decide]; omega
    rw [h4]
    generalize decide (x.f1 ≥ 4) = A
    generalize sentsB fs l x.f5 = B
    generalize sentsB fs l x.f6 = C
    generalize (if x.f1 = 5 then decide (1 ≤ x.f4 ∧ x.f4 ≤ 100) else decide (x.f4 = 0)) = D
    generalize decide (1 ≤ x.f1 ∧ x.f1 ≤ 5) = E
    generalize (x.f3 || decide (0 < x.f5.length)) = F
    cases A <;> cases B <;> cases C <;> cases D <;> cases E <;> cases F <;> rfl
  · rw [decide_eq_false h1]; simp
theorem ris_eq (fs : List ByteArray) (l : List (S32)) : risB fs l = isB fs l := by
  unfold risB isB
  by_cases hb : fs.length ≤ 6 ∧ 1 ≤ l.length ∧ l.length ≤ 16
  case neg => rw [decide_eq_false hb]; simp
  rw [decide_eq_true hb, Bool.true_and, Bool.true_and]
  congr 1
  rw [Bool.eq_iff_iff]
  have hR : rplace l 0 = planB (rd_T32 l 0).f1 (rd_T32 l 0).f2 (rd_T32 l 0).f3 (rd_T32 l 0).f5.length (rd_T32 l 0).f6.length := rfl
  have hn : namesB (l.map (·.f0)) = true ↔ ∀ i : Nat, i < l.length → nameB (nmA l i) = true ∧ placeI l (nmA l i) = i := by
    unfold namesB
    rw [List.all_eq_true]
    constructor
    · intro h i hi
      have := h i (List.mem_range.2 (by simpa using hi))
      rw [names_at l i hi] at this
      simpa using this
    · intro h i hi
      have hi' : i < l.length := by simpa using List.mem_range.1 hi
      rw [names_at l i hi']
      simpa using h i hi'
  rw [← hR]
  have hany : (!l.any fun x => !itemB fs l x.f1 x.f3 x.f4 x.f5 x.f6) = l.all (fun x => rown x && (sentsB fs l x.f5 && sentsB fs l x.f6)) := by
    rw [List.not_any_eq_all_not]
    congr 1
    funext x
    rw [Bool.not_not, itemB_eq]
  rw [hany]
  have h0 : rplace l 0 = true → (paA l 0).toList = [] := by
    intro h
    rw [hR] at h
    unfold planB at h
    simp only [Bool.and_eq_true, decide_eq_true_eq] at h
    exact h.2.1
  constructor
  · intro h
    rw [Bool.and_eq_true] at h
    obtain ⟨h1, h2⟩ := h
    have hi : ∀ i : Nat, i < l.length → nameB (nmA l i) = true ∧ placeI l (nmA l i) = i ∧ rown (rd_T32 l i) = true ∧ rplace l i = true := by
      intro i hi
      have := List.all_eq_true.1 h1 i (List.mem_range.2 hi)
      unfold ritem at this
      simpa using this
    have hp0 := (hi 0 (by omega)).2.2.2
    rw [Bool.and_eq_true, Bool.and_eq_true, Bool.and_eq_true]
    refine ⟨hn.2 (fun i h => ⟨(hi i h).1, (hi i h).2.1⟩), hp0, (stands_places l (by omega) (fun i h => ⟨(hi i h).2.1, nameB_ne _ (hi i h).1⟩) (h0 hp0)).2 (fun q hq _ => (hi q hq).2.2.2), ?_⟩
    rw [all_range] at h2 ⊢
    intro i h
    rw [(hi i h).2.2.1, Bool.true_and]
    exact h2 i h
  · intro h
    rw [Bool.and_eq_true, Bool.and_eq_true, Bool.and_eq_true] at h
    obtain ⟨h1, h2, h3, h4⟩ := h
    have hnm := hn.1 h1
    have hst := (stands_places l (by omega) (fun i h => ⟨(hnm i h).2, nameB_ne _ (hnm i h).1⟩) (h0 h2)).1 h3
    rw [all_range] at h4
    rw [Bool.and_eq_true]
    refine ⟨List.all_eq_true.2 (fun i hi => ?_), (all_range _).2 (fun i hi => ?_)⟩
    · have hi := List.mem_range.1 hi
      have := h4 i hi
      rw [Bool.and_eq_true] at this
      unfold ritem
      rw [(hnm i hi).1, (hnm i hi).2, this.1, Bool.true_and, decide_eq_true rfl, Bool.true_and, Bool.true_and]
      by_cases e : i = 0
      · rw [e]; exact h2
      · exact hst i hi (by omega)
    · have := h4 i hi
      rw [Bool.and_eq_true] at this
      exact this.2
end Go.Proofs.Ytchellnfenekaaa.Pm
end
section
namespace Go.Proofs.Ytchellnfenekaaa.Pm
open Go.RowKit Go.Proofs.YtchellnfenekaaaW.PrintWords Go.Proofs.YtchellnfenekaaaW.PrintLast Go.Proofs.YtchellnfenekaaaW.PrintMore
attribute [local go_sem] max2_int min2_int max_two min_two max_three min_three max_four min_four   -- for this text's walks alone
set_option linter.unusedVariables false
set_option linter.unusedSimpArgs false
theorem legal_parts (fs : List ByteArray) (l : List (S32)) (h : isB fs l = true) : (fs.length ≤ 6 ∧ 1 ≤ l.length ∧ l.length ≤ 16) ∧ namesB fs = true ∧ (∀ i : Nat, i < l.length → ritem l i = true) ∧ (∀ i : Nat, i < l.length → sentsB fs l (rd_T32 l i).f5 = true ∧ sentsB fs l (rd_T32 l i).f6 = true) := by
  rw [← ris_eq] at h
  unfold risB at h
  rw [Bool.and_eq_true, Bool.and_eq_true, Bool.and_eq_true, decide_eq_true_eq, all_range] at h
  obtain ⟨h1, h2, h3, h4⟩ := h
  refine ⟨h1, h2, fun i hi => List.all_eq_true.1 h3 i (List.mem_range.2 hi), fun i hi => ?_⟩
  have := h4 i hi
  rw [Bool.and_eq_true] at this
  exact this
theorem legal_facts (fs : List ByteArray) (l : List (S32)) (h : isB fs l = true) : fs.length ≤ 6 ∧ 1 ≤ l.length ∧ l.length ≤ 16 ∧ (∀ i : Nat, i < l.length → placeI l (nmA l i) = i ∧ (nmA l i).toList ≠ []) ∧ (paA l 0).toList = [] ∧ ∀ q : Nat, 0 < q → q < l.length → ∃ p : Nat, p < q ∧ placeI l (paA l q) = p ∧ (paA l q).toList ≠ [] ∧ kdA l p = 1 := by
  obtain ⟨⟨h1, h2, h3⟩, -, hi, -⟩ := legal_parts fs l h
  have hr : ∀ i : Nat, i < l.length → nameB (nmA l i) = true ∧ placeI l (nmA l i) = i ∧ rplace l i = true := by
    intro i hl
    have := hi i hl
    unfold ritem at this
    rw [Bool.and_eq_true, Bool.and_eq_true, Bool.and_eq_true, decide_eq_true_eq] at this
    exact ⟨this.1, this.2.1, this.2.2.2⟩
  refine ⟨h1, h2, h3, fun i hl => ⟨(hr i hl).2.1, nameB_ne _ (hr i hl).1⟩, ?_, fun q h0 hq => ?_⟩
  · have := (hr 0 (by omega)).2.2
    rw [show rplace l 0 = planB (rd_T32 l 0).f1 (rd_T32 l 0).f2 (rd_T32 l 0).f3 (rd_T32 l 0).f5.length (rd_T32 l 0).f6.length from rfl] at this
    unfold planB at this
    simp only [Bool.and_eq_true, decide_eq_true_eq] at this
    exact this.2.1
  · have := (hr q hq).2.2
    unfold rplace at this
    rw [if_neg (by omega), Bool.and_eq_true, Bool.and_eq_true, decide_eq_true_eq, Bool.not_eq_true', decide_eq_false_iff_not] at this
    obtain ⟨e, ⟨a, b, c⟩, -⟩ := this
    obtain ⟨p, hp⟩ := Int.eq_ofNat_of_zero_le a
    rw [hp] at b c
    exact ⟨p, by omega, hp, e, c⟩
theorem fits_of (fs : List ByteArray) (l : List (S32)) (hf : fs.length ≤ 140737488351232) (hl : l.length ≤ 140737488351232) (hg : ∀ x ∈ l, goodItem x) : Fits fs l :=
  ⟨by omega, by omega, fun x hx => by
    obtain ⟨_, _, h5, h6, s5, s6⟩ := hg x hx
    exact ⟨⟨by omega, fun s hs => by obtain ⟨a, b⟩ := s5 s hs; constructor <;> omega⟩, ⟨by omega, fun s hs => by obtain ⟨a, b⟩ := s6 s hs; constructor <;> omega⟩⟩⟩
end Go.Proofs.Ytchellnfenekaaa.Pm
end
section
namespace Go.Proofs.Ytchellnfenekaaa.Pm
open Go.RowKit Go.Proofs.YtchellnfenekaaaW.PrintWords Go.Proofs.YtchellnfenekaaaW.PrintLast Go.Proofs.YtchellnfenekaaaW.PrintMore
attribute [local go_sem] max2_int min2_int max_two min_two max_three min_three max_four min_four   -- for this text's walks alone
set_option linter.unusedVariables false
set_option linter.unusedSimpArgs false
theorem rd_s (l : List (S29)) (i : Nat) (h : i < l.length) : rd_T29 l (i : Int) = l[i] := by simp [rd_T29, List.getD_eq_getElem?_getD, List.getElem?_eq_getElem h]
theorem hv_add {a b c : Int} (h1 : 0 ≤ a) (h2 : a ≤ 1152921504606846976) (h3 : 0 ≤ b) (h4 : b ≤ 140737488351232) (h5 : 0 ≤ c) (h6 : c ≤ 140737488351232) : wrap64 (wrap64 (a + b) + c) = a + b + c := by
  unfold wrap64; omega
theorem hv_sum {y a b c d : Int} (h1 : 0 ≤ y) (h2 : y < 400) (a1 : 0 ≤ a) (a2 : a ≤ 140737488351232) (b1 : 0 ≤ b) (b2 : b ≤ 140737488351232) (c1 : 0 ≤ c) (c2 : c ≤ 140737488351232) (d1 : 0 ≤ d) (d2 : d ≤ 140737488351232) : wrap64 (wrap64 (wrap64 (wrap64 (y + a) + b) + wrap64 (c / 50)) + wrap64 (d / 50)) = y + a + b + c / 50 + d / 50 ∧ 0 ≤ c / 50 ∧ c / 50 ≤ 140737488351232 ∧ 0 ≤ d / 50 ∧ d / 50 ≤ 140737488351232 := by
  have e1 : 0 ≤ c / 50 ∧ c / 50 ≤ 140737488351232 := by omega
  have e2 : 0 ≤ d / 50 ∧ d / 50 ≤ 140737488351232 := by omega
  refine ⟨?_, e1.1, e1.2, e2.1, e2.2⟩
  revert e1 e2
  generalize c / 50 = c
  generalize d / 50 = d
  intro e1 e2
  rw [show wrap64 c = c by unfold wrap64; omega, show wrap64 d = d by unfold wrap64; omega, hv_add (a := y) h1 (by omega) a1 a2 b1 b2, hv_add (a := y + a + b) (by omega) (by omega) e1.1 e1.2 e2.1 e2.2]
theorem ev_hv2 (fs : List ByteArray) (l : List (S32)) (N0 : Int) (h0 : 0 ≤ N0) (x : S32) (hx : goodItem x) (i : Nat) (hi : i < l.length) (hl : l.length ≤ 140737488351232)
    (hR : ∀ y : Int, N0 ≤ y → y ≤ 1152921504606846976 → ∃ b, Ev (fun k => sentrylaw4_heavy.l0 k y (((i + 1 : Nat)) : Int) fs l) b ∧ (b = false → N0 < 400)) (d : Nat) : ∀ (j : Nat) (y : Int), j + d = x.f6.length → N0 ≤ y → y ≤ 1152921504606846976 → ∃ b, Ev (fun k => sentrylaw4_heavy.l2 k y (i : Int) (j : Int) fs l x.f0 x.f1 x.f2 x.f3 x.f4 x.f5 x.f6) b ∧ (b = false → N0 < 400) := by
  obtain ⟨_, _, _, g6, _, hs6⟩ := hx
  induction d with
  | zero =>
    intro j y hj h1 h2
    obtain ⟨b, hb, hc⟩ := hR y h1 h2
    refine ⟨b, Ev.step (f := fun k => sentrylaw4_heavy.l0 k y (((i + 1 : Nat)) : Int) fs l) (fun k => ?_) hb, hc⟩
    simp only [sentrylaw4_heavy.l2]
    rw [if_neg (by omega), wrap_lt (n := (l.length : Int)) (by omega) (by omega) (by omega)]
    rfl
  | succ d ih =>
    intro j y hj h1 h2
    by_cases hc : y < 400
    case neg =>
      obtain ⟨b, hb, hc'⟩ := hR y h1 h2
      refine ⟨b, Ev.step (f := fun k => sentrylaw4_heavy.l0 k y (((i + 1 : Nat)) : Int) fs l) (fun k => ?_) hb, hc'⟩
      simp only [sentrylaw4_heavy.l2]
      rw [if_pos (by omega), if_neg hc, wrap_lt (n := (l.length : Int)) (by omega) (by omega) (by omega)]
      rfl
    have hjl : j < x.f6.length := by omega
    obtain ⟨ga, gb⟩ := hs6 x.f6[j] (List.getElem_mem hjl)
    obtain ⟨b, hb, hc'⟩ := ih (j + 1) (y + (x.f6[j]).f0.length + (x.f6[j]).f1.length) (by omega) (by omega) (by omega)
    refine ⟨b, Ev.step (f := fun k => sentrylaw4_heavy.l2 k (y + (x.f6[j]).f0.length + (x.f6[j]).f1.length) (i : Int) (((j + 1 : Nat)) : Int) fs l x.f0 x.f1 x.f2 x.f3 x.f4 x.f5 x.f6) (fun k => ?_) hb, hc'⟩
    simp only [sentrylaw4_heavy.l2]
    rw [if_pos (by omega), if_pos hc, if_pos (by omega), rd_s _ _ hjl, hv_add (by omega) (by omega) (by omega) (by omega) (by omega) (by omega), wrap_lt (n := (x.f6.length : Int)) (by omega) (by omega) (by omega)]
    rfl
theorem ev_hv1 (fs : List ByteArray) (l : List (S32)) (N0 : Int) (h0 : 0 ≤ N0) (x : S32) (hx : goodItem x) (i : Nat) (hi : i < l.length) (hl : l.length ≤ 140737488351232)
    (hR : ∀ y : Int, N0 ≤ y → y ≤ 1152921504606846976 → ∃ b, Ev (fun k => sentrylaw4_heavy.l0 k y (((i + 1 : Nat)) : Int) fs l) b ∧ (b = false → N0 < 400)) (d : Nat) : ∀ (j : Nat) (y : Int), j + d = x.f5.length → N0 ≤ y → y ≤ 1152921504606846976 → ∃ b, Ev (fun k => sentrylaw4_heavy.l1 k y (i : Int) (j : Int) fs l x.f0 x.f1 x.f2 x.f3 x.f4 x.f5 x.f6) b ∧ (b = false → N0 < 400) := by
  have hx0 := hx
  obtain ⟨_, _, g5, _, hs5, _⟩ := hx
  have hnext : ∀ y : Int, N0 ≤ y → y ≤ 1152921504606846976 → ∃ b, Ev (fun k => sentrylaw4_heavy.j3 k y (i : Int) fs l x.f0 x.f1 x.f2 x.f3 x.f4 x.f5 x.f6) b ∧ (b = false → N0 < 400) := by
    intro y h1 h2
    obtain ⟨b, hb, hc⟩ := ev_hv2 fs l N0 h0 x hx0 i hi hl hR x.f6.length 0 y (by omega) h1 h2
    exact ⟨b, Ev.step (fun k => by simp only [sentrylaw4_heavy.j3]; rfl) hb, hc⟩
  induction d with
  | zero =>
    intro j y hj h1 h2
    obtain ⟨b, hb, hc⟩ := hnext y h1 h2
    refine ⟨b, Ev.step (fun k => ?_) hb, hc⟩
    simp only [sentrylaw4_heavy.l1]
    rw [if_neg (by omega)]
  | succ d ih =>
    intro j y hj h1 h2
    by_cases hc : y < 400
    case neg =>
      obtain ⟨b, hb, hc'⟩ := hnext y h1 h2
      refine ⟨b, Ev.step (fun k => ?_) hb, hc'⟩
      simp only [sentrylaw4_heavy.l1]
      rw [if_pos (by omega), if_neg hc]
    have hjl : j < x.f5.length := by omega
    obtain ⟨ga, gb⟩ := hs5 x.f5[j] (List.getElem_mem hjl)
    obtain ⟨b, hb, hc'⟩ := ih (j + 1) (y + (x.f5[j]).f0.length + (x.f5[j]).f1.length) (by omega) (by omega) (by omega)
    refine ⟨b, Ev.step (f := fun k => sentrylaw4_heavy.l1 k (y + (x.f5[j]).f0.length + (x.f5[j]).f1.length) (i : Int) (((j + 1 : Nat)) : Int) fs l x.f0 x.f1 x.f2 x.f3 x.f4 x.f5 x.f6) (fun k => ?_) hb, hc'⟩
    simp only [sentrylaw4_heavy.l1]
    rw [if_pos (by omega), if_pos hc, if_pos (by omega), rd_s _ _ hjl, hv_add (by omega) (by omega) (by omega) (by omega) (by omega) (by omega), wrap_lt (n := (x.f5.length : Int)) (by omega) (by omega) (by omega)]
    rfl
theorem ev_hv0 (fs : List ByteArray) (l : List (S32)) (hg : ∀ x ∈ l, goodItem x) (hl : l.length ≤ 140737488351232) (N0 : Int) (h0 : 0 ≤ N0) (d : Nat) : ∀ (i : Nat) (y : Int), i + d = l.length → N0 ≤ y → y ≤ 1152921504606846976 → ∃ b, Ev (fun k => sentrylaw4_heavy.l0 k y (i : Int) fs l) b ∧ (b = false → N0 < 400) := by
  have hend : ∀ (i : Nat) (y : Int), N0 ≤ y → ∃ b, Ev (fun k => sentrylaw4_heavy.j1 k y (i : Int) false fs l) b ∧ (b = false → N0 < 400) := by
    intro i y h1
    refine ⟨decide (y ≥ 400), Ev.step (f := fun _ => some (decide (y ≥ 400))) (fun k => by simp [sentrylaw4_heavy.j1]) (Ev.now _), fun h => ?_⟩
    have := of_decide_eq_false h
    omega
  induction d with
  | zero =>
    intro i y hi h1 h2
    obtain ⟨b, hb, hc⟩ := hend i y h1
    refine ⟨b, Ev.step (fun k => ?_) hb, hc⟩
    simp only [sentrylaw4_heavy.l0]
    rw [if_neg (by omega)]
  | succ d ih =>
    intro i y hi h1 h2
    by_cases hc : y < 400
    case neg =>
      obtain ⟨b, hb, hc'⟩ := hend i y h1
      refine ⟨b, Ev.step (fun k => ?_) hb, hc'⟩
      simp only [sentrylaw4_heavy.l0]
      rw [if_pos (by omega), decide_eq_false hc]
    have hil : i < l.length := by omega
    have hrd : rd_T32 l (i : Int) = l[i] := by simp [rd_T32, List.getD_eq_getElem?_getD, List.getElem?_eq_getElem hil]
    obtain ⟨x, hx⟩ : ∃ x, x = l[i] := ⟨_, rfl⟩
    have hgx : goodItem x := by rw [hx]; exact hg _ (List.getElem_mem hil)
    have hgx0 := hgx
    obtain ⟨g0, g2, g5, g6, _, _⟩ := hgx
    obtain ⟨z, hz⟩ : ∃ z : Int, z = y + x.f5.length + x.f6.length + (x.f0.size : Int) / 50 + (x.f2.size : Int) / 50 := ⟨_, rfl⟩
    obtain ⟨hsum, q1, q2, q3, q4⟩ := hv_sum (y := y) (a := (x.f5.length : Int)) (b := (x.f6.length : Int)) (c := (x.f0.size : Int)) (d := (x.f2.size : Int)) (by omega) hc (by omega) (by omega) (by omega) (by omega) (by omega) (by omega) (by omega) (by omega)
    rw [← hz] at hsum
    have hzb : N0 ≤ z ∧ z ≤ 1152921504606846976 := by
      clear hsum
      revert hz q1 q2 q3 q4
      generalize (x.f0.size : Int) / 50 = c
      generalize (x.f2.size : Int) / 50 = d
      intro hz q1 q2 q3 q4
      omega
    clear hz q1 q2 q3 q4
    obtain ⟨b, hb, hc'⟩ := ev_hv1 fs l N0 h0 x hgx0 i hil hl (fun y' h1' h2' => ih (i + 1) y' (by omega) h1' h2') x.f5.length 0 z (by omega) hzb.1 hzb.2
    have hb' : Ev (fun k => sentrylaw4_heavy.l1 k z (i : Int) 0 fs l x.f0 x.f1 x.f2 x.f3 x.f4 x.f5 x.f6) b := hb
    refine ⟨b, Ev.step (f := fun k => sentrylaw4_heavy.j1 k y (i : Int) true fs l) (fun k => ?_) (Ev.step (fun k => ?_) hb'), hc'⟩
    · simp only [sentrylaw4_heavy.l0]
      rw [if_pos (by omega), decide_eq_true hc]
    · simp only [sentrylaw4_heavy.j1]
      rw [if_pos trivial, if_pos (by omega), if_pos (by omega), hrd, ← hx, hsum]
theorem ev_heavy (fs : List ByteArray) (l : List (S32)) (hf : fs.length ≤ 140737488351232) (hl : l.length ≤ 140737488351232) (hg : ∀ x ∈ l, goodItem x) : ∃ b, Ev (fun k => sentrylaw4_heavy.f k fs l) b ∧ (b = false → fs.length + l.length < 400) := by
  unfold sentrylaw4_heavy.f
  rw [show wrap64 ((fs.length : Int) + (l.length : Int)) = (fs.length : Int) + (l.length : Int) by unfold wrap64; omega]
  obtain ⟨b, hb, hc⟩ := ev_hv0 fs l hg hl ((fs.length : Int) + (l.length : Int)) (by omega) l.length 0 _ (by omega) (Int.le_refl _) (by omega)
  exact ⟨b, hb, fun h => by have := hc h; omega⟩
end Go.Proofs.Ytchellnfenekaaa.Pm
end
section
namespace Go.Proofs.Ytchellnfenekaaa.Pm
open Go.RowKit Go.Proofs.YtchellnfenekaaaW.PrintWords Go.Proofs.YtchellnfenekaaaW.PrintLast Go.Proofs.YtchellnfenekaaaW.PrintMore
attribute [local go_sem] max2_int min2_int max_two min_two max_three min_three max_four min_four   -- for this text's walks alone
set_option linter.unusedVariables false
set_option linter.unusedSimpArgs false
def sentryref4_Kids.l0 : Nat → ByteArray → List Int → Int → List ByteArray → List (S32) → Option (List Int)
 | 0, _, _, _, _, _ => none
 | k + 1, x1, x5, x6, x264000, x264001 => if x6 < (x264001.length : Int) then (if 0 ≤ x6 then (if ((rd_T32 x264001 x6).f2).toList = x1.toList then (if x5.length < 17592186044416 then (sentryref4_Kids.l0 k x1 (x5 ++ [x6]) (wrap64 (x6 + 1)) x264000 x264001) else (none)) else (sentryref4_Kids.l0 k x1 x5 (wrap64 (x6 + 1)) x264000 x264001)) else (none)) else (some x5)
def sentryref4_Kids.f (k : Nat) (l0_0 : List ByteArray) (l0_1 : List (S32)) (a1 : ByteArray) : Option (List Int) := sentryref4_Kids.l0 k a1 ([] : List Int) 0 l0_0 l0_1
theorem sentryref4_Kids.mono_l : ∀ k, (∀ y0 y1 y2 y3 y4, LeO (sentryref4_Kids.l0 k y0 y1 y2 y3 y4) (sentryref4_Kids.l0 (k + 1) y0 y1 y2 y3 y4))
 | 0 => fun _ _ _ _ _ r h => by simp [sentryref4_Kids.l0] at h
 | k + 1 => by
  have ih0 := sentryref4_Kids.mono_l k
  ·intro y0 y1 y2 y3 y4
   unfold sentryref4_Kids.l0
   repeat' first
   | (with_reducible exact ih0 _ _ _ _ _)
   | (with_reducible exact LeO.refl _)
   | (with_reducible exact LeO.none _)
   | (with_reducible refine LeO.ite ?_ ?_)
   | (with_reducible refine LeO.bind ?_ (fun _ => ?_))
   | exact ih0 _ _ _ _ _
   | exact LeO.none _
   | refine LeO.ite ?_ ?_
   | refine LeO.bind ?_ (fun _ => ?_)
theorem sentryref4_Kids.mono : ∀ a0 a1 a2 k, LeO (sentryref4_Kids.f k a0 a1 a2) (sentryref4_Kids.f (k + 1) a0 a1 a2) := by
 intro a0 a1 a2 k
 have ih0 := sentryref4_Kids.mono_l k
 unfold sentryref4_Kids.f
 repeat' first
   | (with_reducible exact ih0 _ _ _ _ _)
   | (with_reducible exact LeO.refl _)
   | (with_reducible exact LeO.none _)
   | (with_reducible refine LeO.ite ?_ ?_)
   | (with_reducible refine LeO.bind ?_ (fun _ => ?_))
   | exact ih0 _ _ _ _ _
   | exact LeO.none _
   | refine LeO.ite ?_ ?_
   | refine LeO.bind ?_ (fun _ => ?_)
set_option maxHeartbeats 8000000 in
set_option maxRecDepth 100000 in
theorem sentryref4_Kids.calls (k : Nat) (A0_0 : Option Addr) (c0_0 : Nat) (l0_0 : List ByteArray) (A0_1 : Option Addr) (c0_1 : Nat) (l0_1 : List (S32)) (a1 : ByteArray) (r : List Int) (w : World) (hr0_0 : Kd.C Kd.string w A0_0 l0_0.length l0_0) (hc0_0 : l0_0.length ≤ c0_0) (hr0_1 : Kd.C k32 w A0_1 l0_1.length l0_1) (hc0_1 : l0_1.length ≤ c0_1) (h : sentryref4_Kids.f k l0_0 l0_1 a1 = some r) :
  Calls Try.prog 23 #[.agg #[.slice A0_0 l0_0.length c0_0, .slice A0_1 l0_1.length c0_1], .string a1] w fun e w' => ∃ v0_ : Value, e = .returned (v0_) ∧ Kd.R (Kd.int .i64) 3 w' w.heap.size (fun _ => True) v0_ r ∧ Below w.heap.size w w' := by
 have hu36 := Try.underlying36
 have HR0_0 := Aside0.mk hr0_0
 have HC0_0 := Aside0.mk hc0_0
 clear hr0_0 hc0_0
 have HR0_1 := Aside0.mk hr0_1
 have HC0_1 := Aside0.mk hc0_1
 clear hr0_1 hc0_1
 have HB := Aside0.mk (Below.refl w.heap.size w)
 have H : (sentryref4_Kids.l0 k a1 ([] : List Int) 0 l0_0 l0_1) = some r := h
 clear h
 have H' := Aside0.mk H
 clear H
 go_enter Try.func23, Try.ntmps23
 go_wp2_with (first | ((with_reducible refine gate_dst (N := 2) rfl ?_); refine box_event ?hg (N := 2) ?hd (cs := #[.slice A0_0 l0_0.length c0_0, .slice A0_1 l0_1.length c0_1]) (t := 36) ?hr ?_; (case hd => rfl); (case hg => rfl); (case hr => first | (go_simp; done) | (go_simp; rfl)); intro gb263 hg w3 hbox hb; have n0_ := hb_ HB hb; have n1_ := Aside0.mk (hbox); have n2_ := Aside0.mk ((by rw [hg]; exact (below_size (by repeat (first | (with_reducible first | exact HB.out | apply below_alloc | apply pw_below_drewN | apply below_drew1) | exact HB.out))) : w.heap.size ≤ gb263)); have n3_ := Aside0.mk ((by rw [hg]; exact (below_size (by repeat (first | (with_reducible first | exact HB.out | apply below_alloc | apply pw_below_drewN | apply below_drew1) | exact HB.out))) : w.heap.size ≤ gb263)); clear HB; have HB := n0_; have BK263 := n1_; have GW263 := n2_; have GE263 := n3_; clear n0_ n1_ n2_ n3_; clear hb hbox hg))
 go_loopg [5, 6] k (fun kq v5 v6 w' => ∃ (x5_1 : List Int) (x6_1 : Int), v6 = .int .i64 x6_1 ∧ Aside0 (sentryref4_Kids.l0 kq a1 x5_1 x6_1 l0_0 l0_1 = some r) ∧ Aside0 (kq ≤ k) ∧ Aside0 (Kd.R (Kd.int .i64) 3 w' w.heap.size (fun _ => True) v5 x5_1) ∧ Aside0 (w'.heap[gb263]? = some (.cells #[(.slice A0_0 l0_0.length c0_0), (.slice A0_1 l0_1.length c0_1)] 36 (0, 0))) ∧ Aside0 (Below w.heap.size w w'))
 case atStart => exact ⟨(([] : List Int)), (0), (by first | rfl | (simp; done) | (simp [*]; done)), H', ⟨Nat.le_refl _⟩, ⟨by first | exact Kd.R_nil _ _ _ _ _ | exact Kd.N_nil _ _ _ _ _ | exact Kd.V_nil _ _ _ _ _ | exact Kd.Q_nil _ _ _ _ _ | exact Kd.S_nil _ _ _ _ _⟩, ⟨gx_ BK263⟩, ⟨hf_⟩⟩
 case round =>
  clear H'
  (try clear c2); (try clear p2)
  obtain ⟨x5_1, x6_1, rfl, HA, HK1, HO_5, BK263, HB⟩ := hrel
  cases gk with
  | zero => exact absurd HA.out (by simp [sentryref4_Kids.l0])
  | succ k1 =>
   have H := HA.out
   clear HA
   simp only [sentryref4_Kids.l0] at H
   by_cases c4 : x6_1 < (l0_1.length : Int)
   ·rw [if_pos c4] at H
    have c4b0 : decide (x6_1 < (l0_1.length : Int)) = true := decide_eq_true c4
    clear c4
    by_cases c5 : 0 ≤ x6_1
    ·rw [if_pos c5] at H
     have c5b0 : decide (0 ≤ x6_1) = true := decide_eq_true c5
     clear c5
     by_cases c6 : ((rd_T32 l0_1 x6_1).f2).toList = a1.toList
     ·rw [if_pos c6] at H
      have c6b0 : (((rd_T32 l0_1 x6_1).f2).toList == a1.toList) = true := beq_iff_eq.mpr c6
      have c6b1 : (((rd_T32 l0_1 x6_1).f2).toList != a1.toList) = false := bne_eq_false_iff_eq.mpr c6
      clear c6
      by_cases c7 : x5_1.length < 17592186044416
      ·rw [if_pos c7] at H
       have LMc7 := Aside0.mk c7
       clear c7
       obtain ⟨y265, hy265⟩ : ∃ y_ : List Int, y_ = (x5_1 ++ [x6_1]) := ⟨_, rfl⟩
       replace H : (sentryref4_Kids.l0 k1 a1 y265 (wrap64 (x6_1 + 1)) l0_0 l0_1) = some r := by first | (rw [hy265]; with_reducible exact H) | (have H2_ := (Option.bind_some _ _).symm.trans H; rw [hy265]; with_reducible exact H2_) | (have H2_ := (Option.bind_some _ _).symm.trans H; with_reducible exact H2_) | with_reducible exact H | (rw [hy265]; exact H) | exact H
       have Ny265 := Aside0.mk hy265
       clear hy265
       have H' := Aside0.mk H
       clear H
       obtain ⟨hcz8_0, hcz8_1, hfz8_0, hfz8_1⟩ := bs2_ BK263
       have p264 : 0 ≤ (x6_1 : Int) := od_
       have q264 : x6_1 < (l0_1.length : Int) := od_
       obtain ⟨ad264, A264_5, c264_5, A264_6, c264_6, e264, hx264_0, hx264_1, hx264_2, hx264_3, hx264_4, hx264_5, hx264_6, hl264_5, hi264_5, hl264_6, hi264_6⟩ := at_T32 HR0_1.out x6_1 p264 q264
       cases e264
       replace hx264_0 := rr_ HB hx264_0
       replace hx264_1 := rr_ HB hx264_1
       replace hx264_2 := rr_ HB hx264_2
       replace hx264_3 := rr_ HB hx264_3
       replace hx264_4 := rr_ HB hx264_4
       replace hx264_5 := rr_ HB hx264_5
       replace hx264_6 := rr_ HB hx264_6
       have HR264_5 := Aside0.mk hi264_5
       have HC264_5 := Aside0.mk hl264_5
       clear hi264_5 hl264_5
       have HR264_6 := Aside0.mk hi264_6
       have HC264_6 := Aside0.mk hl264_6
       clear hi264_6 hl264_6
       replace p264 := eq_true p264
       replace q264 := eq_true q264
       go_wp2_with (first | ((with_reducible refine gate_builtin (b := .append) (xs := #[.tmp 22, .tmp 24]) rfl ?_); at_builtin; refine Kd.R_append (Kd.int .i64) (w0 := w) w.heap.size rfl (.tmp 22) (.tmp 24) 46 3 (.int .i64 0) 8 rfl Try.underlying46 info3 rfl (by decide) (by omega) u5 x5_1 x6_1 [.int .i64 x6_1] (fun _ => True) (fun _ => False) rfl rfl ?aP (fun _ hk => hk.elim) ?aF ?aO ?aB ?aS ?aL ?_; (case aP => exact rfl); (case aB => exact (by repeat (first | (with_reducible first | exact HB.out | apply below_alloc | apply pw_below_drewN | apply below_drew1 | refine below_set ?_ GE263.out) | exact HB.out))); (case aF => exact (fun _ _ => trivial)); (case aO => exact (by (with_reducible repeat (first | apply Kd.R_alloc | apply Kd.R_drewN | apply Kd.R_drew)); exact HO_5.out)); (case aS => exact (below_size (by repeat (first | (with_reducible first | exact HB.out | apply below_alloc | apply pw_below_drewN | apply below_drew1 | refine below_set ?_ GE263.out) | exact HB.out)))); (case aL => have := LMc7.out; omega); intro v266 w9 ho hb hg hat; rw [← Ny265.out] at ho; have n0_ := Aside0.mk (blk_grown (g := gb263) (o := .cells #[.slice A0_0 l0_0.length c0_0, .slice (some ad264) l0_1.length c0_1] 36 (0, 0)) (by (with_reducible repeat (first | refine blk_drewN ?_ _ | refine blk_drew ?_ | refine blk_alloc ?_ _)); exact BK263.out) hg (Kd.R_ne HO_5.out BK263.out (by decide))); have n1_ := Aside0.mk (hb); have n2_ := Aside0.mk (ho); clear BK263; clear HB; clear HO_5; have BK263 := n0_; have HB := n1_; have HO267 := n2_; clear n0_ n1_ n2_; clear ho hb hg hat))
       go_roundg k1
       case measure => have := HK1.out; omega
       case rel => exact ⟨(y265), (wrap64 (x6_1 + 1)), (by first | rfl | (simp; done) | (simp [*]; done)), H', ⟨by have := HK1.out; omega⟩, ⟨by (with_reducible repeat (first | apply Kd.R_alloc | apply Kd.R_drewN | apply Kd.R_drew)); exact HO267.out⟩, ⟨gx_ BK263⟩, ⟨hf_⟩⟩
      ·rw [if_neg c7] at H
       exact absurd H (by simp)
     ·rw [if_neg c6] at H
      have c6b0 : (((rd_T32 l0_1 x6_1).f2).toList == a1.toList) = false := beq_eq_false_iff_ne.mpr c6
      have c6b1 : (((rd_T32 l0_1 x6_1).f2).toList != a1.toList) = true := bne_iff_ne.mpr c6
      have H' := Aside0.mk H
      clear H
      obtain ⟨hcz10_0, hcz10_1, hfz10_0, hfz10_1⟩ := bs2_ BK263
      have p264 : 0 ≤ (x6_1 : Int) := od_
      have q264 : x6_1 < (l0_1.length : Int) := od_
      obtain ⟨ad264, A264_5, c264_5, A264_6, c264_6, e264, hx264_0, hx264_1, hx264_2, hx264_3, hx264_4, hx264_5, hx264_6, hl264_5, hi264_5, hl264_6, hi264_6⟩ := at_T32 HR0_1.out x6_1 p264 q264
      cases e264
      replace hx264_0 := rr_ HB hx264_0
      replace hx264_1 := rr_ HB hx264_1
      replace hx264_2 := rr_ HB hx264_2
      replace hx264_3 := rr_ HB hx264_3
      replace hx264_4 := rr_ HB hx264_4
      replace hx264_5 := rr_ HB hx264_5
      replace hx264_6 := rr_ HB hx264_6
      have HR264_5 := Aside0.mk hi264_5
      have HC264_5 := Aside0.mk hl264_5
      clear hi264_5 hl264_5
      have HR264_6 := Aside0.mk hi264_6
      have HC264_6 := Aside0.mk hl264_6
      clear hi264_6 hl264_6
      replace p264 := eq_true p264
      replace q264 := eq_true q264
      go_wp2
      go_roundg k1
      case measure => have := HK1.out; omega
      case rel => exact ⟨(x5_1), (wrap64 (x6_1 + 1)), (by first | rfl | (simp; done) | (simp [*]; done)), H', ⟨by have := HK1.out; omega⟩, ⟨by (with_reducible repeat (first | apply Kd.R_alloc | apply Kd.R_drewN | apply Kd.R_drew)); exact HO_5.out⟩, ⟨gx_ BK263⟩, ⟨hf_⟩⟩
    ·rw [if_neg c5] at H
     exact absurd H (by simp)
   ·rw [if_neg c4] at H
    have c4b0 : decide (x6_1 < (l0_1.length : Int)) = false := decide_eq_false c4
    clear c4
    obtain rfl := Option.some.inj H
    obtain ⟨hcz11_0, hcz11_1, hfz11_0, hfz11_1⟩ := bs2_ BK263
    go_wp2
    go_ret
    exact ⟨_, by first | rfl | (simp [errW_none, errW_some] <;> rfl) | (simp [*, errW_none, errW_some] <;> rfl), by (with_reducible repeat (first | apply Kd.R_alloc | apply Kd.R_drewN | apply Kd.R_drew)); exact HO_5.out, by repeat (first | (with_reducible first | exact HB.out | apply below_alloc | apply pw_below_drewN | apply below_drew1 | refine below_set ?_ GE263.out) | exact HB.out)⟩
end Go.Proofs.Ytchellnfenekaaa.Pm
end
section
namespace Go.Proofs.Ytchellnfenekaaa.Pm
open Go.RowKit Go.Proofs.YtchellnfenekaaaW.PrintWords Go.Proofs.YtchellnfenekaaaW.PrintLast Go.Proofs.YtchellnfenekaaaW.PrintMore
attribute [local go_sem] max2_int min2_int max_two min_two max_three min_three max_four min_four   -- for this text's walks alone
set_option linter.unusedVariables false
set_option linter.unusedSimpArgs false
def kidsFrom (l : List (S32)) (id : ByteArray) (i : Nat) : List Int := ((List.range' i (l.length - i)).filter (fun (j : Nat) => decide ((paA l (j : Int)).toList = id.toList))).map (fun (j : Nat) => (j : Int))
def kidsL (l : List (S32)) (id : ByteArray) : List Int := kidsFrom l id 0
theorem kidsFrom_end (l : List (S32)) (id : ByteArray) (i : Nat) (h : l.length ≤ i) : kidsFrom l id i = [] := by
  unfold kidsFrom
  rw [show l.length - i = 0 by omega]; rfl
theorem kidsFrom_step (l : List (S32)) (id : ByteArray) (i : Nat) (h : i < l.length) : kidsFrom l id i = if (paA l (i : Int)).toList = id.toList then (i : Int) :: kidsFrom l id (i + 1) else kidsFrom l id (i + 1) := by
  unfold kidsFrom
  rw [show l.length - i = (l.length - (i + 1)) + 1 by omega, List.range'_succ, List.filter_cons]
  by_cases e : (paA l (i : Int)).toList = id.toList
  · rw [if_pos e, if_pos (by simpa using e)]; rfl
  · rw [if_neg e, if_neg (by simpa using e)]
theorem model_kids_at (l : List (S32)) (id : ByteArray) (hn : l.length ≤ 8796093022208) (d : Nat) : ∀ (i k : Nat) (acc : List Int), i + d = l.length → d < k → acc.length ≤ i → model_Kids.l0 k id acc l (l.length : Int) (i : Int) = some (acc ++ kidsFrom l id i) := by
  induction d with
  | zero =>
    intro i k acc hi hk ha
    obtain ⟨k, rfl⟩ : ∃ m, k = m + 1 := ⟨k - 1, by omega⟩
    simp only [model_Kids.l0]
    rw [if_neg (by omega), kidsFrom_end l id i (by omega), List.append_nil]
  | succ d ih =>
    intro i k acc hi hk ha
    obtain ⟨k, rfl⟩ : ∃ m, k = m + 1 := ⟨k - 1, by omega⟩
    have hlt : i < l.length := by omega
    simp only [model_Kids.l0]
    rw [if_pos (by omega), if_pos (by omega), if_pos (by omega), kidsFrom_step l id i hlt, wrap_lt (n := (l.length : Int)) (by omega) (by omega) (by omega)]
    by_cases e : (paA l (i : Int)).toList = id.toList
    · rw [if_pos (show (rd_T32 l (i : Int)).f2.toList = id.toList from e), if_pos (by omega), if_pos e]
      have := ih (i + 1) k (acc ++ [(i : Int)]) (by omega) (by omega) (by rw [List.length_append, List.length_singleton]; omega)
      rw [show (((i + 1 : Nat)) : Int) = (i : Int) + 1 by omega] at this
      rw [this, List.append_assoc]; rfl
    · rw [if_neg (show ¬ (rd_T32 l (i : Int)).f2.toList = id.toList from e), if_neg e]
      exact ih (i + 1) k acc (by omega) (by omega) (by omega)
theorem model_kids (fs : List ByteArray) (l : List (S32)) (id : ByteArray) (hn : l.length ≤ 8796093022208) (k : Nat) (hk : l.length < k) : model_Kids.f k fs l id = some (kidsL l id) := model_kids_at l id hn l.length 0 k [] (by omega) hk (by simp)
theorem same_ints_at (a : List Int) (hn : a.length ≤ 9223372036854775807) (d : Nat) : ∀ i k : Nat, i + d = a.length → d < k → sentryref4_SameInts.l0 k a a (i : Int) = some true := by
  induction d with
  | zero =>
    intro i k hi hk
    obtain ⟨k, rfl⟩ : ∃ m, k = m + 1 := ⟨k - 1, by omega⟩
    simp only [sentryref4_SameInts.l0]
    rw [if_neg (by omega)]
  | succ d ih =>
    intro i k hi hk
    obtain ⟨k, rfl⟩ : ∃ m, k = m + 1 := ⟨k - 1, by omega⟩
    simp only [sentryref4_SameInts.l0]
    rw [if_pos (by omega), if_pos (by omega), if_pos (by omega), if_pos trivial, wrap_lt (n := (a.length : Int)) (by omega) (by omega) (by omega)]
    exact ih (i + 1) k (by omega) (by omega)
theorem same_ints (a : List Int) (hn : a.length ≤ 9223372036854775807) (k : Nat) (hk : a.length < k) : sentryref4_SameInts.f k a a = some true := by
  unfold sentryref4_SameInts.f
  rw [if_pos rfl]
  exact same_ints_at a hn a.length 0 k (by omega) hk
end Go.Proofs.Ytchellnfenekaaa.Pm
end
section
namespace Go.Proofs.Ytchellnfenekaaa.Pm
open Go.RowKit Go.Proofs.YtchellnfenekaaaW.PrintWords Go.Proofs.YtchellnfenekaaaW.PrintLast Go.Proofs.YtchellnfenekaaaW.PrintMore
attribute [local go_sem] max2_int min2_int max_two min_two max_three min_three max_four min_four   -- for this text's walks alone
set_option linter.unusedVariables false
set_option linter.unusedSimpArgs false
def sumTo (g : Nat → Nat) : Nat → Nat
  | 0 => 0
  | n + 1 => sumTo g n + g n
theorem sumTo_add (f g : Nat → Nat) (n : Nat) : sumTo (fun i => f i + g i) n = sumTo f n + sumTo g n := by
  induction n with
  | zero => rfl
  | succ n ih => simp only [sumTo]; omega
theorem sumTo_congr (f g : Nat → Nat) (n : Nat) (h : ∀ i, i < n → f i = g i) : sumTo f n = sumTo g n := by
  induction n with
  | zero => rfl
  | succ n ih => simp only [sumTo]; rw [ih (fun i hi => h i (by omega)), h n (by omega)]
theorem sumTo_zero (n : Nat) : sumTo (fun _ => 0) n = 0 := by
  induction n with
  | zero => rfl
  | succ n ih => simp only [sumTo]; omega
theorem sumTo_one (p n : Nat) (h : p < n) : sumTo (fun i => if i = p then 1 else 0) n = 1 := by
  induction n with
  | zero => omega
  | succ n ih =>
    simp only [sumTo]
    by_cases e : p < n
    · rw [ih e, if_neg (by omega)]
    · rw [if_pos (by omega), sumTo_congr _ (fun _ => 0) n (fun i hi => if_neg (by omega)), sumTo_zero]
def hits (l : List (S32)) (id : ByteArray) (m : Nat) : Nat := ((List.range m).filter (fun (j : Nat) => decide ((paA l (j : Int)).toList = id.toList))).length
theorem hits_succ (l : List (S32)) (id : ByteArray) (m : Nat) : hits l id (m + 1) = hits l id m + (if (paA l (m : Int)).toList = id.toList then 1 else 0) := by
  unfold hits
  rw [List.range_succ, List.filter_append, List.length_append]
  congr 1
  by_cases e : (paA l (m : Int)).toList = id.toList
  · rw [if_pos e, List.filter_cons, if_pos (by simpa using e)]; rfl
  · rw [if_neg e, List.filter_cons, if_neg (by simpa using e)]; rfl
theorem kidsL_hits (l : List (S32)) (id : ByteArray) : (kidsL l id).length = hits l id l.length := by
  unfold kidsL kidsFrom hits
  rw [List.length_map, Nat.sub_zero, List.range_eq_range']
section
variable {fs : List ByteArray} {l : List (S32)}
theorem parent_iff (h : isB fs l = true) (i q : Nat) (hi : i < l.length) (hq : q < l.length) : (paA l (q : Int)).toList = (nmA l (i : Int)).toList ↔ 0 < q ∧ placeI l (paA l q) = i := by
  obtain ⟨-, -, -, hn, h0, hp⟩ := legal_facts fs l h
  constructor
  · intro e
    have hq0 : 0 < q := by
      rcases Nat.eq_zero_or_pos q with rfl | h'
      · exact ((hn i hi).2 (e.symm.trans h0)).elim
      · exact h'
    exact ⟨hq0, (placeI_congr l _ _ e).trans (hn i hi).1⟩
  · rintro ⟨_, e⟩
    exact (placeI_at l (paA l q) i e).2.symm
theorem sum_hits (h : isB fs l = true) (m : Nat) (hm : m ≤ l.length) (h0 : 0 < m) : sumTo (fun i => hits l (nmA l (i : Int)) m) l.length = m - 1 := by
  induction m with
  | zero => omega
  | succ m ih =>
    rw [sumTo_congr _ (fun i => hits l (nmA l (i : Int)) m + (if (paA l (m : Int)).toList = (nmA l (i : Int)).toList then 1 else 0)) _ (fun i _ => hits_succ l _ m), sumTo_add]
    obtain ⟨-, -, -, hn, hz, hp⟩ := legal_facts fs l h
    rcases Nat.eq_zero_or_pos m with rfl | hm0
    · have e : ∀ i, i < l.length → (if (paA l ((0 : Nat) : Int)).toList = (nmA l (i : Int)).toList then 1 else 0) = 0 := by
        intro i hi
        rw [if_neg]
        intro e
        have := (parent_iff h i 0 hi (by omega)).1 e
        omega
      rw [sumTo_congr _ (fun _ => 0) _ e, sumTo_zero, sumTo_congr _ (fun _ => 0) _ (fun i _ => by simp [hits]), sumTo_zero]
    · obtain ⟨p, hpq, hpp, -, -⟩ := hp m hm0 (by omega)
      rw [ih (by omega) hm0, sumTo_congr _ (fun i => if i = p then 1 else 0) _ (fun i hi => ?_), sumTo_one p _ (by omega)]
      · omega
      · by_cases e : i = p
        · rw [if_pos e, if_pos ((parent_iff h i m hi (by omega)).2 ⟨hm0, by rw [hpp, e]⟩)]
        · rw [if_neg e, if_neg]
          intro e2
          have := ((parent_iff h i m hi (by omega)).1 e2).2
          rw [hpp] at this
          omega
/-- The kids of an item: each behind it, in its Parent's name, rising. -/
theorem kids_row (h : isB fs l = true) (i : Nat) (hi : i < l.length) : (∀ j : Nat, j < (kidsL l (nmA l i)).length → (i : Int) < rd (kidsL l (nmA l i)) j ∧ rd (kidsL l (nmA l i)) j < l.length ∧ (rd_T32 l (rd (kidsL l (nmA l i)) j)).f2.toList = (nmA l i).toList) ∧ ∀ j : Nat, 0 < j → j < (kidsL l (nmA l i)).length → rd (kidsL l (nmA l i)) ((j : Int) - 1) < rd (kidsL l (nmA l i)) j := by
  obtain ⟨ns, hns⟩ : ∃ ns, ns = (List.range l.length).filter (fun (j : Nat) => decide ((paA l (j : Int)).toList = (nmA l (i : Int)).toList)) := ⟨_, rfl⟩
  have hk : kidsL l (nmA l i) = ns.map (fun (j : Nat) => (j : Int)) := by
    unfold kidsL kidsFrom
    rw [Nat.sub_zero, ← List.range_eq_range', hns]
  have hs : ns.Pairwise (· < ·) := by rw [hns]; exact List.Pairwise.filter _ List.pairwise_lt_range
  have hrd : ∀ j (hj : j < ns.length), rd (kidsL l (nmA l i)) (j : Int) = ((ns[j] : Nat) : Int) := by
    intro j hj
    unfold rd
    rw [hk, List.getD_eq_getElem?_getD, Int.toNat_natCast, List.getElem?_map, List.getElem?_eq_getElem hj]
    rfl
  have hlen : (kidsL l (nmA l i)).length = ns.length := by rw [hk, List.length_map]
  rw [hlen]
  refine ⟨fun j hj => ?_, fun j h0 hj => ?_⟩
  · rw [hrd j hj]
    have hall : ∀ q ∈ ns, q < l.length ∧ (paA l (q : Int)).toList = (nmA l (i : Int)).toList := fun q hq => by
      rw [hns, List.mem_filter, List.mem_range, decide_eq_true_eq] at hq
      exact hq
    have hm := hall _ (List.getElem_mem hj)
    obtain ⟨-, -, -, hn, hz, hp⟩ := legal_facts fs l h
    have hq := (parent_iff h i _ hi hm.1).1 hm.2
    obtain ⟨p, hpq, hpp, -, -⟩ := hp _ hq.1 hm.1
    rw [hq.2] at hpp
    exact ⟨by omega, by omega, hm.2⟩
  · rw [show (j : Int) - 1 = ((j - 1 : Nat) : Int) by omega, hrd j hj, hrd (j - 1) (by omega)]
    have := List.pairwise_iff_getElem.1 hs (j - 1) j (by omega) hj (by omega)
    omega
theorem kids_nothing (h : isB fs l = true) : kidsL l (⟨#[]⟩ : ByteArray) = [0] := by
  obtain ⟨-, h1, -, hn, hz, hp⟩ := legal_facts fs l h
  obtain ⟨n, hn'⟩ : ∃ n, l.length = n + 1 := ⟨l.length - 1, by omega⟩
  unfold kidsL
  rw [kidsFrom_step l _ 0 (by omega), if_pos (show (paA l ((0 : Nat) : Int)).toList = (⟨#[]⟩ : ByteArray).toList from hz.trans (by decide +kernel))]
  congr 1
  unfold kidsFrom
  rw [List.map_eq_nil_iff, List.filter_eq_nil_iff]
  intro q hq
  rw [List.mem_range'_1] at hq
  rw [decide_eq_true_eq]
  intro e
  obtain ⟨p, -, -, hne, -⟩ := hp q (by omega) (by omega)
  exact hne (e.trans (by decide +kernel))
theorem ev_k1 (hl : isB fs l = true) (i : Nat) (hi : i < l.length) (c : Nat) (hc : c ≤ 1000000) (h16 : (kidsL l (nmA l i)).length ≤ 16) (R : Bool) (hR : Ev (fun k => sentrylaw4_ModelKids.l0 k ((c + (kidsL l (nmA l i)).length : Nat) : Int) ((i + 1 : Nat) : Int) fs l) R) (d : Nat) : ∀ j : Nat, j + d = (kidsL l (nmA l i)).length → Ev (fun k => sentrylaw4_ModelKids.l1 k ((c + j : Nat) : Int) (i : Int) (kidsL l (nmA l i)) (j : Int) fs l) R := by
  obtain ⟨-, h1, hl16, -, -, -⟩ := legal_facts fs l hl
  obtain ⟨hrow, hris⟩ := kids_row hl i hi
  induction d with
  | zero =>
    intro j hj
    rw [show j = (kidsL l (nmA l i)).length by omega]
    refine Ev.step (fun k => ?_) hR
    simp only [sentrylaw4_ModelKids.l1]
    rw [if_neg (by omega), wrap_lt (n := 100) (by omega) (by omega) (by omega)]
    rfl
  | succ d ih =>
    intro j hj
    obtain ⟨r1, r2, r3⟩ := hrow j (by omega)
    have r4 := hris j
    refine Ev.step (fun k => ?_) (ih (j + 1) (by omega))
    have hw1 : wrap64 (((c + j : Nat) : Int) + 1) = ((c + (j + 1) : Nat) : Int) := by rw [wrap_lt (n := 100000000) (by omega) (by omega) (by omega)]; omega
    have hw2 : wrap64 ((j : Int) + 1) = ((j + 1 : Nat) : Int) := by rw [wrap_lt (n := 100) (by omega) (by omega) (by omega)]; omega
    simp only [sentrylaw4_ModelKids.l1]
    rw [if_pos (by omega), if_pos (by omega), if_neg (by omega), if_neg (by omega), if_pos (by omega), if_pos (by omega), if_pos (by omega), if_pos (by omega), if_pos r3, hw1, hw2]
    by_cases j0 : (j : Int) > 0
    · have hw3 : wrap64 ((j : Int) - 1) = (j : Int) - 1 := by unfold wrap64; omega
      have := r4 (by omega) (by omega)
      rw [if_pos j0, hw3, if_pos (by omega), if_pos (by omega), if_neg (by omega)]
    · rw [if_neg j0]
theorem ev_k0 (hl : isB fs l = true) (hk : sentrylaw4_known.f = some true) (d : Nat) : ∀ i : Nat, i + d = l.length → Ev (fun k => sentrylaw4_ModelKids.l0 k ((sumTo (fun i => hits l (nmA l (i : Int)) l.length) i : Nat) : Int) (i : Int) fs l) true := by
  obtain ⟨-, h1, hl16, -, -, -⟩ := legal_facts fs l hl
  have hsum := sum_hits hl l.length (Nat.le_refl _) (by omega)
  have hmono : ∀ i, i ≤ l.length → sumTo (fun i => hits l (nmA l (i : Int)) l.length) i ≤ 16 * i := by
    intro i hi
    induction i with
    | zero => exact Nat.le_refl _
    | succ i ih =>
      have := ih (by omega)
      have h2 : hits l (nmA l (i : Int)) l.length ≤ 16 := by
        rw [← kidsL_hits]
        unfold kidsL kidsFrom
        rw [List.length_map]
        exact Nat.le_trans (List.length_filter_le _ _) (by rw [List.length_range']; omega)
      simp only [sumTo]
      omega
  induction d with
  | zero =>
    intro i hi
    obtain rfl : i = l.length := by omega
    rw [hsum]
    refine Ev.step (f := fun k => (model_Kids.f k fs l (⟨#[]⟩ : ByteArray)).bind fun t298 => ((sentryref4_SameInts.f k t298 (([0] : List Int))).bind fun t304 => (if t304 = true then ((sentrylaw4_known.f).bind fun t305 => (some t305)) else (some false)))) (fun k => ?_) ?_
    · simp only [sentrylaw4_ModelKids.l0]
      rw [if_neg (by omega), if_pos (by unfold wrap64; omega)]
    refine Ev.bind (a := [0]) (Ev.at (l.length + 1) (fun k hk => by rw [model_kids fs l _ (by omega) k (by omega), kids_nothing hl])) ?_
    refine Ev.bind (a := true) (Ev.at 2 (fun k hk => same_ints [0] (by simp) k (show 1 < k by omega))) ?_
    refine Ev.congr (f := fun _ => some true) (fun k => ?_) (Ev.now true)
    rw [if_pos rfl, hk]
    rfl
  | succ d ih =>
    intro i hi
    have hnx := ih (i + 1) (by omega)
    have hlen := kidsL_hits l (nmA l (i : Int))
    have hm := hmono i (by omega)
    have hm1 := hmono (i + 1) (by omega)
    simp only [sumTo] at hnx hm1
    rw [← hlen] at hnx hm1
    have h16 : (kidsL l (nmA l (i : Int))).length ≤ 16 := by
      unfold kidsL kidsFrom
      rw [List.length_map]
      exact Nat.le_trans (List.length_filter_le _ _) (by rw [List.length_range']; omega)
    refine Ev.step (f := fun k => (model_Kids.f k fs l (nmA l i)).bind fun t307 => (sentrylaw4_ModelKids.l1 k ((sumTo (fun i => hits l (nmA l (i : Int)) l.length) i : Nat) : Int) (i : Int) t307 0 fs l)) (fun k => ?_) ?_
    · simp only [sentrylaw4_ModelKids.l0]
      rw [if_pos (by omega), if_pos (by omega)]
    refine Ev.bind (Ev.at (l.length + 1) (fun k hk => model_kids fs l _ (by omega) k (by omega))) ?_
    have := ev_k1 hl i (by omega) _ (by omega) h16 true hnx (kidsL l (nmA l i)).length 0 (by omega)
    simpa using this
theorem kids_law (hf : fs.length ≤ 140737488351232) (hl : l.length ≤ 140737488351232) (hg : ∀ x ∈ l, goodItem x) : ∃ k, sentrylaw4_ModelKids.f k fs l = some true := by
  obtain ⟨b, hb, -⟩ := ev_heavy fs l hf hl hg
  have hri := ev_ris fs l (fits_of fs l hf hl hg)
  rw [ris_eq] at hri
  refine Ev.rounds (g := fun k => sentrylaw4_ModelKids.f k fs l) ?_
  unfold sentrylaw4_ModelKids.f
  refine Ev.bind hb ?_
  have hj : ∀ fs l, Ev (fun k => sentrylaw4_ModelKids.j0 k true fs l) true := fun fs l => Ev.step (f := fun _ => some true) (fun k => by simp only [sentrylaw4_ModelKids.j0]; rw [if_pos trivial]) (Ev.now true)
  cases b with
  | true => exact Ev.congr (fun k => if_pos rfl) (hj fs l)
  | false =>
    refine Ev.congr (fun k => if_neg (by simp)) ?_
    refine Ev.bind hri ?_
    cases hB : isB fs l with
    | false => exact hj fs l
    | true =>
      have := ev_k0 (fs := fs) hB rfl l.length 0 (by omega)
      refine Ev.step (f := fun k => sentrylaw4_ModelKids.l0 k 0 0 fs l) (fun k => ?_) (by simpa [sumTo] using this)
      simp only [sentrylaw4_ModelKids.j0]
      rw [if_neg (by simp)]
end
theorem kids_any (A0 : Option Addr) (c0 : Nat) (fs : List ByteArray) (A1 : Option Addr) (c1 : Nat) (l : List (S32)) (w : World) (hr0 : Kd.C Kd.string w A0 fs.length fs) (hc0 : fs.length ≤ c0) (hr1 : Kd.C k32 w A1 l.length l) (hc1 : l.length ≤ c1) (hf : fs.length ≤ 140737488351232) (hl : l.length ≤ 140737488351232) (hg : ∀ x ∈ l, goodItem x) :
    Calls Try.prog 9 #[.agg #[.slice A0 fs.length c0, .slice A1 l.length c1]] w fun e w' => e = .returned (.bool true) ∧ Below w.heap.size w w' := by
  obtain ⟨k, hk⟩ := kids_law hf hl hg
  exact sentrylaw4_ModelKids.calls k A0 c0 fs A1 c1 l true w hr0 hc0 hr1 hc1 hk
end Go.Proofs.Ytchellnfenekaaa.Pm
end
section
namespace Go.Proofs.Ytchellnfenekaaa.modelKids
open Go.ChangeShapes Go.WideShapes Go.ChangeAt Go.RowKit Go.Proofs.YtchellnfenekaaaW.PrintWords
open Go.ChangeMaps (open_string shut_string)
set_option linter.unusedVariables false
theorem own : ownKnob Try.prog.godebug = none := by kernel_rfl
theorem laidOut : laidOutB Try.prog = true := by kernel_rfl
set_option maxRecDepth 100000 in
theorem lifted (os : Os) (started : os.Started) (H : Type) (enc : TypeId × Value → H) :
    ReturnsInHanded {} Try.checked os 9 .any (Rows.modelKidsSpec.pre6 enc Try.prog Try.f9 Rows.modelKidsRow.domain false) (Rows.modelKidsSpec.post enc Try.prog Try.f9 false true false false) := by
  refine returnsInHanded_of_change_sized (C := Try.checked) own started (by kernel_rfl) Try.func9
    (ChangeSpec.witness6 (enc := enc) (C := Try.checked) false ⟨#[], #[.agg #[.slice none 0 0, .slice none 0 0]], []⟩ 8 (by kernel_rfl) (by kernel_rfl) (by kernel_rfl) (by kernel_rfl)) ?_
  intro W base args ds gs before hval0 hW hcnd hsz0 _
  have hsz : (DataW.weightsEach Try.prog (Try.f9.params.toList ++ Rows.modelKidsSpec.plain.varTypes Try.prog) (ds ++ gs)).all (· ≤ reachBytes) = true := hsz0
  have hval : ∀ (j : Nat) t v, Try.f9.params[j]? = some t → args[j]? = some v → Value.okWide Try.prog W .any base t v := hval0
  have hW' := hW
  obtain ⟨p, q, hA0, hV, rfl, hfz, hnd⟩ := hW
  have hA : DataW.TrodAll enc Try.prog W 0 (fun _ => true) true Try.f9.params.toList args.toList ds p := hA0
  rw [Try.params9] at hA hval hsz
  obtain ⟨v0, vs0, d0, ds0, p0, q0, hargs, rfl, rfl, h0, r0⟩ := trodAll_cons hA
  obtain ⟨rfl, rfl, rfl⟩ := trodAll_nil r0
  obtain rfl : args = #[v0] := by cases args; simp_all
  obtain ⟨rfl, rfl⟩ := trodVars_none hV
  have k0 := h0
  have lt0 : ∀ x ∈ p0, x.block < W.heap.size := by obtain ⟨m, hm⟩ := k0; exact DataW.trod_lt m _ _ _ hm
  obtain ⟨A0, c0, fs0, B0, e0, l0, rfl, rdf0, hcf0, rdl0, hcl0, hf0, hl0, hg0⟩ := Pm.open_model (hval 0 36 v0 rfl rfl) h0 (Pm.light_of hsz (j := 0) (t := 36) rfl rfl)
  clear hA0 hval0 hsz0 hsz
  refine (Pm.kids_any A0 c0 fs0 B0 e0 l0 W rdf0 hcf0 rdl0 hcl0 hf0 hl0 hg0).mono fun e W' ⟨he, bel⟩ => ?_
  subst he
  exact ⟨_, rfl, _, _, _, [], _, [], hW', trodAll_mk1 (shut_bool Try.underlying4 _), (trodAll_cons_mk (Below.trod laidOut (by kernel_rfl) (of_decide_eq_true (by kernel_rfl)) k0 bel lt0) trodAll_mk0), rfl, bel.frame _, fun h => by cases h⟩
theorem over : Rows.modelKidsRow.holds Try.pinned (OpenSpec.ofChange Rows.modelKidsSpec) :=
  OpenClaim.holds_of_wide 9 Try.f9 rfl rfl rfl rfl rfl rfl rfl ⟨rfl, rfl, rfl, rfl, rfl⟩ rfl rfl rfl rfl rfl (by kernel_rfl) Try.func9 (by kernel_rfl)
    (of_decide_eq_true (by kernel_rfl)) (by unfold Func.isWrapper; first | (rw [if_pos (by decide +kernel)]; kernel_rfl) | (rw [if_neg (by decide +kernel)]; exact ⟨rfl, rfl⟩))
    (fun os started H enc _ => lifted os started H enc)
theorem proved : Rows.ModelKidsSaid := over
end Go.Proofs.Ytchellnfenekaaa.modelKids
namespace Go.Proofs.Ytchellnfenekaaa
/-- The row, under a short name, for the claim. -/
theorem modelKids_holds : Rows.ModelKidsSaid := modelKids.proved
end Go.Proofs.Ytchellnfenekaaa
end
