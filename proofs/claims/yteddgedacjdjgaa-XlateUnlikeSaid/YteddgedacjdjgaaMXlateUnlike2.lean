/- Walks and plain laws on the way to the law XlateUnlike: several texts of this workplace and of the kit's printer, merged; what is not used is struck, by a program. No condition. -/
import Derived.Test.YteddgedacjdjgaaMXlateUnlike0
import Derived.Test.YteddgedacjdjgaaMXlateUnlike1
section
namespace Go.Proofs.Yteddgedacjdjgaa.Pm
open Go.RowKit Go.Proofs.YteddgedacjdjgaaW.PrintWords Go.Proofs.YteddgedacjdjgaaW.PrintLast Go.Proofs.YteddgedacjdjgaaW.PrintMore
attribute [local go_sem] max2_int min2_int max_two min_two max_three min_three max_four min_four   -- for this text's walks alone
set_option linter.unusedVariables false
set_option linter.unusedSimpArgs false
def q29.l0 : Nat → List ByteArray → ByteArray → Int → Option (Bool)
 | 0, _, _, _ => none
 | k + 1, x0, x1, x5 => if x5 < (x0.length : Int) then (if 0 ≤ x5 then (if (rdOf ByteArray.empty x0 x5).toList = x1.toList then (some true) else (q29.l0 k x0 x1 (wrap64 (x5 + 1)))) else (none)) else (some false)
def q29.f (k : Nat) (l0 : List ByteArray) (a1 : ByteArray) : Option (Bool) := q29.l0 k l0 a1 0
theorem q29.mono_l : ∀ k, (∀ y0 y1 y2, LeO (q29.l0 k y0 y1 y2) (q29.l0 (k + 1) y0 y1 y2))
 | 0 => fun _ _ _ r h => by simp [q29.l0] at h
 | k + 1 => by
  have ih0 := q29.mono_l k
  ·intro y0 y1 y2
   unfold q29.l0
   repeat' first
   | (with_reducible exact ih0 _ _ _)
   | (with_reducible exact LeO.refl _)
   | (with_reducible exact LeO.none _)
   | (with_reducible refine LeO.ite ?_ ?_)
   | (with_reducible refine LeO.bind ?_ (fun _ => ?_))
   | exact ih0 _ _ _
   | exact LeO.none _
   | refine LeO.ite ?_ ?_
   | refine LeO.bind ?_ (fun _ => ?_)
theorem q29.mono : ∀ a0 a1 k, LeO (q29.f k a0 a1) (q29.f (k + 1) a0 a1) := by
 intro a0 a1 k
 have ih0 := q29.mono_l k
 unfold q29.f
 repeat' first
  | (with_reducible exact ih0 _ _ _)
  | (with_reducible exact LeO.refl _)
  | (with_reducible exact LeO.none _)
  | (with_reducible refine LeO.ite ?_ ?_)
  | (with_reducible refine LeO.bind ?_ (fun _ => ?_))
  | exact ih0 _ _ _
  | exact LeO.none _
  | refine LeO.ite ?_ ?_
  | refine LeO.bind ?_ (fun _ => ?_)
set_option maxHeartbeats 8000000 in
set_option maxRecDepth 100000 in
theorem q29.calls (k : Nat) (A0 : Option Addr) (c0 : Nat) (l0 : List ByteArray) (a1 : ByteArray) (r : Bool) (w : World) (hr0 : Kd.C Kd.string w A0 l0.length l0) (hc0 : l0.length ≤ c0) (h : q29.f k l0 a1 = some r) :
 Calls Try.prog 18 #[.slice A0 l0.length c0, .string a1] w fun e w' => e = .returned (.bool r) ∧ Drawn0 w w' := by
 have HR0 := q56.mk hr0
 have HC0 := q56.mk hc0
 clear hr0 hc0
 have H : (q29.l0 k l0 a1 0) = some r := h
 clear h
 have H' := q56.mk H
 clear H
 go_enter Try.func18, Try.ntmps18
 go_wp2
 go_loopg [5] k (fun kq v5 w' => ∃ (x5_1 : Int), v5 = .int .i64 x5_1 ∧ q56 (q29.l0 kq l0 a1 x5_1 = some r) ∧ q56 (kq ≤ k) ∧ Drawn0 w w')
 case atStart => exact ⟨(0), rf_, H', ⟨Nat.le_refl _⟩, by repeat (first | exact Drawn0.refl _ | apply Drawn0.step)⟩
 case round =>
 clear H'
 obtain ⟨x5_1, rfl, HA, HK1, ⟨m1, rfl⟩⟩ := hrel
 cases gk with
 | zero => exact absurd HA.out (by simp [q29.l0])
 | succ k1 =>
 have H := HA.out
 clear HA
 simp only [q29.l0] at H
 by_cases c3 : x5_1 < (l0.length : Int)
 rotate_left
 ·rw [if_neg c3] at H
  replace c3 := decide_eq_false c3
  obtain rfl := Option.some.inj H
  go_wp2
  go_ret
  exact ⟨by first | rfl | (simp; done) | (simp [*]; done), by repeat (first | exact Drawn0.refl _ | apply Drawn0.step)⟩
 rw [if_pos c3] at H
 replace c3 := decide_eq_true c3
 by_cases c4 : 0 ≤ x5_1
 rotate_left
 ·rw [if_neg c4] at H
  exact absurd H (by simp)
 rw [if_pos c4] at H
 replace c4 := decide_eq_true c4
 by_cases c5 : (rdOf ByteArray.empty l0 x5_1).toList = a1.toList
 ·rw [if_pos c5] at H
  have c5b0 : ((rdOf ByteArray.empty l0 x5_1).toList == a1.toList) = true := beq_iff_eq.mpr c5
  have c5b1 : ((rdOf ByteArray.empty l0 x5_1).toList != a1.toList) = false := bne_eq_false_iff_eq.mpr c5
  clear c5
  obtain rfl := Option.some.inj H
  obtain ⟨ad104, e104, hx104_0, p104, q104⟩ := au_string HR0 ⟨Below.refl _ _⟩ (x5_1)
  cases e104
  go_wp2
  go_ret
  exact ⟨by first | rfl | (simp; done) | (simp [*]; done), by repeat (first | exact Drawn0.refl _ | apply Drawn0.step)⟩
 rw [if_neg c5] at H
 have c5b0 : ((rdOf ByteArray.empty l0 x5_1).toList == a1.toList) = false := beq_eq_false_iff_ne.mpr c5
 have c5b1 : ((rdOf ByteArray.empty l0 x5_1).toList != a1.toList) = true := bne_iff_ne.mpr c5
 have H' := q56.mk H
 clear H
 obtain ⟨ad104, e104, hx104_0, p104, q104⟩ := au_string HR0 ⟨Below.refl _ _⟩ (x5_1)
 cases e104
 go_wp2
 go_roundg k1
 case measure => have := HK1.out; omega
 case rel => exact ⟨(wrap64 (x5_1 + 1)), rf_, H', ⟨by have := HK1.out; omega⟩, by repeat (first | exact Drawn0.refl _ | apply Drawn0.step)⟩
def q22.l0 : Nat → ByteArray → Int → List ByteArray → List (S41) → Option (Int)
 | 0, _, _, _, _ => none
 | k + 1, x1, x5, x106000, x106001 => if x5 < (x106001.length : Int) then (if 0 ≤ x5 then (if ((q81 x106001 x5).f0).toList = x1.toList then (some x5) else (q22.l0 k x1 (wrap64 (x5 + 1)) x106000 x106001)) else (none)) else (some (-1))
def q22.f (k : Nat) (l0_0 : List ByteArray) (l0_1 : List (S41)) (a1 : ByteArray) : Option (Int) := q22.l0 k a1 0 l0_0 l0_1
theorem q22.mono_l : ∀ k, (∀ y0 y1 y2 y3, LeO (q22.l0 k y0 y1 y2 y3) (q22.l0 (k + 1) y0 y1 y2 y3))
 | 0 => fun _ _ _ _ r h => by simp [q22.l0] at h
 | k + 1 => by
  have ih0 := q22.mono_l k
  ·intro y0 y1 y2 y3
   unfold q22.l0
   repeat' first
   | (with_reducible exact ih0 _ _ _ _)
   | (with_reducible exact LeO.refl _)
   | (with_reducible exact LeO.none _)
   | (with_reducible refine LeO.ite ?_ ?_)
   | (with_reducible refine LeO.bind ?_ (fun _ => ?_))
   | exact ih0 _ _ _ _
   | exact LeO.none _
   | refine LeO.ite ?_ ?_
   | refine LeO.bind ?_ (fun _ => ?_)
theorem q22.mono : ∀ a0 a1 a2 k, LeO (q22.f k a0 a1 a2) (q22.f (k + 1) a0 a1 a2) := by
 intro a0 a1 a2 k
 have ih0 := q22.mono_l k
 unfold q22.f
 repeat' first
  | (with_reducible exact ih0 _ _ _ _)
  | (with_reducible exact LeO.refl _)
  | (with_reducible exact LeO.none _)
  | (with_reducible refine LeO.ite ?_ ?_)
  | (with_reducible refine LeO.bind ?_ (fun _ => ?_))
  | exact ih0 _ _ _ _
  | exact LeO.none _
  | refine LeO.ite ?_ ?_
  | refine LeO.bind ?_ (fun _ => ?_)
set_option maxHeartbeats 8000000 in
set_option maxRecDepth 100000 in
theorem q22.calls (k : Nat) (A0_0 : Option Addr) (c0_0 : Nat) (l0_0 : List ByteArray) (A0_1 : Option Addr) (c0_1 : Nat) (l0_1 : List (S41)) (a1 : ByteArray) (r : Int) (w : World) (hr0_0 : Kd.C Kd.string w A0_0 l0_0.length l0_0) (hc0_0 : l0_0.length ≤ c0_0) (hr0_1 : Kd.C k41 w A0_1 l0_1.length l0_1) (hc0_1 : l0_1.length ≤ c0_1) (h : q22.f k l0_0 l0_1 a1 = some r) :
 Calls Try.prog 46 #[.agg #[.slice A0_0 l0_0.length c0_0, .slice A0_1 l0_1.length c0_1], .string a1] w fun e w' => e = .returned (.int .i64 r) ∧ Below w.heap.size w w' := by
 have hu25 := Try.underlying25
 have HR0_0 := q56.mk hr0_0
 have HC0_0 := q56.mk hc0_0
 clear hr0_0 hc0_0
 have HR0_1 := q56.mk hr0_1
 have HC0_1 := q56.mk hc0_1
 clear hr0_1 hc0_1
 have HB := q56.mk (Below.refl w.heap.size w)
 have H : (q22.l0 k a1 0 l0_0 l0_1) = some r := h
 clear h
 have H' := q56.mk H
 clear H
 go_enter Try.func46, Try.ntmps46
 go_wp2_with (first | ((with_reducible refine q71 (N := 2) rfl ?_); refine bx_ 2 #[.slice A0_0 l0_0.length c0_0, .slice A0_1 l0_1.length c0_1] 25 ?_; intro gb105 hg w3 hbox hb; have BK105 := q56.mk (hbox); have GW105 := zz_ (w := w) hg; have GE105 := zz_ (w := w) hg; replace HB := hb_ HB hb;  clear hb hbox hg))
 go_loopg [5] k (fun kq v5 w' => ∃ (x5_1 : Int), v5 = .int .i64 x5_1 ∧ q56 (q22.l0 kq a1 x5_1 l0_0 l0_1 = some r) ∧ q56 (kq ≤ k) ∧ q56 (w'.heap[gb105]? = some (.cells #[(.slice A0_0 l0_0.length c0_0), (.slice A0_1 l0_1.length c0_1)] 25 (0, 0))) ∧ q56 (Below w.heap.size w w'))
 case atStart => exact ⟨(0), rf_, H', ⟨Nat.le_refl _⟩, ⟨gx_ BK105⟩, ⟨hf_⟩⟩
 case round =>
 clear H'
 try clear p2
 obtain ⟨x5_1, rfl, HA, HK1, BK105, HB⟩ := hrel
 cases gk with
 | zero => exact absurd HA.out (by simp [q22.l0])
 | succ k1 =>
 have H := HA.out
 clear HA
 simp only [q22.l0] at H
 by_cases c4 : x5_1 < (l0_1.length : Int)
 rotate_left
 ·rw [if_neg c4] at H
  replace c4 := decide_eq_false c4
  obtain rfl := Option.some.inj H
  obtain ⟨hcz9_0, hcz9_1, hfz9_0, hfz9_1⟩ := bs2_ BK105
  go_wp2
  go_ret
  exact ⟨er_, hf_⟩
 rw [if_pos c4] at H
 replace c4 := decide_eq_true c4
 by_cases c5 : 0 ≤ x5_1
 rotate_left
 ·rw [if_neg c5] at H
  exact absurd H (by simp)
 rw [if_pos c5] at H
 replace c5 := decide_eq_true c5
 by_cases c6 : ((q81 l0_1 x5_1).f0).toList = a1.toList
 ·rw [if_pos c6] at H
  have c6b0 : (((q81 l0_1 x5_1).f0).toList == a1.toList) = true := beq_iff_eq.mpr c6
  have c6b1 : (((q81 l0_1 x5_1).f0).toList != a1.toList) = false := bne_eq_false_iff_eq.mpr c6
  clear c6
  obtain rfl := Option.some.inj H
  obtain ⟨hcz7_0, hcz7_1, hfz7_0, hfz7_1⟩ := bs2_ BK105
  obtain ⟨ad106, A106_5, c106_5, A106_6, c106_6, e106, hx106_0, hx106_1, hx106_2, hx106_3, hx106_4, hx106_5, hx106_6, HC106_5, HR106_5, HC106_6, HR106_6, p106, q106⟩ := au_T41 HR0_1 HB (x5_1)
  cases e106
  go_wp2
  go_ret
  exact ⟨er_, hf_⟩
 rw [if_neg c6] at H
 have c6b0 : (((q81 l0_1 x5_1).f0).toList == a1.toList) = false := beq_eq_false_iff_ne.mpr c6
 have c6b1 : (((q81 l0_1 x5_1).f0).toList != a1.toList) = true := bne_iff_ne.mpr c6
 have H' := q56.mk H
 clear H
 obtain ⟨hcz8_0, hcz8_1, hfz8_0, hfz8_1⟩ := bs2_ BK105
 obtain ⟨ad106, A106_5, c106_5, A106_6, c106_6, e106, hx106_0, hx106_1, hx106_2, hx106_3, hx106_4, hx106_5, hx106_6, HC106_5, HR106_5, HC106_6, HR106_6, p106, q106⟩ := au_T41 HR0_1 HB (x5_1)
 cases e106
 go_wp2
 go_roundg k1
 case measure => have := HK1.out; omega
 case rel => exact ⟨(wrap64 (x5_1 + 1)), rf_, H', ⟨by have := HK1.out; omega⟩, ⟨gx_ BK105⟩, ⟨hf_⟩⟩
def q23.l0 : Nat → Int → Int → List ByteArray → List (S41) → Option (Int)
 | 0, _, _, _, _ => none
 | k + 1, x1, x5, x112000, x112001 => if x1 > 0 then (if x5 ≤ (x112001.length : Int) then (if 0 ≤ x1 then (if x1 < (x112001.length : Int) then ((q22.f k x112000 x112001 ((q81 x112001 x1).f2)).bind fun t113 => (q23.l0 k t113 (wrap64 (x5 + 1)) x112000 x112001)) else (none)) else (none)) else (if x1 < 0 then (some (-1)) else (if x5 > (x112001.length : Int) then (some (-1)) else (some x5)))) else (if x1 < 0 then (some (-1)) else (if x5 > (x112001.length : Int) then (some (-1)) else (some x5)))
def q23.f (k : Nat) (l0_0 : List ByteArray) (l0_1 : List (S41)) (a1 : Int) : Option (Int) := q23.l0 k a1 0 l0_0 l0_1
theorem q23.mono_l : ∀ k, (∀ y0 y1 y2 y3, LeO (q23.l0 k y0 y1 y2 y3) (q23.l0 (k + 1) y0 y1 y2 y3))
 | 0 => fun _ _ _ _ r h => by simp [q23.l0] at h
 | k + 1 => by
  have ih0 := q23.mono_l k
  ·intro y0 y1 y2 y3
   unfold q23.l0
   repeat' first
   | (with_reducible exact ih0 _ _ _ _)
   | (with_reducible exact q22.mono _ _ _ _)
   | (with_reducible exact LeO.refl _)
   | (with_reducible exact LeO.none _)
   | (with_reducible refine LeO.ite ?_ ?_)
   | (with_reducible refine LeO.bind ?_ (fun _ => ?_))
   | exact ih0 _ _ _ _
   | exact q22.mono _ _ _ _
   | exact LeO.none _
   | refine LeO.ite ?_ ?_
   | refine LeO.bind ?_ (fun _ => ?_)
theorem q23.mono : ∀ a0 a1 a2 k, LeO (q23.f k a0 a1 a2) (q23.f (k + 1) a0 a1 a2) := by
 intro a0 a1 a2 k
 have ih0 := q23.mono_l k
 unfold q23.f
 repeat' first
  | (with_reducible exact ih0 _ _ _ _)
  | (with_reducible exact q22.mono _ _ _ _)
  | (with_reducible exact LeO.refl _)
  | (with_reducible exact LeO.none _)
  | (with_reducible refine LeO.ite ?_ ?_)
  | (with_reducible refine LeO.bind ?_ (fun _ => ?_))
  | exact ih0 _ _ _ _
  | exact q22.mono _ _ _ _
  | exact LeO.none _
  | refine LeO.ite ?_ ?_
  | refine LeO.bind ?_ (fun _ => ?_)
def q23.T3 : Bool × List (List Nat × List Nat) := (true, [([], []), ([], []), ([1], [1]), ([], []), ([2, 3], [2, 3]), ([4], [4]), ([5], [5]), ([0, 6], [0, 6]), ([7, 7, 0, 1, 2, 3, 4, 5, 6, 7], [3, 7])])
def q23.B3 : List Nat := [0, 0, 2, 0, 14, 30, 62, 127, 255]
theorem q23.tab3 : rtab .any (opsOf Try.f53 3) = q23.T3 := by kernel_rfl
theorem q23.bits3 : waitsOk q23.T3.2 q23.B3 = true := by kernel_rfl
set_option maxHeartbeats 8000000 in
set_option maxRecDepth 100000 in
theorem q23.calls (k : Nat) (A0_0 : Option Addr) (c0_0 : Nat) (l0_0 : List ByteArray) (A0_1 : Option Addr) (c0_1 : Nat) (l0_1 : List (S41)) (a1 : Int) (r : Int) (w : World) (hr0_0 : Kd.C Kd.string w A0_0 l0_0.length l0_0) (hc0_0 : l0_0.length ≤ c0_0) (hr0_1 : Kd.C k41 w A0_1 l0_1.length l0_1) (hc0_1 : l0_1.length ≤ c0_1) (h : q23.f k l0_0 l0_1 a1 = some r) :
 Calls Try.prog 53 #[.agg #[.slice A0_0 l0_0.length c0_0, .slice A0_1 l0_1.length c0_1], .int .i64 a1] w fun e w' => e = .returned (.int .i64 r) ∧ Below w.heap.size w w' := by
 have hu25 := Try.underlying25
 have HR0_0 := q56.mk hr0_0
 have HC0_0 := q56.mk hc0_0
 clear hr0_0 hc0_0
 have HR0_1 := q56.mk hr0_1
 have HC0_1 := q56.mk hc0_1
 clear hr0_1 hc0_1
 have HB := q56.mk (Below.refl w.heap.size w)
 have H : (q23.l0 k a1 0 l0_0 l0_1) = some r := h
 clear h
 have H' := q56.mk H
 clear H
 go_enter Try.func53, Try.ntmps53
 go_wp2_with (first | ((with_reducible refine q71 (N := 2) rfl ?_); (try (refine gate_guard (by rfl) ?_; dsimp only)); refine bx_ 2 #[.slice A0_0 l0_0.length c0_0, .slice A0_1 l0_1.length c0_1] 25 ?_; intro gb111 hg w3 hbox hb; have BK111 := q56.mk (hbox); have GW111 := zz_ (w := w) hg; have GE111 := zz_ (w := w) hg; replace HB := hb_ HB hb;  clear hb hbox hg))
 go_loopg [1, 5] k (fun kq v1 v5 w' => ∃ (x1_1 : Int) (x5_1 : Int), v1 = .int .i64 x1_1 ∧ v5 = .int .i64 x5_1 ∧ q56 (q23.l0 kq x1_1 x5_1 l0_0 l0_1 = some r) ∧ q56 (kq ≤ k) ∧ q56 (w'.heap[gb111]? = some (.cells #[(.slice A0_0 l0_0.length c0_0), (.slice A0_1 l0_1.length c0_1)] 25 (0, 0))) ∧ q56 (Below w.heap.size w w'))
 case atStart => exact ⟨(a1), (0), rf_, rf_, H', ⟨Nat.le_refl _⟩, ⟨gx_ BK111⟩, ⟨hf_⟩⟩
 case round =>
 clear H'
 try clear p2
 obtain ⟨x1_1, x5_1, rfl, rfl, HA, HK1, BK111, HB⟩ := hrel
 cases gk with
 | zero => exact absurd HA.out (by simp [q23.l0])
 | succ k1 =>
 have H := HA.out
 clear HA
 simp only [q23.l0] at H
 by_cases c4 : x1_1 > 0
 rotate_left
 ·rw [if_neg c4] at H
  replace c4 := decide_eq_false c4
  by_cases c17 : x1_1 < 0
  ·rw [if_pos c17] at H
   replace c17 := decide_eq_true c17
   obtain rfl := Option.some.inj H
   go_wp2
   go_ret
   exact ⟨er_, hf_⟩
  rw [if_neg c17] at H
  replace c17 := decide_eq_false c17
  by_cases c18 : x5_1 > (l0_1.length : Int)
  ·rw [if_pos c18] at H
   replace c18 := decide_eq_true c18
   obtain rfl := Option.some.inj H
   obtain ⟨hcz19_0, hcz19_1, hfz19_0, hfz19_1⟩ := bs2_ BK111
   go_wp2
   go_ret
   exact ⟨er_, hf_⟩
  rw [if_neg c18] at H
  replace c18 := decide_eq_false c18
  obtain rfl := Option.some.inj H
  obtain ⟨hcz20_0, hcz20_1, hfz20_0, hfz20_1⟩ := bs2_ BK111
  go_wp2
  go_ret
  exact ⟨er_, hf_⟩
 rw [if_pos c4] at H
 replace c4 := decide_eq_true c4
 by_cases c5 : x5_1 ≤ (l0_1.length : Int)
 rotate_left
 ·rw [if_neg c5] at H
  replace c5 := decide_eq_false c5
  by_cases c12 : x1_1 < 0
  ·rw [if_pos c12] at H
   replace c12 := decide_eq_true c12
   obtain rfl := Option.some.inj H
   obtain ⟨hcz13_0, hcz13_1, hfz13_0, hfz13_1⟩ := bs2_ BK111
   go_wp2
   go_ret
   exact ⟨er_, hf_⟩
  rw [if_neg c12] at H
  replace c12 := decide_eq_false c12
  by_cases c14 : x5_1 > (l0_1.length : Int)
  ·rw [if_pos c14] at H
   replace c14 := decide_eq_true c14
   obtain rfl := Option.some.inj H
   obtain ⟨hcz15_0, hcz15_1, hfz15_0, hfz15_1⟩ := bs2_ BK111
   go_wp2
   go_ret
   exact ⟨er_, hf_⟩
  rw [if_neg c14] at H
  replace c14 := decide_eq_false c14
  obtain rfl := Option.some.inj H
  obtain ⟨hcz16_0, hcz16_1, hfz16_0, hfz16_1⟩ := bs2_ BK111
  go_wp2
  go_ret
  exact ⟨er_, hf_⟩
 rw [if_pos c5] at H
 replace c5 := decide_eq_true c5
 by_cases c6 : 0 ≤ x1_1
 rotate_left
 ·rw [if_neg c6] at H
  exact absurd H (by simp)
 rw [if_pos c6] at H
 replace c6 := decide_eq_true c6
 by_cases c7 : x1_1 < (l0_1.length : Int)
 rotate_left
 ·rw [if_neg c7] at H
  exact absurd H (by simp)
 rw [if_pos c7] at H
 replace c7 := decide_eq_true c7
 replace H := bd_ H
 obtain ⟨t113, A8, H⟩ := H
 have H' := q56.mk H
 clear H
 obtain ⟨hcz9_0, hcz9_1, hfz9_0, hfz9_1⟩ := bs2_ BK111
 try go_wp2
 replace BK111 := q56.mk (q64 BK111.out)
 replace HB := q56.mk (q58 HB.out)
 have p112 : 0 ≤ (x1_1 : Int) := od_
 have q112 : x1_1 < (l0_1.length : Int) := od_
 obtain ⟨ad112, A112_5, c112_5, A112_6, c112_6, e112, hx112_0, hx112_1, hx112_2, hx112_3, hx112_4, hx112_5, hx112_6, hl112_5, hi112_5, hl112_6, hi112_6⟩ := at_T41 HR0_1.out x1_1 p112 q112
 have hw112_6 := hx112_6
 have hw112_5 := hx112_5
 have hw112_4 := hx112_4
 have hw112_3 := hx112_3
 have hw112_2 := hx112_2
 have hw112_1 := hx112_1
 have hw112_0 := hx112_0
 cases e112
 replace hx112_0 := rr_ HB hx112_0
 replace hx112_1 := rr_ HB hx112_1
 replace hx112_2 := rr_ HB hx112_2
 replace hx112_3 := rr_ HB hx112_3
 replace hx112_4 := rr_ HB hx112_4
 replace hx112_5 := rr_ HB hx112_5
 replace hx112_6 := rr_ HB hx112_6
 have HR112_5 := q56.mk hi112_5
 have HC112_5 := q56.mk hl112_5
 clear hi112_5 hl112_5
 have HR112_6 := q56.mk hi112_6
 have HC112_6 := q56.mk hl112_6
 clear hi112_6 hl112_6
 replace p112 := eq_true p112
 replace q112 := eq_true q112
 refine start_ (n := 9) (S := fun w' => w'.cell? ⟨gb111, 0, none⟩ = some (.slice A0_0 l0_0.length c0_0) ∧ w'.cell? ⟨gb111, 1, none⟩ = some (.slice (some ad112) l0_1.length c0_1) ∧ w'.cell? (ad112.add ((x1_1).toNat * 7)) = some (.string ((q81 l0_1 x1_1).f0)) ∧ w'.cell? ⟨(ad112.add ((x1_1).toNat * 7)).block, (ad112.add ((x1_1).toNat * 7)).off + 1, none⟩ = some (.int .i64 ((q81 l0_1 x1_1).f1)) ∧ w'.cell? ⟨(ad112.add ((x1_1).toNat * 7)).block, (ad112.add ((x1_1).toNat * 7)).off + 2, none⟩ = some (.string ((q81 l0_1 x1_1).f2)) ∧ w'.cell? ⟨(ad112.add ((x1_1).toNat * 7)).block, (ad112.add ((x1_1).toNat * 7)).off + 3, none⟩ = some (.bool ((q81 l0_1 x1_1).f3)) ∧ w'.cell? ⟨(ad112.add ((x1_1).toNat * 7)).block, (ad112.add ((x1_1).toNat * 7)).off + 4, none⟩ = some (.int .i64 ((q81 l0_1 x1_1).f4)) ∧ w'.cell? ⟨(ad112.add ((x1_1).toNat * 7)).block, (ad112.add ((x1_1).toNat * 7)).off + 5, none⟩ = some (.slice A112_5 ((q81 l0_1 x1_1).f5).length c112_5) ∧ w'.cell? ⟨(ad112.add ((x1_1).toNat * 7)).block, (ad112.add ((x1_1).toNat * 7)).off + 6, none⟩ = some (.slice A112_6 ((q81 l0_1 x1_1).f6).length c112_6)) (ds := []) (bits_ 9 0) (by kernel_rfl) rfl rfl ⟨(bk0_ BK111 :), (bk1_ BK111 :), (rr_ HB hw112_0 :), (rr_ HB hw112_1 :), (rr_ HB hw112_2 :), (rr_ HB hw112_3 :), (rr_ HB hw112_4 :), (rr_ HB hw112_5 :), (rr_ HB hw112_6 :)⟩ (fun hHeld => ?_); refine with_tabW q23.tab3 q23.bits3 (fun HT_ HW_ => ?_)
 generalize wr.drew = w10 at BK111 HB HR112_5 HR112_6 hx112_0 hx112_1 hx112_2 hx112_3 hx112_4 hx112_5 hx112_6 hHeld ⊢
 refine pz_ 1 (some 16) (bits_ 9 2) HT_.out ?_
 refine pz_ 3 (some 18) (bits_ 9 10) HT_.out ?_
 refine tz_ 0 (some 15) (bits_ 9 11) HT_.out HW_.out hHeld ?_ (hy := by rintro w' ⟨s0, s1, s2, s3, s4, s5, s6, s7, s8⟩; go_simp; with_reducible rfl)
 refine tz_ 2 (some 17) (bits_ 9 15) HT_.out HW_.out hHeld ?_ (hy := by rintro w' ⟨s0, s1, s2, s3, s4, s5, s6, s7, s8⟩; go_simp; with_reducible rfl)
 refine pz_ 4 (some 19) (bits_ 9 31) HT_.out ?_
 refine pz_ 5 (some 20) (bits_ 9 63) HT_.out ?_
 refine tz_ 6 (some 21) (bits_ 9 127) HT_.out HW_.out hHeld ?_ (hy := by rintro w' ⟨s0, s1, s2, s3, s4, s5, s6, s7, s8⟩; go_simp; with_reducible rfl)
 refine oz_ 7 (some 22) (bits_ 9 255) HT_.out (fun K hK => ?_)
 refine go_s_ Try.func46 #[.agg #[.slice A0_0 l0_0.length c0_0, .slice (some ad112) l0_1.length c0_1], .string ((q81 l0_1 x1_1).f2)] ?_
 with_reducible refine (q22.calls k1 _ _ l0_0 _ _ l0_1 ((q81 l0_1 x1_1).f2) t113 _ ?side1 ?side2 ?side3 ?side4 A8.out).mono ?_
 (case side1 => exact kc_ HR0_0 HB)
 (case side2 => exact HC0_0.out)
 (case side3 => exact kc_ HR0_1 HB)
 (case side4 => exact HC0_1.out)
 rintro e w11 ⟨rfl, hb⟩
 refine ⟨_, rfl, ?_⟩
 replace BK111 := bb_ BK111 hb
 replace HB := hb_ HB hb
 clear hb
 refine hK.out _ _ ⟨(bk0_ BK111 :), (bk1_ BK111 :), (rr_ HB hw112_0 :), (rr_ HB hw112_1 :), (rr_ HB hw112_2 :), (rr_ HB hw112_3 :), (rr_ HB hw112_4 :), (rr_ HB hw112_5 :), (rr_ HB hw112_6 :)⟩ (fun hHeld => ?_)
 clear hK K
 refine nz_ (some 22) ?_
 refine pz_ 8 (some 1) (bits_ 9 511) HT_.out ?_
 refine done_ (done_of HT_.out (by kernel_rfl)) ?_
 try go_wp2
 go_roundg k1
 case measure => have := HK1.out; omega
 case rel => exact ⟨(t113), (wrap64 (x5_1 + 1)), rf_, rf_, H', ⟨by have := HK1.out; omega⟩, ⟨gx_ BK111⟩, ⟨hf_⟩⟩
mutual
def q19.l0 : Nat → Int → ByteArray → Int → List ByteArray → List (S41) → Option (Bool)
 | 0, _, _, _, _, _ => none
 | k + 1, x1, x2, x7, x108000, x108001 => if x1 ≥ 0 then (q19.j1 k x1 x2 x7 (decide (x7 ≤ (x108001.length : Int))) x108000 x108001) else (q19.j1 k x1 x2 x7 false x108000 x108001)
def q19.j1 : Nat → Int → ByteArray → Int → Bool → List ByteArray → List (S41) → Option (Bool)
 | 0, _, _, _, _, _, _ => none
 | k + 1, x1, x2, x7, x16, x108000, x108001 => if x16 = true then (if 0 ≤ x1 then (if x1 < (x108001.length : Int) then (if ((q81 x108001 x1).f0).toList = x2.toList then (some true) else ((q22.f k x108000 x108001 ((q81 x108001 x1).f2)).bind fun t110 => (q19.l0 k t110 x2 (wrap64 (x7 + 1)) x108000 x108001))) else (none)) else (none)) else (some false)
end
def q19.f (k : Nat) (l0_0 : List ByteArray) (l0_1 : List (S41)) (a1 : Int) (a2 : ByteArray) : Option (Bool) := q19.l0 k a1 a2 0 l0_0 l0_1
theorem q19.mono_l : ∀ k, (∀ y0 y1 y2 y3 y4, LeO (q19.l0 k y0 y1 y2 y3 y4) (q19.l0 (k + 1) y0 y1 y2 y3 y4)) ∧ (∀ y0 y1 y2 y3 y4 y5, LeO (q19.j1 k y0 y1 y2 y3 y4 y5) (q19.j1 (k + 1) y0 y1 y2 y3 y4 y5))
 | 0 => ⟨fun _ _ _ _ _ r h => by simp [q19.l0] at h, fun _ _ _ _ _ _ r h => by simp [q19.j1] at h⟩
 | k + 1 => by
  obtain ⟨ih0, ih1⟩ := q19.mono_l k
  refine ⟨?_, ?_⟩
  intro y0 y1 y2 y3 y4
  unfold q19.l0
  rotate_left
  intro y0 y1 y2 y3 y4 y5
  unfold q19.j1
  rotate_left
  all_goals repeat' first
   | (with_reducible exact ih0 _ _ _ _ _)
   | (with_reducible exact ih1 _ _ _ _ _ _)
   | (with_reducible exact q22.mono _ _ _ _)
   | (with_reducible exact LeO.refl _)
   | (with_reducible exact LeO.none _)
   | (with_reducible refine LeO.ite ?_ ?_)
   | (with_reducible refine LeO.bind ?_ (fun _ => ?_))
   | exact ih0 _ _ _ _ _
   | exact ih1 _ _ _ _ _ _
   | exact q22.mono _ _ _ _
   | exact LeO.none _
   | refine LeO.ite ?_ ?_
   | refine LeO.bind ?_ (fun _ => ?_)
theorem q19.mono : ∀ a0 a1 a2 a3 k, LeO (q19.f k a0 a1 a2 a3) (q19.f (k + 1) a0 a1 a2 a3) := by
 intro a0 a1 a2 a3 k
 obtain ⟨ih0, ih1⟩ := q19.mono_l k
 unfold q19.f
 repeat' first
  | (with_reducible exact ih0 _ _ _ _ _)
  | (with_reducible exact ih1 _ _ _ _ _ _)
  | (with_reducible exact q22.mono _ _ _ _)
  | (with_reducible exact LeO.refl _)
  | (with_reducible exact LeO.none _)
  | (with_reducible refine LeO.ite ?_ ?_)
  | (with_reducible refine LeO.bind ?_ (fun _ => ?_))
  | exact ih0 _ _ _ _ _
  | exact ih1 _ _ _ _ _ _
  | exact q22.mono _ _ _ _
  | exact LeO.none _
  | refine LeO.ite ?_ ?_
  | refine LeO.bind ?_ (fun _ => ?_)
def q19.T6 : Bool × List (List Nat × List Nat) := (true, [([], []), ([], []), ([1], [1]), ([], []), ([2, 3], [2, 3]), ([4], [4]), ([5], [5]), ([0, 6], [0, 6]), ([7, 7, 0, 1, 2, 3, 4, 5, 6, 7], [3, 7])])
def q19.B6 : List Nat := [0, 0, 2, 0, 14, 30, 62, 127, 255]
theorem q19.tab6 : rtab .any (opsOf Try.f52 6) = q19.T6 := by kernel_rfl
theorem q19.bits6 : waitsOk q19.T6.2 q19.B6 = true := by kernel_rfl
set_option maxHeartbeats 8000000 in
set_option maxRecDepth 100000 in
theorem q19.calls (k : Nat) (A0_0 : Option Addr) (c0_0 : Nat) (l0_0 : List ByteArray) (A0_1 : Option Addr) (c0_1 : Nat) (l0_1 : List (S41)) (a1 : Int) (a2 : ByteArray) (r : Bool) (w : World) (hr0_0 : Kd.C Kd.string w A0_0 l0_0.length l0_0) (hc0_0 : l0_0.length ≤ c0_0) (hr0_1 : Kd.C k41 w A0_1 l0_1.length l0_1) (hc0_1 : l0_1.length ≤ c0_1) (h : q19.f k l0_0 l0_1 a1 a2 = some r) :
 Calls Try.prog 52 #[.agg #[.slice A0_0 l0_0.length c0_0, .slice A0_1 l0_1.length c0_1], .int .i64 a1, .string a2] w fun e w' => e = .returned (.bool r) ∧ Below w.heap.size w w' := by
 have hu25 := Try.underlying25
 have HR0_0 := q56.mk hr0_0
 have HC0_0 := q56.mk hc0_0
 clear hr0_0 hc0_0
 have HR0_1 := q56.mk hr0_1
 have HC0_1 := q56.mk hc0_1
 clear hr0_1 hc0_1
 have HB := q56.mk (Below.refl w.heap.size w)
 have H : (q19.l0 k a1 a2 0 l0_0 l0_1) = some r := h
 clear h
 have H' := q56.mk H
 clear H
 go_enter Try.func52, Try.ntmps52
 go_wp2_with (first | ((with_reducible refine q71 (N := 3) rfl ?_); (try (refine gate_guard (by rfl) ?_; dsimp only)); refine bx_ 3 #[.slice A0_0 l0_0.length c0_0, .slice A0_1 l0_1.length c0_1] 25 ?_; intro gb107 hg w4 hbox hb; have BK107 := q56.mk (hbox); have GW107 := zz_ (w := w) hg; have GE107 := zz_ (w := w) hg; replace HB := hb_ HB hb;  clear hb hbox hg))
 go_loopg [1, 7] k (fun kq v1 v7 w' => ∃ (x1_1 : Int) (x7_1 : Int), v1 = .int .i64 x1_1 ∧ v7 = .int .i64 x7_1 ∧ q56 (q19.l0 kq x1_1 a2 x7_1 l0_0 l0_1 = some r) ∧ q56 (kq ≤ k) ∧ q56 (w'.heap[gb107]? = some (.cells #[(.slice A0_0 l0_0.length c0_0), (.slice A0_1 l0_1.length c0_1)] 25 (0, 0))) ∧ q56 (Below w.heap.size w w'))
 case atStart => exact ⟨(a1), (0), rf_, rf_, H', ⟨Nat.le_refl _⟩, ⟨gx_ BK107⟩, ⟨hf_⟩⟩
 case round =>
 clear H'
 try clear p2
 obtain ⟨x1_1, x7_1, rfl, rfl, HA, HK1, BK107, HB⟩ := hrel
 cases gk with
 | zero => exact absurd HA.out (by simp [q19.l0])
 | succ k1 =>
 have H := HA.out
 clear HA
 simp only [q19.l0] at H
 have HC5 := q56.mk H
 clear H
 go_upto_region 2 with (fail)
 go_cut [16] (fun v16 wc => ∃ (kq : Nat) (x16_4 : Bool), v16 = .bool x16_4 ∧ q56 (q19.j1 kq x1_1 a2 x7_1 x16_4 l0_0 l0_1 = some r) ∧ q56 (kq ≤ k1) ∧ q56 (wc.heap[gb107]? = some (.cells #[(.slice A0_0 l0_0.length c0_0), (.slice A0_1 l0_1.length c0_1)] 25 (0, 0))) ∧ q56 (Below w.heap.size w wc))
 case first =>
  have H := HC5.out
  clear HC5
  by_cases c6 : x1_1 ≥ 0
  ·rw [if_pos c6] at H
   have c6b0 := decide_eq_true c6
   clear c6
   (first | rw [c6b0] | (simp only [i64_w, i32_w]; rw [c6b0]) | skip)
   have H' := q56.mk H
   clear H
   obtain ⟨hcz7_0, hcz7_1, hfz7_0, hfz7_1⟩ := bs2_ BK107
   go_wp2
   go_meet
   case rel => exact ⟨_, (decide (x7_1 ≤ (l0_1.length : Int))), rf_, H', ⟨by have := HK1.out; first | omega | exact Nat.le_refl _⟩, ⟨gx_ BK107⟩, ⟨hf_⟩⟩
  rw [if_neg c6] at H
  have c6b0 := decide_eq_false c6
  clear c6
  (first | rw [c6b0] | (simp only [i64_w, i32_w]; rw [c6b0]) | skip)
  have H' := q56.mk H
  clear H
  go_wp2
  go_meet
  case rel => exact ⟨_, (false), rf_, H', ⟨by have := HK1.out; first | omega | exact Nat.le_refl _⟩, ⟨gx_ BK107⟩, ⟨hf_⟩⟩
 case rest =>
 clear HC5
 obtain ⟨kq, x16_4, rfl, HA, HJ4, BK107, HB⟩ := hcut
 cases kq with
 | zero => exact absurd HA.out (by simp [q19.j1])
 | succ kj4 =>
 have H := HA.out
 clear HA
 simp only [q19.j1] at H
 by_cases c8 : x16_4 = true
 rotate_left
 ·replace c8 := Bool.eq_false_iff.mpr c8
  subst c8
  replace H := ie_ H
  obtain rfl := Option.some.inj H
  go_wp2
  go_ret
  exact ⟨er_, hf_⟩
 subst c8
 replace H := it_ H
 by_cases c9 : 0 ≤ x1_1
 rotate_left
 ·rw [if_neg c9] at H
  exact absurd H (by simp)
 rw [if_pos c9] at H
 replace c9 := decide_eq_true c9
 by_cases c10 : x1_1 < (l0_1.length : Int)
 rotate_left
 ·rw [if_neg c10] at H
  exact absurd H (by simp)
 rw [if_pos c10] at H
 replace c10 := decide_eq_true c10
 by_cases c11 : ((q81 l0_1 x1_1).f0).toList = a2.toList
 ·rw [if_pos c11] at H
  have c11b0 : (((q81 l0_1 x1_1).f0).toList == a2.toList) = true := beq_iff_eq.mpr c11
  have c11b1 : (((q81 l0_1 x1_1).f0).toList != a2.toList) = false := bne_eq_false_iff_eq.mpr c11
  clear c11
  obtain rfl := Option.some.inj H
  obtain ⟨hcz12_0, hcz12_1, hfz12_0, hfz12_1⟩ := bs2_ BK107
  obtain ⟨ad108, A108_5, c108_5, A108_6, c108_6, e108, hx108_0, hx108_1, hx108_2, hx108_3, hx108_4, hx108_5, hx108_6, HC108_5, HR108_5, HC108_6, HR108_6, p108, q108⟩ := au_T41 HR0_1 HB (x1_1)
  cases e108
  go_wp2
  go_ret
  exact ⟨er_, hf_⟩
 rw [if_neg c11] at H
 have c11b0 : (((q81 l0_1 x1_1).f0).toList == a2.toList) = false := beq_eq_false_iff_ne.mpr c11
 have c11b1 : (((q81 l0_1 x1_1).f0).toList != a2.toList) = true := bne_iff_ne.mpr c11
 replace H := bd_ H
 obtain ⟨t110, A13, H⟩ := H
 have H' := q56.mk H
 clear H
 obtain ⟨hcz14_0, hcz14_1, hfz14_0, hfz14_1⟩ := bs2_ BK107
 obtain ⟨ad108, A108_5, c108_5, A108_6, c108_6, e108, hx108_0, hx108_1, hx108_2, hx108_3, hx108_4, hx108_5, hx108_6, HC108_5, HR108_5, HC108_6, HR108_6, p108, q108⟩ := au_T41 HR0_1 HB (x1_1)
 cases e108
 try go_wp2
 replace BK107 := q56.mk (q64 BK107.out)
 replace HB := q56.mk (q58 HB.out)
 have p109 : 0 ≤ (x1_1 : Int) := od_
 have q109 : x1_1 < (l0_1.length : Int) := od_
 obtain ⟨ad109, A109_5, c109_5, A109_6, c109_6, e109, hx109_0, hx109_1, hx109_2, hx109_3, hx109_4, hx109_5, hx109_6, hl109_5, hi109_5, hl109_6, hi109_6⟩ := at_T41 HR0_1.out x1_1 p109 q109
 have hw109_6 := hx109_6
 have hw109_5 := hx109_5
 have hw109_4 := hx109_4
 have hw109_3 := hx109_3
 have hw109_2 := hx109_2
 have hw109_1 := hx109_1
 have hw109_0 := hx109_0
 obtain rfl : ad108 = ad109 := (by injection e109)
 replace hx109_0 := rr_ HB hx109_0
 replace hx109_1 := rr_ HB hx109_1
 replace hx109_2 := rr_ HB hx109_2
 replace hx109_3 := rr_ HB hx109_3
 replace hx109_4 := rr_ HB hx109_4
 replace hx109_5 := rr_ HB hx109_5
 replace hx109_6 := rr_ HB hx109_6
 have HR109_5 := q56.mk hi109_5
 have HC109_5 := q56.mk hl109_5
 clear hi109_5 hl109_5
 have HR109_6 := q56.mk hi109_6
 have HC109_6 := q56.mk hl109_6
 clear hi109_6 hl109_6
 replace p109 := eq_true p109
 replace q109 := eq_true q109
 refine start_ (n := 9) (S := fun w' => w'.cell? ⟨gb107, 0, none⟩ = some (.slice A0_0 l0_0.length c0_0) ∧ w'.cell? ⟨gb107, 1, none⟩ = some (.slice (some ad108) l0_1.length c0_1) ∧ w'.cell? (ad108.add ((x1_1).toNat * 7)) = some (.string ((q81 l0_1 x1_1).f0)) ∧ w'.cell? ⟨(ad108.add ((x1_1).toNat * 7)).block, (ad108.add ((x1_1).toNat * 7)).off + 1, none⟩ = some (.int .i64 ((q81 l0_1 x1_1).f1)) ∧ w'.cell? ⟨(ad108.add ((x1_1).toNat * 7)).block, (ad108.add ((x1_1).toNat * 7)).off + 2, none⟩ = some (.string ((q81 l0_1 x1_1).f2)) ∧ w'.cell? ⟨(ad108.add ((x1_1).toNat * 7)).block, (ad108.add ((x1_1).toNat * 7)).off + 3, none⟩ = some (.bool ((q81 l0_1 x1_1).f3)) ∧ w'.cell? ⟨(ad108.add ((x1_1).toNat * 7)).block, (ad108.add ((x1_1).toNat * 7)).off + 4, none⟩ = some (.int .i64 ((q81 l0_1 x1_1).f4)) ∧ w'.cell? ⟨(ad108.add ((x1_1).toNat * 7)).block, (ad108.add ((x1_1).toNat * 7)).off + 5, none⟩ = some (.slice A109_5 ((q81 l0_1 x1_1).f5).length c109_5) ∧ w'.cell? ⟨(ad108.add ((x1_1).toNat * 7)).block, (ad108.add ((x1_1).toNat * 7)).off + 6, none⟩ = some (.slice A109_6 ((q81 l0_1 x1_1).f6).length c109_6)) (ds := []) (bits_ 9 0) (by kernel_rfl) rfl rfl ⟨(bk0_ BK107 :), (bk1_ BK107 :), (rr_ HB hw109_0 :), (rr_ HB hw109_1 :), (rr_ HB hw109_2 :), (rr_ HB hw109_3 :), (rr_ HB hw109_4 :), (rr_ HB hw109_5 :), (rr_ HB hw109_6 :)⟩ (fun hHeld => ?_); refine with_tabW q19.tab6 q19.bits6 (fun HT_ HW_ => ?_)
 generalize wc.drew = w15 at BK107 HB HR109_5 HR109_6 hx109_0 hx109_1 hx109_2 hx109_3 hx109_4 hx109_5 hx109_6 hHeld ⊢
 refine pz_ 1 (some 28) (bits_ 9 2) HT_.out ?_
 refine pz_ 3 (some 30) (bits_ 9 10) HT_.out ?_
 refine tz_ 0 (some 27) (bits_ 9 11) HT_.out HW_.out hHeld ?_ (hy := by rintro w' ⟨s0, s1, s2, s3, s4, s5, s6, s7, s8⟩; go_simp; with_reducible rfl)
 refine tz_ 2 (some 29) (bits_ 9 15) HT_.out HW_.out hHeld ?_ (hy := by rintro w' ⟨s0, s1, s2, s3, s4, s5, s6, s7, s8⟩; go_simp; with_reducible rfl)
 refine pz_ 4 (some 31) (bits_ 9 31) HT_.out ?_
 refine pz_ 5 (some 32) (bits_ 9 63) HT_.out ?_
 refine tz_ 6 (some 33) (bits_ 9 127) HT_.out HW_.out hHeld ?_ (hy := by rintro w' ⟨s0, s1, s2, s3, s4, s5, s6, s7, s8⟩; go_simp; with_reducible rfl)
 refine oz_ 7 (some 34) (bits_ 9 255) HT_.out (fun K hK => ?_)
 refine go_s_ Try.func46 #[.agg #[.slice A0_0 l0_0.length c0_0, .slice (some ad108) l0_1.length c0_1], .string ((q81 l0_1 x1_1).f2)] ?_
 with_reducible refine (q22.calls kj4 _ _ l0_0 _ _ l0_1 ((q81 l0_1 x1_1).f2) t110 _ ?side1 ?side2 ?side3 ?side4 A13.out).mono ?_
 (case side1 => exact kc_ HR0_0 HB)
 (case side2 => exact HC0_0.out)
 (case side3 => exact kc_ HR0_1 HB)
 (case side4 => exact HC0_1.out)
 rintro e w16 ⟨rfl, hb⟩
 refine ⟨_, rfl, ?_⟩
 replace BK107 := bb_ BK107 hb
 replace HB := hb_ HB hb
 clear hb
 refine hK.out _ _ ⟨(bk0_ BK107 :), (bk1_ BK107 :), (rr_ HB hw109_0 :), (rr_ HB hw109_1 :), (rr_ HB hw109_2 :), (rr_ HB hw109_3 :), (rr_ HB hw109_4 :), (rr_ HB hw109_5 :), (rr_ HB hw109_6 :)⟩ (fun hHeld => ?_)
 clear hK K
 refine nz_ (some 34) ?_
 refine pz_ 8 (some 1) (bits_ 9 511) HT_.out ?_
 refine done_ (done_of HT_.out (by kernel_rfl)) ?_
 try go_wp2
 go_roundg kj4
 case measure => have := HK1.out; have := HJ4.out; omega
 case rel => exact ⟨(t110), (wrap64 (x7_1 + 1)), rf_, rf_, H', ⟨by have := HK1.out; have := HJ4.out; omega⟩, ⟨gx_ BK107⟩, ⟨hf_⟩⟩
mutual
def q28.j0 : Nat → Int → Bool → List ByteArray → List (S41) → ByteArray → Int → ByteArray → Bool → Int → List (S45) → List (S45) → Option (Bool)
 | 0, _, _, _, _, _, _, _, _, _, _, _ => none
 | k + 1, x1, x34, x115000, x115001, x117000, x117001, x117002, x117003, x117004, x117005, x117006 => if x34 = true then (some false) else (if x117001 = 5 then (if x117004 ≥ 1 then (q28.j1 k x1 (decide (x117004 ≤ 100)) x115000 x115001 x117000 x117001 x117002 x117003 x117004 x117005 x117006) else (q28.j1 k x1 false x115000 x115001 x117000 x117001 x117002 x117003 x117004 x117005 x117006)) else (q28.j1 k x1 (x117004 == 0) x115000 x115001 x117000 x117001 x117002 x117003 x117004 x117005 x117006))
def q28.j1 : Nat → Int → Bool → List ByteArray → List (S41) → ByteArray → Int → ByteArray → Bool → Int → List (S45) → List (S45) → Option (Bool)
 | 0, _, _, _, _, _, _, _, _, _, _, _ => none
 | k + 1, x1, x6, x115000, x115001, x117000, x117001, x117002, x117003, x117004, x117005, x117006 => if x6 = true then (if x117001 ≥ 4 then (if x117003 = true then (q28.j2 k x1 true x115000 x115001 x117000 x117001 x117002 x117003 x117004 x117005 x117006) else (q28.j2 k x1 (decide ((x117005.length : Int) > 0)) x115000 x115001 x117000 x117001 x117002 x117003 x117004 x117005 x117006)) else (q28.j2 k x1 false x115000 x115001 x117000 x117001 x117002 x117003 x117004 x117005 x117006)) else (q28.j2 k x1 true x115000 x115001 x117000 x117001 x117002 x117003 x117004 x117005 x117006)
def q28.j2 : Nat → Int → Bool → List ByteArray → List (S41) → ByteArray → Int → ByteArray → Bool → Int → List (S45) → List (S45) → Option (Bool)
 | 0, _, _, _, _, _, _, _, _, _, _, _ => none
 | k + 1, x1, x65, x115000, x115001, x117000, x117001, x117002, x117003, x117004, x117005, x117006 => if x65 = true then (some false) else (if x1 = 0 then (if x117001 = 1 then (if x117002.toList = ([] : List UInt8) then (if x117003 = true then (some false) else (if (x117005.length : Int) = 0 then (some ((x117006.length : Int) == 0)) else (some false))) else (some false)) else (some false)) else ((q22.f k x115000 x115001 x117002).bind fun t119 => (if x117002.toList = ([] : List UInt8) then (some false) else (if t119 ≥ 0 then (if t119 < x1 then (if 0 ≤ t119 then (if t119 < (x115001.length : Int) then (if ((q81 x115001 t119).f1) = 1 then ((q19.f k x115000 x115001 (wrap64 (x1 - 1)) x117002).bind fun t121 => (if t121 = true then ((q23.f k x115000 x115001 x1).bind fun t122 => (if t122 ≥ 1 then ((q23.f k x115000 x115001 x1).bind fun t123 => (some (decide (t123 ≤ 5)))) else (some false))) else (some false))) else (some false)) else (none)) else (none)) else (some false)) else (some false)))))
end
def q28.f (k : Nat) (l0_0 : List ByteArray) (l0_1 : List (S41)) (a1 : Int) : Option (Bool) := if 0 ≤ a1 then (if a1 < (l0_1.length : Int) then ((q34.f k ((q81 l0_1 a1).f0)).bind fun t117 => (if t117 = true then ((q22.f k l0_0 l0_1 ((q81 l0_1 a1).f0)).bind fun t118 => (if t118 = a1 then (if ((q81 l0_1 a1).f1) < 1 then (q28.j0 k a1 true l0_0 l0_1 ((q81 l0_1 a1).f0) ((q81 l0_1 a1).f1) ((q81 l0_1 a1).f2) ((q81 l0_1 a1).f3) ((q81 l0_1 a1).f4) ((q81 l0_1 a1).f5) ((q81 l0_1 a1).f6)) else (q28.j0 k a1 (decide (((q81 l0_1 a1).f1) > 5)) l0_0 l0_1 ((q81 l0_1 a1).f0) ((q81 l0_1 a1).f1) ((q81 l0_1 a1).f2) ((q81 l0_1 a1).f3) ((q81 l0_1 a1).f4) ((q81 l0_1 a1).f5) ((q81 l0_1 a1).f6))) else (q28.j0 k a1 true l0_0 l0_1 ((q81 l0_1 a1).f0) ((q81 l0_1 a1).f1) ((q81 l0_1 a1).f2) ((q81 l0_1 a1).f3) ((q81 l0_1 a1).f4) ((q81 l0_1 a1).f5) ((q81 l0_1 a1).f6)))) else (q28.j0 k a1 true l0_0 l0_1 ((q81 l0_1 a1).f0) ((q81 l0_1 a1).f1) ((q81 l0_1 a1).f2) ((q81 l0_1 a1).f3) ((q81 l0_1 a1).f4) ((q81 l0_1 a1).f5) ((q81 l0_1 a1).f6)))) else (none)) else (none)
theorem q28.mono_l : ∀ k, (∀ y0 y1 y2 y3 y4 y5 y6 y7 y8 y9 y10, LeO (q28.j0 k y0 y1 y2 y3 y4 y5 y6 y7 y8 y9 y10) (q28.j0 (k + 1) y0 y1 y2 y3 y4 y5 y6 y7 y8 y9 y10)) ∧ (∀ y0 y1 y2 y3 y4 y5 y6 y7 y8 y9 y10, LeO (q28.j1 k y0 y1 y2 y3 y4 y5 y6 y7 y8 y9 y10) (q28.j1 (k + 1) y0 y1 y2 y3 y4 y5 y6 y7 y8 y9 y10)) ∧ (∀ y0 y1 y2 y3 y4 y5 y6 y7 y8 y9 y10, LeO (q28.j2 k y0 y1 y2 y3 y4 y5 y6 y7 y8 y9 y10) (q28.j2 (k + 1) y0 y1 y2 y3 y4 y5 y6 y7 y8 y9 y10))
 | 0 => ⟨fun _ _ _ _ _ _ _ _ _ _ _ r h => by simp [q28.j0] at h, fun _ _ _ _ _ _ _ _ _ _ _ r h => by simp [q28.j1] at h, fun _ _ _ _ _ _ _ _ _ _ _ r h => by simp [q28.j2] at h⟩
 | k + 1 => by
  obtain ⟨ih0, ih1, ih2⟩ := q28.mono_l k
  refine ⟨?_, ?_, ?_⟩
  intro y0 y1 y2 y3 y4 y5 y6 y7 y8 y9 y10
  unfold q28.j0
  rotate_left
  intro y0 y1 y2 y3 y4 y5 y6 y7 y8 y9 y10
  unfold q28.j1
  rotate_left
  intro y0 y1 y2 y3 y4 y5 y6 y7 y8 y9 y10
  unfold q28.j2
  rotate_left
  all_goals repeat' first
   | (with_reducible exact ih0 _ _ _ _ _ _ _ _ _ _ _)
   | (with_reducible exact ih1 _ _ _ _ _ _ _ _ _ _ _)
   | (with_reducible exact ih2 _ _ _ _ _ _ _ _ _ _ _)
   | (with_reducible exact q34.mono _ _)
   | (with_reducible exact q23.mono _ _ _ _)
   | (with_reducible exact q22.mono _ _ _ _)
   | (with_reducible exact q19.mono _ _ _ _ _)
   | (with_reducible exact LeO.refl _)
   | (with_reducible exact LeO.none _)
   | (with_reducible refine LeO.ite ?_ ?_)
   | (with_reducible refine LeO.bind ?_ (fun _ => ?_))
   | exact ih0 _ _ _ _ _ _ _ _ _ _ _
   | exact ih1 _ _ _ _ _ _ _ _ _ _ _
   | exact ih2 _ _ _ _ _ _ _ _ _ _ _
   | exact q34.mono _ _
   | exact q23.mono _ _ _ _
   | exact q22.mono _ _ _ _
   | exact q19.mono _ _ _ _ _
   | exact LeO.none _
   | refine LeO.ite ?_ ?_
   | refine LeO.bind ?_ (fun _ => ?_)
theorem q28.mono : ∀ a0 a1 a2 k, LeO (q28.f k a0 a1 a2) (q28.f (k + 1) a0 a1 a2) := by
 intro a0 a1 a2 k
 obtain ⟨ih0, ih1, ih2⟩ := q28.mono_l k
 unfold q28.f
 repeat' first
  | (with_reducible exact ih0 _ _ _ _ _ _ _ _ _ _ _)
  | (with_reducible exact ih1 _ _ _ _ _ _ _ _ _ _ _)
  | (with_reducible exact ih2 _ _ _ _ _ _ _ _ _ _ _)
  | (with_reducible exact q34.mono _ _)
  | (with_reducible exact q23.mono _ _ _ _)
  | (with_reducible exact q22.mono _ _ _ _)
  | (with_reducible exact q19.mono _ _ _ _ _)
  | (with_reducible exact LeO.refl _)
  | (with_reducible exact LeO.none _)
  | (with_reducible refine LeO.ite ?_ ?_)
  | (with_reducible refine LeO.bind ?_ (fun _ => ?_))
  | exact ih0 _ _ _ _ _ _ _ _ _ _ _
  | exact ih1 _ _ _ _ _ _ _ _ _ _ _
  | exact ih2 _ _ _ _ _ _ _ _ _ _ _
  | exact q34.mono _ _
  | exact q23.mono _ _ _ _
  | exact q22.mono _ _ _ _
  | exact q19.mono _ _ _ _ _
  | exact LeO.none _
  | refine LeO.ite ?_ ?_
  | refine LeO.bind ?_ (fun _ => ?_)
set_option maxHeartbeats 8000000 in
set_option maxRecDepth 100000 in
theorem q28.calls (k : Nat) (A0_0 : Option Addr) (c0_0 : Nat) (l0_0 : List ByteArray) (A0_1 : Option Addr) (c0_1 : Nat) (l0_1 : List (S41)) (a1 : Int) (r : Bool) (w : World) (hr0_0 : Kd.C Kd.string w A0_0 l0_0.length l0_0) (hc0_0 : l0_0.length ≤ c0_0) (hr0_1 : Kd.C k41 w A0_1 l0_1.length l0_1) (hc0_1 : l0_1.length ≤ c0_1) (h : q28.f k l0_0 l0_1 a1 = some r) :
 Calls Try.prog 19 #[.agg #[.slice A0_0 l0_0.length c0_0, .slice A0_1 l0_1.length c0_1], .int .i64 a1] w fun e w' => e = .returned (.bool r) ∧ Below w.heap.size w w' := by
 have hu25 := Try.underlying25
 have hu41 := Try.underlying41
 have HR0_0 := q56.mk hr0_0
 have HC0_0 := q56.mk hc0_0
 clear hr0_0 hc0_0
 have HR0_1 := q56.mk hr0_1
 have HC0_1 := q56.mk hc0_1
 clear hr0_1 hc0_1
 have HB := q56.mk (Below.refl w.heap.size w)
 unfold q28.f at h
 have H := h
 clear h
 by_cases c3 : 0 ≤ a1
 rotate_left
 ·rw [if_neg c3] at H
  exact absurd H (by simp)
 rw [if_pos c3] at H
 have c3b0 := decide_eq_true c3
 clear c3
 by_cases c4 : a1 < (l0_1.length : Int)
 rotate_left
 ·rw [if_neg c4] at H
  exact absurd H (by simp)
 rw [if_pos c4] at H
 have c4b0 := decide_eq_true c4
 clear c4
 have HC5 := q56.mk H
 clear H
 go_enter Try.func19, Try.ntmps19
 go_upto_region 2 with (first | ((with_reducible refine q71 (N := 2) rfl ?_); (try (refine gate_guard (by rfl) ?_; dsimp only)); refine bx_ 2 #[.slice A0_0 l0_0.length c0_0, .slice A0_1 l0_1.length c0_1] 25 ?_; intro gb114 hg w6 hbox hb; have BK114 := q56.mk (hbox); have GW114 := zz_ (w := w) hg; have GE114 := zz_ (w := w) hg; replace HB := hb_ HB hb;  clear hb hbox hg; obtain ⟨hcz7_0, hcz7_1, hfz7_0, hfz7_1⟩ := bs2_ BK114; have p115 : 0 ≤ (a1 : Int) := od_; have q115 : a1 < (l0_1.length : Int) := od_; obtain ⟨ad115, A115_5, c115_5, A115_6, c115_6, e115, hx115_0, hx115_1, hx115_2, hx115_3, hx115_4, hx115_5, hx115_6, hl115_5, hi115_5, hl115_6, hi115_6⟩ := at_T41 HR0_1.out a1 p115 q115; cases e115; replace hx115_0 := rr_ HB hx115_0; replace hx115_1 := rr_ HB hx115_1; replace hx115_2 := rr_ HB hx115_2; replace hx115_3 := rr_ HB hx115_3; replace hx115_4 := rr_ HB hx115_4; replace hx115_5 := rr_ HB hx115_5; replace hx115_6 := rr_ HB hx115_6; have HR115_5 := q56.mk hi115_5; have HC115_5 := q56.mk hl115_5; clear hi115_5 hl115_5; have HR115_6 := q56.mk hi115_6; have HC115_6 := q56.mk hl115_6; clear hi115_6 hl115_6; replace p115 := eq_true p115; replace q115 := eq_true q115) | ((with_reducible refine q71 (N := 5) rfl ?_); (try (refine gate_guard (by rfl) ?_; dsimp only)); refine bx_ 5 #[.string (⟨#[]⟩ : ByteArray), .int .i64 0, .string (⟨#[]⟩ : ByteArray), .bool false, .int .i64 0, .slice none 0 0, .slice none 0 0] 41 ?_; intro gb116 hg w8 hbox hb; have BK116 := q56.mk (hbox); have GW116 := zz_ (w := w) hg; have GE116 := zz_ (w := w) hg; replace HB := hb_ HB hb; have NB114_116 := ne1_ hg BK114; have NB116_114 := ne2_ hg BK114; replace BK114 := bb_ BK114 hb;  clear hb hbox hg; have hnb9 := NB116_114.out; have hnc9 := NB114_116.out; obtain ⟨hcz10_0, hcz10_1, hcz10_2, hcz10_3, hcz10_4, hcz10_5, hcz10_6, hfz10_0, hfz10_1, hfz10_2, hfz10_3, hfz10_4, hfz10_5, hfz10_6⟩ := bs7_ BK116))
 (try simp only [Act.put, List.setIfInBounds_toArray, List.set_cons_zero, List.set_cons_succ])
 go_cut [34] (fun v34 wc => ∃ (kq : Nat) (x34_4 : Bool), v34 = .bool x34_4 ∧ q56 (q28.j0 kq a1 x34_4 l0_0 l0_1 ((q81 l0_1 a1).f0) ((q81 l0_1 a1).f1) ((q81 l0_1 a1).f2) ((q81 l0_1 a1).f3) ((q81 l0_1 a1).f4) ((q81 l0_1 a1).f5) ((q81 l0_1 a1).f6) = some r) ∧ q56 (kq ≤ k) ∧ q56 (wc.heap[gb114]? = some (.cells #[(.slice A0_0 l0_0.length c0_0), (.slice (some ad115) l0_1.length c0_1)] 25 (0, 0))) ∧ q56 (wc.heap[gb116]? = some (.cells #[.string ((q81 l0_1 a1).f0), .int .i64 ((q81 l0_1 a1).f1), .string ((q81 l0_1 a1).f2), .bool ((q81 l0_1 a1).f3), .int .i64 ((q81 l0_1 a1).f4), (.slice A115_5 ((q81 l0_1 a1).f5).length c115_5), (.slice A115_6 ((q81 l0_1 a1).f6).length c115_6)] 41 (0, 0))) ∧ q56 (Below w.heap.size w wc))
 case first =>
  have H := HC5.out
  clear HC5
  replace H := bd_ H
  obtain ⟨t117, A11, H⟩ := H
  by_cases c12 : t117 = true
  rotate_left
  ·replace c12 := Bool.eq_false_iff.mpr c12
   subst c12
   replace H := ie_ H
   have H' := q56.mk H
   clear H
   have hnb30 := NB116_114.out
   have hnc30 := NB114_116.out
   obtain ⟨hcz31_0, hcz31_1, hcz31_2, hcz31_3, hcz31_4, hcz31_5, hcz31_6, hfz31_0, hfz31_1, hfz31_2, hfz31_3, hfz31_4, hfz31_5, hfz31_6⟩ := bs7_ BK116
   go_wp2_with (first | ((with_reducible refine q70 (f := 17) rfl ?_); refine gl_ (some 15) Try.func17 #[.string ((q81 l0_1 a1).f0)] ?_; (with_reducible refine (q34.calls k ((q81 l0_1 a1).f0) false _ A11.out).mono ?_); rintro e w' ⟨rfl, ⟨nd, rfl⟩⟩; refine ⟨_, rfl, ?_⟩))
   go_meet
   case rel => exact ⟨_, (true), rf_, H', ⟨by first | omega | exact Nat.le_refl _⟩, ⟨by (with_reducible repeat (first | refine q65 ?_ _ | refine q64 ?_ | refine q61 ?_ _ | refine q66 ?_ NB114_116.out _)); exact BK114.out⟩, ⟨by (with_reducible repeat (first | refine q65 ?_ _ | refine q64 ?_ | refine q61 ?_ _)); apply put7_; (with_reducible repeat (first | refine q65 ?_ _ | refine q64 ?_ | refine q61 ?_ _)); exact BK116.out⟩, ⟨hf_⟩⟩
  subst c12
  replace H := it_ H
  replace H := bd_ H
  obtain ⟨t118, A13, H⟩ := H
  by_cases c14 : t118 = a1
  rotate_left
  ·rw [if_neg c14] at H
   have c14b0 : (t118 == a1) = false := beq_eq_false_iff_ne.mpr c14
   have c14b1 : (t118 != a1) = true := bne_iff_ne.mpr c14
   (first | rw [c14b0] | (simp only [i64_w, i32_w]; rw [c14b0]) | skip)
   have H' := q56.mk H
   clear H
   have hnb26 := NB116_114.out
   have hnc26 := NB114_116.out
   obtain ⟨hcz27_0, hcz27_1, hcz27_2, hcz27_3, hcz27_4, hcz27_5, hcz27_6, hfz27_0, hfz27_1, hfz27_2, hfz27_3, hfz27_4, hfz27_5, hfz27_6⟩ := bs7_ BK116
   go_wp2_with (first | ((with_reducible refine q70 (f := 17) rfl ?_); refine gl_ (some 15) Try.func17 #[.string ((q81 l0_1 a1).f0)] ?_; (with_reducible refine (q34.calls k ((q81 l0_1 a1).f0) true _ A11.out).mono ?_); rintro e w' ⟨rfl, ⟨nd, rfl⟩⟩; refine ⟨_, rfl, ?_⟩; obtain ⟨hcz28_0, hcz28_1, hfz28_0, hfz28_1⟩ := bs2_ BK114) | (go_at_call 46; (with_reducible refine (q22.calls k _ _ l0_0 _ _ l0_1 ((q81 l0_1 a1).f0) t118 _ ?side1 ?side2 ?side3 ?side4 A13.out).mono ?_); (case side1 => exact Kd.C_below HR0_0.out hf_); (case side2 => exact HC0_0.out); (case side3 => exact Kd.C_below HR0_1.out hf_); (case side4 => exact HC0_1.out); rintro e w29 ⟨rfl, hb⟩; replace BK114 := q56.mk (q62 (g := gb114) (o := .cells #[.slice A0_0 l0_0.length c0_0, .slice (some ad115) l0_1.length c0_1] 25 (0, 0)) (by (with_reducible repeat (first | refine q65 ?_ _ | refine q64 ?_ | refine q61 ?_ _ | refine q66 ?_ NB114_116.out _)); exact BK114.out) hb); replace BK116 := q56.mk (q62 (g := gb116) (o := .cells #[.string ((q81 l0_1 a1).f0), .int .i64 ((q81 l0_1 a1).f1), .string ((q81 l0_1 a1).f2), .bool ((q81 l0_1 a1).f3), .int .i64 ((q81 l0_1 a1).f4), .slice A115_5 ((q81 l0_1 a1).f5).length c115_5, .slice A115_6 ((q81 l0_1 a1).f6).length c115_6] 41 (0, 0)) (by (with_reducible repeat (first | refine q65 ?_ _ | refine q64 ?_ | refine q61 ?_ _)); apply put7_; (with_reducible repeat (first | refine q65 ?_ _ | refine q64 ?_ | refine q61 ?_ _)); exact BK116.out) hb); replace HB := hb_ HB hb;  (try clear hb)))
   go_meet
   case rel => exact ⟨_, (true), rf_, H', ⟨by first | omega | exact Nat.le_refl _⟩, ⟨gx_ BK114⟩, ⟨gx_ BK116⟩, ⟨hf_⟩⟩
  rw [if_pos c14] at H
  have c14b0 : (t118 == a1) = true := beq_iff_eq.mpr c14
  have c14b1 : (t118 != a1) = false := bne_eq_false_iff_eq.mpr c14
  clear c14
  (first | rw [c14b0] | (simp only [i64_w, i32_w]; rw [c14b0]) | skip)
  by_cases c15 : ((q81 l0_1 a1).f1) < 1
  ·rw [if_pos c15] at H
   replace c15 := decide_eq_true c15
   have H' := q56.mk H
   clear H
   have hnb16 := NB116_114.out
   have hnc16 := NB114_116.out
   obtain ⟨hcz17_0, hcz17_1, hcz17_2, hcz17_3, hcz17_4, hcz17_5, hcz17_6, hfz17_0, hfz17_1, hfz17_2, hfz17_3, hfz17_4, hfz17_5, hfz17_6⟩ := bs7_ BK116
   go_wp2_with (first | ((with_reducible refine q70 (f := 17) rfl ?_); refine gl_ (some 15) Try.func17 #[.string ((q81 l0_1 a1).f0)] ?_; (with_reducible refine (q34.calls k ((q81 l0_1 a1).f0) true _ A11.out).mono ?_); rintro e w' ⟨rfl, ⟨nd, rfl⟩⟩; refine ⟨_, rfl, ?_⟩; obtain ⟨hcz18_0, hcz18_1, hfz18_0, hfz18_1⟩ := bs2_ BK114) | (go_at_call 46; (with_reducible refine (q22.calls k _ _ l0_0 _ _ l0_1 ((q81 l0_1 a1).f0) t118 _ ?side1 ?side2 ?side3 ?side4 A13.out).mono ?_); (case side1 => exact Kd.C_below HR0_0.out hf_); (case side2 => exact HC0_0.out); (case side3 => exact Kd.C_below HR0_1.out hf_); (case side4 => exact HC0_1.out); rintro e w19 ⟨rfl, hb⟩; replace BK114 := q56.mk (q62 (g := gb114) (o := .cells #[.slice A0_0 l0_0.length c0_0, .slice (some ad115) l0_1.length c0_1] 25 (0, 0)) (by (with_reducible repeat (first | refine q65 ?_ _ | refine q64 ?_ | refine q61 ?_ _ | refine q66 ?_ NB114_116.out _)); exact BK114.out) hb); replace BK116 := q56.mk (q62 (g := gb116) (o := .cells #[.string ((q81 l0_1 a1).f0), .int .i64 ((q81 l0_1 a1).f1), .string ((q81 l0_1 a1).f2), .bool ((q81 l0_1 a1).f3), .int .i64 ((q81 l0_1 a1).f4), .slice A115_5 ((q81 l0_1 a1).f5).length c115_5, .slice A115_6 ((q81 l0_1 a1).f6).length c115_6] 41 (0, 0)) (by (with_reducible repeat (first | refine q65 ?_ _ | refine q64 ?_ | refine q61 ?_ _)); apply put7_; (with_reducible repeat (first | refine q65 ?_ _ | refine q64 ?_ | refine q61 ?_ _)); exact BK116.out) hb); replace HB := hb_ HB hb;  (try clear hb); obtain ⟨hcz20_0, hcz20_1, hcz20_2, hcz20_3, hcz20_4, hcz20_5, hcz20_6, hfz20_0, hfz20_1, hfz20_2, hfz20_3, hfz20_4, hfz20_5, hfz20_6⟩ := bs7_ BK116))
   go_meet
   case rel => exact ⟨_, (true), rf_, H', ⟨by first | omega | exact Nat.le_refl _⟩, ⟨gx_ BK114⟩, ⟨gx_ BK116⟩, ⟨hf_⟩⟩
  rw [if_neg c15] at H
  replace c15 := decide_eq_false c15
  have H' := q56.mk H
  clear H
  have hnb21 := NB116_114.out
  have hnc21 := NB114_116.out
  obtain ⟨hcz22_0, hcz22_1, hcz22_2, hcz22_3, hcz22_4, hcz22_5, hcz22_6, hfz22_0, hfz22_1, hfz22_2, hfz22_3, hfz22_4, hfz22_5, hfz22_6⟩ := bs7_ BK116
  go_wp2_with (first | ((with_reducible refine q70 (f := 17) rfl ?_); refine gl_ (some 15) Try.func17 #[.string ((q81 l0_1 a1).f0)] ?_; (with_reducible refine (q34.calls k ((q81 l0_1 a1).f0) true _ A11.out).mono ?_); rintro e w' ⟨rfl, ⟨nd, rfl⟩⟩; refine ⟨_, rfl, ?_⟩; obtain ⟨hcz23_0, hcz23_1, hfz23_0, hfz23_1⟩ := bs2_ BK114) | (go_at_call 46; (with_reducible refine (q22.calls k _ _ l0_0 _ _ l0_1 ((q81 l0_1 a1).f0) t118 _ ?side1 ?side2 ?side3 ?side4 A13.out).mono ?_); (case side1 => exact Kd.C_below HR0_0.out hf_); (case side2 => exact HC0_0.out); (case side3 => exact Kd.C_below HR0_1.out hf_); (case side4 => exact HC0_1.out); rintro e w24 ⟨rfl, hb⟩; replace BK114 := q56.mk (q62 (g := gb114) (o := .cells #[.slice A0_0 l0_0.length c0_0, .slice (some ad115) l0_1.length c0_1] 25 (0, 0)) (by (with_reducible repeat (first | refine q65 ?_ _ | refine q64 ?_ | refine q61 ?_ _ | refine q66 ?_ NB114_116.out _)); exact BK114.out) hb); replace BK116 := q56.mk (q62 (g := gb116) (o := .cells #[.string ((q81 l0_1 a1).f0), .int .i64 ((q81 l0_1 a1).f1), .string ((q81 l0_1 a1).f2), .bool ((q81 l0_1 a1).f3), .int .i64 ((q81 l0_1 a1).f4), .slice A115_5 ((q81 l0_1 a1).f5).length c115_5, .slice A115_6 ((q81 l0_1 a1).f6).length c115_6] 41 (0, 0)) (by (with_reducible repeat (first | refine q65 ?_ _ | refine q64 ?_ | refine q61 ?_ _)); apply put7_; (with_reducible repeat (first | refine q65 ?_ _ | refine q64 ?_ | refine q61 ?_ _)); exact BK116.out) hb); replace HB := hb_ HB hb;  (try clear hb); obtain ⟨hcz25_0, hcz25_1, hcz25_2, hcz25_3, hcz25_4, hcz25_5, hcz25_6, hfz25_0, hfz25_1, hfz25_2, hfz25_3, hfz25_4, hfz25_5, hfz25_6⟩ := bs7_ BK116))
  go_meet
  case rel => exact ⟨_, (decide (((q81 l0_1 a1).f1) > 5)), rf_, H', ⟨by first | omega | exact Nat.le_refl _⟩, ⟨gx_ BK114⟩, ⟨gx_ BK116⟩, ⟨hf_⟩⟩
 case rest =>
 clear HC5
 clear c3b0 c4b0; (try clear hcz10_0); (try clear hcz10_1); (try clear hcz10_2); (try clear hcz10_3); (try clear hcz10_4); (try clear hcz10_5); (try clear hcz10_6); (try clear hcz7_0); (try clear hcz7_1); (try clear hfz10_0); (try clear hfz10_1); (try clear hfz10_2); (try clear hfz10_3); (try clear hfz10_4); (try clear hfz10_5); (try clear hfz10_6); (try clear hfz7_0); (try clear hfz7_1); (try clear hx115_0); (try clear hx115_1); (try clear hx115_2); (try clear hx115_3); (try clear hx115_4); (try clear hx115_5); (try clear hx115_6); (try clear p115); (try clear q115)
 obtain ⟨kq, x34_4, rfl, HA, HJ4, BK114, BK116, HB⟩ := hcut
 cases kq with
 | zero => exact absurd HA.out (by simp [q28.j0])
 | succ kj4 =>
 have H := HA.out
 clear HA
 simp only [q28.j0] at H
 by_cases c32 : x34_4 = true
 ·subst c32
  replace H := it_ H
  obtain rfl := Option.some.inj H
  go_wp2
  go_ret
  exact ⟨er_, hf_⟩
 replace c32 := Bool.eq_false_iff.mpr c32
 subst c32
 replace H := ie_ H
 have HC33 := q56.mk H
 clear H
 have hnb34 := NB116_114.out
 have hnc34 := NB114_116.out
 obtain ⟨hcz35_0, hcz35_1, hcz35_2, hcz35_3, hcz35_4, hcz35_5, hcz35_6, hfz35_0, hfz35_1, hfz35_2, hfz35_3, hfz35_4, hfz35_5, hfz35_6⟩ := bs7_ BK116
 go_upto_if 40 with (fail)
 go_cut [6] (fun v6 wc => ∃ (kq : Nat) (x6_32 : Bool), v6 = .bool x6_32 ∧ q56 (q28.j1 kq a1 x6_32 l0_0 l0_1 ((q81 l0_1 a1).f0) ((q81 l0_1 a1).f1) ((q81 l0_1 a1).f2) ((q81 l0_1 a1).f3) ((q81 l0_1 a1).f4) ((q81 l0_1 a1).f5) ((q81 l0_1 a1).f6) = some r) ∧ q56 (kq ≤ kj4) ∧ q56 (wc.heap[gb114]? = some (.cells #[(.slice A0_0 l0_0.length c0_0), (.slice (some ad115) l0_1.length c0_1)] 25 (0, 0))) ∧ q56 (wc.heap[gb116]? = some (.cells #[.string ((q81 l0_1 a1).f0), .int .i64 ((q81 l0_1 a1).f1), .string ((q81 l0_1 a1).f2), .bool ((q81 l0_1 a1).f3), .int .i64 ((q81 l0_1 a1).f4), (.slice A115_5 ((q81 l0_1 a1).f5).length c115_5), (.slice A115_6 ((q81 l0_1 a1).f6).length c115_6)] 41 (0, 0))) ∧ q56 (Below w.heap.size w wc))
 case first =>
  have H := HC33.out
  clear HC33
  by_cases c36 : ((q81 l0_1 a1).f1) = 5
  rotate_left
  ·rw [if_neg c36] at H
   have c36b0 : (((q81 l0_1 a1).f1) == 5) = false := beq_eq_false_iff_ne.mpr c36
   have c36b1 : (((q81 l0_1 a1).f1) != 5) = true := bne_iff_ne.mpr c36
   (first | rw [c36b0] | (simp only [i64_w, i32_w]; rw [c36b0]) | skip)
   have H' := q56.mk H
   clear H
   go_wp2
   go_meet
   case rel => exact ⟨_, ((((q81 l0_1 a1).f4) == 0)), rf_, H', ⟨by have := HJ4.out; first | omega | exact Nat.le_refl _⟩, ⟨gx_ BK114⟩, ⟨gx_ BK116⟩, ⟨hf_⟩⟩
  rw [if_pos c36] at H
  have c36b0 : (((q81 l0_1 a1).f1) == 5) = true := beq_iff_eq.mpr c36
  have c36b1 : (((q81 l0_1 a1).f1) != 5) = false := bne_eq_false_iff_eq.mpr c36
  clear c36
  (first | rw [c36b0] | (simp only [i64_w, i32_w]; rw [c36b0]) | skip)
  by_cases c37 : ((q81 l0_1 a1).f4) ≥ 1
  ·rw [if_pos c37] at H
   replace c37 := decide_eq_true c37
   have H' := q56.mk H
   clear H
   have hnb38 := NB116_114.out
   have hnc38 := NB114_116.out
   obtain ⟨hcz39_0, hcz39_1, hcz39_2, hcz39_3, hcz39_4, hcz39_5, hcz39_6, hfz39_0, hfz39_1, hfz39_2, hfz39_3, hfz39_4, hfz39_5, hfz39_6⟩ := bs7_ BK116
   go_wp2
   go_meet
   case rel => exact ⟨_, (decide (((q81 l0_1 a1).f4) ≤ 100)), rf_, H', ⟨by have := HJ4.out; first | omega | exact Nat.le_refl _⟩, ⟨gx_ BK114⟩, ⟨gx_ BK116⟩, ⟨hf_⟩⟩
  rw [if_neg c37] at H
  replace c37 := decide_eq_false c37
  have H' := q56.mk H
  clear H
  have hnb40 := NB116_114.out
  have hnc40 := NB114_116.out
  obtain ⟨hcz41_0, hcz41_1, hcz41_2, hcz41_3, hcz41_4, hcz41_5, hcz41_6, hfz41_0, hfz41_1, hfz41_2, hfz41_3, hfz41_4, hfz41_5, hfz41_6⟩ := bs7_ BK116
  go_wp2
  go_meet
  case rel => exact ⟨_, (false), rf_, H', ⟨by have := HJ4.out; first | omega | exact Nat.le_refl _⟩, ⟨gx_ BK114⟩, ⟨gx_ BK116⟩, ⟨hf_⟩⟩
 case rest =>
 clear HC33
 clear hcz35_0 hcz35_1 hcz35_2 hcz35_3 hcz35_4 hcz35_5 hcz35_6 hfz35_0 hfz35_1 hfz35_2 hfz35_3 hfz35_4 hfz35_5 hfz35_6
 obtain ⟨kq, x6_32, rfl, HA, HJ32, BK114, BK116, HB⟩ := hcut
 cases kq with
 | zero => exact absurd HA.out (by simp [q28.j1])
 | succ kj32 =>
 have H := HA.out
 clear HA
 simp only [q28.j1] at H
 have HC42 := q56.mk H
 clear H
 go_upto_region 7 with (fail)
 go_cut [65] (fun v65 wc => ∃ (kq : Nat) (x65_41 : Bool), v65 = .bool x65_41 ∧ q56 (q28.j2 kq a1 x65_41 l0_0 l0_1 ((q81 l0_1 a1).f0) ((q81 l0_1 a1).f1) ((q81 l0_1 a1).f2) ((q81 l0_1 a1).f3) ((q81 l0_1 a1).f4) ((q81 l0_1 a1).f5) ((q81 l0_1 a1).f6) = some r) ∧ q56 (kq ≤ kj32) ∧ q56 (wc.heap[gb114]? = some (.cells #[(.slice A0_0 l0_0.length c0_0), (.slice (some ad115) l0_1.length c0_1)] 25 (0, 0))) ∧ q56 (wc.heap[gb116]? = some (.cells #[.string ((q81 l0_1 a1).f0), .int .i64 ((q81 l0_1 a1).f1), .string ((q81 l0_1 a1).f2), .bool ((q81 l0_1 a1).f3), .int .i64 ((q81 l0_1 a1).f4), (.slice A115_5 ((q81 l0_1 a1).f5).length c115_5), (.slice A115_6 ((q81 l0_1 a1).f6).length c115_6)] 41 (0, 0))) ∧ q56 (Below w.heap.size w wc))
 case first =>
  have H := HC42.out
  clear HC42
  by_cases c43 : x6_32 = true
  rotate_left
  ·replace c43 := Bool.eq_false_iff.mpr c43
   subst c43
   replace H := ie_ H
   have H' := q56.mk H
   clear H
   go_wp2
   go_meet
   case rel => exact ⟨_, (true), rf_, H', ⟨by have := HJ4.out; have := HJ32.out; first | omega | exact Nat.le_refl _⟩, ⟨gx_ BK114⟩, ⟨gx_ BK116⟩, ⟨hf_⟩⟩
  subst c43
  replace H := it_ H
  by_cases c44 : ((q81 l0_1 a1).f1) ≥ 4
  rotate_left
  ·rw [if_neg c44] at H
   have c44b0 := decide_eq_false c44
   clear c44
   (first | rw [c44b0] | (simp only [i64_w, i32_w]; rw [c44b0]) | skip)
   have H' := q56.mk H
   clear H
   have hnb50 := NB116_114.out
   have hnc50 := NB114_116.out
   obtain ⟨hcz51_0, hcz51_1, hcz51_2, hcz51_3, hcz51_4, hcz51_5, hcz51_6, hfz51_0, hfz51_1, hfz51_2, hfz51_3, hfz51_4, hfz51_5, hfz51_6⟩ := bs7_ BK116
   go_wp2
   go_meet
   case rel => exact ⟨_, (false), rf_, H', ⟨by have := HJ4.out; have := HJ32.out; first | omega | exact Nat.le_refl _⟩, ⟨gx_ BK114⟩, ⟨gx_ BK116⟩, ⟨hf_⟩⟩
  rw [if_pos c44] at H
  have c44b0 := decide_eq_true c44
  clear c44
  (first | rw [c44b0] | (simp only [i64_w, i32_w]; rw [c44b0]) | skip)
  by_cases c45 : ((q81 l0_1 a1).f3) = true
  ·rw [if_pos c45] at H
   have c45b0 : ((q81 l0_1 a1).f3) = true := c45
   clear c45
   have H' := q56.mk H
   clear H
   have hnb46 := NB116_114.out
   have hnc46 := NB114_116.out
   obtain ⟨hcz47_0, hcz47_1, hcz47_2, hcz47_3, hcz47_4, hcz47_5, hcz47_6, hfz47_0, hfz47_1, hfz47_2, hfz47_3, hfz47_4, hfz47_5, hfz47_6⟩ := bs7_ BK116
   go_wp2
   go_meet
   case rel => exact ⟨_, (true), rf_, H', ⟨by have := HJ4.out; have := HJ32.out; first | omega | exact Nat.le_refl _⟩, ⟨gx_ BK114⟩, ⟨gx_ BK116⟩, ⟨hf_⟩⟩
  rw [if_neg c45] at H
  have c45b0 : ((q81 l0_1 a1).f3) = false := by simpa using c45
  clear c45
  have H' := q56.mk H
  clear H
  have hnb48 := NB116_114.out
  have hnc48 := NB114_116.out
  obtain ⟨hcz49_0, hcz49_1, hcz49_2, hcz49_3, hcz49_4, hcz49_5, hcz49_6, hfz49_0, hfz49_1, hfz49_2, hfz49_3, hfz49_4, hfz49_5, hfz49_6⟩ := bs7_ BK116
  go_wp2
  go_meet
  case rel => exact ⟨_, (decide ((((q81 l0_1 a1).f5).length : Int) > 0)), rf_, H', ⟨by have := HJ4.out; have := HJ32.out; first | omega | exact Nat.le_refl _⟩, ⟨gx_ BK114⟩, ⟨gx_ BK116⟩, ⟨hf_⟩⟩
 case rest =>
 clear HC42
 obtain ⟨kq, x65_41, rfl, HA, HJ41, BK114, BK116, HB⟩ := hcut
 cases kq with
 | zero => exact absurd HA.out (by simp [q28.j2])
 | succ kj41 =>
 have H := HA.out
 clear HA
 simp only [q28.j2] at H
 by_cases c52 : x65_41 = true
 ·subst c52
  replace H := it_ H
  obtain rfl := Option.some.inj H
  go_wp2
  go_ret
  exact ⟨er_, hf_⟩
 replace c52 := Bool.eq_false_iff.mpr c52
 subst c52
 replace H := ie_ H
 by_cases c53 : a1 = 0
 ·rw [if_pos c53] at H
  have c53b0 : (a1 == 0) = true := beq_iff_eq.mpr c53
  have c53b1 : (a1 != 0) = false := bne_eq_false_iff_eq.mpr c53
  clear c53
  by_cases c54 : ((q81 l0_1 a1).f1) = 1
  rotate_left
  ·rw [if_neg c54] at H
   have c54b0 : (((q81 l0_1 a1).f1) == 1) = false := beq_eq_false_iff_ne.mpr c54
   have c54b1 : (((q81 l0_1 a1).f1) != 1) = true := bne_iff_ne.mpr c54
   obtain rfl := Option.some.inj H
   have hnb66 := NB116_114.out
   have hnc66 := NB114_116.out
   obtain ⟨hcz67_0, hcz67_1, hcz67_2, hcz67_3, hcz67_4, hcz67_5, hcz67_6, hfz67_0, hfz67_1, hfz67_2, hfz67_3, hfz67_4, hfz67_5, hfz67_6⟩ := bs7_ BK116
   go_wp2
   go_ret
   exact ⟨er_, hf_⟩
  rw [if_pos c54] at H
  have c54b0 : (((q81 l0_1 a1).f1) == 1) = true := beq_iff_eq.mpr c54
  have c54b1 : (((q81 l0_1 a1).f1) != 1) = false := bne_eq_false_iff_eq.mpr c54
  clear c54
  by_cases c55 : ((q81 l0_1 a1).f2).toList = ([] : List UInt8)
  rotate_left
  ·rw [if_neg c55] at H
   have c55b0 : (((q81 l0_1 a1).f2).toList == ([] : List UInt8)) = false := beq_eq_false_iff_ne.mpr c55
   have c55b1 : (((q81 l0_1 a1).f2).toList != ([] : List UInt8)) = true := bne_iff_ne.mpr c55
   obtain rfl := Option.some.inj H
   have hnb64 := NB116_114.out
   have hnc64 := NB114_116.out
   obtain ⟨hcz65_0, hcz65_1, hcz65_2, hcz65_3, hcz65_4, hcz65_5, hcz65_6, hfz65_0, hfz65_1, hfz65_2, hfz65_3, hfz65_4, hfz65_5, hfz65_6⟩ := bs7_ BK116
   go_wp2
   go_ret
   exact ⟨er_, hf_⟩
  rw [if_pos c55] at H
  have c55b0 : (((q81 l0_1 a1).f2).toList == ([] : List UInt8)) = true := beq_iff_eq.mpr c55
  have c55b1 : (((q81 l0_1 a1).f2).toList != ([] : List UInt8)) = false := bne_eq_false_iff_eq.mpr c55
  clear c55
  by_cases c56 : ((q81 l0_1 a1).f3) = true
  ·rw [if_pos c56] at H
   have c56b0 : ((q81 l0_1 a1).f3) = true := c56
   clear c56
   obtain rfl := Option.some.inj H
   have hnb57 := NB116_114.out
   have hnc57 := NB114_116.out
   obtain ⟨hcz58_0, hcz58_1, hcz58_2, hcz58_3, hcz58_4, hcz58_5, hcz58_6, hfz58_0, hfz58_1, hfz58_2, hfz58_3, hfz58_4, hfz58_5, hfz58_6⟩ := bs7_ BK116
   go_wp2
   go_ret
   exact ⟨er_, hf_⟩
  rw [if_neg c56] at H
  have c56b0 : ((q81 l0_1 a1).f3) = false := by simpa using c56
  clear c56
  by_cases c59 : (((q81 l0_1 a1).f5).length : Int) = 0
  ·rw [if_pos c59] at H
   have c59b0 : ((((q81 l0_1 a1).f5).length : Int) == 0) = true := beq_iff_eq.mpr c59
   have c59b1 : ((((q81 l0_1 a1).f5).length : Int) != 0) = false := bne_eq_false_iff_eq.mpr c59
   clear c59
   obtain rfl := Option.some.inj H
   have hnb60 := NB116_114.out
   have hnc60 := NB114_116.out
   obtain ⟨hcz61_0, hcz61_1, hcz61_2, hcz61_3, hcz61_4, hcz61_5, hcz61_6, hfz61_0, hfz61_1, hfz61_2, hfz61_3, hfz61_4, hfz61_5, hfz61_6⟩ := bs7_ BK116
   go_wp2
   go_ret
   exact ⟨er_, hf_⟩
  rw [if_neg c59] at H
  have c59b0 : ((((q81 l0_1 a1).f5).length : Int) == 0) = false := beq_eq_false_iff_ne.mpr c59
  have c59b1 : ((((q81 l0_1 a1).f5).length : Int) != 0) = true := bne_iff_ne.mpr c59
  have c59b2 : ¬ (((q81 l0_1 a1).f5) = []) := fun h_ => c59 (by rw [h_]; rfl)
  obtain rfl := Option.some.inj H
  have hnb62 := NB116_114.out
  have hnc62 := NB114_116.out
  obtain ⟨hcz63_0, hcz63_1, hcz63_2, hcz63_3, hcz63_4, hcz63_5, hcz63_6, hfz63_0, hfz63_1, hfz63_2, hfz63_3, hfz63_4, hfz63_5, hfz63_6⟩ := bs7_ BK116
  go_wp2
  go_ret
  exact ⟨er_, hf_⟩
 rw [if_neg c53] at H
 have c53b0 : (a1 == 0) = false := beq_eq_false_iff_ne.mpr c53
 have c53b1 : (a1 != 0) = true := bne_iff_ne.mpr c53
 replace H := bd_ H
 obtain ⟨t119, A68, H⟩ := H
 by_cases c69 : ((q81 l0_1 a1).f2).toList = ([] : List UInt8)
 ·rw [if_pos c69] at H
  have c69b0 : (((q81 l0_1 a1).f2).toList == ([] : List UInt8)) = true := beq_iff_eq.mpr c69
  have c69b1 : (((q81 l0_1 a1).f2).toList != ([] : List UInt8)) = false := bne_eq_false_iff_eq.mpr c69
  clear c69
  obtain rfl := Option.some.inj H
  have hnb70 := NB114_116.out
  have hnc70 := NB116_114.out
  obtain ⟨hcz71_0, hcz71_1, hfz71_0, hfz71_1⟩ := bs2_ BK114
  obtain ⟨hcz72_0, hcz72_1, hcz72_2, hcz72_3, hcz72_4, hcz72_5, hcz72_6, hfz72_0, hfz72_1, hfz72_2, hfz72_3, hfz72_4, hfz72_5, hfz72_6⟩ := bs7_ BK116
  go_wp2_with (first | ((with_reducible refine q70 (f := 46) rfl ?_); refine gl_ (some 96) Try.func46 #[.agg #[.slice A0_0 l0_0.length c0_0, .slice (some ad115) l0_1.length c0_1], .string ((q81 l0_1 a1).f2)] ?_; (with_reducible refine (q22.calls kj41 _ _ l0_0 _ _ l0_1 ((q81 l0_1 a1).f2) t119 _ ?side1 ?side2 ?side3 ?side4 A68.out).mono ?_); (case side1 => exact kc_ HR0_0 HB); (case side2 => exact HC0_0.out); (case side3 => exact kc_ HR0_1 HB); (case side4 => exact HC0_1.out); rintro e w73 ⟨rfl, hb⟩; refine ⟨_, rfl, ?_⟩; replace BK114 := bb_ BK114 hb; replace BK116 := bb_ BK116 hb; replace HB := hb_ HB hb;  (try clear hb); obtain ⟨hcz74_0, hcz74_1, hcz74_2, hcz74_3, hcz74_4, hcz74_5, hcz74_6, hfz74_0, hfz74_1, hfz74_2, hfz74_3, hfz74_4, hfz74_5, hfz74_6⟩ := bs7_ BK116))
  go_ret
  exact ⟨er_, hf_⟩
 rw [if_neg c69] at H
 have c69b0 : (((q81 l0_1 a1).f2).toList == ([] : List UInt8)) = false := beq_eq_false_iff_ne.mpr c69
 have c69b1 : (((q81 l0_1 a1).f2).toList != ([] : List UInt8)) = true := bne_iff_ne.mpr c69
 by_cases c75 : t119 ≥ 0
 rotate_left
 ·rw [if_neg c75] at H
  replace c75 := decide_eq_false c75
  obtain rfl := Option.some.inj H
  have hnb123 := NB114_116.out
  have hnc123 := NB116_114.out
  obtain ⟨hcz124_0, hcz124_1, hfz124_0, hfz124_1⟩ := bs2_ BK114
  obtain ⟨hcz125_0, hcz125_1, hcz125_2, hcz125_3, hcz125_4, hcz125_5, hcz125_6, hfz125_0, hfz125_1, hfz125_2, hfz125_3, hfz125_4, hfz125_5, hfz125_6⟩ := bs7_ BK116
  go_wp2_with (first | ((with_reducible refine q70 (f := 46) rfl ?_); refine gl_ (some 96) Try.func46 #[.agg #[.slice A0_0 l0_0.length c0_0, .slice (some ad115) l0_1.length c0_1], .string ((q81 l0_1 a1).f2)] ?_; (with_reducible refine (q22.calls kj41 _ _ l0_0 _ _ l0_1 ((q81 l0_1 a1).f2) t119 _ ?side1 ?side2 ?side3 ?side4 A68.out).mono ?_); (case side1 => exact kc_ HR0_0 HB); (case side2 => exact HC0_0.out); (case side3 => exact kc_ HR0_1 HB); (case side4 => exact HC0_1.out); rintro e w126 ⟨rfl, hb⟩; refine ⟨_, rfl, ?_⟩; replace BK114 := bb_ BK114 hb; replace BK116 := bb_ BK116 hb; replace HB := hb_ HB hb;  (try clear hb); obtain ⟨hcz127_0, hcz127_1, hcz127_2, hcz127_3, hcz127_4, hcz127_5, hcz127_6, hfz127_0, hfz127_1, hfz127_2, hfz127_3, hfz127_4, hfz127_5, hfz127_6⟩ := bs7_ BK116))
  go_ret
  exact ⟨er_, hf_⟩
 rw [if_pos c75] at H
 replace c75 := decide_eq_true c75
 by_cases c76 : t119 < a1
 rotate_left
 ·rw [if_neg c76] at H
  replace c76 := decide_eq_false c76
  obtain rfl := Option.some.inj H
  have hnb118 := NB114_116.out
  have hnc118 := NB116_114.out
  obtain ⟨hcz119_0, hcz119_1, hfz119_0, hfz119_1⟩ := bs2_ BK114
  obtain ⟨hcz120_0, hcz120_1, hcz120_2, hcz120_3, hcz120_4, hcz120_5, hcz120_6, hfz120_0, hfz120_1, hfz120_2, hfz120_3, hfz120_4, hfz120_5, hfz120_6⟩ := bs7_ BK116
  go_wp2_with (first | ((with_reducible refine q70 (f := 46) rfl ?_); refine gl_ (some 96) Try.func46 #[.agg #[.slice A0_0 l0_0.length c0_0, .slice (some ad115) l0_1.length c0_1], .string ((q81 l0_1 a1).f2)] ?_; (with_reducible refine (q22.calls kj41 _ _ l0_0 _ _ l0_1 ((q81 l0_1 a1).f2) t119 _ ?side1 ?side2 ?side3 ?side4 A68.out).mono ?_); (case side1 => exact kc_ HR0_0 HB); (case side2 => exact HC0_0.out); (case side3 => exact kc_ HR0_1 HB); (case side4 => exact HC0_1.out); rintro e w121 ⟨rfl, hb⟩; refine ⟨_, rfl, ?_⟩; replace BK114 := bb_ BK114 hb; replace BK116 := bb_ BK116 hb; replace HB := hb_ HB hb;  (try clear hb); obtain ⟨hcz122_0, hcz122_1, hcz122_2, hcz122_3, hcz122_4, hcz122_5, hcz122_6, hfz122_0, hfz122_1, hfz122_2, hfz122_3, hfz122_4, hfz122_5, hfz122_6⟩ := bs7_ BK116))
  go_ret
  exact ⟨er_, hf_⟩
 rw [if_pos c76] at H
 replace c76 := decide_eq_true c76
 by_cases c77 : 0 ≤ t119
 rotate_left
 ·rw [if_neg c77] at H
  exact absurd H (by simp)
 rw [if_pos c77] at H
 replace c77 := decide_eq_true c77
 by_cases c78 : t119 < (l0_1.length : Int)
 rotate_left
 ·rw [if_neg c78] at H
  exact absurd H (by simp)
 rw [if_pos c78] at H
 replace c78 := decide_eq_true c78
 by_cases c79 : ((q81 l0_1 t119).f1) = 1
 rotate_left
 ·rw [if_neg c79] at H
  have c79b0 : (((q81 l0_1 t119).f1) == 1) = false := beq_eq_false_iff_ne.mpr c79
  have c79b1 : (((q81 l0_1 t119).f1) != 1) = true := bne_iff_ne.mpr c79
  obtain rfl := Option.some.inj H
  have hnb112 := NB114_116.out
  have hnc112 := NB116_114.out
  obtain ⟨hcz113_0, hcz113_1, hfz113_0, hfz113_1⟩ := bs2_ BK114
  obtain ⟨hcz114_0, hcz114_1, hcz114_2, hcz114_3, hcz114_4, hcz114_5, hcz114_6, hfz114_0, hfz114_1, hfz114_2, hfz114_3, hfz114_4, hfz114_5, hfz114_6⟩ := bs7_ BK116
  go_wp2_with (first | ((with_reducible refine q70 (f := 46) rfl ?_); refine gl_ (some 96) Try.func46 #[.agg #[.slice A0_0 l0_0.length c0_0, .slice (some ad115) l0_1.length c0_1], .string ((q81 l0_1 a1).f2)] ?_; (with_reducible refine (q22.calls kj41 _ _ l0_0 _ _ l0_1 ((q81 l0_1 a1).f2) t119 _ ?side1 ?side2 ?side3 ?side4 A68.out).mono ?_); (case side1 => exact kc_ HR0_0 HB); (case side2 => exact HC0_0.out); (case side3 => exact kc_ HR0_1 HB); (case side4 => exact HC0_1.out); rintro e w115 ⟨rfl, hb⟩; refine ⟨_, rfl, ?_⟩; replace BK114 := bb_ BK114 hb; replace BK116 := bb_ BK116 hb; replace HB := hb_ HB hb;  (try clear hb); obtain ⟨hcz116_0, hcz116_1, hcz116_2, hcz116_3, hcz116_4, hcz116_5, hcz116_6, hfz116_0, hfz116_1, hfz116_2, hfz116_3, hfz116_4, hfz116_5, hfz116_6⟩ := bs7_ BK116; obtain ⟨hcz117_0, hcz117_1, hfz117_0, hfz117_1⟩ := bs2_ BK114; have p120 : 0 ≤ (t119 : Int) := od_; have q120 : t119 < (l0_1.length : Int) := od_; obtain ⟨ad120, A120_5, c120_5, A120_6, c120_6, e120, hx120_0, hx120_1, hx120_2, hx120_3, hx120_4, hx120_5, hx120_6, hl120_5, hi120_5, hl120_6, hi120_6⟩ := at_T41 HR0_1.out t119 p120 q120; obtain rfl : ad115 = ad120 := (by injection e120); replace hx120_0 := rr_ HB hx120_0; replace hx120_1 := rr_ HB hx120_1; replace hx120_2 := rr_ HB hx120_2; replace hx120_3 := rr_ HB hx120_3; replace hx120_4 := rr_ HB hx120_4; replace hx120_5 := rr_ HB hx120_5; replace hx120_6 := rr_ HB hx120_6; have HR120_5 := q56.mk hi120_5; have HC120_5 := q56.mk hl120_5; clear hi120_5 hl120_5; have HR120_6 := q56.mk hi120_6; have HC120_6 := q56.mk hl120_6; clear hi120_6 hl120_6; replace p120 := eq_true p120; replace q120 := eq_true q120))
  go_ret
  exact ⟨er_, hf_⟩
 rw [if_pos c79] at H
 have c79b0 : (((q81 l0_1 t119).f1) == 1) = true := beq_iff_eq.mpr c79
 have c79b1 : (((q81 l0_1 t119).f1) != 1) = false := bne_eq_false_iff_eq.mpr c79
 clear c79
 replace H := bd_ H
 obtain ⟨t121, A80, H⟩ := H
 by_cases c81 : t121 = true
 rotate_left
 ·replace c81 := Bool.eq_false_iff.mpr c81
  subst c81
  replace H := ie_ H
  obtain rfl := Option.some.inj H
  have hnb105 := NB114_116.out
  have hnc105 := NB116_114.out
  obtain ⟨hcz106_0, hcz106_1, hfz106_0, hfz106_1⟩ := bs2_ BK114
  obtain ⟨hcz107_0, hcz107_1, hcz107_2, hcz107_3, hcz107_4, hcz107_5, hcz107_6, hfz107_0, hfz107_1, hfz107_2, hfz107_3, hfz107_4, hfz107_5, hfz107_6⟩ := bs7_ BK116
  go_wp2_with (first | ((with_reducible refine q70 (f := 46) rfl ?_); refine gl_ (some 96) Try.func46 #[.agg #[.slice A0_0 l0_0.length c0_0, .slice (some ad115) l0_1.length c0_1], .string ((q81 l0_1 a1).f2)] ?_; (with_reducible refine (q22.calls kj41 _ _ l0_0 _ _ l0_1 ((q81 l0_1 a1).f2) t119 _ ?side1 ?side2 ?side3 ?side4 A68.out).mono ?_); (case side1 => exact kc_ HR0_0 HB); (case side2 => exact HC0_0.out); (case side3 => exact kc_ HR0_1 HB); (case side4 => exact HC0_1.out); rintro e w108 ⟨rfl, hb⟩; refine ⟨_, rfl, ?_⟩; replace BK114 := bb_ BK114 hb; replace BK116 := bb_ BK116 hb; replace HB := hb_ HB hb;  (try clear hb); obtain ⟨hcz109_0, hcz109_1, hcz109_2, hcz109_3, hcz109_4, hcz109_5, hcz109_6, hfz109_0, hfz109_1, hfz109_2, hfz109_3, hfz109_4, hfz109_5, hfz109_6⟩ := bs7_ BK116; obtain ⟨hcz110_0, hcz110_1, hfz110_0, hfz110_1⟩ := bs2_ BK114; have p120 : 0 ≤ (t119 : Int) := od_; have q120 : t119 < (l0_1.length : Int) := od_; obtain ⟨ad120, A120_5, c120_5, A120_6, c120_6, e120, hx120_0, hx120_1, hx120_2, hx120_3, hx120_4, hx120_5, hx120_6, hl120_5, hi120_5, hl120_6, hi120_6⟩ := at_T41 HR0_1.out t119 p120 q120; obtain rfl : ad115 = ad120 := (by injection e120); replace hx120_0 := rr_ HB hx120_0; replace hx120_1 := rr_ HB hx120_1; replace hx120_2 := rr_ HB hx120_2; replace hx120_3 := rr_ HB hx120_3; replace hx120_4 := rr_ HB hx120_4; replace hx120_5 := rr_ HB hx120_5; replace hx120_6 := rr_ HB hx120_6; have HR120_5 := q56.mk hi120_5; have HC120_5 := q56.mk hl120_5; clear hi120_5 hl120_5; have HR120_6 := q56.mk hi120_6; have HC120_6 := q56.mk hl120_6; clear hi120_6 hl120_6; replace p120 := eq_true p120; replace q120 := eq_true q120) | (go_at_call 52; (with_reducible refine (q19.calls kj41 _ _ l0_0 _ _ l0_1 (wrap64 (a1 - 1)) ((q81 l0_1 a1).f2) false _ ?side1 ?side2 ?side3 ?side4 A80.out).mono ?_); (case side1 => exact kc_ HR0_0 HB); (case side2 => exact HC0_0.out); (case side3 => exact kc_ HR0_1 HB); (case side4 => exact HC0_1.out); rintro e w111 ⟨rfl, hb⟩; replace BK114 := bb_ BK114 hb; replace BK116 := bb_ BK116 hb; replace HB := hb_ HB hb;  (try clear hb)))
  go_ret
  exact ⟨er_, hf_⟩
 subst c81
 replace H := it_ H
 replace H := bd_ H
 obtain ⟨t122, A82, H⟩ := H
 by_cases c83 : t122 ≥ 1
 ·rw [if_pos c83] at H
  replace c83 := decide_eq_true c83
  replace H := bd_ H
  obtain ⟨t123, A84, H⟩ := H
  obtain rfl : t122 = t123 := Option.some.inj (A82.out.symm.trans A84.out)
  obtain rfl := Option.some.inj H
  have hnb85 := NB114_116.out
  have hnc85 := NB116_114.out
  obtain ⟨hcz86_0, hcz86_1, hfz86_0, hfz86_1⟩ := bs2_ BK114
  obtain ⟨hcz87_0, hcz87_1, hcz87_2, hcz87_3, hcz87_4, hcz87_5, hcz87_6, hfz87_0, hfz87_1, hfz87_2, hfz87_3, hfz87_4, hfz87_5, hfz87_6⟩ := bs7_ BK116
  go_wp2_with (first | ((with_reducible refine q70 (f := 46) rfl ?_); refine gl_ (some 96) Try.func46 #[.agg #[.slice A0_0 l0_0.length c0_0, .slice (some ad115) l0_1.length c0_1], .string ((q81 l0_1 a1).f2)] ?_; (with_reducible refine (q22.calls kj41 _ _ l0_0 _ _ l0_1 ((q81 l0_1 a1).f2) t119 _ ?side1 ?side2 ?side3 ?side4 A68.out).mono ?_); (case side1 => exact kc_ HR0_0 HB); (case side2 => exact HC0_0.out); (case side3 => exact kc_ HR0_1 HB); (case side4 => exact HC0_1.out); rintro e w88 ⟨rfl, hb⟩; refine ⟨_, rfl, ?_⟩; replace BK114 := bb_ BK114 hb; replace BK116 := bb_ BK116 hb; replace HB := hb_ HB hb;  (try clear hb); obtain ⟨hcz89_0, hcz89_1, hcz89_2, hcz89_3, hcz89_4, hcz89_5, hcz89_6, hfz89_0, hfz89_1, hfz89_2, hfz89_3, hfz89_4, hfz89_5, hfz89_6⟩ := bs7_ BK116; obtain ⟨hcz90_0, hcz90_1, hfz90_0, hfz90_1⟩ := bs2_ BK114; have p120 : 0 ≤ (t119 : Int) := od_; have q120 : t119 < (l0_1.length : Int) := od_; obtain ⟨ad120, A120_5, c120_5, A120_6, c120_6, e120, hx120_0, hx120_1, hx120_2, hx120_3, hx120_4, hx120_5, hx120_6, hl120_5, hi120_5, hl120_6, hi120_6⟩ := at_T41 HR0_1.out t119 p120 q120; obtain rfl : ad115 = ad120 := (by injection e120); replace hx120_0 := rr_ HB hx120_0; replace hx120_1 := rr_ HB hx120_1; replace hx120_2 := rr_ HB hx120_2; replace hx120_3 := rr_ HB hx120_3; replace hx120_4 := rr_ HB hx120_4; replace hx120_5 := rr_ HB hx120_5; replace hx120_6 := rr_ HB hx120_6; have HR120_5 := q56.mk hi120_5; have HC120_5 := q56.mk hl120_5; clear hi120_5 hl120_5; have HR120_6 := q56.mk hi120_6; have HC120_6 := q56.mk hl120_6; clear hi120_6 hl120_6; replace p120 := eq_true p120; replace q120 := eq_true q120) | (go_at_call 52; (with_reducible refine (q19.calls kj41 _ _ l0_0 _ _ l0_1 (wrap64 (a1 - 1)) ((q81 l0_1 a1).f2) true _ ?side1 ?side2 ?side3 ?side4 A80.out).mono ?_); (case side1 => exact kc_ HR0_0 HB); (case side2 => exact HC0_0.out); (case side3 => exact kc_ HR0_1 HB); (case side4 => exact HC0_1.out); rintro e w91 ⟨rfl, hb⟩; replace BK114 := bb_ BK114 hb; replace BK116 := bb_ BK116 hb; replace HB := hb_ HB hb;  (try clear hb); obtain ⟨hcz92_0, hcz92_1, hfz92_0, hfz92_1⟩ := bs2_ BK114) | (go_at_call 53; (with_reducible refine (q23.calls kj41 _ _ l0_0 _ _ l0_1 a1 t122 _ ?side1 ?side2 ?side3 ?side4 A82.out).mono ?_); (case side1 => exact kc_ HR0_0 HB); (case side2 => exact HC0_0.out); (case side3 => exact kc_ HR0_1 HB); (case side4 => exact HC0_1.out); rintro e w93 ⟨rfl, hb⟩; replace BK114 := bb_ BK114 hb; replace BK116 := bb_ BK116 hb; replace HB := hb_ HB hb;  (try clear hb); obtain ⟨hcz94_0, hcz94_1, hfz94_0, hfz94_1⟩ := bs2_ BK114) | (go_at_call 53; (with_reducible refine (q23.calls kj41 _ _ l0_0 _ _ l0_1 a1 t123 _ ?side1 ?side2 ?side3 ?side4 A84.out).mono ?_); (case side1 => exact kc_ HR0_0 HB); (case side2 => exact HC0_0.out); (case side3 => exact kc_ HR0_1 HB); (case side4 => exact HC0_1.out); rintro e w95 ⟨rfl, hb⟩; replace BK114 := bb_ BK114 hb; replace BK116 := bb_ BK116 hb; replace HB := hb_ HB hb;  (try clear hb)))
  go_ret
  exact ⟨er_, hf_⟩
 rw [if_neg c83] at H
 replace c83 := decide_eq_false c83
 obtain rfl := Option.some.inj H
 have hnb96 := NB114_116.out
 have hnc96 := NB116_114.out
 obtain ⟨hcz97_0, hcz97_1, hfz97_0, hfz97_1⟩ := bs2_ BK114
 obtain ⟨hcz98_0, hcz98_1, hcz98_2, hcz98_3, hcz98_4, hcz98_5, hcz98_6, hfz98_0, hfz98_1, hfz98_2, hfz98_3, hfz98_4, hfz98_5, hfz98_6⟩ := bs7_ BK116
 go_wp2_with (first | ((with_reducible refine q70 (f := 46) rfl ?_); refine gl_ (some 96) Try.func46 #[.agg #[.slice A0_0 l0_0.length c0_0, .slice (some ad115) l0_1.length c0_1], .string ((q81 l0_1 a1).f2)] ?_; (with_reducible refine (q22.calls kj41 _ _ l0_0 _ _ l0_1 ((q81 l0_1 a1).f2) t119 _ ?side1 ?side2 ?side3 ?side4 A68.out).mono ?_); (case side1 => exact kc_ HR0_0 HB); (case side2 => exact HC0_0.out); (case side3 => exact kc_ HR0_1 HB); (case side4 => exact HC0_1.out); rintro e w99 ⟨rfl, hb⟩; refine ⟨_, rfl, ?_⟩; replace BK114 := bb_ BK114 hb; replace BK116 := bb_ BK116 hb; replace HB := hb_ HB hb;  (try clear hb); obtain ⟨hcz100_0, hcz100_1, hcz100_2, hcz100_3, hcz100_4, hcz100_5, hcz100_6, hfz100_0, hfz100_1, hfz100_2, hfz100_3, hfz100_4, hfz100_5, hfz100_6⟩ := bs7_ BK116; obtain ⟨hcz101_0, hcz101_1, hfz101_0, hfz101_1⟩ := bs2_ BK114; have p120 : 0 ≤ (t119 : Int) := od_; have q120 : t119 < (l0_1.length : Int) := od_; obtain ⟨ad120, A120_5, c120_5, A120_6, c120_6, e120, hx120_0, hx120_1, hx120_2, hx120_3, hx120_4, hx120_5, hx120_6, hl120_5, hi120_5, hl120_6, hi120_6⟩ := at_T41 HR0_1.out t119 p120 q120; obtain rfl : ad115 = ad120 := (by injection e120); replace hx120_0 := rr_ HB hx120_0; replace hx120_1 := rr_ HB hx120_1; replace hx120_2 := rr_ HB hx120_2; replace hx120_3 := rr_ HB hx120_3; replace hx120_4 := rr_ HB hx120_4; replace hx120_5 := rr_ HB hx120_5; replace hx120_6 := rr_ HB hx120_6; have HR120_5 := q56.mk hi120_5; have HC120_5 := q56.mk hl120_5; clear hi120_5 hl120_5; have HR120_6 := q56.mk hi120_6; have HC120_6 := q56.mk hl120_6; clear hi120_6 hl120_6; replace p120 := eq_true p120; replace q120 := eq_true q120) | (go_at_call 52; (with_reducible refine (q19.calls kj41 _ _ l0_0 _ _ l0_1 (wrap64 (a1 - 1)) ((q81 l0_1 a1).f2) true _ ?side1 ?side2 ?side3 ?side4 A80.out).mono ?_); (case side1 => exact kc_ HR0_0 HB); (case side2 => exact HC0_0.out); (case side3 => exact kc_ HR0_1 HB); (case side4 => exact HC0_1.out); rintro e w102 ⟨rfl, hb⟩; replace BK114 := bb_ BK114 hb; replace BK116 := bb_ BK116 hb; replace HB := hb_ HB hb;  (try clear hb); obtain ⟨hcz103_0, hcz103_1, hfz103_0, hfz103_1⟩ := bs2_ BK114) | (go_at_call 53; (with_reducible refine (q23.calls kj41 _ _ l0_0 _ _ l0_1 a1 t122 _ ?side1 ?side2 ?side3 ?side4 A82.out).mono ?_); (case side1 => exact kc_ HR0_0 HB); (case side2 => exact HC0_0.out); (case side3 => exact kc_ HR0_1 HB); (case side4 => exact HC0_1.out); rintro e w104 ⟨rfl, hb⟩; replace BK114 := bb_ BK114 hb; replace BK116 := bb_ BK116 hb; replace HB := hb_ HB hb;  (try clear hb)))
 go_ret
 exact ⟨er_, hf_⟩
mutual
def q25.j0 : Nat → Int → Int → Bool → Option (Bool)
 | 0, _, _, _ => none
 | k + 1, x0, x1, x10 => if x10 = true then (some false) else (if x1 = 1 then (q25.j1 k x0 x1 (x1 == 1)) else (q25.j1 k x0 x1 (x1 == 5)))
def q25.j1 : Nat → Int → Int → Bool → Option (Bool)
 | 0, _, _, _ => none
 | k + 1, x0, x11, x12 => if x12 = true then (some true) else (if x11 = 2 then (q25.j2 k x0 x11 (x11 == 2)) else (q25.j2 k x0 x11 (x11 == 3)))
def q25.j2 : Nat → Int → Int → Bool → Option (Bool)
 | 0, _, _, _ => none
 | k + 1, x0, x11, x15 => if x15 = true then (some (decide (x0 ≤ 2))) else (if x11 = 4 then (some (decide (x0 > 2))) else (some false))
end
def q25.f (k : Nat) (a0 : Int) (a1 : Int) : Option (Bool) := if a0 < 1 then (q25.j0 k a0 a1 true) else (q25.j0 k a0 a1 (decide (a0 > 5)))
theorem q25.mono_l : ∀ k, (∀ y0 y1 y2, LeO (q25.j0 k y0 y1 y2) (q25.j0 (k + 1) y0 y1 y2)) ∧ (∀ y0 y1 y2, LeO (q25.j1 k y0 y1 y2) (q25.j1 (k + 1) y0 y1 y2)) ∧ (∀ y0 y1 y2, LeO (q25.j2 k y0 y1 y2) (q25.j2 (k + 1) y0 y1 y2))
 | 0 => ⟨fun _ _ _ r h => by simp [q25.j0] at h, fun _ _ _ r h => by simp [q25.j1] at h, fun _ _ _ r h => by simp [q25.j2] at h⟩
 | k + 1 => by
  obtain ⟨ih0, ih1, ih2⟩ := q25.mono_l k
  refine ⟨?_, ?_, ?_⟩
  intro y0 y1 y2
  unfold q25.j0
  rotate_left
  intro y0 y1 y2
  unfold q25.j1
  rotate_left
  intro y0 y1 y2
  unfold q25.j2
  rotate_left
  all_goals repeat' first
   | (with_reducible exact ih0 _ _ _)
   | (with_reducible exact ih1 _ _ _)
   | (with_reducible exact ih2 _ _ _)
   | (with_reducible exact LeO.refl _)
   | (with_reducible exact LeO.none _)
   | (with_reducible refine LeO.ite ?_ ?_)
   | (with_reducible refine LeO.bind ?_ (fun _ => ?_))
   | exact ih0 _ _ _
   | exact ih1 _ _ _
   | exact ih2 _ _ _
   | exact LeO.none _
   | refine LeO.ite ?_ ?_
   | refine LeO.bind ?_ (fun _ => ?_)
theorem q25.mono : ∀ a0 a1 k, LeO (q25.f k a0 a1) (q25.f (k + 1) a0 a1) := by
 intro a0 a1 k
 obtain ⟨ih0, ih1, ih2⟩ := q25.mono_l k
 unfold q25.f
 repeat' first
  | (with_reducible exact ih0 _ _ _)
  | (with_reducible exact ih1 _ _ _)
  | (with_reducible exact ih2 _ _ _)
  | (with_reducible exact LeO.refl _)
  | (with_reducible exact LeO.none _)
  | (with_reducible refine LeO.ite ?_ ?_)
  | (with_reducible refine LeO.bind ?_ (fun _ => ?_))
  | exact ih0 _ _ _
  | exact ih1 _ _ _
  | exact ih2 _ _ _
  | exact LeO.none _
  | refine LeO.ite ?_ ?_
  | refine LeO.bind ?_ (fun _ => ?_)
set_option maxHeartbeats 8000000 in
set_option maxRecDepth 100000 in
theorem q25.calls (k : Nat) (a0 : Int) (a1 : Int) (r : Bool) (w : World) (h : q25.f k a0 a1 = some r) :
 Calls Try.prog 82 #[.int .i64 a0, .int .i64 a1] w fun e w' => e = .returned (.bool r) ∧ Drawn0 w w' := by
 unfold q25.f at h
 have H := h
 clear h
 have HC3 := q56.mk H
 clear H
 go_enter Try.func82, Try.ntmps82
 go_upto_region 1 with (fail)
 go_cut [10] (fun v10 wc => ∃ (kq : Nat) (x10_2 : Bool), v10 = .bool x10_2 ∧ q56 (q25.j0 kq a0 a1 x10_2 = some r) ∧ q56 (kq ≤ k) ∧ Drawn0 w wc)
 case first =>
  have H := HC3.out
  clear HC3
  by_cases c4 : a0 < 1
  ·rw [if_pos c4] at H
   have c4b0 := decide_eq_true c4
   clear c4
   (first | rw [c4b0] | (simp only [i64_w, i32_w]; rw [c4b0]) | skip)
   have H' := q56.mk H
   clear H
   go_wp2
   go_meet
   case rel => exact ⟨_, (true), rf_, H', ⟨by first | omega | exact Nat.le_refl _⟩, by repeat (first | exact Drawn0.refl _ | apply Drawn0.step)⟩
  rw [if_neg c4] at H
  have c4b0 := decide_eq_false c4
  clear c4
  (first | rw [c4b0] | (simp only [i64_w, i32_w]; rw [c4b0]) | skip)
  have H' := q56.mk H
  clear H
  go_wp2
  go_meet
  case rel => exact ⟨_, (decide (a0 > 5)), rf_, H', ⟨by first | omega | exact Nat.le_refl _⟩, by repeat (first | exact Drawn0.refl _ | apply Drawn0.step)⟩
 case rest =>
 clear HC3
 obtain ⟨kq, x10_2, rfl, HA, HJ2, ⟨mc2, rfl⟩⟩ := hcut
 cases kq with
 | zero => exact absurd HA.out (by simp [q25.j0])
 | succ kj2 =>
 have H := HA.out
 clear HA
 simp only [q25.j0] at H
 by_cases c5 : x10_2 = true
 ·subst c5
  replace H := it_ H
  obtain rfl := Option.some.inj H
  go_wp2
  go_ret
  exact ⟨by first | rfl | (simp; done) | (simp [*]; done), by repeat (first | exact Drawn0.refl _ | apply Drawn0.step)⟩
 replace c5 := Bool.eq_false_iff.mpr c5
 subst c5
 replace H := ie_ H
 have HC6 := q56.mk H
 clear H
 go_upto_if 12 with (fail)
 go_cut [12] (fun v12 wc => ∃ (kq : Nat) (x12_5 : Bool), v12 = .bool x12_5 ∧ q56 (q25.j1 kq a0 a1 x12_5 = some r) ∧ q56 (kq ≤ kj2) ∧ Drawn0 w wc)
 case first =>
  have H := HC6.out
  clear HC6
  by_cases c7 : a1 = 1
  ·rw [if_pos c7] at H
   have c7b0 : (a1 == 1) = true := beq_iff_eq.mpr c7
   have c7b1 : (a1 != 1) = false := bne_eq_false_iff_eq.mpr c7
   clear c7
   (first | rw [c7b0] | (simp only [i64_w, i32_w]; rw [c7b0]) | skip)
   have H' := q56.mk H
   clear H
   go_wp2
   go_meet
   case rel => exact ⟨_, ((a1 == 1)), rf_, H', ⟨by have := HJ2.out; first | omega | exact Nat.le_refl _⟩, by repeat (first | exact Drawn0.refl _ | apply Drawn0.step)⟩
  rw [if_neg c7] at H
  have c7b0 : (a1 == 1) = false := beq_eq_false_iff_ne.mpr c7
  have c7b1 : (a1 != 1) = true := bne_iff_ne.mpr c7
  (first | rw [c7b0] | (simp only [i64_w, i32_w]; rw [c7b0]) | skip)
  have H' := q56.mk H
  clear H
  go_wp2
  go_meet
  case rel => exact ⟨_, ((a1 == 5)), rf_, H', ⟨by have := HJ2.out; first | omega | exact Nat.le_refl _⟩, by repeat (first | exact Drawn0.refl _ | apply Drawn0.step)⟩
 case rest =>
 clear HC6
 obtain ⟨kq, x12_5, rfl, HA, HJ5, ⟨mc5, rfl⟩⟩ := hcut
 cases kq with
 | zero => exact absurd HA.out (by simp [q25.j1])
 | succ kj5 =>
 have H := HA.out
 clear HA
 simp only [q25.j1] at H
 by_cases c8 : x12_5 = true
 ·subst c8
  replace H := it_ H
  obtain rfl := Option.some.inj H
  go_wp2
  go_ret
  exact ⟨by first | rfl | (simp; done) | (simp [*]; done), by repeat (first | exact Drawn0.refl _ | apply Drawn0.step)⟩
 replace c8 := Bool.eq_false_iff.mpr c8
 subst c8
 replace H := ie_ H
 have HC9 := q56.mk H
 clear H
 go_upto_if 15 with (fail)
 go_cut [15] (fun v15 wc => ∃ (kq : Nat) (x15_8 : Bool), v15 = .bool x15_8 ∧ q56 (q25.j2 kq a0 a1 x15_8 = some r) ∧ q56 (kq ≤ kj5) ∧ Drawn0 w wc)
 case first =>
  have H := HC9.out
  clear HC9
  by_cases c10 : a1 = 2
  ·rw [if_pos c10] at H
   have c10b0 : (a1 == 2) = true := beq_iff_eq.mpr c10
   have c10b1 : (a1 != 2) = false := bne_eq_false_iff_eq.mpr c10
   clear c10
   (first | rw [c10b0] | (simp only [i64_w, i32_w]; rw [c10b0]) | skip)
   have H' := q56.mk H
   clear H
   go_wp2
   go_meet
   case rel => exact ⟨_, ((a1 == 2)), rf_, H', ⟨by have := HJ2.out; have := HJ5.out; first | omega | exact Nat.le_refl _⟩, by repeat (first | exact Drawn0.refl _ | apply Drawn0.step)⟩
  rw [if_neg c10] at H
  have c10b0 : (a1 == 2) = false := beq_eq_false_iff_ne.mpr c10
  have c10b1 : (a1 != 2) = true := bne_iff_ne.mpr c10
  (first | rw [c10b0] | (simp only [i64_w, i32_w]; rw [c10b0]) | skip)
  have H' := q56.mk H
  clear H
  go_wp2
  go_meet
  case rel => exact ⟨_, ((a1 == 3)), rf_, H', ⟨by have := HJ2.out; have := HJ5.out; first | omega | exact Nat.le_refl _⟩, by repeat (first | exact Drawn0.refl _ | apply Drawn0.step)⟩
 case rest =>
 clear HC9
 obtain ⟨kq, x15_8, rfl, HA, HJ8, ⟨mc8, rfl⟩⟩ := hcut
 cases kq with
 | zero => exact absurd HA.out (by simp [q25.j2])
 | succ kj8 =>
 have H := HA.out
 clear HA
 simp only [q25.j2] at H
 by_cases c11 : x15_8 = true
 ·subst c11
  replace H := it_ H
  obtain rfl := Option.some.inj H
  go_wp2
  go_ret
  exact ⟨by first | rfl | (simp; done) | (simp [*]; done), by repeat (first | exact Drawn0.refl _ | apply Drawn0.step)⟩
 replace c11 := Bool.eq_false_iff.mpr c11
 subst c11
 replace H := ie_ H
 by_cases c12 : a1 = 4
 ·rw [if_pos c12] at H
  have c12b0 : (a1 == 4) = true := beq_iff_eq.mpr c12
  have c12b1 : (a1 != 4) = false := bne_eq_false_iff_eq.mpr c12
  clear c12
  obtain rfl := Option.some.inj H
  go_wp2
  go_ret
  exact ⟨by first | rfl | (simp; done) | (simp [*]; done), by repeat (first | exact Drawn0.refl _ | apply Drawn0.step)⟩
 rw [if_neg c12] at H
 have c12b0 : (a1 == 4) = false := beq_eq_false_iff_ne.mpr c12
 have c12b1 : (a1 != 4) = true := bne_iff_ne.mpr c12
 obtain rfl := Option.some.inj H
 go_wp2
 go_ret
 exact ⟨by first | rfl | (simp; done) | (simp [*]; done), by repeat (first | exact Drawn0.refl _ | apply Drawn0.step)⟩
def q32.l0 : Nat → ByteArray → List ByteArray → Int → Option (Int)
 | 0, _, _, _ => none
 | k + 1, x0, x3, x4 => if x4 < (x3.length : Int) then (if 0 ≤ x4 then (if (rdOf ByteArray.empty x3 x4).toList = x0.toList then (some x4) else (q32.l0 k x0 x3 (wrap64 (x4 + 1)))) else (none)) else (some (-1))
def q32.f (k : Nat) (a0 : ByteArray) : Option (Int) := q32.l0 k a0 (([(⟨#[60]⟩ : ByteArray), (⟨#[60, 61]⟩ : ByteArray), (⟨#[61]⟩ : ByteArray), (⟨#[33, 61]⟩ : ByteArray), (⟨#[62, 61]⟩ : ByteArray), (⟨#[62]⟩ : ByteArray)] : List ByteArray)) 0
theorem q32.mono_l : ∀ k, (∀ y0 y1 y2, LeO (q32.l0 k y0 y1 y2) (q32.l0 (k + 1) y0 y1 y2))
 | 0 => fun _ _ _ r h => by simp [q32.l0] at h
 | k + 1 => by
  have ih0 := q32.mono_l k
  ·intro y0 y1 y2
   unfold q32.l0
   repeat' first
   | (with_reducible exact ih0 _ _ _)
   | (with_reducible exact LeO.refl _)
   | (with_reducible exact LeO.none _)
   | (with_reducible refine LeO.ite ?_ ?_)
   | (with_reducible refine LeO.bind ?_ (fun _ => ?_))
   | exact ih0 _ _ _
   | exact LeO.none _
   | refine LeO.ite ?_ ?_
   | refine LeO.bind ?_ (fun _ => ?_)
theorem q32.mono : ∀ a0 k, LeO (q32.f k a0) (q32.f (k + 1) a0) := by
 intro a0 k
 have ih0 := q32.mono_l k
 unfold q32.f
 repeat' first
  | (with_reducible exact ih0 _ _ _)
  | (with_reducible exact LeO.refl _)
  | (with_reducible exact LeO.none _)
  | (with_reducible refine LeO.ite ?_ ?_)
  | (with_reducible refine LeO.bind ?_ (fun _ => ?_))
  | exact ih0 _ _ _
  | exact LeO.none _
  | refine LeO.ite ?_ ?_
  | refine LeO.bind ?_ (fun _ => ?_)
set_option maxHeartbeats 8000000 in
set_option maxRecDepth 100000 in
theorem q32.calls (k : Nat) (a0 : ByteArray) (r : Int) (w : World) (h : q32.f k a0 = some r) :
 Calls Try.prog 83 #[.string a0] w fun e w' => e = .returned (.int .i64 r) ∧ Below w.heap.size w w' := by
 have HB := q56.mk (Below.refl w.heap.size w)
 unfold q32.f at h
 have H := h
 clear h
 obtain ⟨y124, hy124⟩ : ∃ y_ : List ByteArray, y_ = (([(⟨#[60]⟩ : ByteArray), (⟨#[60, 61]⟩ : ByteArray), (⟨#[61]⟩ : ByteArray), (⟨#[33, 61]⟩ : ByteArray), (⟨#[62, 61]⟩ : ByteArray), (⟨#[62]⟩ : ByteArray)] : List ByteArray)) := ⟨_, rfl⟩
 rw [← hy124] at H
 have Ny124 := q56.mk hy124
 clear hy124
 have H' := q56.mk H
 clear H
 go_enter Try.func83, Try.ntmps83
 go_wp2_with (first | ((with_reducible refine q71 (N := 5) rfl ?_); refine Kd.R_lit Kd.string _ 9 ?hg (N := 5) ?hd (xs := ([(⟨#[60]⟩ : ByteArray), (⟨#[60, 61]⟩ : ByteArray), (⟨#[61]⟩ : ByteArray), (⟨#[33, 61]⟩ : ByteArray), (⟨#[62, 61]⟩ : ByteArray), (⟨#[62]⟩ : ByteArray)] : List ByteArray)) (inner := [.string (⟨#[60]⟩ : ByteArray), .string (⟨#[60, 61]⟩ : ByteArray), .string (⟨#[61]⟩ : ByteArray), .string (⟨#[33, 61]⟩ : ByteArray), .string (⟨#[62, 61]⟩ : ByteArray), .string (⟨#[62]⟩ : ByteArray)]) (ok := fun _ => True) (okp := fun _ => True) ?hr ?hp (fun _ hk => hk) trivial (Below.refl _ _) (Nat.le_refl _) (by simp) ?_; (case hd => rfl); (case hg => rfl); (case hr => first | (go_simp; done) | (go_simp; rfl)); (case hp => exact (Reps.one (show Kd.M Kd.string _ _ _ (⟨#[60]⟩ : ByteArray) [.string (⟨#[60]⟩ : ByteArray)] from rfl) (Reps.one (show Kd.M Kd.string _ _ _ (⟨#[60, 61]⟩ : ByteArray) [.string (⟨#[60, 61]⟩ : ByteArray)] from rfl) (Reps.one (show Kd.M Kd.string _ _ _ (⟨#[61]⟩ : ByteArray) [.string (⟨#[61]⟩ : ByteArray)] from rfl) (Reps.one (show Kd.M Kd.string _ _ _ (⟨#[33, 61]⟩ : ByteArray) [.string (⟨#[33, 61]⟩ : ByteArray)] from rfl) (Reps.one (show Kd.M Kd.string _ _ _ (⟨#[62, 61]⟩ : ByteArray) [.string (⟨#[62, 61]⟩ : ByteArray)] from rfl) (Reps.one (show Kd.M Kd.string _ _ _ (⟨#[62]⟩ : ByteArray) [.string (⟨#[62]⟩ : ByteArray)] from rfl) (Reps.none _ _)))))))); intro v125 w2 ho3 hb hg_ hnew_; clear hg_ hnew_; (first | rw [← Ny124.out] at ho3 | (simp only [Int.reduceToNat] at ho3; rw [← Ny124.out] at ho3)); have HO126 := q56.mk (Kd.R_lower ho3 (q59 hf_)); replace HB := hb_ HB hb;  clear hb ho3))
 go_loopg [4] k (fun kq v4 w' => ∃ (x4_1 : Int), v4 = .int .i64 x4_1 ∧ q56 (q32.l0 kq a0 y124 x4_1 = some r) ∧ q56 (kq ≤ k) ∧ q56 (Kd.R Kd.string 9 w' w.heap.size (fun _ => True) v125 y124) ∧ q56 (Below w.heap.size w w'))
 case atStart => exact ⟨(0), rf_, H', ⟨Nat.le_refl _⟩, ⟨ra_ HO126.out⟩, ⟨hf_⟩⟩
 case round =>
 clear H'
 try clear p2
 obtain ⟨x4_1, rfl, HA, HK1, HO_3, HB⟩ := hrel
 cases gk with
 | zero => exact absurd HA.out (by simp [q32.l0])
 | succ k1 =>
 have H := HA.out
 clear HA
 simp only [q32.l0] at H
 by_cases c4 : x4_1 < (y124.length : Int)
 rotate_left
 ·rw [if_neg c4] at H
  replace c4 := decide_eq_false c4
  obtain rfl := Option.some.inj H
  obtain ⟨Ao9, co9, eo9⟩ := Kd.R_slice HO_3.out
  subst eo9
  go_wp2
  go_ret
  exact ⟨er_, hf_⟩
 rw [if_pos c4] at H
 replace c4 := decide_eq_true c4
 by_cases c5 : 0 ≤ x4_1
 rotate_left
 ·rw [if_neg c5] at H
  exact absurd H (by simp)
 rw [if_pos c5] at H
 replace c5 := decide_eq_true c5
 by_cases c6 : (rdOf ByteArray.empty y124 x4_1).toList = a0.toList
 ·rw [if_pos c6] at H
  have c6b0 : ((rdOf ByteArray.empty y124 x4_1).toList == a0.toList) = true := beq_iff_eq.mpr c6
  have c6b1 : ((rdOf ByteArray.empty y124 x4_1).toList != a0.toList) = false := bne_eq_false_iff_eq.mpr c6
  clear c6
  obtain rfl := Option.some.inj H
  obtain ⟨Ao7, co7, eo7⟩ := Kd.R_slice HO_3.out
  subst eo7
  have p127 : 0 ≤ (x4_1 : Int) := od_
  have q127 : x4_1 < (y124.length : Int) := od_
  obtain ⟨ad127, e127, hx127_0⟩ := Kd.at_string (Kd.R_reads' HO_3.out).2.2 x4_1 p127 q127
  cases e127
  replace p127 := eq_true p127
  replace q127 := eq_true q127
  go_wp2
  go_ret
  exact ⟨er_, hf_⟩
 rw [if_neg c6] at H
 have c6b0 : ((rdOf ByteArray.empty y124 x4_1).toList == a0.toList) = false := beq_eq_false_iff_ne.mpr c6
 have c6b1 : ((rdOf ByteArray.empty y124 x4_1).toList != a0.toList) = true := bne_iff_ne.mpr c6
 have H' := q56.mk H
 clear H
 obtain ⟨Ao8, co8, eo8⟩ := Kd.R_slice HO_3.out
 subst eo8
 have p127 : 0 ≤ (x4_1 : Int) := od_
 have q127 : x4_1 < (y124.length : Int) := od_
 obtain ⟨ad127, e127, hx127_0⟩ := Kd.at_string (Kd.R_reads' HO_3.out).2.2 x4_1 p127 q127
 cases e127
 replace p127 := eq_true p127
 replace q127 := eq_true q127
 go_wp2
 go_roundg k1
 case measure => have := HK1.out; omega
 case rel => exact ⟨(wrap64 (x4_1 + 1)), rf_, H', ⟨by have := HK1.out; omega⟩, ⟨ra_ HO_3.out⟩, ⟨hf_⟩⟩
end Go.Proofs.Yteddgedacjdjgaa.Pm
end
section
namespace Go.Proofs.Yteddgedacjdjgaa.Pm
open Go.RowKit Go.Proofs.YteddgedacjdjgaaW.PrintWords Go.Proofs.YteddgedacjdjgaaW.PrintLast Go.Proofs.YteddgedacjdjgaaW.PrintMore
attribute [local go_sem] max2_int min2_int max_two min_two max_three min_three max_four min_four   -- for this text's walks alone
set_option linter.unusedVariables false
set_option linter.unusedSimpArgs false
attribute [local go_sem high] eqA101
mutual
def q20.j0 : Nat → Bool → List ByteArray → List (S41) → List (S101) → List (S90) → Option (Bool)
 | 0, _, _, _, _, _ => none
 | k + 1, x29, x129000, x129001, x130000, x130001 => if x29 = true then (some false) else (q20.l0 k 0 x129000 x129001 x130000 x130001)
def q20.l0 : Nat → Int → List ByteArray → List (S41) → List (S101) → List (S90) → Option (Bool)
 | 0, _, _, _, _, _ => none
 | k + 1, x5, x129000, x129001, x130000, x130001 => if x5 < (x130000.length : Int) then (if 0 ≤ x5 then ((q22.f k x129000 x129001 ((q76 x130000 x5).f0)).bind fun t131 => (if t131 < 0 then (q20.j2 k x5 true x129000 x129001 x130000 x130001) else (if 0 ≤ t131 then (if t131 < (x129001.length : Int) then ((q25.f k ((q81 x129001 t131).f1) ((q76 x130000 x5).f1)).bind fun t134 => (q20.j2 k x5 (!t134) x129000 x129001 x130000 x130001)) else (none)) else (none)))) else (none)) else (q20.l2 k 0 x129000 x129001 x130000 x130001)
def q20.j2 : Nat → Int → Bool → List ByteArray → List (S41) → List (S101) → List (S90) → Option (Bool)
 | 0, _, _, _, _, _, _ => none
 | k + 1, x5, x62, x129000, x129001, x130000, x130001 => if x62 = true then (some false) else (q20.l1 k x5 0 x129000 x129001 x130000 x130001)
def q20.l1 : Nat → Int → Int → List ByteArray → List (S41) → List (S101) → List (S90) → Option (Bool)
 | 0, _, _, _, _, _, _ => none
 | k + 1, x5, x7, x129000, x129001, x130000, x130001 => if x7 < x5 then (if 0 ≤ x7 then (if x7 < (x130000.length : Int) then (if 0 ≤ x5 then (if x5 < (x130000.length : Int) then (if ((((q76 x130000 x7).f0).toList) == (((q76 x130000 x5).f0).toList) && (((q76 x130000 x7).f1) == ((q76 x130000 x5).f1))) = true then (some false) else (q20.l1 k x5 (wrap64 (x7 + 1)) x129000 x129001 x130000 x130001)) else (none)) else (none)) else (none)) else (none)) else (q20.l0 k (wrap64 (x5 + 1)) x129000 x129001 x130000 x130001)
def q20.l2 : Nat → Int → List ByteArray → List (S41) → List (S101) → List (S90) → Option (Bool)
 | 0, _, _, _, _, _ => none
 | k + 1, x8, x129000, x129001, x130000, x130001 => if x8 < (x130001.length : Int) then (if 0 ≤ x8 then ((q29.f k x129000 ((q84 x130001 x8).f0)).bind fun t139 => (if t139 = true then ((q32.f k ((q84 x130001 x8).f1)).bind fun t140 => (if t140 < 0 then (some false) else (if ((q84 x130001 x8).f2) < (-1000000) then (some false) else (if ((q84 x130001 x8).f2) > 1000000 then (some false) else (q20.l2 k (wrap64 (x8 + 1)) x129000 x129001 x130000 x130001))))) else (some false))) else (none)) else (some true)
end
def q20.f (k : Nat) (l0_0 : List ByteArray) (l0_1 : List (S41)) (l1_0 : List (S101)) (l1_1 : List (S90)) : Option (Bool) := if (l1_0.length : Int) > 3 then (q20.j0 k true l0_0 l0_1 l1_0 l1_1) else (if (l1_1.length : Int) > 2 then (q20.j0 k true l0_0 l0_1 l1_0 l1_1) else (q20.j0 k ((wrap64 ((l1_0.length : Int) + (l1_1.length : Int))) == 0) l0_0 l0_1 l1_0 l1_1))
theorem q20.mono_l : ∀ k, (∀ y0 y1 y2 y3 y4, LeO (q20.j0 k y0 y1 y2 y3 y4) (q20.j0 (k + 1) y0 y1 y2 y3 y4)) ∧ (∀ y0 y1 y2 y3 y4, LeO (q20.l0 k y0 y1 y2 y3 y4) (q20.l0 (k + 1) y0 y1 y2 y3 y4)) ∧ (∀ y0 y1 y2 y3 y4 y5, LeO (q20.j2 k y0 y1 y2 y3 y4 y5) (q20.j2 (k + 1) y0 y1 y2 y3 y4 y5)) ∧ (∀ y0 y1 y2 y3 y4 y5, LeO (q20.l1 k y0 y1 y2 y3 y4 y5) (q20.l1 (k + 1) y0 y1 y2 y3 y4 y5)) ∧ (∀ y0 y1 y2 y3 y4, LeO (q20.l2 k y0 y1 y2 y3 y4) (q20.l2 (k + 1) y0 y1 y2 y3 y4))
 | 0 => ⟨fun _ _ _ _ _ r h => by simp [q20.j0] at h, fun _ _ _ _ _ r h => by simp [q20.l0] at h, fun _ _ _ _ _ _ r h => by simp [q20.j2] at h, fun _ _ _ _ _ _ r h => by simp [q20.l1] at h, fun _ _ _ _ _ r h => by simp [q20.l2] at h⟩
 | k + 1 => by
  obtain ⟨ih0, ih1, ih2, ih3, ih4⟩ := q20.mono_l k
  refine ⟨?_, ?_, ?_, ?_, ?_⟩
  intro y0 y1 y2 y3 y4
  unfold q20.j0
  rotate_left
  intro y0 y1 y2 y3 y4
  unfold q20.l0
  rotate_left
  intro y0 y1 y2 y3 y4 y5
  unfold q20.j2
  rotate_left
  intro y0 y1 y2 y3 y4 y5
  unfold q20.l1
  rotate_left
  intro y0 y1 y2 y3 y4
  unfold q20.l2
  rotate_left
  all_goals repeat' first
   | (with_reducible exact ih0 _ _ _ _ _)
   | (with_reducible exact ih1 _ _ _ _ _)
   | (with_reducible exact ih2 _ _ _ _ _ _)
   | (with_reducible exact ih3 _ _ _ _ _ _)
   | (with_reducible exact ih4 _ _ _ _ _)
   | (with_reducible exact q29.mono _ _ _)
   | (with_reducible exact q25.mono _ _ _)
   | (with_reducible exact q32.mono _ _)
   | (with_reducible exact q22.mono _ _ _ _)
   | (with_reducible exact LeO.refl _)
   | (with_reducible exact LeO.none _)
   | (with_reducible refine LeO.ite ?_ ?_)
   | (with_reducible refine LeO.bind ?_ (fun _ => ?_))
   | exact ih0 _ _ _ _ _
   | exact ih1 _ _ _ _ _
   | exact ih2 _ _ _ _ _ _
   | exact ih3 _ _ _ _ _ _
   | exact ih4 _ _ _ _ _
   | exact q29.mono _ _ _
   | exact q25.mono _ _ _
   | exact q32.mono _ _
   | exact q22.mono _ _ _ _
   | exact LeO.none _
   | refine LeO.ite ?_ ?_
   | refine LeO.bind ?_ (fun _ => ?_)
theorem q20.mono : ∀ a0 a1 a2 a3 k, LeO (q20.f k a0 a1 a2 a3) (q20.f (k + 1) a0 a1 a2 a3) := by
 intro a0 a1 a2 a3 k
 obtain ⟨ih0, ih1, ih2, ih3, ih4⟩ := q20.mono_l k
 unfold q20.f
 repeat' first
  | (with_reducible exact ih0 _ _ _ _ _)
  | (with_reducible exact ih1 _ _ _ _ _)
  | (with_reducible exact ih2 _ _ _ _ _ _)
  | (with_reducible exact ih3 _ _ _ _ _ _)
  | (with_reducible exact ih4 _ _ _ _ _)
  | (with_reducible exact q29.mono _ _ _)
  | (with_reducible exact q25.mono _ _ _)
  | (with_reducible exact q32.mono _ _)
  | (with_reducible exact q22.mono _ _ _ _)
  | (with_reducible exact LeO.refl _)
  | (with_reducible exact LeO.none _)
  | (with_reducible refine LeO.ite ?_ ?_)
  | (with_reducible refine LeO.bind ?_ (fun _ => ?_))
  | exact ih0 _ _ _ _ _
  | exact ih1 _ _ _ _ _
  | exact ih2 _ _ _ _ _ _
  | exact ih3 _ _ _ _ _ _
  | exact ih4 _ _ _ _ _
  | exact q29.mono _ _ _
  | exact q25.mono _ _ _
  | exact q32.mono _ _
  | exact q22.mono _ _ _ _
  | exact LeO.none _
  | refine LeO.ite ?_ ?_
  | refine LeO.bind ?_ (fun _ => ?_)
def q20.T6 : Bool × List (List Nat × List Nat) := (true, [([], []), ([], []), ([1], [1]), ([], []), ([2, 3], [2, 3]), ([4], [4]), ([5], [5]), ([0, 6], [0, 6]), ([7, 7, 0, 1, 2, 3, 4, 5, 6, 7], [7])])
def q20.B6 : List Nat := [0, 0, 2, 0, 14, 30, 62, 127, 255]
theorem q20.tab6 : rtab .any (opsOf Try.f54 6) = q20.T6 := by kernel_rfl
theorem q20.bits6 : waitsOk q20.T6.2 q20.B6 = true := by kernel_rfl
def q20.T7 : Bool × List (List Nat × List Nat) := (true, [([], []), ([0], [0]), ([1], [1]), ([2], [2]), ([3, 2], [2, 3]), ([2], [2]), ([4, 5, 2], [2, 4, 5]), ([6, 2], [2, 6]), ([7, 2], [2, 7]), ([2], [2]), ([9, 2], [2, 9]), ([2], [2]), ([10, 11, 2], [2, 10, 11]), ([12, 2], [2, 12]), ([13, 2], [2, 13]), ([8, 14, 2, 2], [2, 8, 14]), ([15, 2], [2, 15]), ([2, 16], [2, 16])])
def q20.B7 : List Nat := [0, 1, 3, 7, 15, 7, 63, 127, 255, 7, 519, 7, 3591, 7687, 15879, 32767, 65535, 131071]
theorem q20.tab7 : rtab .any (opsOf Try.f54 7) = q20.T7 := by kernel_rfl
theorem q20.bits7 : waitsOk q20.T7.2 q20.B7 = true := by kernel_rfl
def q20.T12 : Bool × List (List Nat × List Nat) := (true, [([], []), ([0], [0]), ([], []), ([1, 2], [1, 2]), ([3], [3]), ([], []), ([5], [5]), ([], []), ([6, 7], [6, 7]), ([8], [8]), ([4, 9], [4, 9])])
def q20.B12 : List Nat := [0, 1, 0, 7, 15, 0, 32, 0, 224, 480, 1023]
theorem q20.tab12 : rtab .any (opsOf Try.f54 12) = q20.T12 := by kernel_rfl
theorem q20.bits12 : waitsOk q20.T12.2 q20.B12 = true := by kernel_rfl
set_option maxHeartbeats 8000000 in
set_option maxRecDepth 100000 in
theorem q20.calls (k : Nat) (A0_0 : Option Addr) (c0_0 : Nat) (l0_0 : List ByteArray) (A0_1 : Option Addr) (c0_1 : Nat) (l0_1 : List (S41)) (A1_0 : Option Addr) (c1_0 : Nat) (l1_0 : List (S101)) (A1_1 : Option Addr) (c1_1 : Nat) (l1_1 : List (S90)) (r : Bool) (w : World) (hr0_0 : Kd.C Kd.string w A0_0 l0_0.length l0_0) (hc0_0 : l0_0.length ≤ c0_0) (hr0_1 : Kd.C k41 w A0_1 l0_1.length l0_1) (hc0_1 : l0_1.length ≤ c0_1) (hr1_0 : Kd.C k101 w A1_0 l1_0.length l1_0) (hc1_0 : l1_0.length ≤ c1_0) (hr1_1 : Kd.C k90 w A1_1 l1_1.length l1_1) (hc1_1 : l1_1.length ≤ c1_1) (h : q20.f k l0_0 l0_1 l1_0 l1_1 = some r) :
 Calls Try.prog 54 #[.agg #[.slice A0_0 l0_0.length c0_0, .slice A0_1 l0_1.length c0_1], .agg #[.slice A1_0 l1_0.length c1_0, .slice A1_1 l1_1.length c1_1]] w fun e w' => e = .returned (.bool r) ∧ Below w.heap.size w w' := by
 have hu25 := Try.underlying25
 have hu45 := Try.underlying45
 have hu101 := Try.underlying101
 have hu90 := Try.underlying90
 have HR0_0 := q56.mk hr0_0
 have HC0_0 := q56.mk hc0_0
 clear hr0_0 hc0_0
 have HR0_1 := q56.mk hr0_1
 have HC0_1 := q56.mk hc0_1
 clear hr0_1 hc0_1
 have HR1_0 := q56.mk hr1_0
 have HC1_0 := q56.mk hc1_0
 clear hr1_0 hc1_0
 have HR1_1 := q56.mk hr1_1
 have HC1_1 := q56.mk hc1_1
 clear hr1_1 hc1_1
 have HB := q56.mk (Below.refl w.heap.size w)
 unfold q20.f at h
 have H := h
 clear h
 have HC3 := q56.mk H
 clear H
 go_enter Try.func54, Try.ntmps54
 go_upto_region 1 with (first | ((with_reducible refine q71 (N := 2) rfl ?_); (try (refine gate_guard (by rfl) ?_; dsimp only)); refine bx_ 2 #[.slice A0_0 l0_0.length c0_0, .slice A0_1 l0_1.length c0_1] 25 ?_; intro gb128 hg w4 hbox hb; have BK128 := q56.mk (hbox); have GW128 := zz_ (w := w) hg; have GE128 := zz_ (w := w) hg; replace HB := hb_ HB hb;  clear hb hbox hg) | ((with_reducible refine q71 (N := 3) rfl ?_); (try (refine gate_guard (by rfl) ?_; dsimp only)); refine bx_ 3 #[.slice A1_0 l1_0.length c1_0, .slice A1_1 l1_1.length c1_1] 45 ?_; intro gb129 hg w5 hbox hb; have BK129 := q56.mk (hbox); have GW129 := zz_ (w := w) hg; have GE129 := zz_ (w := w) hg; replace HB := hb_ HB hb; have NB128_129 := ne1_ hg BK128; have NB129_128 := ne2_ hg BK128; replace BK128 := bb_ BK128 hb;  clear hb hbox hg))
 (try simp only [Act.put, List.setIfInBounds_toArray, List.set_cons_zero, List.set_cons_succ])
 go_cut [29] (fun v29 wc => ∃ (kq : Nat) (x29_2 : Bool), v29 = .bool x29_2 ∧ q56 (q20.j0 kq x29_2 l0_0 l0_1 l1_0 l1_1 = some r) ∧ q56 (kq ≤ k) ∧ q56 (wc.heap[gb128]? = some (.cells #[(.slice A0_0 l0_0.length c0_0), (.slice A0_1 l0_1.length c0_1)] 25 (0, 0))) ∧ q56 (wc.heap[gb129]? = some (.cells #[(.slice A1_0 l1_0.length c1_0), (.slice A1_1 l1_1.length c1_1)] 45 (0, 0))) ∧ q56 (Below w.heap.size w wc))
 case first =>
  have H := HC3.out
  clear HC3
  by_cases c6 : (l1_0.length : Int) > 3
  ·rw [if_pos c6] at H
   have c6b0 := decide_eq_true c6
   have c6b1 : decide (3 < l1_0.length) = true := decide_eq_true (by omega)
   clear c6
   (first | rw [c6b0] | (simp only [i64_w, i32_w]; rw [c6b0]) | skip)
   have H' := q56.mk H
   clear H
   have hnb7 := NB129_128.out
   have hnc7 := NB128_129.out
   obtain ⟨hcz8_0, hcz8_1, hfz8_0, hfz8_1⟩ := bs2_ BK129
   go_wp2
   go_meet
   case rel => exact ⟨_, (true), rf_, H', ⟨by first | omega | exact Nat.le_refl _⟩, ⟨gx_ BK128⟩, ⟨gx_ BK129⟩, ⟨hf_⟩⟩
  rw [if_neg c6] at H
  have c6b0 := decide_eq_false c6
  have c6b1 : decide (3 < l1_0.length) = false := decide_eq_false (by omega)
  clear c6
  (first | rw [c6b0] | (simp only [i64_w, i32_w]; rw [c6b0]) | skip)
  by_cases c9 : (l1_1.length : Int) > 2
  ·rw [if_pos c9] at H
   have c9b0 := decide_eq_true c9
   have c9b1 : decide (2 < l1_1.length) = true := decide_eq_true (by omega)
   clear c9
   have H' := q56.mk H
   clear H
   have hnb10 := NB129_128.out
   have hnc10 := NB128_129.out
   obtain ⟨hcz11_0, hcz11_1, hfz11_0, hfz11_1⟩ := bs2_ BK129
   go_wp2
   go_meet
   case rel => exact ⟨_, (true), rf_, H', ⟨by first | omega | exact Nat.le_refl _⟩, ⟨gx_ BK128⟩, ⟨gx_ BK129⟩, ⟨hf_⟩⟩
  rw [if_neg c9] at H
  have c9b0 := decide_eq_false c9
  have c9b1 : decide (2 < l1_1.length) = false := decide_eq_false (by omega)
  clear c9
  have H' := q56.mk H
  clear H
  have hnb12 := NB129_128.out
  have hnc12 := NB128_129.out
  obtain ⟨hcz13_0, hcz13_1, hfz13_0, hfz13_1⟩ := bs2_ BK129
  go_wp2
  go_meet
  case rel => exact ⟨_, (((wrap64 ((l1_0.length : Int) + (l1_1.length : Int))) == 0)), rf_, H', ⟨by first | omega | exact Nat.le_refl _⟩, ⟨gx_ BK128⟩, ⟨gx_ BK129⟩, ⟨hf_⟩⟩
 case rest =>
 clear HC3
 obtain ⟨kq, x29_2, rfl, HA, HJ2, BK128, BK129, HB⟩ := hcut
 cases kq with
 | zero => exact absurd HA.out (by simp [q20.j0])
 | succ kj2 =>
 have H := HA.out
 clear HA
 simp only [q20.j0] at H
 by_cases c14 : x29_2 = true
 ·subst c14
  replace H := it_ H
  obtain rfl := Option.some.inj H
  go_wp2
  go_ret
  exact ⟨er_, hf_⟩
 replace c14 := Bool.eq_false_iff.mpr c14
 subst c14
 replace H := ie_ H
 have H' := q56.mk H
 clear H
 go_wp2
 go_loopg [5] kj2 (fun kq v5 w' => ∃ (x5_2 : Int), v5 = .int .i64 x5_2 ∧ q56 (q20.l0 kq x5_2 l0_0 l0_1 l1_0 l1_1 = some r) ∧ q56 (kq ≤ kj2) ∧ q56 (w'.heap[gb128]? = some (.cells #[(.slice A0_0 l0_0.length c0_0), (.slice A0_1 l0_1.length c0_1)] 25 (0, 0))) ∧ q56 (w'.heap[gb129]? = some (.cells #[(.slice A1_0 l1_0.length c1_0), (.slice A1_1 l1_1.length c1_1)] 45 (0, 0))) ∧ q56 (Below w.heap.size w w'))
 case atStart => exact ⟨(0), rf_, H', ⟨Nat.le_refl _⟩, ⟨gx_ BK128⟩, ⟨gx_ BK129⟩, ⟨hf_⟩⟩
 case round =>
 clear H'
 obtain ⟨x5_2, rfl, HA, HK2, BK128, BK129, HB⟩ := hrel
 cases gk with
 | zero => exact absurd HA.out (by simp [q20.l0])
 | succ k2 =>
 have H := HA.out
 clear HA
 simp only [q20.l0] at H
 by_cases c15 : x5_2 < (l1_0.length : Int)
 rotate_left
 ·rw [if_neg c15] at H
  have c15b0 := decide_eq_false c15
  clear c15
  have H' := q56.mk H
  clear H
  have hnb38 := NB129_128.out
  have hnc38 := NB128_129.out
  obtain ⟨hcz39_0, hcz39_1, hfz39_0, hfz39_1⟩ := bs2_ BK129
  go_wp2
  go_loopg [8] k2 (fun kq v8 w' => ∃ (x8_3 : Int), v8 = .int .i64 x8_3 ∧ q56 (q20.l2 kq x8_3 l0_0 l0_1 l1_0 l1_1 = some r) ∧ q56 (kq ≤ k2) ∧ q56 (w'.heap[gb128]? = some (.cells #[(.slice A0_0 l0_0.length c0_0), (.slice A0_1 l0_1.length c0_1)] 25 (0, 0))) ∧ q56 (w'.heap[gb129]? = some (.cells #[(.slice A1_0 l1_0.length c1_0), (.slice A1_1 l1_1.length c1_1)] 45 (0, 0))) ∧ q56 (Below w.heap.size w w'))
  case atStart => exact ⟨(0), rf_, H', ⟨Nat.le_refl _⟩, ⟨gx_ BK128⟩, ⟨gx_ BK129⟩, ⟨hf_⟩⟩
  case round =>
  clear H'
  clear c15b0 hcz39_0 hcz39_1 hfz39_0 hfz39_1
  obtain ⟨x8_3, rfl, HA, HK3, BK128, BK129, HB⟩ := hrel
  cases gk with
  | zero => exact absurd HA.out (by simp [q20.l2])
  | succ k3 =>
  have H := HA.out
  clear HA
  simp only [q20.l2] at H
  by_cases c40 : x8_3 < (l1_1.length : Int)
  rotate_left
  ·rw [if_neg c40] at H
   replace c40 := decide_eq_false c40
   obtain rfl := Option.some.inj H
   have hnb90 := NB129_128.out
   have hnc90 := NB128_129.out
   obtain ⟨hcz91_0, hcz91_1, hfz91_0, hfz91_1⟩ := bs2_ BK129
   go_wp2
   go_ret
   exact ⟨er_, hf_⟩
  rw [if_pos c40] at H
  replace c40 := decide_eq_true c40
  by_cases c41 : 0 ≤ x8_3
  rotate_left
  ·rw [if_neg c41] at H
   exact absurd H (by simp)
  rw [if_pos c41] at H
  replace c41 := decide_eq_true c41
  replace H := bd_ H
  obtain ⟨t139, A42, H⟩ := H
  by_cases c43 : t139 = true
  rotate_left
  ·replace c43 := Bool.eq_false_iff.mpr c43
   subst c43
   replace H := ie_ H
   obtain rfl := Option.some.inj H
   have hnb83 := NB129_128.out
   have hnc83 := NB128_129.out
   obtain ⟨hcz84_0, hcz84_1, hfz84_0, hfz84_1⟩ := bs2_ BK129
   obtain ⟨ad137, e137, hx137_0, hx137_1, hx137_2, p137, q137⟩ := au_T90 HR1_1 HB (x8_3)
   cases e137
   go_wp2_with (first | ((with_reducible refine q71 (N := 9) rfl ?_); (try (refine gate_guard (by rfl) ?_; dsimp only)); refine bx_ 9 #[.string (⟨#[]⟩ : ByteArray), .string (⟨#[]⟩ : ByteArray), .int .i64 0] 90 ?_; intro gb138 hg w85 hbox hb; have BK138 := q56.mk (hbox); have GW138 := zz_ (w := w) hg; have GE138 := zz_ (w := w) hg; replace HB := hb_ HB hb; have NB128_138 := ne1_ hg BK128; have NB138_128 := ne2_ hg BK128; replace BK128 := bb_ BK128 hb; have NB129_138 := ne1_ hg BK129; have NB138_129 := ne2_ hg BK129; replace BK129 := bb_ BK129 hb;  clear hb hbox hg; have hnb86 := NB138_128.out; have hnc86 := NB128_138.out; have hnb87 := NB138_129.out; have hnc87 := NB129_138.out; obtain ⟨hcz88_0, hcz88_1, hcz88_2, hfz88_0, hfz88_1, hfz88_2⟩ := bs3_ BK138; obtain ⟨hcz89_0, hcz89_1, hfz89_0, hfz89_1⟩ := bs2_ BK128) | ((with_reducible refine q70 (f := 18) rfl ?_); refine gl_ (some 95) Try.func18 #[.slice A0_0 l0_0.length c0_0, .string ((q84 l1_1 x8_3).f0)] ?_; (with_reducible refine (q29.calls k3 _ _ l0_0 ((q84 l1_1 x8_3).f0) false _ ?side1 ?side2 A42.out).mono ?_); (case side1 => exact Kd.C_below HR0_0.out hf_); (case side2 => exact HC0_0.out); rintro e w' ⟨rfl, ⟨nd, rfl⟩⟩; refine ⟨_, rfl, ?_⟩))
   go_ret
   exact ⟨er_, hf_⟩
  subst c43
  replace H := it_ H
  replace H := bd_ H
  obtain ⟨t140, A44, H⟩ := H
  by_cases c45 : t140 < 0
  ·rw [if_pos c45] at H
   replace c45 := decide_eq_true c45
   obtain rfl := Option.some.inj H
   have hnb46 := NB129_128.out
   have hnc46 := NB128_129.out
   obtain ⟨hcz47_0, hcz47_1, hfz47_0, hfz47_1⟩ := bs2_ BK129
   obtain ⟨ad137, e137, hx137_0, hx137_1, hx137_2, p137, q137⟩ := au_T90 HR1_1 HB (x8_3)
   cases e137
   go_wp2_with (first | ((with_reducible refine q71 (N := 9) rfl ?_); (try (refine gate_guard (by rfl) ?_; dsimp only)); refine bx_ 9 #[.string (⟨#[]⟩ : ByteArray), .string (⟨#[]⟩ : ByteArray), .int .i64 0] 90 ?_; intro gb138 hg w48 hbox hb; have BK138 := q56.mk (hbox); have GW138 := zz_ (w := w) hg; have GE138 := zz_ (w := w) hg; replace HB := hb_ HB hb; have NB128_138 := ne1_ hg BK128; have NB138_128 := ne2_ hg BK128; replace BK128 := bb_ BK128 hb; have NB129_138 := ne1_ hg BK129; have NB138_129 := ne2_ hg BK129; replace BK129 := bb_ BK129 hb;  clear hb hbox hg; have hnb49 := NB138_128.out; have hnc49 := NB128_138.out; have hnb50 := NB138_129.out; have hnc50 := NB129_138.out; obtain ⟨hcz51_0, hcz51_1, hcz51_2, hfz51_0, hfz51_1, hfz51_2⟩ := bs3_ BK138; obtain ⟨hcz52_0, hcz52_1, hfz52_0, hfz52_1⟩ := bs2_ BK128) | ((with_reducible refine q70 (f := 18) rfl ?_); refine gl_ (some 95) Try.func18 #[.slice A0_0 l0_0.length c0_0, .string ((q84 l1_1 x8_3).f0)] ?_; (with_reducible refine (q29.calls k3 _ _ l0_0 ((q84 l1_1 x8_3).f0) true _ ?side1 ?side2 A42.out).mono ?_); (case side1 => exact Kd.C_below HR0_0.out hf_); (case side2 => exact HC0_0.out); rintro e w' ⟨rfl, ⟨nd, rfl⟩⟩; refine ⟨_, rfl, ?_⟩) | (go_at_call 83; (with_reducible refine (q32.calls k3 ((q84 l1_1 x8_3).f1) t140 _ A44.out).mono ?_); rintro e w53 ⟨rfl, hb⟩; replace BK128 := q56.mk (q62 (g := gb128) (o := .cells #[.slice A0_0 l0_0.length c0_0, .slice A0_1 l0_1.length c0_1] 25 (0, 0)) (by (with_reducible repeat (first | refine q65 ?_ _ | refine q64 ?_ | refine q61 ?_ _ | refine q66 ?_ NB128_138.out _)); exact BK128.out) hb); replace BK129 := q56.mk (q62 (g := gb129) (o := .cells #[.slice A1_0 l1_0.length c1_0, .slice (some ad137) l1_1.length c1_1] 45 (0, 0)) (by (with_reducible repeat (first | refine q65 ?_ _ | refine q64 ?_ | refine q61 ?_ _ | refine q66 ?_ NB129_138.out _)); exact BK129.out) hb); replace BK138 := q56.mk (q62 (g := gb138) (o := .cells #[.string ((q84 l1_1 x8_3).f0), .string ((q84 l1_1 x8_3).f1), .int .i64 ((q84 l1_1 x8_3).f2)] 90 (0, 0)) (by (with_reducible repeat (first | refine q65 ?_ _ | refine q64 ?_ | refine q61 ?_ _)); refine q68 (cs := #[.string ((q84 l1_1 x8_3).f0), .string ((q84 l1_1 x8_3).f1), .int .i64 0]) ?_ 2 _ rfl; (with_reducible repeat (first | refine q65 ?_ _ | refine q64 ?_ | refine q61 ?_ _)); refine q68 (cs := #[.string ((q84 l1_1 x8_3).f0), .string (⟨#[]⟩ : ByteArray), .int .i64 0]) ?_ 1 _ rfl; (with_reducible repeat (first | refine q65 ?_ _ | refine q64 ?_ | refine q61 ?_ _)); refine q68 (cs := #[.string (⟨#[]⟩ : ByteArray), .string (⟨#[]⟩ : ByteArray), .int .i64 0]) ?_ 0 _ rfl; (with_reducible repeat (first | refine q65 ?_ _ | refine q64 ?_ | refine q61 ?_ _)); exact BK138.out) hb); replace HB := hb_ HB hb;  (try clear hb)))
   go_ret
   exact ⟨er_, hf_⟩
  rw [if_neg c45] at H
  replace c45 := decide_eq_false c45
  by_cases c54 : ((q84 l1_1 x8_3).f2) < (-1000000)
  ·rw [if_pos c54] at H
   replace c54 := decide_eq_true c54
   obtain rfl := Option.some.inj H
   have hnb55 := NB129_128.out
   have hnc55 := NB128_129.out
   obtain ⟨hcz56_0, hcz56_1, hfz56_0, hfz56_1⟩ := bs2_ BK129
   obtain ⟨ad137, e137, hx137_0, hx137_1, hx137_2, p137, q137⟩ := au_T90 HR1_1 HB (x8_3)
   cases e137
   go_wp2_with (first | ((with_reducible refine q71 (N := 9) rfl ?_); (try (refine gate_guard (by rfl) ?_; dsimp only)); refine bx_ 9 #[.string (⟨#[]⟩ : ByteArray), .string (⟨#[]⟩ : ByteArray), .int .i64 0] 90 ?_; intro gb138 hg w57 hbox hb; have BK138 := q56.mk (hbox); have GW138 := zz_ (w := w) hg; have GE138 := zz_ (w := w) hg; replace HB := hb_ HB hb; have NB128_138 := ne1_ hg BK128; have NB138_128 := ne2_ hg BK128; replace BK128 := bb_ BK128 hb; have NB129_138 := ne1_ hg BK129; have NB138_129 := ne2_ hg BK129; replace BK129 := bb_ BK129 hb;  clear hb hbox hg; have hnb58 := NB138_128.out; have hnc58 := NB128_138.out; have hnb59 := NB138_129.out; have hnc59 := NB129_138.out; obtain ⟨hcz60_0, hcz60_1, hcz60_2, hfz60_0, hfz60_1, hfz60_2⟩ := bs3_ BK138; obtain ⟨hcz61_0, hcz61_1, hfz61_0, hfz61_1⟩ := bs2_ BK128) | ((with_reducible refine q70 (f := 18) rfl ?_); refine gl_ (some 95) Try.func18 #[.slice A0_0 l0_0.length c0_0, .string ((q84 l1_1 x8_3).f0)] ?_; (with_reducible refine (q29.calls k3 _ _ l0_0 ((q84 l1_1 x8_3).f0) true _ ?side1 ?side2 A42.out).mono ?_); (case side1 => exact Kd.C_below HR0_0.out hf_); (case side2 => exact HC0_0.out); rintro e w' ⟨rfl, ⟨nd, rfl⟩⟩; refine ⟨_, rfl, ?_⟩) | (go_at_call 83; (with_reducible refine (q32.calls k3 ((q84 l1_1 x8_3).f1) t140 _ A44.out).mono ?_); rintro e w62 ⟨rfl, hb⟩; replace BK128 := q56.mk (q62 (g := gb128) (o := .cells #[.slice A0_0 l0_0.length c0_0, .slice A0_1 l0_1.length c0_1] 25 (0, 0)) (by (with_reducible repeat (first | refine q65 ?_ _ | refine q64 ?_ | refine q61 ?_ _ | refine q66 ?_ NB128_138.out _)); exact BK128.out) hb); replace BK129 := q56.mk (q62 (g := gb129) (o := .cells #[.slice A1_0 l1_0.length c1_0, .slice (some ad137) l1_1.length c1_1] 45 (0, 0)) (by (with_reducible repeat (first | refine q65 ?_ _ | refine q64 ?_ | refine q61 ?_ _ | refine q66 ?_ NB129_138.out _)); exact BK129.out) hb); replace BK138 := q56.mk (q62 (g := gb138) (o := .cells #[.string ((q84 l1_1 x8_3).f0), .string ((q84 l1_1 x8_3).f1), .int .i64 ((q84 l1_1 x8_3).f2)] 90 (0, 0)) (by (with_reducible repeat (first | refine q65 ?_ _ | refine q64 ?_ | refine q61 ?_ _)); refine q68 (cs := #[.string ((q84 l1_1 x8_3).f0), .string ((q84 l1_1 x8_3).f1), .int .i64 0]) ?_ 2 _ rfl; (with_reducible repeat (first | refine q65 ?_ _ | refine q64 ?_ | refine q61 ?_ _)); refine q68 (cs := #[.string ((q84 l1_1 x8_3).f0), .string (⟨#[]⟩ : ByteArray), .int .i64 0]) ?_ 1 _ rfl; (with_reducible repeat (first | refine q65 ?_ _ | refine q64 ?_ | refine q61 ?_ _)); refine q68 (cs := #[.string (⟨#[]⟩ : ByteArray), .string (⟨#[]⟩ : ByteArray), .int .i64 0]) ?_ 0 _ rfl; (with_reducible repeat (first | refine q65 ?_ _ | refine q64 ?_ | refine q61 ?_ _)); exact BK138.out) hb); replace HB := hb_ HB hb;  (try clear hb); obtain ⟨hcz63_0, hcz63_1, hcz63_2, hfz63_0, hfz63_1, hfz63_2⟩ := bs3_ BK138))
   go_ret
   exact ⟨er_, hf_⟩
  rw [if_neg c54] at H
  replace c54 := decide_eq_false c54
  by_cases c64 : ((q84 l1_1 x8_3).f2) > 1000000
  ·rw [if_pos c64] at H
   replace c64 := decide_eq_true c64
   obtain rfl := Option.some.inj H
   have hnb65 := NB129_128.out
   have hnc65 := NB128_129.out
   obtain ⟨hcz66_0, hcz66_1, hfz66_0, hfz66_1⟩ := bs2_ BK129
   obtain ⟨ad137, e137, hx137_0, hx137_1, hx137_2, p137, q137⟩ := au_T90 HR1_1 HB (x8_3)
   cases e137
   go_wp2_with (first | ((with_reducible refine q71 (N := 9) rfl ?_); (try (refine gate_guard (by rfl) ?_; dsimp only)); refine bx_ 9 #[.string (⟨#[]⟩ : ByteArray), .string (⟨#[]⟩ : ByteArray), .int .i64 0] 90 ?_; intro gb138 hg w67 hbox hb; have BK138 := q56.mk (hbox); have GW138 := zz_ (w := w) hg; have GE138 := zz_ (w := w) hg; replace HB := hb_ HB hb; have NB128_138 := ne1_ hg BK128; have NB138_128 := ne2_ hg BK128; replace BK128 := bb_ BK128 hb; have NB129_138 := ne1_ hg BK129; have NB138_129 := ne2_ hg BK129; replace BK129 := bb_ BK129 hb;  clear hb hbox hg; have hnb68 := NB138_128.out; have hnc68 := NB128_138.out; have hnb69 := NB138_129.out; have hnc69 := NB129_138.out; obtain ⟨hcz70_0, hcz70_1, hcz70_2, hfz70_0, hfz70_1, hfz70_2⟩ := bs3_ BK138; obtain ⟨hcz71_0, hcz71_1, hfz71_0, hfz71_1⟩ := bs2_ BK128) | ((with_reducible refine q70 (f := 18) rfl ?_); refine gl_ (some 95) Try.func18 #[.slice A0_0 l0_0.length c0_0, .string ((q84 l1_1 x8_3).f0)] ?_; (with_reducible refine (q29.calls k3 _ _ l0_0 ((q84 l1_1 x8_3).f0) true _ ?side1 ?side2 A42.out).mono ?_); (case side1 => exact Kd.C_below HR0_0.out hf_); (case side2 => exact HC0_0.out); rintro e w' ⟨rfl, ⟨nd, rfl⟩⟩; refine ⟨_, rfl, ?_⟩) | (go_at_call 83; (with_reducible refine (q32.calls k3 ((q84 l1_1 x8_3).f1) t140 _ A44.out).mono ?_); rintro e w72 ⟨rfl, hb⟩; replace BK128 := q56.mk (q62 (g := gb128) (o := .cells #[.slice A0_0 l0_0.length c0_0, .slice A0_1 l0_1.length c0_1] 25 (0, 0)) (by (with_reducible repeat (first | refine q65 ?_ _ | refine q64 ?_ | refine q61 ?_ _ | refine q66 ?_ NB128_138.out _)); exact BK128.out) hb); replace BK129 := q56.mk (q62 (g := gb129) (o := .cells #[.slice A1_0 l1_0.length c1_0, .slice (some ad137) l1_1.length c1_1] 45 (0, 0)) (by (with_reducible repeat (first | refine q65 ?_ _ | refine q64 ?_ | refine q61 ?_ _ | refine q66 ?_ NB129_138.out _)); exact BK129.out) hb); replace BK138 := q56.mk (q62 (g := gb138) (o := .cells #[.string ((q84 l1_1 x8_3).f0), .string ((q84 l1_1 x8_3).f1), .int .i64 ((q84 l1_1 x8_3).f2)] 90 (0, 0)) (by (with_reducible repeat (first | refine q65 ?_ _ | refine q64 ?_ | refine q61 ?_ _)); refine q68 (cs := #[.string ((q84 l1_1 x8_3).f0), .string ((q84 l1_1 x8_3).f1), .int .i64 0]) ?_ 2 _ rfl; (with_reducible repeat (first | refine q65 ?_ _ | refine q64 ?_ | refine q61 ?_ _)); refine q68 (cs := #[.string ((q84 l1_1 x8_3).f0), .string (⟨#[]⟩ : ByteArray), .int .i64 0]) ?_ 1 _ rfl; (with_reducible repeat (first | refine q65 ?_ _ | refine q64 ?_ | refine q61 ?_ _)); refine q68 (cs := #[.string (⟨#[]⟩ : ByteArray), .string (⟨#[]⟩ : ByteArray), .int .i64 0]) ?_ 0 _ rfl; (with_reducible repeat (first | refine q65 ?_ _ | refine q64 ?_ | refine q61 ?_ _)); exact BK138.out) hb); replace HB := hb_ HB hb;  (try clear hb); obtain ⟨hcz73_0, hcz73_1, hcz73_2, hfz73_0, hfz73_1, hfz73_2⟩ := bs3_ BK138))
   go_ret
   exact ⟨er_, hf_⟩
  rw [if_neg c64] at H
  replace c64 := decide_eq_false c64
  have H' := q56.mk H
  clear H
  have hnb74 := NB129_128.out
  have hnc74 := NB128_129.out
  obtain ⟨hcz75_0, hcz75_1, hfz75_0, hfz75_1⟩ := bs2_ BK129
  obtain ⟨ad137, e137, hx137_0, hx137_1, hx137_2, p137, q137⟩ := au_T90 HR1_1 HB (x8_3)
  cases e137
  go_wp2_with (first | ((with_reducible refine q71 (N := 9) rfl ?_); (try (refine gate_guard (by rfl) ?_; dsimp only)); refine bx_ 9 #[.string (⟨#[]⟩ : ByteArray), .string (⟨#[]⟩ : ByteArray), .int .i64 0] 90 ?_; intro gb138 hg w76 hbox hb; have BK138 := q56.mk (hbox); have GW138 := zz_ (w := w) hg; have GE138 := zz_ (w := w) hg; replace HB := hb_ HB hb; have NB128_138 := ne1_ hg BK128; have NB138_128 := ne2_ hg BK128; replace BK128 := bb_ BK128 hb; have NB129_138 := ne1_ hg BK129; have NB138_129 := ne2_ hg BK129; replace BK129 := bb_ BK129 hb;  clear hb hbox hg; have hnb77 := NB138_128.out; have hnc77 := NB128_138.out; have hnb78 := NB138_129.out; have hnc78 := NB129_138.out; obtain ⟨hcz79_0, hcz79_1, hcz79_2, hfz79_0, hfz79_1, hfz79_2⟩ := bs3_ BK138; obtain ⟨hcz80_0, hcz80_1, hfz80_0, hfz80_1⟩ := bs2_ BK128) | ((with_reducible refine q70 (f := 18) rfl ?_); refine gl_ (some 95) Try.func18 #[.slice A0_0 l0_0.length c0_0, .string ((q84 l1_1 x8_3).f0)] ?_; (with_reducible refine (q29.calls k3 _ _ l0_0 ((q84 l1_1 x8_3).f0) true _ ?side1 ?side2 A42.out).mono ?_); (case side1 => exact Kd.C_below HR0_0.out hf_); (case side2 => exact HC0_0.out); rintro e w' ⟨rfl, ⟨nd, rfl⟩⟩; refine ⟨_, rfl, ?_⟩) | (go_at_call 83; (with_reducible refine (q32.calls k3 ((q84 l1_1 x8_3).f1) t140 _ A44.out).mono ?_); rintro e w81 ⟨rfl, hb⟩; replace BK128 := q56.mk (q62 (g := gb128) (o := .cells #[.slice A0_0 l0_0.length c0_0, .slice A0_1 l0_1.length c0_1] 25 (0, 0)) (by (with_reducible repeat (first | refine q65 ?_ _ | refine q64 ?_ | refine q61 ?_ _ | refine q66 ?_ NB128_138.out _)); exact BK128.out) hb); replace BK129 := q56.mk (q62 (g := gb129) (o := .cells #[.slice A1_0 l1_0.length c1_0, .slice (some ad137) l1_1.length c1_1] 45 (0, 0)) (by (with_reducible repeat (first | refine q65 ?_ _ | refine q64 ?_ | refine q61 ?_ _ | refine q66 ?_ NB129_138.out _)); exact BK129.out) hb); replace BK138 := q56.mk (q62 (g := gb138) (o := .cells #[.string ((q84 l1_1 x8_3).f0), .string ((q84 l1_1 x8_3).f1), .int .i64 ((q84 l1_1 x8_3).f2)] 90 (0, 0)) (by (with_reducible repeat (first | refine q65 ?_ _ | refine q64 ?_ | refine q61 ?_ _)); refine q68 (cs := #[.string ((q84 l1_1 x8_3).f0), .string ((q84 l1_1 x8_3).f1), .int .i64 0]) ?_ 2 _ rfl; (with_reducible repeat (first | refine q65 ?_ _ | refine q64 ?_ | refine q61 ?_ _)); refine q68 (cs := #[.string ((q84 l1_1 x8_3).f0), .string (⟨#[]⟩ : ByteArray), .int .i64 0]) ?_ 1 _ rfl; (with_reducible repeat (first | refine q65 ?_ _ | refine q64 ?_ | refine q61 ?_ _)); refine q68 (cs := #[.string (⟨#[]⟩ : ByteArray), .string (⟨#[]⟩ : ByteArray), .int .i64 0]) ?_ 0 _ rfl; (with_reducible repeat (first | refine q65 ?_ _ | refine q64 ?_ | refine q61 ?_ _)); exact BK138.out) hb); replace HB := hb_ HB hb;  (try clear hb); obtain ⟨hcz82_0, hcz82_1, hcz82_2, hfz82_0, hfz82_1, hfz82_2⟩ := bs3_ BK138))
  go_roundg k3
  case measure => have := HJ2.out; have := HK2.out; have := HK3.out; omega
  case rel => exact ⟨(wrap64 (x8_3 + 1)), rf_, H', ⟨by have := HJ2.out; have := HK2.out; have := HK3.out; omega⟩, ⟨gx_ BK128⟩, ⟨gx_ BK129⟩, ⟨hf_⟩⟩
 rw [if_pos c15] at H
 have c15b0 := decide_eq_true c15
 clear c15
 by_cases c16 : 0 ≤ x5_2
 rotate_left
 ·rw [if_neg c16] at H
  exact absurd H (by simp)
 rw [if_pos c16] at H
 have c16b0 := decide_eq_true c16
 clear c16
 replace H := bd_ H
 obtain ⟨t131, A17, H⟩ := H
 have HC18 := q56.mk H
 clear H
 have hnb19 := NB129_128.out
 have hnc19 := NB128_129.out
 obtain ⟨hcz20_0, hcz20_1, hfz20_0, hfz20_1⟩ := bs2_ BK129
 try go_wp2
 replace BK128 := q56.mk (q64 BK128.out)
 replace BK129 := q56.mk (q64 BK129.out)
 replace HB := q56.mk (q58 HB.out)
 have p130 : 0 ≤ (x5_2 : Int) := od_
 have q130 : x5_2 < (l1_0.length : Int) := od_
 obtain ⟨ad130, e130, hx130_0, hx130_1⟩ := at_T101 HR1_0.out x5_2 p130 q130
 have hw130_1 := hx130_1
 have hw130_0 := hx130_0
 cases e130
 replace hx130_0 := rr_ HB hx130_0
 replace hx130_1 := rr_ HB hx130_1
 replace p130 := eq_true p130
 replace q130 := eq_true q130
 refine start_ (n := 9) (S := fun w' => w'.cell? ⟨gb128, 0, none⟩ = some (.slice A0_0 l0_0.length c0_0) ∧ w'.cell? ⟨gb128, 1, none⟩ = some (.slice A0_1 l0_1.length c0_1) ∧ w'.cell? ⟨gb129, 0, none⟩ = some (.slice (some ad130) l1_0.length c1_0) ∧ w'.cell? ⟨gb129, 1, none⟩ = some (.slice A1_1 l1_1.length c1_1) ∧ w'.cell? (ad130.add ((x5_2).toNat * 2)) = some (.string ((q76 l1_0 x5_2).f0)) ∧ w'.cell? ⟨(ad130.add ((x5_2).toNat * 2)).block, (ad130.add ((x5_2).toNat * 2)).off + 1, none⟩ = some (.int .i64 ((q76 l1_0 x5_2).f1))) (ds := []) (bits_ 9 0) (by kernel_rfl) rfl rfl ⟨(bk0_ BK128 :), (bk1_ BK128 :), (bk0_ BK129 :), (bk1_ BK129 :), (rr_ HB hw130_0 :), (rr_ HB hw130_1 :)⟩ (fun hHeld => ?_); refine with_tabW q20.tab6 q20.bits6 (fun HT_ HW_ => ?_)
 generalize wr.drew = w21 at BK128 BK129 HB hx130_0 hx130_1 hHeld ⊢
 refine pz_ 1 (some 38) (bits_ 9 2) HT_.out ?_
 refine pz_ 3 (some 40) (bits_ 9 10) HT_.out ?_
 refine tz_ 0 (some 37) (bits_ 9 11) HT_.out HW_.out hHeld ?_ (hy := by rintro w' ⟨s0, s1, s2, s3, s4, s5⟩; go_simp; with_reducible rfl)
 refine tz_ 2 (some 39) (bits_ 9 15) HT_.out HW_.out hHeld ?_ (hy := by rintro w' ⟨s0, s1, s2, s3, s4, s5⟩; go_simp; with_reducible rfl)
 refine pz_ 4 (some 41) (bits_ 9 31) HT_.out ?_
 refine pz_ 5 (some 42) (bits_ 9 63) HT_.out ?_
 refine tz_ 6 (some 43) (bits_ 9 127) HT_.out HW_.out hHeld ?_ (hy := by rintro w' ⟨s0, s1, s2, s3, s4, s5⟩; go_simp; with_reducible rfl)
 refine oz_ 7 (some 44) (bits_ 9 255) HT_.out (fun K hK => ?_)
 refine go_s_ Try.func46 #[.agg #[.slice A0_0 l0_0.length c0_0, .slice A0_1 l0_1.length c0_1], .string ((q76 l1_0 x5_2).f0)] ?_
 with_reducible refine (q22.calls k2 _ _ l0_0 _ _ l0_1 ((q76 l1_0 x5_2).f0) t131 _ ?side1 ?side2 ?side3 ?side4 A17.out).mono ?_
 (case side1 => exact kc_ HR0_0 HB)
 (case side2 => exact HC0_0.out)
 (case side3 => exact kc_ HR0_1 HB)
 (case side4 => exact HC0_1.out)
 rintro e w22 ⟨rfl, hb⟩
 refine ⟨_, rfl, ?_⟩
 replace BK128 := bb_ BK128 hb
 replace BK129 := bb_ BK129 hb
 replace HB := hb_ HB hb
 clear hb
 refine hK.out _ _ ⟨(bk0_ BK128 :), (bk1_ BK128 :), (bk0_ BK129 :), (bk1_ BK129 :), (rr_ HB hw130_0 :), (rr_ HB hw130_1 :)⟩ (fun hHeld => ?_)
 clear hK K
 refine nz_ (some 44) ?_
 refine pz_ 8 (some 6) (bits_ 9 511) HT_.out ?_
 refine done_ (done_of HT_.out (by kernel_rfl)) ?_
 go_upto_region 7 with (fail)
 go_cut [62] (fun v62 wc => ∃ (kq : Nat) (x62_17 : Bool), v62 = .bool x62_17 ∧ q56 (q20.j2 kq x5_2 x62_17 l0_0 l0_1 l1_0 l1_1 = some r) ∧ q56 (kq ≤ k2) ∧ q56 (wc.heap[gb128]? = some (.cells #[(.slice A0_0 l0_0.length c0_0), (.slice A0_1 l0_1.length c0_1)] 25 (0, 0))) ∧ q56 (wc.heap[gb129]? = some (.cells #[(.slice (some ad130) l1_0.length c1_0), (.slice A1_1 l1_1.length c1_1)] 45 (0, 0))) ∧ q56 (Below w.heap.size w wc))
 case first =>
  have H := HC18.out
  clear HC18
  by_cases c23 : t131 < 0
  ·rw [if_pos c23] at H
   have c23b0 := decide_eq_true c23
   clear c23
   (first | rw [c23b0] | (simp only [i64_w, i32_w]; rw [c23b0]) | skip)
   have H' := q56.mk H
   clear H
   try go_wp2
   replace BK128 := q56.mk (q64 BK128.out)
   replace BK129 := q56.mk (q64 BK129.out)
   replace HB := q56.mk (q58 HB.out)
   refine start_ (n := 18) (S := fun w' => True) (ds := []) (bits_ 18 0) (by kernel_rfl) rfl rfl trivial (fun hHeld => ?_); refine with_tabW q20.tab7 q20.bits7 (fun HT_ HW_ => ?_)
   generalize w22.drew = w24 at BK128 BK129 HB hHeld ⊢
   refine pz_ 0 (some 45) (bits_ 18 1) HT_.out ?_
   refine pz_ 1 (some 46) (bits_ 18 3) HT_.out ?_
   refine pz_ 2 (some 47) (bits_ 18 7) HT_.out ?_
   refine sz_ 3 (some 48) (bits_ 18 15) HT_.out ?_
   refine sz_ 4 (some 49) (bits_ 18 31) HT_.out ?_
   refine sz_ 5 (some 50) (bits_ 18 63) HT_.out ?_
   refine sz_ 6 (some 51) (bits_ 18 127) HT_.out ?_
   refine sz_ 7 (some 52) (bits_ 18 255) HT_.out ?_
   refine sz_ 8 (some 53) (bits_ 18 511) HT_.out ?_
   refine sz_ 9 (some 54) (bits_ 18 1023) HT_.out ?_
   refine sz_ 10 (some 55) (bits_ 18 2047) HT_.out ?_
   refine sz_ 11 (some 56) (bits_ 18 4095) HT_.out ?_
   refine sz_ 12 (some 57) (bits_ 18 8191) HT_.out ?_
   refine sz_ 13 (some 58) (bits_ 18 16383) HT_.out ?_
   refine sz_ 14 (some 59) (bits_ 18 32767) HT_.out ?_
   refine sz_ 15 (some 60) (bits_ 18 65535) HT_.out ?_
   refine sz_ 16 (some 61) (bits_ 18 131071) HT_.out ?_
   refine pz_ 17 (some 62) (bits_ 18 262143) HT_.out ?_
   refine done_ (done_of HT_.out (by kernel_rfl)) ?_
   try go_wp2
   go_meet
   case rel => exact ⟨_, (true), rf_, H', ⟨by have := HJ2.out; have := HK2.out; first | omega | exact Nat.le_refl _⟩, ⟨gx_ BK128⟩, ⟨gx_ BK129⟩, ⟨hf_⟩⟩
  rw [if_neg c23] at H
  have c23b0 := decide_eq_false c23
  clear c23
  (first | rw [c23b0] | (simp only [i64_w, i32_w]; rw [c23b0]) | skip)
  by_cases c25 : 0 ≤ t131
  rotate_left
  ·rw [if_neg c25] at H
   exact absurd H (by simp)
  rw [if_pos c25] at H
  replace c25 := decide_eq_true c25
  by_cases c26 : t131 < (l0_1.length : Int)
  rotate_left
  ·rw [if_neg c26] at H
   exact absurd H (by simp)
  rw [if_pos c26] at H
  replace c26 := decide_eq_true c26
  replace H := bd_ H
  obtain ⟨t134, A27, H⟩ := H
  have H' := q56.mk H
  clear H
  try go_wp2
  replace BK128 := q56.mk (q64 BK128.out)
  replace BK129 := q56.mk (q64 BK129.out)
  replace HB := q56.mk (q58 HB.out)
  have p132 : 0 ≤ (t131 : Int) := od_
  have q132 : t131 < (l0_1.length : Int) := od_
  obtain ⟨ad132, A132_5, c132_5, A132_6, c132_6, e132, hx132_0, hx132_1, hx132_2, hx132_3, hx132_4, hx132_5, hx132_6, hl132_5, hi132_5, hl132_6, hi132_6⟩ := at_T41 HR0_1.out t131 p132 q132
  have hw132_6 := hx132_6
  have hw132_5 := hx132_5
  have hw132_4 := hx132_4
  have hw132_3 := hx132_3
  have hw132_2 := hx132_2
  have hw132_1 := hx132_1
  have hw132_0 := hx132_0
  cases e132
  replace hx132_0 := rr_ HB hx132_0
  replace hx132_1 := rr_ HB hx132_1
  replace hx132_2 := rr_ HB hx132_2
  replace hx132_3 := rr_ HB hx132_3
  replace hx132_4 := rr_ HB hx132_4
  replace hx132_5 := rr_ HB hx132_5
  replace hx132_6 := rr_ HB hx132_6
  have HR132_5 := q56.mk hi132_5
  have HC132_5 := q56.mk hl132_5
  clear hi132_5 hl132_5
  have HR132_6 := q56.mk hi132_6
  have HC132_6 := q56.mk hl132_6
  clear hi132_6 hl132_6
  replace p132 := eq_true p132
  replace q132 := eq_true q132
  have p133 : 0 ≤ (x5_2 : Int) := od_
  have q133 : x5_2 < (l1_0.length : Int) := od_
  obtain ⟨ad133, e133, hx133_0, hx133_1⟩ := at_T101 HR1_0.out x5_2 p133 q133
  have hw133_1 := hx133_1
  have hw133_0 := hx133_0
  obtain rfl : ad130 = ad133 := (by injection e133)
  replace hx133_0 := rr_ HB hx133_0
  replace hx133_1 := rr_ HB hx133_1
  replace p133 := eq_true p133
  replace q133 := eq_true q133
  refine start_ (n := 18) (S := fun w' => w'.cell? ⟨gb128, 0, none⟩ = some (.slice A0_0 l0_0.length c0_0) ∧ w'.cell? ⟨gb128, 1, none⟩ = some (.slice (some ad132) l0_1.length c0_1) ∧ w'.cell? ⟨gb129, 0, none⟩ = some (.slice (some ad130) l1_0.length c1_0) ∧ w'.cell? ⟨gb129, 1, none⟩ = some (.slice A1_1 l1_1.length c1_1) ∧ w'.cell? (ad132.add ((t131).toNat * 7)) = some (.string ((q81 l0_1 t131).f0)) ∧ w'.cell? ⟨(ad132.add ((t131).toNat * 7)).block, (ad132.add ((t131).toNat * 7)).off + 1, none⟩ = some (.int .i64 ((q81 l0_1 t131).f1)) ∧ w'.cell? ⟨(ad132.add ((t131).toNat * 7)).block, (ad132.add ((t131).toNat * 7)).off + 2, none⟩ = some (.string ((q81 l0_1 t131).f2)) ∧ w'.cell? ⟨(ad132.add ((t131).toNat * 7)).block, (ad132.add ((t131).toNat * 7)).off + 3, none⟩ = some (.bool ((q81 l0_1 t131).f3)) ∧ w'.cell? ⟨(ad132.add ((t131).toNat * 7)).block, (ad132.add ((t131).toNat * 7)).off + 4, none⟩ = some (.int .i64 ((q81 l0_1 t131).f4)) ∧ w'.cell? ⟨(ad132.add ((t131).toNat * 7)).block, (ad132.add ((t131).toNat * 7)).off + 5, none⟩ = some (.slice A132_5 ((q81 l0_1 t131).f5).length c132_5) ∧ w'.cell? ⟨(ad132.add ((t131).toNat * 7)).block, (ad132.add ((t131).toNat * 7)).off + 6, none⟩ = some (.slice A132_6 ((q81 l0_1 t131).f6).length c132_6) ∧ w'.cell? (ad130.add ((x5_2).toNat * 2)) = some (.string ((q76 l1_0 x5_2).f0)) ∧ w'.cell? ⟨(ad130.add ((x5_2).toNat * 2)).block, (ad130.add ((x5_2).toNat * 2)).off + 1, none⟩ = some (.int .i64 ((q76 l1_0 x5_2).f1))) (ds := []) (bits_ 18 0) (by kernel_rfl) rfl rfl ⟨(bk0_ BK128 :), (bk1_ BK128 :), (bk0_ BK129 :), (bk1_ BK129 :), (rr_ HB hw132_0 :), (rr_ HB hw132_1 :), (rr_ HB hw132_2 :), (rr_ HB hw132_3 :), (rr_ HB hw132_4 :), (rr_ HB hw132_5 :), (rr_ HB hw132_6 :), (rr_ HB hw133_0 :), (rr_ HB hw133_1 :)⟩ (fun hHeld => ?_); refine with_tabW q20.tab7 q20.bits7 (fun HT_ HW_ => ?_)
  generalize w22.drew = w28 at BK128 BK129 HB HR132_5 HR132_6 hx132_0 hx132_1 hx132_2 hx132_3 hx132_4 hx132_5 hx132_6 hx133_0 hx133_1 hHeld ⊢
  refine pz_ 0 (some 45) (bits_ 18 1) HT_.out ?_
  refine pz_ 1 (some 46) (bits_ 18 3) HT_.out ?_
  refine pz_ 2 (some 47) (bits_ 18 7) HT_.out ?_
  refine pz_ 3 (some 48) (bits_ 18 15) HT_.out ?_
  refine pz_ 5 (some 50) (bits_ 18 47) HT_.out ?_
  refine pz_ 9 (some 54) (bits_ 18 559) HT_.out ?_
  refine pz_ 11 (some 56) (bits_ 18 2607) HT_.out ?_
  refine tz_ 4 (some 49) (bits_ 18 2623) HT_.out HW_.out hHeld ?_ (hy := by rintro w' ⟨s0, s1, s2, s3, s4, s5, s6, s7, s8, s9, s10, s11, s12⟩; go_simp; with_reducible rfl)
  refine pz_ 6 (some 51) (bits_ 18 2687) HT_.out ?_
  refine pz_ 7 (some 52) (bits_ 18 2815) HT_.out ?_
  refine tz_ 8 (some 53) (bits_ 18 3071) HT_.out HW_.out hHeld ?_ (hy := by rintro w' ⟨s0, s1, s2, s3, s4, s5, s6, s7, s8, s9, s10, s11, s12⟩; go_simp; with_reducible rfl)
  refine tz_ 10 (some 55) (bits_ 18 4095) HT_.out HW_.out hHeld ?_ (hy := by rintro w' ⟨s0, s1, s2, s3, s4, s5, s6, s7, s8, s9, s10, s11, s12⟩; go_simp; with_reducible rfl)
  refine pz_ 12 (some 57) (bits_ 18 8191) HT_.out ?_
  refine pz_ 13 (some 58) (bits_ 18 16383) HT_.out ?_
  refine tz_ 14 (some 59) (bits_ 18 32767) HT_.out HW_.out hHeld ?_ (hy := by rintro w' ⟨s0, s1, s2, s3, s4, s5, s6, s7, s8, s9, s10, s11, s12⟩; go_simp; with_reducible rfl)
  refine oz_ 15 (some 60) (bits_ 18 65535) HT_.out (fun K hK => ?_)
  refine go_s_ Try.func82 #[.int .i64 ((q81 l0_1 t131).f1), .int .i64 ((q76 l1_0 x5_2).f1)] ?_
  with_reducible refine (q25.calls k2 ((q81 l0_1 t131).f1) ((q76 l1_0 x5_2).f1) t134 _ A27.out).mono ?_
  rintro e w' ⟨rfl, ⟨nd, rfl⟩⟩
  refine ⟨_, rfl, ?_⟩
  refine hK.out _ _ ⟨(bk0_ BK128 :), (bk1_ BK128 :), (bk0_ BK129 :), (bk1_ BK129 :), (rr_ HB hw132_0 :), (rr_ HB hw132_1 :), (rr_ HB hw132_2 :), (rr_ HB hw132_3 :), (rr_ HB hw132_4 :), (rr_ HB hw132_5 :), (rr_ HB hw132_6 :), (rr_ HB hw133_0 :), (rr_ HB hw133_1 :)⟩ (fun hHeld => ?_)
  clear hK K
  refine nz_ (some 60) ?_
  refine pz_ 16 (some 61) (bits_ 18 131071) HT_.out ?_
  refine pz_ 17 (some 62) (bits_ 18 262143) HT_.out ?_
  refine done_ (done_of HT_.out (by kernel_rfl)) ?_
  try go_wp2
  go_meet
  case rel => exact ⟨_, (!t134), rf_, H', ⟨by have := HJ2.out; have := HK2.out; first | omega | exact Nat.le_refl _⟩, ⟨gx_ BK128⟩, ⟨gx_ BK129⟩, ⟨hf_⟩⟩
 case rest =>
 clear HC18
 clear c15b0 c16b0 hcz20_0 hcz20_1 hfz20_0 hfz20_1 hx130_0 hx130_1 p130 q130
 obtain ⟨kq, x62_17, rfl, HA, HJ17, BK128, BK129, HB⟩ := hcut
 cases kq with
 | zero => exact absurd HA.out (by simp [q20.j2])
 | succ kj17 =>
 have H := HA.out
 clear HA
 simp only [q20.j2] at H
 by_cases c29 : x62_17 = true
 ·subst c29
  replace H := it_ H
  obtain rfl := Option.some.inj H
  go_wp2
  go_ret
  exact ⟨er_, hf_⟩
 replace c29 := Bool.eq_false_iff.mpr c29
 subst c29
 replace H := ie_ H
 have H' := q56.mk H
 clear H
 go_wp2
 go_loopg [7] kj17 (fun kq v7 w' => ∃ (x7_4 : Int), v7 = .int .i64 x7_4 ∧ q56 (q20.l1 kq x5_2 x7_4 l0_0 l0_1 l1_0 l1_1 = some r) ∧ q56 (kq ≤ kj17) ∧ q56 (w'.heap[gb128]? = some (.cells #[(.slice A0_0 l0_0.length c0_0), (.slice A0_1 l0_1.length c0_1)] 25 (0, 0))) ∧ q56 (w'.heap[gb129]? = some (.cells #[(.slice (some ad130) l1_0.length c1_0), (.slice A1_1 l1_1.length c1_1)] 45 (0, 0))) ∧ q56 (Below w.heap.size w w'))
 case atStart => exact ⟨(0), rf_, H', ⟨Nat.le_refl _⟩, ⟨gx_ BK128⟩, ⟨gx_ BK129⟩, ⟨hf_⟩⟩
 case round =>
 clear H'
 obtain ⟨x7_4, rfl, HA, HK4, BK128, BK129, HB⟩ := hrel
 cases gk with
 | zero => exact absurd HA.out (by simp [q20.l1])
 | succ k4 =>
 have H := HA.out
 clear HA
 simp only [q20.l1] at H
 by_cases c30 : x7_4 < x5_2
 rotate_left
 ·rw [if_neg c30] at H
  replace c30 := decide_eq_false c30
  have H' := q56.mk H
  clear H
  go_wp2
  go_roundg k4
  case measure => have := HJ2.out; have := HK2.out; have := HJ17.out; have := HK4.out; omega
  case rel => exact ⟨(wrap64 (x5_2 + 1)), rf_, H', ⟨by have := HJ2.out; have := HK2.out; have := HJ17.out; have := HK4.out; omega⟩, ⟨gx_ BK128⟩, ⟨gx_ BK129⟩, ⟨hf_⟩⟩
 rw [if_pos c30] at H
 replace c30 := decide_eq_true c30
 by_cases c31 : 0 ≤ x7_4
 rotate_left
 ·rw [if_neg c31] at H
  exact absurd H (by simp)
 rw [if_pos c31] at H
 replace c31 := decide_eq_true c31
 by_cases c32 : x7_4 < (l1_0.length : Int)
 rotate_left
 ·rw [if_neg c32] at H
  exact absurd H (by simp)
 rw [if_pos c32] at H
 replace c32 := decide_eq_true c32
 by_cases c33 : 0 ≤ x5_2
 rotate_left
 ·rw [if_neg c33] at H
  exact absurd H (by simp)
 rw [if_pos c33] at H
 replace c33 := decide_eq_true c33
 by_cases c34 : x5_2 < (l1_0.length : Int)
 rotate_left
 ·rw [if_neg c34] at H
  exact absurd H (by simp)
 rw [if_pos c34] at H
 replace c34 := decide_eq_true c34
 by_cases c35 : ((((q76 l1_0 x7_4).f0).toList) == (((q76 l1_0 x5_2).f0).toList) && (((q76 l1_0 x7_4).f1) == ((q76 l1_0 x5_2).f1))) = true
 ·rw [if_pos c35] at H
  have c35b0 : ((((q76 l1_0 x7_4).f0).toList) == (((q76 l1_0 x5_2).f0).toList) && (((q76 l1_0 x7_4).f1) == ((q76 l1_0 x5_2).f1))) = true := c35
  (try (have c35b1 : decide ((((q76 l1_0 x7_4).f0).toList) = (((q76 l1_0 x5_2).f0).toList) && (((q76 l1_0 x7_4).f1) == ((q76 l1_0 x5_2).f1))) = true := by simpa using c35))
  (try (have c35b2 : ((((q76 l1_0 x7_4).f0).toList) == (((q76 l1_0 x5_2).f0).toList) && (((q76 l1_0 x7_4).f1) == ((q76 l1_0 x5_2).f1))) = true := by simpa using c35))
  clear c35
  obtain rfl := Option.some.inj H
  try go_wp2
  replace BK128 := q56.mk (q64 BK128.out)
  replace BK129 := q56.mk (q64 BK129.out)
  replace HB := q56.mk (q58 HB.out)
  have p135 : 0 ≤ (x7_4 : Int) := od_
  have q135 : x7_4 < (l1_0.length : Int) := od_
  obtain ⟨ad135, e135, hx135_0, hx135_1⟩ := at_T101 HR1_0.out x7_4 p135 q135
  have hw135_1 := hx135_1
  have hw135_0 := hx135_0
  obtain rfl : ad130 = ad135 := (by injection e135)
  replace hx135_0 := rr_ HB hx135_0
  replace hx135_1 := rr_ HB hx135_1
  replace p135 := eq_true p135
  replace q135 := eq_true q135
  have p136 : 0 ≤ (x5_2 : Int) := od_
  have q136 : x5_2 < (l1_0.length : Int) := od_
  obtain ⟨ad136, e136, hx136_0, hx136_1⟩ := at_T101 HR1_0.out x5_2 p136 q136
  have hw136_1 := hx136_1
  have hw136_0 := hx136_0
  obtain rfl : ad130 = ad136 := (by injection e136)
  replace hx136_0 := rr_ HB hx136_0
  replace hx136_1 := rr_ HB hx136_1
  replace p136 := eq_true p136
  replace q136 := eq_true q136
  refine start_ (n := 11) (S := fun w' => w'.cell? ⟨gb129, 0, none⟩ = some (.slice (some ad130) l1_0.length c1_0) ∧ w'.cell? ⟨gb129, 1, none⟩ = some (.slice A1_1 l1_1.length c1_1) ∧ w'.cell? (ad130.add ((x7_4).toNat * 2)) = some (.string ((q76 l1_0 x7_4).f0)) ∧ w'.cell? ⟨(ad130.add ((x7_4).toNat * 2)).block, (ad130.add ((x7_4).toNat * 2)).off + 1, none⟩ = some (.int .i64 ((q76 l1_0 x7_4).f1)) ∧ w'.cell? (ad130.add ((x5_2).toNat * 2)) = some (.string ((q76 l1_0 x5_2).f0)) ∧ w'.cell? ⟨(ad130.add ((x5_2).toNat * 2)).block, (ad130.add ((x5_2).toNat * 2)).off + 1, none⟩ = some (.int .i64 ((q76 l1_0 x5_2).f1))) (ds := []) (bits_ 11 0) (by kernel_rfl) rfl rfl ⟨(bk0_ BK129 :), (bk1_ BK129 :), (rr_ HB hw135_0 :), (rr_ HB hw135_1 :), (rr_ HB hw136_0 :), (rr_ HB hw136_1 :)⟩ (fun hHeld => ?_); refine with_tabW q20.tab12 q20.bits12 (fun HT_ HW_ => ?_)
  generalize wr.drew = w36 at BK128 BK129 HB hx135_0 hx135_1 hx136_0 hx136_1 hHeld ⊢
  refine pz_ 0 (some 68) (bits_ 11 1) HT_.out ?_
  refine pz_ 2 (some 70) (bits_ 11 5) HT_.out ?_
  refine pz_ 5 (some 73) (bits_ 11 37) HT_.out ?_
  refine pz_ 7 (some 75) (bits_ 11 165) HT_.out ?_
  refine tz_ 1 (some 69) (bits_ 11 167) HT_.out HW_.out hHeld ?_ (hy := by rintro w' ⟨s0, s1, s2, s3, s4, s5⟩; go_simp; with_reducible rfl)
  refine pz_ 3 (some 71) (bits_ 11 175) HT_.out ?_
  refine tz_ 4 (some 72) (bits_ 11 191) HT_.out HW_.out hHeld ?_ (hy := by rintro w' ⟨s0, s1, s2, s3, s4, s5⟩; go_simp; with_reducible rfl)
  refine tz_ 6 (some 74) (bits_ 11 255) HT_.out HW_.out hHeld ?_ (hy := by rintro w' ⟨s0, s1, s2, s3, s4, s5⟩; go_simp; with_reducible rfl)
  refine pz_ 8 (some 76) (bits_ 11 511) HT_.out ?_
  refine tz_ 9 (some 77) (bits_ 11 1023) HT_.out HW_.out hHeld ?_ (hy := by rintro w' ⟨s0, s1, s2, s3, s4, s5⟩; go_simp; with_reducible rfl)
  refine pz_ 10 (some 78) (bits_ 11 2047) HT_.out ?_
  refine done_ (done_of HT_.out (by kernel_rfl)) ?_
  try go_wp2
  go_ret
  exact ⟨er_, hf_⟩
 rw [if_neg c35] at H
 have c35b0 : ((((q76 l1_0 x7_4).f0).toList) == (((q76 l1_0 x5_2).f0).toList) && (((q76 l1_0 x7_4).f1) == ((q76 l1_0 x5_2).f1))) = false := by simpa using c35
 (try (have c35b1 : decide ((((q76 l1_0 x7_4).f0).toList) = (((q76 l1_0 x5_2).f0).toList) && (((q76 l1_0 x7_4).f1) == ((q76 l1_0 x5_2).f1))) = false := by simpa using c35))
 (try (have c35b2 : ((((q76 l1_0 x7_4).f0).toList) == (((q76 l1_0 x5_2).f0).toList) && (((q76 l1_0 x7_4).f1) == ((q76 l1_0 x5_2).f1))) = false := by simpa using c35))
 (try (have c35b3 : ¬ ((((q76 l1_0 x7_4).f0).toList) = (((q76 l1_0 x5_2).f0).toList) && (((q76 l1_0 x7_4).f1) == ((q76 l1_0 x5_2).f1))) := by simpa using c35))
 clear c35
 have H' := q56.mk H
 clear H
 try go_wp2
 replace BK128 := q56.mk (q64 BK128.out)
 replace BK129 := q56.mk (q64 BK129.out)
 replace HB := q56.mk (q58 HB.out)
 have p135 : 0 ≤ (x7_4 : Int) := od_
 have q135 : x7_4 < (l1_0.length : Int) := od_
 obtain ⟨ad135, e135, hx135_0, hx135_1⟩ := at_T101 HR1_0.out x7_4 p135 q135
 have hw135_1 := hx135_1
 have hw135_0 := hx135_0
 obtain rfl : ad130 = ad135 := (by injection e135)
 replace hx135_0 := rr_ HB hx135_0
 replace hx135_1 := rr_ HB hx135_1
 replace p135 := eq_true p135
 replace q135 := eq_true q135
 have p136 : 0 ≤ (x5_2 : Int) := od_
 have q136 : x5_2 < (l1_0.length : Int) := od_
 obtain ⟨ad136, e136, hx136_0, hx136_1⟩ := at_T101 HR1_0.out x5_2 p136 q136
 have hw136_1 := hx136_1
 have hw136_0 := hx136_0
 obtain rfl : ad130 = ad136 := (by injection e136)
 replace hx136_0 := rr_ HB hx136_0
 replace hx136_1 := rr_ HB hx136_1
 replace p136 := eq_true p136
 replace q136 := eq_true q136
 refine start_ (n := 11) (S := fun w' => w'.cell? ⟨gb129, 0, none⟩ = some (.slice (some ad130) l1_0.length c1_0) ∧ w'.cell? ⟨gb129, 1, none⟩ = some (.slice A1_1 l1_1.length c1_1) ∧ w'.cell? (ad130.add ((x7_4).toNat * 2)) = some (.string ((q76 l1_0 x7_4).f0)) ∧ w'.cell? ⟨(ad130.add ((x7_4).toNat * 2)).block, (ad130.add ((x7_4).toNat * 2)).off + 1, none⟩ = some (.int .i64 ((q76 l1_0 x7_4).f1)) ∧ w'.cell? (ad130.add ((x5_2).toNat * 2)) = some (.string ((q76 l1_0 x5_2).f0)) ∧ w'.cell? ⟨(ad130.add ((x5_2).toNat * 2)).block, (ad130.add ((x5_2).toNat * 2)).off + 1, none⟩ = some (.int .i64 ((q76 l1_0 x5_2).f1))) (ds := []) (bits_ 11 0) (by kernel_rfl) rfl rfl ⟨(bk0_ BK129 :), (bk1_ BK129 :), (rr_ HB hw135_0 :), (rr_ HB hw135_1 :), (rr_ HB hw136_0 :), (rr_ HB hw136_1 :)⟩ (fun hHeld => ?_); refine with_tabW q20.tab12 q20.bits12 (fun HT_ HW_ => ?_)
 generalize wr.drew = w37 at BK128 BK129 HB hx135_0 hx135_1 hx136_0 hx136_1 hHeld ⊢
 refine pz_ 0 (some 68) (bits_ 11 1) HT_.out ?_
 refine pz_ 2 (some 70) (bits_ 11 5) HT_.out ?_
 refine pz_ 5 (some 73) (bits_ 11 37) HT_.out ?_
 refine pz_ 7 (some 75) (bits_ 11 165) HT_.out ?_
 refine tz_ 1 (some 69) (bits_ 11 167) HT_.out HW_.out hHeld ?_ (hy := by rintro w' ⟨s0, s1, s2, s3, s4, s5⟩; go_simp; with_reducible rfl)
 refine pz_ 3 (some 71) (bits_ 11 175) HT_.out ?_
 refine tz_ 4 (some 72) (bits_ 11 191) HT_.out HW_.out hHeld ?_ (hy := by rintro w' ⟨s0, s1, s2, s3, s4, s5⟩; go_simp; with_reducible rfl)
 refine tz_ 6 (some 74) (bits_ 11 255) HT_.out HW_.out hHeld ?_ (hy := by rintro w' ⟨s0, s1, s2, s3, s4, s5⟩; go_simp; with_reducible rfl)
 refine pz_ 8 (some 76) (bits_ 11 511) HT_.out ?_
 refine tz_ 9 (some 77) (bits_ 11 1023) HT_.out HW_.out hHeld ?_ (hy := by rintro w' ⟨s0, s1, s2, s3, s4, s5⟩; go_simp; with_reducible rfl)
 refine pz_ 10 (some 78) (bits_ 11 2047) HT_.out ?_
 refine done_ (done_of HT_.out (by kernel_rfl)) ?_
 try go_wp2
 go_roundg k4
 case measure => have := HJ2.out; have := HK2.out; have := HJ17.out; have := HK4.out; omega
 case rel => exact ⟨(wrap64 (x7_4 + 1)), rf_, H', ⟨by have := HJ2.out; have := HK2.out; have := HJ17.out; have := HK4.out; omega⟩, ⟨gx_ BK128⟩, ⟨gx_ BK129⟩, ⟨hf_⟩⟩
end Go.Proofs.Yteddgedacjdjgaa.Pm
end
section
namespace Go.Proofs.Yteddgedacjdjgaa.Pm
open Go.RowKit Go.Proofs.YteddgedacjdjgaaW.PrintWords Go.Proofs.YteddgedacjdjgaaW.PrintLast Go.Proofs.YteddgedacjdjgaaW.PrintMore
attribute [local go_sem] max2_int min2_int max_two min_two max_three min_three max_four min_four   -- for this text's walks alone
set_option linter.unusedVariables false
set_option linter.unusedSimpArgs false
def q16.l0 : Nat → List (S45) → Int → List ByteArray → List (S41) → Option (Bool)
 | 0, _, _, _, _ => none
 | k + 1, x1, x5, x142000, x142001 => if x5 < (x1.length : Int) then (if 0 ≤ x5 then ((q20.f k x142000 x142001 ((q82 x1 x5).f0) ((q82 x1 x5).f1)).bind fun t143 => (if t143 = true then (q16.l0 k x1 (wrap64 (x5 + 1)) x142000 x142001) else (some false))) else (none)) else (some (decide ((x1.length : Int) ≤ 3)))
def q16.f (k : Nat) (l0_0 : List ByteArray) (l0_1 : List (S41)) (l1 : List (S45)) : Option (Bool) := q16.l0 k l1 0 l0_0 l0_1
theorem q16.mono_l : ∀ k, (∀ y0 y1 y2 y3, LeO (q16.l0 k y0 y1 y2 y3) (q16.l0 (k + 1) y0 y1 y2 y3))
 | 0 => fun _ _ _ _ r h => by simp [q16.l0] at h
 | k + 1 => by
  have ih0 := q16.mono_l k
  ·intro y0 y1 y2 y3
   unfold q16.l0
   repeat' first
   | (with_reducible exact ih0 _ _ _ _)
   | (with_reducible exact q20.mono _ _ _ _ _)
   | (with_reducible exact LeO.refl _)
   | (with_reducible exact LeO.none _)
   | (with_reducible refine LeO.ite ?_ ?_)
   | (with_reducible refine LeO.bind ?_ (fun _ => ?_))
   | exact ih0 _ _ _ _
   | exact q20.mono _ _ _ _ _
   | exact LeO.none _
   | refine LeO.ite ?_ ?_
   | refine LeO.bind ?_ (fun _ => ?_)
theorem q16.mono : ∀ a0 a1 a2 k, LeO (q16.f k a0 a1 a2) (q16.f (k + 1) a0 a1 a2) := by
 intro a0 a1 a2 k
 have ih0 := q16.mono_l k
 unfold q16.f
 repeat' first
  | (with_reducible exact ih0 _ _ _ _)
  | (with_reducible exact q20.mono _ _ _ _ _)
  | (with_reducible exact LeO.refl _)
  | (with_reducible exact LeO.none _)
  | (with_reducible refine LeO.ite ?_ ?_)
  | (with_reducible refine LeO.bind ?_ (fun _ => ?_))
  | exact ih0 _ _ _ _
  | exact q20.mono _ _ _ _ _
  | exact LeO.none _
  | refine LeO.ite ?_ ?_
  | refine LeO.bind ?_ (fun _ => ?_)
set_option maxHeartbeats 8000000 in
set_option maxRecDepth 100000 in
theorem q16.calls (k : Nat) (A0_0 : Option Addr) (c0_0 : Nat) (l0_0 : List ByteArray) (A0_1 : Option Addr) (c0_1 : Nat) (l0_1 : List (S41)) (A1 : Option Addr) (c1 : Nat) (l1 : List (S45)) (r : Bool) (w : World) (hr0_0 : Kd.C Kd.string w A0_0 l0_0.length l0_0) (hc0_0 : l0_0.length ≤ c0_0) (hr0_1 : Kd.C k41 w A0_1 l0_1.length l0_1) (hc0_1 : l0_1.length ≤ c0_1) (hr1 : Kd.C k45 w A1 l1.length l1) (hc1 : l1.length ≤ c1) (h : q16.f k l0_0 l0_1 l1 = some r) :
 Calls Try.prog 20 #[.agg #[.slice A0_0 l0_0.length c0_0, .slice A0_1 l0_1.length c0_1], .slice A1 l1.length c1] w fun e w' => e = .returned (.bool r) ∧ Below w.heap.size w w' := by
 have hu25 := Try.underlying25
 have hu45 := Try.underlying45
 have HR0_0 := q56.mk hr0_0
 have HC0_0 := q56.mk hc0_0
 clear hr0_0 hc0_0
 have HR0_1 := q56.mk hr0_1
 have HC0_1 := q56.mk hc0_1
 clear hr0_1 hc0_1
 have HR1 := q56.mk hr1
 have HC1 := q56.mk hc1
 clear hr1 hc1
 have HB := q56.mk (Below.refl w.heap.size w)
 have H : (q16.l0 k l1 0 l0_0 l0_1) = some r := h
 clear h
 have H' := q56.mk H
 clear H
 go_enter Try.func20, Try.ntmps20
 go_wp2_with (first | ((with_reducible refine q71 (N := 2) rfl ?_); refine bx_ 2 #[.slice A0_0 l0_0.length c0_0, .slice A0_1 l0_1.length c0_1] 25 ?_; intro gb141 hg w3 hbox hb; have BK141 := q56.mk (hbox); have GW141 := zz_ (w := w) hg; have GE141 := zz_ (w := w) hg; replace HB := hb_ HB hb;  clear hb hbox hg))
 go_loopg [5] k (fun kq v5 w' => ∃ (x5_1 : Int), v5 = .int .i64 x5_1 ∧ q56 (q16.l0 kq l1 x5_1 l0_0 l0_1 = some r) ∧ q56 (kq ≤ k) ∧ q56 (w'.heap[gb141]? = some (.cells #[(.slice A0_0 l0_0.length c0_0), (.slice A0_1 l0_1.length c0_1)] 25 (0, 0))) ∧ q56 (Below w.heap.size w w'))
 case atStart => exact ⟨(0), rf_, H', ⟨Nat.le_refl _⟩, ⟨gx_ BK141⟩, ⟨hf_⟩⟩
 case round =>
 clear H'
 obtain ⟨x5_1, rfl, HA, HK1, BK141, HB⟩ := hrel
 cases gk with
 | zero => exact absurd HA.out (by simp [q16.l0])
 | succ k1 =>
 have H := HA.out
 clear HA
 simp only [q16.l0] at H
 by_cases c4 : x5_1 < (l1.length : Int)
 rotate_left
 ·rw [if_neg c4] at H
  replace c4 := decide_eq_false c4
  obtain rfl := Option.some.inj H
  go_wp2
  go_ret
  exact ⟨er_, hf_⟩
 rw [if_pos c4] at H
 replace c4 := decide_eq_true c4
 by_cases c5 : 0 ≤ x5_1
 rotate_left
 ·rw [if_neg c5] at H
  exact absurd H (by simp)
 rw [if_pos c5] at H
 replace c5 := decide_eq_true c5
 replace H := bd_ H
 obtain ⟨t143, A6, H⟩ := H
 by_cases c7 : t143 = true
 ·subst c7
  replace H := it_ H
  have H' := q56.mk H
  clear H
  try go_wp2
  replace BK141 := q56.mk (q64 BK141.out)
  replace HB := q56.mk (q58 HB.out)
  have p142 : 0 ≤ (x5_1 : Int) := od_
  have q142 : x5_1 < (l1.length : Int) := od_
  obtain ⟨ad142, A142_0, c142_0, A142_1, c142_1, e142, hx142_0, hx142_1, hl142_0, hi142_0, hl142_1, hi142_1⟩ := at_T45 HR1.out x5_1 p142 q142
  have hw142_1 := hx142_1
  have hw142_0 := hx142_0
  cases e142
  replace hx142_0 := rr_ HB hx142_0
  replace hx142_1 := rr_ HB hx142_1
  have HR142_0 := q56.mk hi142_0
  have HC142_0 := q56.mk hl142_0
  clear hi142_0 hl142_0
  have HR142_1 := q56.mk hi142_1
  have HC142_1 := q56.mk hl142_1
  clear hi142_1 hl142_1
  replace p142 := eq_true p142
  replace q142 := eq_true q142
  refine start_ (n := 7) (S := fun w' => w'.cell? ⟨gb141, 0, none⟩ = some (.slice A0_0 l0_0.length c0_0) ∧ w'.cell? ⟨gb141, 1, none⟩ = some (.slice A0_1 l0_1.length c0_1) ∧ w'.cell? (ad142.add ((x5_1).toNat * 2)) = some (.slice A142_0 ((q82 l1 x5_1).f0).length c142_0) ∧ w'.cell? ⟨(ad142.add ((x5_1).toNat * 2)).block, (ad142.add ((x5_1).toNat * 2)).off + 1, none⟩ = some (.slice A142_1 ((q82 l1 x5_1).f1).length c142_1)) (ds := []) (bits_ 7 0) (by kernel_rfl) rfl rfl ⟨(bk0_ BK141 :), (bk1_ BK141 :), (rr_ HB hw142_0 :), (rr_ HB hw142_1 :)⟩ (fun hHeld => ?_)
  generalize wr.drew = w8 at BK141 HB HR142_0 HR142_1 hx142_0 hx142_1 hHeld ⊢
  refine pure_ (i := 1) (N := some 13) (v := ?_) (a' := ?_) #[false, true, false, false, false, false, false] rfl rfl (by kernel_rfl) (fun _ _ _ h => h) (Or.inl ⟨by rfl, ?_⟩) ?_ ?_
  rotate_left
  ·intro w'
   go_simp
   with_reducible rfl
  rotate_left
  ·simp only [Act.put, List.setIfInBounds_toArray, List.set_cons_zero, List.set_cons_succ, i64_w, i32_w]
   rfl
  refine pure_ (i := 2) (N := some 14) (v := ?_) (a' := ?_) #[false, true, true, false, false, false, false] rfl rfl (by kernel_rfl) (fun _ _ _ h => h) (Or.inl ⟨by rfl, ?_⟩) ?_ ?_
  rotate_left
  ·intro w'
   go_simp
   with_reducible rfl
  rotate_left
  ·simp only [Act.put, List.setIfInBounds_toArray, List.set_cons_zero, List.set_cons_succ, i64_w, i32_w]
   rfl
  refine pure_ (i := 3) (N := some 15) (v := ?_) (a' := ?_) #[false, true, true, true, false, false, false] rfl rfl (by kernel_rfl) (fun _ _ _ h => h) (Or.inl ⟨by rfl, ?_⟩) ?_ ?_
  rotate_left
  ·intro w'
   go_simp
   with_reducible rfl
  rotate_left
  ·simp only [Act.put, List.setIfInBounds_toArray, List.set_cons_zero, List.set_cons_succ, i64_w, i32_w]
   rfl
  refine take_ (i := 0) (N := some 12) (v := ?_) (a' := ?_) #[true, true, true, true, false, false, false] rfl rfl (by kernel_rfl) (fun _ _ _ h => h) (Or.inl ⟨by rfl, ?_⟩) hHeld ?_ ?_
  rotate_left
  ·rintro w' ⟨s0, s1, s2, s3⟩
   go_simp
   with_reducible rfl
  rotate_left
  ·simp only [Act.put, List.setIfInBounds_toArray, List.set_cons_zero, List.set_cons_succ, i64_w, i32_w]
   rfl
  refine take_ (i := 4) (N := some 16) (v := ?_) (a' := ?_) #[true, true, true, true, true, false, false] rfl rfl (by kernel_rfl) (fun _ _ _ h => h) (Or.inl ⟨by rfl, ?_⟩) hHeld ?_ ?_
  rotate_left
  ·rintro w' ⟨s0, s1, s2, s3⟩
   go_simp
   with_reducible rfl
  rotate_left
  ·simp only [Act.put, List.setIfInBounds_toArray, List.set_cons_zero, List.set_cons_succ, i64_w, i32_w]
   rfl
  refine one_ (i := 5) (N := some 17) #[true, true, true, true, true, true, false] rfl rfl (by kernel_rfl) (by decide) (fun K hK => ?_)
  refine go_s_ Try.func54 #[.agg #[.slice A0_0 l0_0.length c0_0, .slice A0_1 l0_1.length c0_1], .agg #[.slice A142_0 ((q82 l1 x5_1).f0).length c142_0, .slice A142_1 ((q82 l1 x5_1).f1).length c142_1]] ?_
  with_reducible refine (q20.calls k1 _ _ l0_0 _ _ l0_1 _ _ ((q82 l1 x5_1).f0) _ _ ((q82 l1 x5_1).f1) true _ ?side1 ?side2 ?side3 ?side4 ?side5 ?side6 ?side7 ?side8 A6.out).mono ?_
  (case side1 => exact kc_ HR0_0 HB)
  (case side2 => exact HC0_0.out)
  (case side3 => exact kc_ HR0_1 HB)
  (case side4 => exact HC0_1.out)
  (case side5 => exact kc_ HR142_0 HB)
  (case side6 => exact HC142_0.out)
  (case side7 => exact kc_ HR142_1 HB)
  (case side8 => exact HC142_1.out)
  rintro e w9 ⟨rfl, hb⟩
  refine ⟨_, rfl, ?_⟩
  replace BK141 := bb_ BK141 hb
  replace HB := hb_ HB hb
  clear hb
  refine hK.out _ _ ⟨(bk0_ BK141 :), (bk1_ BK141 :), (rr_ HB hw142_0 :), (rr_ HB hw142_1 :)⟩ (fun hHeld => ?_)
  clear hK K
  refine nz_ (some 17) ?_
  refine pure_ (i := 6) (N := some 18) (v := ?_) (a' := ?_) #[true, true, true, true, true, true, true] rfl rfl (by kernel_rfl) (fun _ _ _ h => h) (Or.inl ⟨by rfl, ?_⟩) ?_ ?_
  rotate_left
  ·intro w'
   go_simp
   with_reducible rfl
  rotate_left
  ·simp only [Act.put, List.setIfInBounds_toArray, List.set_cons_zero, List.set_cons_succ, i64_w, i32_w]
   rfl
  refine done_ (by kernel_rfl) ?_
  try go_wp2
  go_roundg k1
  case measure => have := HK1.out; omega
  case rel => exact ⟨(wrap64 (x5_1 + 1)), rf_, H', ⟨by have := HK1.out; omega⟩, ⟨gx_ BK141⟩, ⟨hf_⟩⟩
 replace c7 := Bool.eq_false_iff.mpr c7
 subst c7
 replace H := ie_ H
 obtain rfl := Option.some.inj H
 try go_wp2
 replace BK141 := q56.mk (q64 BK141.out)
 replace HB := q56.mk (q58 HB.out)
 have p142 : 0 ≤ (x5_1 : Int) := od_
 have q142 : x5_1 < (l1.length : Int) := od_
 obtain ⟨ad142, A142_0, c142_0, A142_1, c142_1, e142, hx142_0, hx142_1, hl142_0, hi142_0, hl142_1, hi142_1⟩ := at_T45 HR1.out x5_1 p142 q142
 have hw142_1 := hx142_1
 have hw142_0 := hx142_0
 cases e142
 replace hx142_0 := rr_ HB hx142_0
 replace hx142_1 := rr_ HB hx142_1
 have HR142_0 := q56.mk hi142_0
 have HC142_0 := q56.mk hl142_0
 clear hi142_0 hl142_0
 have HR142_1 := q56.mk hi142_1
 have HC142_1 := q56.mk hl142_1
 clear hi142_1 hl142_1
 replace p142 := eq_true p142
 replace q142 := eq_true q142
 refine start_ (n := 7) (S := fun w' => w'.cell? ⟨gb141, 0, none⟩ = some (.slice A0_0 l0_0.length c0_0) ∧ w'.cell? ⟨gb141, 1, none⟩ = some (.slice A0_1 l0_1.length c0_1) ∧ w'.cell? (ad142.add ((x5_1).toNat * 2)) = some (.slice A142_0 ((q82 l1 x5_1).f0).length c142_0) ∧ w'.cell? ⟨(ad142.add ((x5_1).toNat * 2)).block, (ad142.add ((x5_1).toNat * 2)).off + 1, none⟩ = some (.slice A142_1 ((q82 l1 x5_1).f1).length c142_1)) (ds := []) (bits_ 7 0) (by kernel_rfl) rfl rfl ⟨(bk0_ BK141 :), (bk1_ BK141 :), (rr_ HB hw142_0 :), (rr_ HB hw142_1 :)⟩ (fun hHeld => ?_)
 generalize wr.drew = w10 at BK141 HB HR142_0 HR142_1 hx142_0 hx142_1 hHeld ⊢
 refine pure_ (i := 1) (N := some 13) (v := ?_) (a' := ?_) #[false, true, false, false, false, false, false] rfl rfl (by kernel_rfl) (fun _ _ _ h => h) (Or.inl ⟨by rfl, ?_⟩) ?_ ?_
 rotate_left
 ·intro w'
  go_simp
  with_reducible rfl
 rotate_left
 ·simp only [Act.put, List.setIfInBounds_toArray, List.set_cons_zero, List.set_cons_succ, i64_w, i32_w]
  rfl
 refine pure_ (i := 2) (N := some 14) (v := ?_) (a' := ?_) #[false, true, true, false, false, false, false] rfl rfl (by kernel_rfl) (fun _ _ _ h => h) (Or.inl ⟨by rfl, ?_⟩) ?_ ?_
 rotate_left
 ·intro w'
  go_simp
  with_reducible rfl
 rotate_left
 ·simp only [Act.put, List.setIfInBounds_toArray, List.set_cons_zero, List.set_cons_succ, i64_w, i32_w]
  rfl
 refine pure_ (i := 3) (N := some 15) (v := ?_) (a' := ?_) #[false, true, true, true, false, false, false] rfl rfl (by kernel_rfl) (fun _ _ _ h => h) (Or.inl ⟨by rfl, ?_⟩) ?_ ?_
 rotate_left
 ·intro w'
  go_simp
  with_reducible rfl
 rotate_left
 ·simp only [Act.put, List.setIfInBounds_toArray, List.set_cons_zero, List.set_cons_succ, i64_w, i32_w]
  rfl
 refine take_ (i := 0) (N := some 12) (v := ?_) (a' := ?_) #[true, true, true, true, false, false, false] rfl rfl (by kernel_rfl) (fun _ _ _ h => h) (Or.inl ⟨by rfl, ?_⟩) hHeld ?_ ?_
 rotate_left
 ·rintro w' ⟨s0, s1, s2, s3⟩
  go_simp
  with_reducible rfl
 rotate_left
 ·simp only [Act.put, List.setIfInBounds_toArray, List.set_cons_zero, List.set_cons_succ, i64_w, i32_w]
  rfl
 refine take_ (i := 4) (N := some 16) (v := ?_) (a' := ?_) #[true, true, true, true, true, false, false] rfl rfl (by kernel_rfl) (fun _ _ _ h => h) (Or.inl ⟨by rfl, ?_⟩) hHeld ?_ ?_
 rotate_left
 ·rintro w' ⟨s0, s1, s2, s3⟩
  go_simp
  with_reducible rfl
 rotate_left
 ·simp only [Act.put, List.setIfInBounds_toArray, List.set_cons_zero, List.set_cons_succ, i64_w, i32_w]
  rfl
 refine one_ (i := 5) (N := some 17) #[true, true, true, true, true, true, false] rfl rfl (by kernel_rfl) (by decide) (fun K hK => ?_)
 refine go_s_ Try.func54 #[.agg #[.slice A0_0 l0_0.length c0_0, .slice A0_1 l0_1.length c0_1], .agg #[.slice A142_0 ((q82 l1 x5_1).f0).length c142_0, .slice A142_1 ((q82 l1 x5_1).f1).length c142_1]] ?_
 with_reducible refine (q20.calls k1 _ _ l0_0 _ _ l0_1 _ _ ((q82 l1 x5_1).f0) _ _ ((q82 l1 x5_1).f1) false _ ?side1 ?side2 ?side3 ?side4 ?side5 ?side6 ?side7 ?side8 A6.out).mono ?_
 (case side1 => exact kc_ HR0_0 HB)
 (case side2 => exact HC0_0.out)
 (case side3 => exact kc_ HR0_1 HB)
 (case side4 => exact HC0_1.out)
 (case side5 => exact kc_ HR142_0 HB)
 (case side6 => exact HC142_0.out)
 (case side7 => exact kc_ HR142_1 HB)
 (case side8 => exact HC142_1.out)
 rintro e w11 ⟨rfl, hb⟩
 refine ⟨_, rfl, ?_⟩
 replace BK141 := bb_ BK141 hb
 replace HB := hb_ HB hb
 clear hb
 refine hK.out _ _ ⟨(bk0_ BK141 :), (bk1_ BK141 :), (rr_ HB hw142_0 :), (rr_ HB hw142_1 :)⟩ (fun hHeld => ?_)
 clear hK K
 refine nz_ (some 17) ?_
 refine pure_ (i := 6) (N := some 18) (v := ?_) (a' := ?_) #[true, true, true, true, true, true, true] rfl rfl (by kernel_rfl) (fun _ _ _ h => h) (Or.inl ⟨by rfl, ?_⟩) ?_ ?_
 rotate_left
 ·intro w'
  go_simp
  with_reducible rfl
 rotate_left
 ·simp only [Act.put, List.setIfInBounds_toArray, List.set_cons_zero, List.set_cons_succ, i64_w, i32_w]
  rfl
 refine done_ (by kernel_rfl) ?_
 try go_wp2
 go_ret
 exact ⟨er_, hf_⟩
mutual
def q35.j0 : Nat → Bool → List ByteArray → List (S41) → Option (Bool)
 | 0, _, _, _ => none
 | k + 1, x21, x145000, x145001 => if x21 = true then (some false) else (q35.l0 k 0 x145000 x145001)
def q35.l0 : Nat → Int → List ByteArray → List (S41) → Option (Bool)
 | 0, _, _, _ => none
 | k + 1, x3, x145000, x145001 => if x3 < (x145000.length : Int) then (if 0 ≤ x3 then ((q34.f k (rdOf ByteArray.empty x145000 x3)).bind fun t146 => (if t146 = true then (if x3 ≤ (x145000.length : Int) then ((q29.f k (x145000.take (x3 : Int).toNat) (rdOf ByteArray.empty x145000 x3)).bind fun t149 => (if t149 = true then (some false) else (q35.l0 k (wrap64 (x3 + 1)) x145000 x145001))) else (none)) else (some false))) else (none)) else (q35.l1 k 0 x145000 x145001)
def q35.l1 : Nat → Int → List ByteArray → List (S41) → Option (Bool)
 | 0, _, _, _ => none
 | k + 1, x4, x145000, x145001 => if x4 < (x145001.length : Int) then ((q28.f k x145000 x145001 x4).bind fun t150 => (if t150 = true then (q35.l1 k (wrap64 (x4 + 1)) x145000 x145001) else (some false))) else (q35.l2 k 0 x145000 x145001)
def q35.l2 : Nat → Int → List ByteArray → List (S41) → Option (Bool)
 | 0, _, _, _ => none
 | k + 1, x5, x145000, x145001 => if x5 < (x145001.length : Int) then (if 0 ≤ x5 then ((q16.f k x145000 x145001 ((q81 x145001 x5).f5)).bind fun t152 => (if t152 = true then ((q16.f k x145000 x145001 ((q81 x145001 x5).f6)).bind fun t154 => (if t154 = true then (q35.l2 k (wrap64 (x5 + 1)) x145000 x145001) else (some false))) else (some false))) else (none)) else (some true)
end
def q35.f (k : Nat) (l0_0 : List ByteArray) (l0_1 : List (S41)) : Option (Bool) := if (l0_0.length : Int) > 6 then (q35.j0 k true l0_0 l0_1) else (if (l0_1.length : Int) < 1 then (q35.j0 k true l0_0 l0_1) else (q35.j0 k (decide ((l0_1.length : Int) > 16)) l0_0 l0_1))
theorem q35.mono_l : ∀ k, (∀ y0 y1 y2, LeO (q35.j0 k y0 y1 y2) (q35.j0 (k + 1) y0 y1 y2)) ∧ (∀ y0 y1 y2, LeO (q35.l0 k y0 y1 y2) (q35.l0 (k + 1) y0 y1 y2)) ∧ (∀ y0 y1 y2, LeO (q35.l1 k y0 y1 y2) (q35.l1 (k + 1) y0 y1 y2)) ∧ (∀ y0 y1 y2, LeO (q35.l2 k y0 y1 y2) (q35.l2 (k + 1) y0 y1 y2))
 | 0 => ⟨fun _ _ _ r h => by simp [q35.j0] at h, fun _ _ _ r h => by simp [q35.l0] at h, fun _ _ _ r h => by simp [q35.l1] at h, fun _ _ _ r h => by simp [q35.l2] at h⟩
 | k + 1 => by
  obtain ⟨ih0, ih1, ih2, ih3⟩ := q35.mono_l k
  refine ⟨?_, ?_, ?_, ?_⟩
  intro y0 y1 y2
  unfold q35.j0
  rotate_left
  intro y0 y1 y2
  unfold q35.l0
  rotate_left
  intro y0 y1 y2
  unfold q35.l1
  rotate_left
  intro y0 y1 y2
  unfold q35.l2
  rotate_left
  all_goals repeat' first
   | (with_reducible exact ih0 _ _ _)
   | (with_reducible exact ih1 _ _ _)
   | (with_reducible exact ih2 _ _ _)
   | (with_reducible exact ih3 _ _ _)
   | (with_reducible exact q34.mono _ _)
   | (with_reducible exact q29.mono _ _ _)
   | (with_reducible exact q28.mono _ _ _ _)
   | (with_reducible exact q16.mono _ _ _ _)
   | (with_reducible exact LeO.refl _)
   | (with_reducible exact LeO.none _)
   | (with_reducible refine LeO.ite ?_ ?_)
   | (with_reducible refine LeO.bind ?_ (fun _ => ?_))
   | exact ih0 _ _ _
   | exact ih1 _ _ _
   | exact ih2 _ _ _
   | exact ih3 _ _ _
   | exact q34.mono _ _
   | exact q29.mono _ _ _
   | exact q28.mono _ _ _ _
   | exact q16.mono _ _ _ _
   | exact LeO.none _
   | refine LeO.ite ?_ ?_
   | refine LeO.bind ?_ (fun _ => ?_)
theorem q35.mono : ∀ a0 a1 k, LeO (q35.f k a0 a1) (q35.f (k + 1) a0 a1) := by
 intro a0 a1 k
 obtain ⟨ih0, ih1, ih2, ih3⟩ := q35.mono_l k
 unfold q35.f
 repeat' first
  | (with_reducible exact ih0 _ _ _)
  | (with_reducible exact ih1 _ _ _)
  | (with_reducible exact ih2 _ _ _)
  | (with_reducible exact ih3 _ _ _)
  | (with_reducible exact q34.mono _ _)
  | (with_reducible exact q29.mono _ _ _)
  | (with_reducible exact q28.mono _ _ _ _)
  | (with_reducible exact q16.mono _ _ _ _)
  | (with_reducible exact LeO.refl _)
  | (with_reducible exact LeO.none _)
  | (with_reducible refine LeO.ite ?_ ?_)
  | (with_reducible refine LeO.bind ?_ (fun _ => ?_))
  | exact ih0 _ _ _
  | exact ih1 _ _ _
  | exact ih2 _ _ _
  | exact ih3 _ _ _
  | exact q34.mono _ _
  | exact q29.mono _ _ _
  | exact q28.mono _ _ _ _
  | exact q16.mono _ _ _ _
  | exact LeO.none _
  | refine LeO.ite ?_ ?_
  | refine LeO.bind ?_ (fun _ => ?_)
def q35.T6 : Bool × List (List Nat × List Nat) := (true, [([], []), ([0], [0]), ([], []), ([1, 2], [1, 2]), ([3], [3]), ([4], [4]), ([5], [5]), ([6, 5], [6]), ([7], [7]), ([8, 7], [7, 8]), ([7], [7]), ([9, 10, 7], [7, 9, 10]), ([7], [7]), ([12, 7], [7, 12]), ([7], [7]), ([13, 14, 7], [7, 13, 14]), ([15, 7], [7, 15]), ([11, 16, 7, 7], [7, 11, 16]), ([7, 17], [7, 17])])
def q35.B6 : List Nat := [0, 1, 0, 7, 15, 31, 63, 127, 255, 511, 255, 2047, 255, 4351, 255, 28927, 61695, 131071, 262143]
theorem q35.tab6 : rtab .any (opsOf Try.f7 6) = q35.T6 := by kernel_rfl
theorem q35.bits6 : waitsOk q35.T6.2 q35.B6 = true := by kernel_rfl
def q35.T16 : Bool × List (List Nat × List Nat) := (true, [([], []), ([], []), ([1], [1]), ([], []), ([2, 3], [2, 3]), ([4], [4]), ([5], [5]), ([0, 6], [0, 6]), ([7], [7]), ([8, 7], [8]), ([9], [9]), ([9], [9]), ([11, 9], [9, 11]), ([9], [9]), ([12, 13, 9], [9, 12, 13]), ([14, 9], [9, 14]), ([15, 9], [9, 15]), ([10, 16, 9, 9], [9, 10, 16]), ([17, 9], [9, 17]), ([9, 18], [9, 18])])
def q35.B16 : List Nat := [0, 0, 2, 0, 14, 30, 62, 127, 255, 511, 1023, 1023, 3071, 1023, 15359, 31743, 64511, 131071, 262143, 524287]
theorem q35.tab16 : rtab .any (opsOf Try.f7 16) = q35.T16 := by kernel_rfl
theorem q35.bits16 : waitsOk q35.T16.2 q35.B16 = true := by kernel_rfl
set_option maxHeartbeats 8000000 in
set_option maxRecDepth 100000 in
theorem q35.calls (k : Nat) (A0_0 : Option Addr) (c0_0 : Nat) (l0_0 : List ByteArray) (A0_1 : Option Addr) (c0_1 : Nat) (l0_1 : List (S41)) (r : Bool) (w : World) (hr0_0 : Kd.C Kd.string w A0_0 l0_0.length l0_0) (hc0_0 : l0_0.length ≤ c0_0) (hr0_1 : Kd.C k41 w A0_1 l0_1.length l0_1) (hc0_1 : l0_1.length ≤ c0_1) (h : q35.f k l0_0 l0_1 = some r) :
 Calls Try.prog 7 #[.agg #[.slice A0_0 l0_0.length c0_0, .slice A0_1 l0_1.length c0_1]] w fun e w' => e = .returned (.bool r) ∧ Below w.heap.size w w' := by
 have hu25 := Try.underlying25
 have HR0_0 := q56.mk hr0_0
 have HC0_0 := q56.mk hc0_0
 clear hr0_0 hc0_0
 have HR0_1 := q56.mk hr0_1
 have HC0_1 := q56.mk hc0_1
 clear hr0_1 hc0_1
 have HB := q56.mk (Below.refl w.heap.size w)
 unfold q35.f at h
 have H := h
 clear h
 have HC2 := q56.mk H
 clear H
 go_enter Try.func7, Try.ntmps7
 go_upto_region 1 with (first | ((with_reducible refine q71 (N := 1) rfl ?_); (try (refine gate_guard (by rfl) ?_; dsimp only)); refine bx_ 1 #[.slice A0_0 l0_0.length c0_0, .slice A0_1 l0_1.length c0_1] 25 ?_; intro gb144 hg w3 hbox hb; have BK144 := q56.mk (hbox); have GW144 := zz_ (w := w) hg; have GE144 := zz_ (w := w) hg; replace HB := hb_ HB hb;  clear hb hbox hg))
 (try simp only [Act.put, List.setIfInBounds_toArray, List.set_cons_zero, List.set_cons_succ])
 go_cut [21] (fun v21 wc => ∃ (kq : Nat) (x21_1 : Bool), v21 = .bool x21_1 ∧ q56 (q35.j0 kq x21_1 l0_0 l0_1 = some r) ∧ q56 (kq ≤ k) ∧ q56 (wc.heap[gb144]? = some (.cells #[(.slice A0_0 l0_0.length c0_0), (.slice A0_1 l0_1.length c0_1)] 25 (0, 0))) ∧ q56 (Below w.heap.size w wc))
 case first =>
  have H := HC2.out
  clear HC2
  by_cases c4 : (l0_0.length : Int) > 6
  ·rw [if_pos c4] at H
   have c4b0 := decide_eq_true c4
   have c4b1 : decide (6 < l0_0.length) = true := decide_eq_true (by omega)
   clear c4
   (first | rw [c4b0] | (simp only [i64_w, i32_w]; rw [c4b0]) | skip)
   have H' := q56.mk H
   clear H
   obtain ⟨hcz5_0, hcz5_1, hfz5_0, hfz5_1⟩ := bs2_ BK144
   go_wp2
   go_meet
   case rel => exact ⟨_, (true), rf_, H', ⟨by first | omega | exact Nat.le_refl _⟩, ⟨gx_ BK144⟩, ⟨hf_⟩⟩
  rw [if_neg c4] at H
  have c4b0 := decide_eq_false c4
  have c4b1 : decide (6 < l0_0.length) = false := decide_eq_false (by omega)
  clear c4
  (first | rw [c4b0] | (simp only [i64_w, i32_w]; rw [c4b0]) | skip)
  by_cases c6 : (l0_1.length : Int) < 1
  ·rw [if_pos c6] at H
   have c6b0 := decide_eq_true c6
   have c6b1 : decide (l0_1.length < 1) = true := decide_eq_true (by omega)
   clear c6
   have H' := q56.mk H
   clear H
   obtain ⟨hcz7_0, hcz7_1, hfz7_0, hfz7_1⟩ := bs2_ BK144
   go_wp2
   go_meet
   case rel => exact ⟨_, (true), rf_, H', ⟨by first | omega | exact Nat.le_refl _⟩, ⟨gx_ BK144⟩, ⟨hf_⟩⟩
  rw [if_neg c6] at H
  have c6b0 := decide_eq_false c6
  have c6b1 : decide (l0_1.length < 1) = false := decide_eq_false (by omega)
  clear c6
  have H' := q56.mk H
  clear H
  obtain ⟨hcz8_0, hcz8_1, hfz8_0, hfz8_1⟩ := bs2_ BK144
  go_wp2
  go_meet
  case rel => exact ⟨_, (decide ((l0_1.length : Int) > 16)), rf_, H', ⟨by first | omega | exact Nat.le_refl _⟩, ⟨gx_ BK144⟩, ⟨hf_⟩⟩
 case rest =>
 clear HC2
 obtain ⟨kq, x21_1, rfl, HA, HJ1, BK144, HB⟩ := hcut
 cases kq with
 | zero => exact absurd HA.out (by simp [q35.j0])
 | succ kj1 =>
 have H := HA.out
 clear HA
 simp only [q35.j0] at H
 by_cases c9 : x21_1 = true
 ·subst c9
  replace H := it_ H
  obtain rfl := Option.some.inj H
  go_wp2
  go_ret
  exact ⟨er_, hf_⟩
 replace c9 := Bool.eq_false_iff.mpr c9
 subst c9
 replace H := ie_ H
 have H' := q56.mk H
 clear H
 go_wp2
 go_loopg [3] kj1 (fun kq v3 w' => ∃ (x3_2 : Int), v3 = .int .i64 x3_2 ∧ q56 (q35.l0 kq x3_2 l0_0 l0_1 = some r) ∧ q56 (kq ≤ kj1) ∧ q56 (w'.heap[gb144]? = some (.cells #[(.slice A0_0 l0_0.length c0_0), (.slice A0_1 l0_1.length c0_1)] 25 (0, 0))) ∧ q56 (Below w.heap.size w w'))
 case atStart => exact ⟨(0), rf_, H', ⟨Nat.le_refl _⟩, ⟨gx_ BK144⟩, ⟨hf_⟩⟩
 case round =>
 clear H'
 obtain ⟨x3_2, rfl, HA, HK2, BK144, HB⟩ := hrel
 cases gk with
 | zero => exact absurd HA.out (by simp [q35.l0])
 | succ k2 =>
 have H := HA.out
 clear HA
 simp only [q35.l0] at H
 by_cases c10 : x3_2 < (l0_0.length : Int)
 ·rw [if_pos c10] at H
  have c10b0 := decide_eq_true c10
  clear c10
  by_cases c11 : 0 ≤ x3_2
  rotate_left
  ·rw [if_neg c11] at H
   exact absurd H (by simp)
  rw [if_pos c11] at H
  replace c11 := decide_eq_true c11
  replace H := bd_ H
  obtain ⟨t146, A12, H⟩ := H
  by_cases c13 : t146 = true
  rotate_left
  ·replace c13 := Bool.eq_false_iff.mpr c13
   subst c13
   replace H := ie_ H
   obtain rfl := Option.some.inj H
   obtain ⟨hcz24_0, hcz24_1, hfz24_0, hfz24_1⟩ := bs2_ BK144
   try go_wp2
   replace BK144 := q56.mk (q64 BK144.out)
   replace HB := q56.mk (q58 HB.out)
   have p145 : 0 ≤ (x3_2 : Int) := od_
   have q145 : x3_2 < (l0_0.length : Int) := od_
   obtain ⟨ad145, e145, hx145_0⟩ := Kd.at_string HR0_0.out x3_2 p145 q145
   have hw145_0 := hx145_0
   cases e145
   replace hx145_0 := rr_ HB hx145_0
   replace p145 := eq_true p145
   replace q145 := eq_true q145
   refine start_ (n := 19) (S := fun w' => w'.cell? ⟨gb144, 0, none⟩ = some (.slice (some ad145) l0_0.length c0_0) ∧ w'.cell? ⟨gb144, 1, none⟩ = some (.slice A0_1 l0_1.length c0_1) ∧ w'.cell? (ad145.add (x3_2).toNat) = some (.string (rdOf ByteArray.empty l0_0 x3_2))) (ds := []) (bits_ 19 0) (by kernel_rfl) rfl rfl ⟨(bk0_ BK144 :), (bk1_ BK144 :), (rr_ HB hw145_0 :)⟩ (fun hHeld => ?_); refine with_tabW q35.tab6 q35.bits6 (fun HT_ HW_ => ?_)
   generalize wr.drew = w25 at BK144 HB hx145_0 hHeld ⊢
   refine pz_ 0 (some 29) (bits_ 19 1) HT_.out ?_
   refine pz_ 2 (some 31) (bits_ 19 5) HT_.out ?_
   refine tz_ 1 (some 30) (bits_ 19 7) HT_.out HW_.out hHeld ?_ (hy := by rintro w' ⟨s0, s1, s2⟩; go_simp; with_reducible rfl)
   refine pz_ 3 (some 32) (bits_ 19 15) HT_.out ?_
   refine tz_ 4 (some 33) (bits_ 19 31) HT_.out HW_.out hHeld ?_ (hy := by rintro w' ⟨s0, s1, s2⟩; go_simp; with_reducible rfl)
   refine oz_ 5 (some 34) (bits_ 19 63) HT_.out (fun K hK => ?_)
   refine go_s_ Try.func17 #[.string (rdOf ByteArray.empty l0_0 x3_2)] ?_
   with_reducible refine (q34.calls k2 (rdOf ByteArray.empty l0_0 x3_2) false _ A12.out).mono ?_
   rintro e w' ⟨rfl, ⟨nd, rfl⟩⟩
   refine ⟨_, rfl, ?_⟩
   refine hK.out _ _ ⟨(bk0_ BK144 :), (bk1_ BK144 :), (rr_ HB hw145_0 :)⟩ (fun hHeld => ?_)
   clear hK K
   refine nz_ (some 34) ?_
   refine pz_ 6 (some 35) (bits_ 19 127) HT_.out ?_
   refine pz_ 7 (some 36) (bits_ 19 255) HT_.out ?_
   refine sz_ 8 (some 37) (bits_ 19 511) HT_.out ?_
   refine sz_ 9 (some 38) (bits_ 19 1023) HT_.out ?_
   refine sz_ 10 (some 39) (bits_ 19 2047) HT_.out ?_
   refine sz_ 11 (some 40) (bits_ 19 4095) HT_.out ?_
   refine sz_ 12 (some 41) (bits_ 19 8191) HT_.out ?_
   refine sz_ 13 (some 42) (bits_ 19 16383) HT_.out ?_
   refine sz_ 14 (some 43) (bits_ 19 32767) HT_.out ?_
   refine sz_ 15 (some 44) (bits_ 19 65535) HT_.out ?_
   refine sz_ 16 (some 45) (bits_ 19 131071) HT_.out ?_
   refine sz_ 17 (some 46) (bits_ 19 262143) HT_.out ?_
   refine pz_ 18 (some 47) (bits_ 19 524287) HT_.out ?_
   refine done_ (done_of HT_.out (by kernel_rfl)) ?_
   try go_wp2
   go_ret
   exact ⟨er_, hf_⟩
  subst c13
  replace H := it_ H
  have c14b0 := eq_true (od_ : 0 ≤ x3_2)
  by_cases c15 : x3_2 ≤ (l0_0.length : Int)
  rotate_left
  ·rw [if_neg c15] at H
   exact absurd H (by simp)
  rw [if_pos c15] at H
  have c15b0 := eq_true c15
  have c15b1 := decide_eq_true c15
  clear c15
  replace H := bd_ H
  obtain ⟨t149, A16, H⟩ := H
  by_cases c17 : t149 = true
  ·subst c17
   replace H := it_ H
   obtain rfl := Option.some.inj H
   obtain ⟨hcz18_0, hcz18_1, hfz18_0, hfz18_1⟩ := bs2_ BK144
   try go_wp2
   replace BK144 := q56.mk (q64 BK144.out)
   replace HB := q56.mk (q58 HB.out)
   have p145 : 0 ≤ (x3_2 : Int) := od_
   have q145 : x3_2 < (l0_0.length : Int) := od_
   obtain ⟨ad145, e145, hx145_0⟩ := Kd.at_string HR0_0.out x3_2 p145 q145
   have hw145_0 := hx145_0
   cases e145
   replace hx145_0 := rr_ HB hx145_0
   replace p145 := eq_true p145
   replace q145 := eq_true q145
   have p148 : 0 ≤ (x3_2 : Int) := od_
   have q148 : x3_2 < (l0_0.length : Int) := od_
   obtain ⟨ad148, e148, hx148_0⟩ := Kd.at_string HR0_0.out x3_2 p148 q148
   have hw148_0 := hx148_0
   obtain rfl : ad145 = ad148 := (by injection e148)
   replace hx148_0 := rr_ HB hx148_0
   replace p148 := eq_true p148
   replace q148 := eq_true q148
   refine start_ (n := 19) (S := fun w' => w'.cell? ⟨gb144, 0, none⟩ = some (.slice (some ad145) l0_0.length c0_0) ∧ w'.cell? ⟨gb144, 1, none⟩ = some (.slice A0_1 l0_1.length c0_1) ∧ w'.cell? (ad145.add (x3_2).toNat) = some (.string (rdOf ByteArray.empty l0_0 x3_2)) ∧ w'.cell? (ad145.add (x3_2).toNat) = some (.string (rdOf ByteArray.empty l0_0 x3_2))) (ds := []) (bits_ 19 0) (by kernel_rfl) rfl rfl ⟨(bk0_ BK144 :), (bk1_ BK144 :), (rr_ HB hw145_0 :), (rr_ HB hw148_0 :)⟩ (fun hHeld => ?_); refine with_tabW q35.tab6 q35.bits6 (fun HT_ HW_ => ?_)
   generalize wr.drew = w19 at BK144 HB hx145_0 hx148_0 hHeld ⊢
   refine pz_ 0 (some 29) (bits_ 19 1) HT_.out ?_
   refine pz_ 2 (some 31) (bits_ 19 5) HT_.out ?_
   refine tz_ 1 (some 30) (bits_ 19 7) HT_.out HW_.out hHeld ?_ (hy := by rintro w' ⟨s0, s1, s2, s3⟩; go_simp; with_reducible rfl)
   refine pz_ 3 (some 32) (bits_ 19 15) HT_.out ?_
   refine tz_ 4 (some 33) (bits_ 19 31) HT_.out HW_.out hHeld ?_ (hy := by rintro w' ⟨s0, s1, s2, s3⟩; go_simp; with_reducible rfl)
   refine oz_ 5 (some 34) (bits_ 19 63) HT_.out (fun K hK => ?_)
   refine go_s_ Try.func17 #[.string (rdOf ByteArray.empty l0_0 x3_2)] ?_
   with_reducible refine (q34.calls k2 (rdOf ByteArray.empty l0_0 x3_2) true _ A12.out).mono ?_
   rintro e w' ⟨rfl, ⟨nd, rfl⟩⟩
   refine ⟨_, rfl, ?_⟩
   obtain ⟨i020, hi020, _, hsz20, _⟩ := info_parts info9
   obtain ⟨hcut20, hA20, hC20⟩ := print_take_of (P := Try.prog) Value.string (⟨#[]⟩ : ByteArray) 22 9 .i64 Try.underlying22 hi020 hsz20 (some ad145) c0_0 l0_0 x3_2 (od_) (od_) HC0_0.out
   have HR147 := q56.mk (Kd.C_of_reads (h1 := fun _ => rfl) (hA20 _ (Kd.reads_of_C HR0_0.out)))
   have HC147 := q56.mk hC20
   clear hA20 hC20 hi020 hsz20
   refine hK.out _ _ ⟨(bk0_ BK144 :), (bk1_ BK144 :), (rr_ HB hw145_0 :), (rr_ HB hw148_0 :)⟩ (fun hHeld => ?_)
   clear hK K
   refine nz_ (some 34) ?_
   refine pz_ 6 (some 35) (bits_ 19 127) HT_.out ?_
   refine pz_ 7 (some 36) (bits_ 19 255) HT_.out ?_
   refine pz_ 8 (some 37) (bits_ 19 511) HT_.out ?_
   refine pz_ 10 (some 39) (bits_ 19 1535) HT_.out ?_
   refine pz_ 12 (some 41) (bits_ 19 5631) HT_.out ?_
   refine pz_ 14 (some 43) (bits_ 19 22015) HT_.out ?_
   refine tz_ 9 (some 38) (bits_ 19 22527) HT_.out HW_.out hHeld ?_ (hy := by rintro w' ⟨s0, s1, s2, s3⟩; go_simp; with_reducible rfl)
   refine pz_ 11 (some 40) (bits_ 19 24575) HT_.out ?_
   refine tz_ 13 (some 42) (bits_ 19 32767) HT_.out HW_.out hHeld ?_ (hy := by rintro w' ⟨s0, s1, s2, s3⟩; go_simp; with_reducible rfl)
   refine pz_ 15 (some 44) (bits_ 19 65535) HT_.out ?_
   refine tz_ 16 (some 45) (bits_ 19 131071) HT_.out HW_.out hHeld ?_ (hy := by rintro w' ⟨s0, s1, s2, s3⟩; go_simp; with_reducible rfl)
   refine oz_ 17 (some 46) (bits_ 19 262143) HT_.out (fun K hK => ?_)
   refine goes_ Try.func18 (by kernel_rfl) rfl #[.slice (some ad145) (l0_0.take (x3_2 : Int).toNat).length c0_0, .string (rdOf ByteArray.empty l0_0 x3_2)] (by rfl) rfl rfl (by (try simp only [List.map_toArray, List.map_cons, List.map_nil]); first | done | (rw [show (l0_0.take (x3_2 : Int).toNat).length = x3_2.toNat from (by rw [List.length_take]; have h_ : (x3_2 : Int) ≤ (l0_0.length : Int) := od_; omega)] <;> rfl) | rfl | (simp only [List.length_drop, List.length_take]; rfl)) ?_
   with_reducible refine (q29.calls k2 _ _ (l0_0.take (x3_2 : Int).toNat) (rdOf ByteArray.empty l0_0 x3_2) true _ ?side1 ?side2 A16.out).mono ?_
   (case side1 => repeat (first | exact (Kd.C_below HR147.out hf_) | (with_reducible refine Kd.C_alloc ?_ _) | (with_reducible refine Kd.C_drewN ?_ _) | (with_reducible refine Kd.C_drew ?_)))
   (case side2 => exact HC147.out)
   rintro e w' ⟨rfl, ⟨nd, rfl⟩⟩
   refine ⟨_, rfl, ?_⟩
   refine hK.out _ _ ⟨(bk0_ BK144 :), (bk1_ BK144 :), (rr_ HB hw145_0 :), (rr_ HB hw148_0 :)⟩ (fun hHeld => ?_)
   clear hK K
   refine nz_ (some 46) ?_
   refine pz_ 18 (some 47) (bits_ 19 524287) HT_.out ?_
   refine done_ (done_of HT_.out (by kernel_rfl)) ?_
   try go_wp2
   go_ret
   exact ⟨er_, hf_⟩
  replace c17 := Bool.eq_false_iff.mpr c17
  subst c17
  replace H := ie_ H
  have H' := q56.mk H
  clear H
  obtain ⟨hcz21_0, hcz21_1, hfz21_0, hfz21_1⟩ := bs2_ BK144
  try go_wp2
  replace BK144 := q56.mk (q64 BK144.out)
  replace HB := q56.mk (q58 HB.out)
  have p145 : 0 ≤ (x3_2 : Int) := od_
  have q145 : x3_2 < (l0_0.length : Int) := od_
  obtain ⟨ad145, e145, hx145_0⟩ := Kd.at_string HR0_0.out x3_2 p145 q145
  have hw145_0 := hx145_0
  cases e145
  replace hx145_0 := rr_ HB hx145_0
  replace p145 := eq_true p145
  replace q145 := eq_true q145
  have p148 : 0 ≤ (x3_2 : Int) := od_
  have q148 : x3_2 < (l0_0.length : Int) := od_
  obtain ⟨ad148, e148, hx148_0⟩ := Kd.at_string HR0_0.out x3_2 p148 q148
  have hw148_0 := hx148_0
  obtain rfl : ad145 = ad148 := (by injection e148)
  replace hx148_0 := rr_ HB hx148_0
  replace p148 := eq_true p148
  replace q148 := eq_true q148
  refine start_ (n := 19) (S := fun w' => w'.cell? ⟨gb144, 0, none⟩ = some (.slice (some ad145) l0_0.length c0_0) ∧ w'.cell? ⟨gb144, 1, none⟩ = some (.slice A0_1 l0_1.length c0_1) ∧ w'.cell? (ad145.add (x3_2).toNat) = some (.string (rdOf ByteArray.empty l0_0 x3_2)) ∧ w'.cell? (ad145.add (x3_2).toNat) = some (.string (rdOf ByteArray.empty l0_0 x3_2))) (ds := []) (bits_ 19 0) (by kernel_rfl) rfl rfl ⟨(bk0_ BK144 :), (bk1_ BK144 :), (rr_ HB hw145_0 :), (rr_ HB hw148_0 :)⟩ (fun hHeld => ?_); refine with_tabW q35.tab6 q35.bits6 (fun HT_ HW_ => ?_)
  generalize wr.drew = w22 at BK144 HB hx145_0 hx148_0 hHeld ⊢
  refine pz_ 0 (some 29) (bits_ 19 1) HT_.out ?_
  refine pz_ 2 (some 31) (bits_ 19 5) HT_.out ?_
  refine tz_ 1 (some 30) (bits_ 19 7) HT_.out HW_.out hHeld ?_ (hy := by rintro w' ⟨s0, s1, s2, s3⟩; go_simp; with_reducible rfl)
  refine pz_ 3 (some 32) (bits_ 19 15) HT_.out ?_
  refine tz_ 4 (some 33) (bits_ 19 31) HT_.out HW_.out hHeld ?_ (hy := by rintro w' ⟨s0, s1, s2, s3⟩; go_simp; with_reducible rfl)
  refine oz_ 5 (some 34) (bits_ 19 63) HT_.out (fun K hK => ?_)
  refine go_s_ Try.func17 #[.string (rdOf ByteArray.empty l0_0 x3_2)] ?_
  with_reducible refine (q34.calls k2 (rdOf ByteArray.empty l0_0 x3_2) true _ A12.out).mono ?_
  rintro e w' ⟨rfl, ⟨nd, rfl⟩⟩
  refine ⟨_, rfl, ?_⟩
  obtain ⟨i023, hi023, _, hsz23, _⟩ := info_parts info9
  obtain ⟨hcut23, hA23, hC23⟩ := print_take_of (P := Try.prog) Value.string (⟨#[]⟩ : ByteArray) 22 9 .i64 Try.underlying22 hi023 hsz23 (some ad145) c0_0 l0_0 x3_2 (od_) (od_) HC0_0.out
  have HR147 := q56.mk (Kd.C_of_reads (h1 := fun _ => rfl) (hA23 _ (Kd.reads_of_C HR0_0.out)))
  have HC147 := q56.mk hC23
  clear hA23 hC23 hi023 hsz23
  refine hK.out _ _ ⟨(bk0_ BK144 :), (bk1_ BK144 :), (rr_ HB hw145_0 :), (rr_ HB hw148_0 :)⟩ (fun hHeld => ?_)
  clear hK K
  refine nz_ (some 34) ?_
  refine pz_ 6 (some 35) (bits_ 19 127) HT_.out ?_
  refine pz_ 7 (some 36) (bits_ 19 255) HT_.out ?_
  refine pz_ 8 (some 37) (bits_ 19 511) HT_.out ?_
  refine pz_ 10 (some 39) (bits_ 19 1535) HT_.out ?_
  refine pz_ 12 (some 41) (bits_ 19 5631) HT_.out ?_
  refine pz_ 14 (some 43) (bits_ 19 22015) HT_.out ?_
  refine tz_ 9 (some 38) (bits_ 19 22527) HT_.out HW_.out hHeld ?_ (hy := by rintro w' ⟨s0, s1, s2, s3⟩; go_simp; with_reducible rfl)
  refine pz_ 11 (some 40) (bits_ 19 24575) HT_.out ?_
  refine tz_ 13 (some 42) (bits_ 19 32767) HT_.out HW_.out hHeld ?_ (hy := by rintro w' ⟨s0, s1, s2, s3⟩; go_simp; with_reducible rfl)
  refine pz_ 15 (some 44) (bits_ 19 65535) HT_.out ?_
  refine tz_ 16 (some 45) (bits_ 19 131071) HT_.out HW_.out hHeld ?_ (hy := by rintro w' ⟨s0, s1, s2, s3⟩; go_simp; with_reducible rfl)
  refine oz_ 17 (some 46) (bits_ 19 262143) HT_.out (fun K hK => ?_)
  refine goes_ Try.func18 (by kernel_rfl) rfl #[.slice (some ad145) (l0_0.take (x3_2 : Int).toNat).length c0_0, .string (rdOf ByteArray.empty l0_0 x3_2)] (by rfl) rfl rfl (by (try simp only [List.map_toArray, List.map_cons, List.map_nil]); first | done | (rw [show (l0_0.take (x3_2 : Int).toNat).length = x3_2.toNat from (by rw [List.length_take]; have h_ : (x3_2 : Int) ≤ (l0_0.length : Int) := od_; omega)] <;> rfl) | rfl | (simp only [List.length_drop, List.length_take]; rfl)) ?_
  with_reducible refine (q29.calls k2 _ _ (l0_0.take (x3_2 : Int).toNat) (rdOf ByteArray.empty l0_0 x3_2) false _ ?side1 ?side2 A16.out).mono ?_
  (case side1 => repeat (first | exact (Kd.C_below HR147.out hf_) | (with_reducible refine Kd.C_alloc ?_ _) | (with_reducible refine Kd.C_drewN ?_ _) | (with_reducible refine Kd.C_drew ?_)))
  (case side2 => exact HC147.out)
  rintro e w' ⟨rfl, ⟨nd, rfl⟩⟩
  refine ⟨_, rfl, ?_⟩
  refine hK.out _ _ ⟨(bk0_ BK144 :), (bk1_ BK144 :), (rr_ HB hw145_0 :), (rr_ HB hw148_0 :)⟩ (fun hHeld => ?_)
  clear hK K
  refine nz_ (some 46) ?_
  refine pz_ 18 (some 47) (bits_ 19 524287) HT_.out ?_
  refine done_ (done_of HT_.out (by kernel_rfl)) ?_
  try go_wp2
  go_roundg k2
  case measure => have := HJ1.out; have := HK2.out; omega
  case rel => exact ⟨(wrap64 (x3_2 + 1)), rf_, H', ⟨by have := HJ1.out; have := HK2.out; omega⟩, ⟨gx_ BK144⟩, ⟨hf_⟩⟩
 rw [if_neg c10] at H
 have c10b0 := decide_eq_false c10
 clear c10
 have H' := q56.mk H
 clear H
 obtain ⟨hcz26_0, hcz26_1, hfz26_0, hfz26_1⟩ := bs2_ BK144
 go_wp2
 go_loopg [4] k2 (fun kq v4 w' => ∃ (x4_3 : Int), v4 = .int .i64 x4_3 ∧ q56 (q35.l1 kq x4_3 l0_0 l0_1 = some r) ∧ q56 (kq ≤ k2) ∧ q56 (w'.heap[gb144]? = some (.cells #[(.slice A0_0 l0_0.length c0_0), (.slice A0_1 l0_1.length c0_1)] 25 (0, 0))) ∧ q56 (Below w.heap.size w w'))
 case atStart => exact ⟨(0), rf_, H', ⟨Nat.le_refl _⟩, ⟨gx_ BK144⟩, ⟨hf_⟩⟩
 case round =>
 clear H'
 clear c10b0 hcz26_0 hcz26_1 hfz26_0 hfz26_1
 obtain ⟨x4_3, rfl, HA, HK3, BK144, HB⟩ := hrel
 cases gk with
 | zero => exact absurd HA.out (by simp [q35.l1])
 | succ k3 =>
 have H := HA.out
 clear HA
 simp only [q35.l1] at H
 by_cases c27 : x4_3 < (l0_1.length : Int)
 ·rw [if_pos c27] at H
  have c27b0 := decide_eq_true c27
  clear c27
  replace H := bd_ H
  obtain ⟨t150, A28, H⟩ := H
  by_cases c29 : t150 = true
  ·subst c29
   replace H := it_ H
   have H' := q56.mk H
   clear H
   obtain ⟨hcz30_0, hcz30_1, hfz30_0, hfz30_1⟩ := bs2_ BK144
   go_wp2_with (first | ((with_reducible refine q70 (f := 19) rfl ?_); refine gl_ (some 57) Try.func19 #[.agg #[.slice A0_0 l0_0.length c0_0, .slice A0_1 l0_1.length c0_1], .int .i64 x4_3] ?_; (with_reducible refine (q28.calls k3 _ _ l0_0 _ _ l0_1 x4_3 true _ ?side1 ?side2 ?side3 ?side4 A28.out).mono ?_); (case side1 => exact kc_ HR0_0 HB); (case side2 => exact HC0_0.out); (case side3 => exact kc_ HR0_1 HB); (case side4 => exact HC0_1.out); rintro e w31 ⟨rfl, hb⟩; refine ⟨_, rfl, ?_⟩; replace BK144 := bb_ BK144 hb; replace HB := hb_ HB hb;  (try clear hb)))
   go_roundg k3
   case measure => have := HJ1.out; have := HK2.out; have := HK3.out; omega
   case rel => exact ⟨(wrap64 (x4_3 + 1)), rf_, H', ⟨by have := HJ1.out; have := HK2.out; have := HK3.out; omega⟩, ⟨gx_ BK144⟩, ⟨hf_⟩⟩
  replace c29 := Bool.eq_false_iff.mpr c29
  subst c29
  replace H := ie_ H
  obtain rfl := Option.some.inj H
  obtain ⟨hcz32_0, hcz32_1, hfz32_0, hfz32_1⟩ := bs2_ BK144
  go_wp2_with (first | ((with_reducible refine q70 (f := 19) rfl ?_); refine gl_ (some 57) Try.func19 #[.agg #[.slice A0_0 l0_0.length c0_0, .slice A0_1 l0_1.length c0_1], .int .i64 x4_3] ?_; (with_reducible refine (q28.calls k3 _ _ l0_0 _ _ l0_1 x4_3 false _ ?side1 ?side2 ?side3 ?side4 A28.out).mono ?_); (case side1 => exact kc_ HR0_0 HB); (case side2 => exact HC0_0.out); (case side3 => exact kc_ HR0_1 HB); (case side4 => exact HC0_1.out); rintro e w33 ⟨rfl, hb⟩; refine ⟨_, rfl, ?_⟩; replace BK144 := bb_ BK144 hb; replace HB := hb_ HB hb;  (try clear hb)))
  go_ret
  exact ⟨er_, hf_⟩
 rw [if_neg c27] at H
 have c27b0 := decide_eq_false c27
 clear c27
 have H' := q56.mk H
 clear H
 obtain ⟨hcz34_0, hcz34_1, hfz34_0, hfz34_1⟩ := bs2_ BK144
 go_wp2
 go_loopg [5] k3 (fun kq v5 w' => ∃ (x5_4 : Int), v5 = .int .i64 x5_4 ∧ q56 (q35.l2 kq x5_4 l0_0 l0_1 = some r) ∧ q56 (kq ≤ k3) ∧ q56 (w'.heap[gb144]? = some (.cells #[(.slice A0_0 l0_0.length c0_0), (.slice A0_1 l0_1.length c0_1)] 25 (0, 0))) ∧ q56 (Below w.heap.size w w'))
 case atStart => exact ⟨(0), rf_, H', ⟨Nat.le_refl _⟩, ⟨gx_ BK144⟩, ⟨hf_⟩⟩
 case round =>
 clear H'
 clear c27b0 hcz34_0 hcz34_1 hfz34_0 hfz34_1
 obtain ⟨x5_4, rfl, HA, HK4, BK144, HB⟩ := hrel
 cases gk with
 | zero => exact absurd HA.out (by simp [q35.l2])
 | succ k4 =>
 have H := HA.out
 clear HA
 simp only [q35.l2] at H
 by_cases c35 : x5_4 < (l0_1.length : Int)
 rotate_left
 ·rw [if_neg c35] at H
  replace c35 := decide_eq_false c35
  obtain rfl := Option.some.inj H
  obtain ⟨hcz52_0, hcz52_1, hfz52_0, hfz52_1⟩ := bs2_ BK144
  go_wp2
  go_ret
  exact ⟨er_, hf_⟩
 rw [if_pos c35] at H
 replace c35 := decide_eq_true c35
 by_cases c36 : 0 ≤ x5_4
 rotate_left
 ·rw [if_neg c36] at H
  exact absurd H (by simp)
 rw [if_pos c36] at H
 replace c36 := decide_eq_true c36
 replace H := bd_ H
 obtain ⟨t152, A37, H⟩ := H
 by_cases c38 : t152 = true
 rotate_left
 ·replace c38 := Bool.eq_false_iff.mpr c38
  subst c38
  replace H := ie_ H
  obtain rfl := Option.some.inj H
  obtain ⟨hcz49_0, hcz49_1, hfz49_0, hfz49_1⟩ := bs2_ BK144
  try go_wp2
  replace BK144 := q56.mk (q64 BK144.out)
  replace HB := q56.mk (q58 HB.out)
  have p151 : 0 ≤ (x5_4 : Int) := od_
  have q151 : x5_4 < (l0_1.length : Int) := od_
  obtain ⟨ad151, A151_5, c151_5, A151_6, c151_6, e151, hx151_0, hx151_1, hx151_2, hx151_3, hx151_4, hx151_5, hx151_6, hl151_5, hi151_5, hl151_6, hi151_6⟩ := at_T41 HR0_1.out x5_4 p151 q151
  have hw151_6 := hx151_6
  have hw151_5 := hx151_5
  have hw151_4 := hx151_4
  have hw151_3 := hx151_3
  have hw151_2 := hx151_2
  have hw151_1 := hx151_1
  have hw151_0 := hx151_0
  cases e151
  replace hx151_0 := rr_ HB hx151_0
  replace hx151_1 := rr_ HB hx151_1
  replace hx151_2 := rr_ HB hx151_2
  replace hx151_3 := rr_ HB hx151_3
  replace hx151_4 := rr_ HB hx151_4
  replace hx151_5 := rr_ HB hx151_5
  replace hx151_6 := rr_ HB hx151_6
  have HR151_5 := q56.mk hi151_5
  have HC151_5 := q56.mk hl151_5
  clear hi151_5 hl151_5
  have HR151_6 := q56.mk hi151_6
  have HC151_6 := q56.mk hl151_6
  clear hi151_6 hl151_6
  replace p151 := eq_true p151
  replace q151 := eq_true q151
  refine start_ (n := 20) (S := fun w' => w'.cell? ⟨gb144, 0, none⟩ = some (.slice A0_0 l0_0.length c0_0) ∧ w'.cell? ⟨gb144, 1, none⟩ = some (.slice (some ad151) l0_1.length c0_1) ∧ w'.cell? (ad151.add ((x5_4).toNat * 7)) = some (.string ((q81 l0_1 x5_4).f0)) ∧ w'.cell? ⟨(ad151.add ((x5_4).toNat * 7)).block, (ad151.add ((x5_4).toNat * 7)).off + 1, none⟩ = some (.int .i64 ((q81 l0_1 x5_4).f1)) ∧ w'.cell? ⟨(ad151.add ((x5_4).toNat * 7)).block, (ad151.add ((x5_4).toNat * 7)).off + 2, none⟩ = some (.string ((q81 l0_1 x5_4).f2)) ∧ w'.cell? ⟨(ad151.add ((x5_4).toNat * 7)).block, (ad151.add ((x5_4).toNat * 7)).off + 3, none⟩ = some (.bool ((q81 l0_1 x5_4).f3)) ∧ w'.cell? ⟨(ad151.add ((x5_4).toNat * 7)).block, (ad151.add ((x5_4).toNat * 7)).off + 4, none⟩ = some (.int .i64 ((q81 l0_1 x5_4).f4)) ∧ w'.cell? ⟨(ad151.add ((x5_4).toNat * 7)).block, (ad151.add ((x5_4).toNat * 7)).off + 5, none⟩ = some (.slice A151_5 ((q81 l0_1 x5_4).f5).length c151_5) ∧ w'.cell? ⟨(ad151.add ((x5_4).toNat * 7)).block, (ad151.add ((x5_4).toNat * 7)).off + 6, none⟩ = some (.slice A151_6 ((q81 l0_1 x5_4).f6).length c151_6)) (ds := []) (bits_ 20 0) (by kernel_rfl) rfl rfl ⟨(bk0_ BK144 :), (bk1_ BK144 :), (rr_ HB hw151_0 :), (rr_ HB hw151_1 :), (rr_ HB hw151_2 :), (rr_ HB hw151_3 :), (rr_ HB hw151_4 :), (rr_ HB hw151_5 :), (rr_ HB hw151_6 :)⟩ (fun hHeld => ?_); refine with_tabW q35.tab16 q35.bits16 (fun HT_ HW_ => ?_)
  generalize wr.drew = w50 at BK144 HB HR151_5 HR151_6 hx151_0 hx151_1 hx151_2 hx151_3 hx151_4 hx151_5 hx151_6 hHeld ⊢
  refine pz_ 1 (some 67) (bits_ 20 2) HT_.out ?_
  refine pz_ 3 (some 69) (bits_ 20 10) HT_.out ?_
  refine tz_ 0 (some 66) (bits_ 20 11) HT_.out HW_.out hHeld ?_ (hy := by rintro w' ⟨s0, s1, s2, s3, s4, s5, s6, s7, s8⟩; go_simp; with_reducible rfl)
  refine tz_ 2 (some 68) (bits_ 20 15) HT_.out HW_.out hHeld ?_ (hy := by rintro w' ⟨s0, s1, s2, s3, s4, s5, s6, s7, s8⟩; go_simp; with_reducible rfl)
  refine pz_ 4 (some 70) (bits_ 20 31) HT_.out ?_
  refine pz_ 5 (some 71) (bits_ 20 63) HT_.out ?_
  refine tz_ 6 (some 72) (bits_ 20 127) HT_.out HW_.out hHeld ?_ (hy := by rintro w' ⟨s0, s1, s2, s3, s4, s5, s6, s7, s8⟩; go_simp; with_reducible rfl)
  refine oz_ 7 (some 73) (bits_ 20 255) HT_.out (fun K hK => ?_)
  refine go_s_ Try.func20 #[.agg #[.slice A0_0 l0_0.length c0_0, .slice (some ad151) l0_1.length c0_1], .slice A151_5 ((q81 l0_1 x5_4).f5).length c151_5] ?_
  with_reducible refine (q16.calls k4 _ _ l0_0 _ _ l0_1 _ _ ((q81 l0_1 x5_4).f5) false _ ?side1 ?side2 ?side3 ?side4 ?side5 ?side6 A37.out).mono ?_
  (case side1 => exact kc_ HR0_0 HB)
  (case side2 => exact HC0_0.out)
  (case side3 => exact kc_ HR0_1 HB)
  (case side4 => exact HC0_1.out)
  (case side5 => exact kc_ HR151_5 HB)
  (case side6 => exact HC151_5.out)
  rintro e w51 ⟨rfl, hb⟩
  refine ⟨_, rfl, ?_⟩
  replace BK144 := bb_ BK144 hb
  replace HB := hb_ HB hb
  clear hb
  refine hK.out _ _ ⟨(bk0_ BK144 :), (bk1_ BK144 :), (rr_ HB hw151_0 :), (rr_ HB hw151_1 :), (rr_ HB hw151_2 :), (rr_ HB hw151_3 :), (rr_ HB hw151_4 :), (rr_ HB hw151_5 :), (rr_ HB hw151_6 :)⟩ (fun hHeld => ?_)
  clear hK K
  refine nz_ (some 73) ?_
  refine pz_ 8 (some 74) (bits_ 20 511) HT_.out ?_
  refine pz_ 9 (some 75) (bits_ 20 1023) HT_.out ?_
  refine sz_ 10 (some 76) (bits_ 20 2047) HT_.out ?_
  refine sz_ 11 (some 77) (bits_ 20 4095) HT_.out ?_
  refine sz_ 12 (some 78) (bits_ 20 8191) HT_.out ?_
  refine sz_ 13 (some 79) (bits_ 20 16383) HT_.out ?_
  refine sz_ 14 (some 80) (bits_ 20 32767) HT_.out ?_
  refine sz_ 15 (some 81) (bits_ 20 65535) HT_.out ?_
  refine sz_ 16 (some 82) (bits_ 20 131071) HT_.out ?_
  refine sz_ 17 (some 83) (bits_ 20 262143) HT_.out ?_
  refine sz_ 18 (some 84) (bits_ 20 524287) HT_.out ?_
  refine pz_ 19 (some 85) (bits_ 20 1048575) HT_.out ?_
  refine done_ (done_of HT_.out (by kernel_rfl)) ?_
  try go_wp2
  go_ret
  exact ⟨er_, hf_⟩
 subst c38
 replace H := it_ H
 replace H := bd_ H
 obtain ⟨t154, A39, H⟩ := H
 by_cases c40 : t154 = true
 ·subst c40
  replace H := it_ H
  have H' := q56.mk H
  clear H
  obtain ⟨hcz41_0, hcz41_1, hfz41_0, hfz41_1⟩ := bs2_ BK144
  try go_wp2
  replace BK144 := q56.mk (q64 BK144.out)
  replace HB := q56.mk (q58 HB.out)
  have p151 : 0 ≤ (x5_4 : Int) := od_
  have q151 : x5_4 < (l0_1.length : Int) := od_
  obtain ⟨ad151, A151_5, c151_5, A151_6, c151_6, e151, hx151_0, hx151_1, hx151_2, hx151_3, hx151_4, hx151_5, hx151_6, hl151_5, hi151_5, hl151_6, hi151_6⟩ := at_T41 HR0_1.out x5_4 p151 q151
  have hw151_6 := hx151_6
  have hw151_5 := hx151_5
  have hw151_4 := hx151_4
  have hw151_3 := hx151_3
  have hw151_2 := hx151_2
  have hw151_1 := hx151_1
  have hw151_0 := hx151_0
  cases e151
  replace hx151_0 := rr_ HB hx151_0
  replace hx151_1 := rr_ HB hx151_1
  replace hx151_2 := rr_ HB hx151_2
  replace hx151_3 := rr_ HB hx151_3
  replace hx151_4 := rr_ HB hx151_4
  replace hx151_5 := rr_ HB hx151_5
  replace hx151_6 := rr_ HB hx151_6
  have HR151_5 := q56.mk hi151_5
  have HC151_5 := q56.mk hl151_5
  clear hi151_5 hl151_5
  have HR151_6 := q56.mk hi151_6
  have HC151_6 := q56.mk hl151_6
  clear hi151_6 hl151_6
  replace p151 := eq_true p151
  replace q151 := eq_true q151
  have p153 : 0 ≤ (x5_4 : Int) := od_
  have q153 : x5_4 < (l0_1.length : Int) := od_
  obtain ⟨ad153, A153_5, c153_5, A153_6, c153_6, e153, hx153_0, hx153_1, hx153_2, hx153_3, hx153_4, hx153_5, hx153_6, hl153_5, hi153_5, hl153_6, hi153_6⟩ := at_T41 HR0_1.out x5_4 p153 q153
  have hw153_6 := hx153_6
  have hw153_5 := hx153_5
  have hw153_4 := hx153_4
  have hw153_3 := hx153_3
  have hw153_2 := hx153_2
  have hw153_1 := hx153_1
  have hw153_0 := hx153_0
  obtain rfl : ad151 = ad153 := (by injection e153)
  obtain ⟨rfl, rfl⟩ : A151_5 = A153_5 ∧ c151_5 = c153_5 := by (have z := Option.some.inj (hw151_5.symm.trans hw153_5); injection z with z1 z2 z3; exact ⟨z1, z3⟩)
  obtain ⟨rfl, rfl⟩ : A151_6 = A153_6 ∧ c151_6 = c153_6 := by (have z := Option.some.inj (hw151_6.symm.trans hw153_6); injection z with z1 z2 z3; exact ⟨z1, z3⟩)
  replace hx153_0 := rr_ HB hx153_0
  replace hx153_1 := rr_ HB hx153_1
  replace hx153_2 := rr_ HB hx153_2
  replace hx153_3 := rr_ HB hx153_3
  replace hx153_4 := rr_ HB hx153_4
  replace hx153_5 := rr_ HB hx153_5
  replace hx153_6 := rr_ HB hx153_6
  have HR153_5 := q56.mk hi153_5
  have HC153_5 := q56.mk hl153_5
  clear hi153_5 hl153_5
  have HR153_6 := q56.mk hi153_6
  have HC153_6 := q56.mk hl153_6
  clear hi153_6 hl153_6
  replace p153 := eq_true p153
  replace q153 := eq_true q153
  refine start_ (n := 20) (S := fun w' => w'.cell? ⟨gb144, 0, none⟩ = some (.slice A0_0 l0_0.length c0_0) ∧ w'.cell? ⟨gb144, 1, none⟩ = some (.slice (some ad151) l0_1.length c0_1) ∧ w'.cell? (ad151.add ((x5_4).toNat * 7)) = some (.string ((q81 l0_1 x5_4).f0)) ∧ w'.cell? ⟨(ad151.add ((x5_4).toNat * 7)).block, (ad151.add ((x5_4).toNat * 7)).off + 1, none⟩ = some (.int .i64 ((q81 l0_1 x5_4).f1)) ∧ w'.cell? ⟨(ad151.add ((x5_4).toNat * 7)).block, (ad151.add ((x5_4).toNat * 7)).off + 2, none⟩ = some (.string ((q81 l0_1 x5_4).f2)) ∧ w'.cell? ⟨(ad151.add ((x5_4).toNat * 7)).block, (ad151.add ((x5_4).toNat * 7)).off + 3, none⟩ = some (.bool ((q81 l0_1 x5_4).f3)) ∧ w'.cell? ⟨(ad151.add ((x5_4).toNat * 7)).block, (ad151.add ((x5_4).toNat * 7)).off + 4, none⟩ = some (.int .i64 ((q81 l0_1 x5_4).f4)) ∧ w'.cell? ⟨(ad151.add ((x5_4).toNat * 7)).block, (ad151.add ((x5_4).toNat * 7)).off + 5, none⟩ = some (.slice A151_5 ((q81 l0_1 x5_4).f5).length c151_5) ∧ w'.cell? ⟨(ad151.add ((x5_4).toNat * 7)).block, (ad151.add ((x5_4).toNat * 7)).off + 6, none⟩ = some (.slice A151_6 ((q81 l0_1 x5_4).f6).length c151_6) ∧ w'.cell? (ad151.add ((x5_4).toNat * 7)) = some (.string ((q81 l0_1 x5_4).f0)) ∧ w'.cell? ⟨(ad151.add ((x5_4).toNat * 7)).block, (ad151.add ((x5_4).toNat * 7)).off + 1, none⟩ = some (.int .i64 ((q81 l0_1 x5_4).f1)) ∧ w'.cell? ⟨(ad151.add ((x5_4).toNat * 7)).block, (ad151.add ((x5_4).toNat * 7)).off + 2, none⟩ = some (.string ((q81 l0_1 x5_4).f2)) ∧ w'.cell? ⟨(ad151.add ((x5_4).toNat * 7)).block, (ad151.add ((x5_4).toNat * 7)).off + 3, none⟩ = some (.bool ((q81 l0_1 x5_4).f3)) ∧ w'.cell? ⟨(ad151.add ((x5_4).toNat * 7)).block, (ad151.add ((x5_4).toNat * 7)).off + 4, none⟩ = some (.int .i64 ((q81 l0_1 x5_4).f4)) ∧ w'.cell? ⟨(ad151.add ((x5_4).toNat * 7)).block, (ad151.add ((x5_4).toNat * 7)).off + 5, none⟩ = some (.slice A151_5 ((q81 l0_1 x5_4).f5).length c151_5) ∧ w'.cell? ⟨(ad151.add ((x5_4).toNat * 7)).block, (ad151.add ((x5_4).toNat * 7)).off + 6, none⟩ = some (.slice A151_6 ((q81 l0_1 x5_4).f6).length c151_6)) (ds := []) (bits_ 20 0) (by kernel_rfl) rfl rfl ⟨(bk0_ BK144 :), (bk1_ BK144 :), (rr_ HB hw151_0 :), (rr_ HB hw151_1 :), (rr_ HB hw151_2 :), (rr_ HB hw151_3 :), (rr_ HB hw151_4 :), (rr_ HB hw151_5 :), (rr_ HB hw151_6 :), (rr_ HB hw153_0 :), (rr_ HB hw153_1 :), (rr_ HB hw153_2 :), (rr_ HB hw153_3 :), (rr_ HB hw153_4 :), (rr_ HB hw153_5 :), (rr_ HB hw153_6 :)⟩ (fun hHeld => ?_); refine with_tabW q35.tab16 q35.bits16 (fun HT_ HW_ => ?_)
  generalize wr.drew = w42 at BK144 HB HR151_5 HR151_6 HR153_5 HR153_6 hx151_0 hx151_1 hx151_2 hx151_3 hx151_4 hx151_5 hx151_6 hx153_0 hx153_1 hx153_2 hx153_3 hx153_4 hx153_5 hx153_6 hHeld ⊢
  refine pz_ 1 (some 67) (bits_ 20 2) HT_.out ?_
  refine pz_ 3 (some 69) (bits_ 20 10) HT_.out ?_
  refine tz_ 0 (some 66) (bits_ 20 11) HT_.out HW_.out hHeld ?_ (hy := by rintro w' ⟨s0, s1, s2, s3, s4, s5, s6, s7, s8, s9, s10, s11, s12, s13, s14, s15⟩; go_simp; with_reducible rfl)
  refine tz_ 2 (some 68) (bits_ 20 15) HT_.out HW_.out hHeld ?_ (hy := by rintro w' ⟨s0, s1, s2, s3, s4, s5, s6, s7, s8, s9, s10, s11, s12, s13, s14, s15⟩; go_simp; with_reducible rfl)
  refine pz_ 4 (some 70) (bits_ 20 31) HT_.out ?_
  refine pz_ 5 (some 71) (bits_ 20 63) HT_.out ?_
  refine tz_ 6 (some 72) (bits_ 20 127) HT_.out HW_.out hHeld ?_ (hy := by rintro w' ⟨s0, s1, s2, s3, s4, s5, s6, s7, s8, s9, s10, s11, s12, s13, s14, s15⟩; go_simp; with_reducible rfl)
  refine oz_ 7 (some 73) (bits_ 20 255) HT_.out (fun K hK => ?_)
  refine go_s_ Try.func20 #[.agg #[.slice A0_0 l0_0.length c0_0, .slice (some ad151) l0_1.length c0_1], .slice A151_5 ((q81 l0_1 x5_4).f5).length c151_5] ?_
  with_reducible refine (q16.calls k4 _ _ l0_0 _ _ l0_1 _ _ ((q81 l0_1 x5_4).f5) true _ ?side1 ?side2 ?side3 ?side4 ?side5 ?side6 A37.out).mono ?_
  (case side1 => exact kc_ HR0_0 HB)
  (case side2 => exact HC0_0.out)
  (case side3 => exact kc_ HR0_1 HB)
  (case side4 => exact HC0_1.out)
  (case side5 => exact kc_ HR151_5 HB)
  (case side6 => exact HC151_5.out)
  rintro e w43 ⟨rfl, hb⟩
  refine ⟨_, rfl, ?_⟩
  replace BK144 := bb_ BK144 hb
  replace HB := hb_ HB hb
  clear hb
  refine hK.out _ _ ⟨(bk0_ BK144 :), (bk1_ BK144 :), (rr_ HB hw151_0 :), (rr_ HB hw151_1 :), (rr_ HB hw151_2 :), (rr_ HB hw151_3 :), (rr_ HB hw151_4 :), (rr_ HB hw151_5 :), (rr_ HB hw151_6 :), (rr_ HB hw153_0 :), (rr_ HB hw153_1 :), (rr_ HB hw153_2 :), (rr_ HB hw153_3 :), (rr_ HB hw153_4 :), (rr_ HB hw153_5 :), (rr_ HB hw153_6 :)⟩ (fun hHeld => ?_)
  clear hK K
  refine nz_ (some 73) ?_
  refine pz_ 8 (some 74) (bits_ 20 511) HT_.out ?_
  refine pz_ 9 (some 75) (bits_ 20 1023) HT_.out ?_
  refine pz_ 11 (some 77) (bits_ 20 3071) HT_.out ?_
  refine pz_ 13 (some 79) (bits_ 20 11263) HT_.out ?_
  refine tz_ 10 (some 76) (bits_ 20 12287) HT_.out HW_.out hHeld ?_ (hy := by rintro w' ⟨s0, s1, s2, s3, s4, s5, s6, s7, s8, s9, s10, s11, s12, s13, s14, s15⟩; go_simp; with_reducible rfl)
  refine tz_ 12 (some 78) (bits_ 20 16383) HT_.out HW_.out hHeld ?_ (hy := by rintro w' ⟨s0, s1, s2, s3, s4, s5, s6, s7, s8, s9, s10, s11, s12, s13, s14, s15⟩; go_simp; with_reducible rfl)
  refine pz_ 14 (some 80) (bits_ 20 32767) HT_.out ?_
  refine pz_ 15 (some 81) (bits_ 20 65535) HT_.out ?_
  refine tz_ 16 (some 82) (bits_ 20 131071) HT_.out HW_.out hHeld ?_ (hy := by rintro w' ⟨s0, s1, s2, s3, s4, s5, s6, s7, s8, s9, s10, s11, s12, s13, s14, s15⟩; go_simp; with_reducible rfl)
  refine oz_ 17 (some 83) (bits_ 20 262143) HT_.out (fun K hK => ?_)
  refine go_s_ Try.func20 #[.agg #[.slice A0_0 l0_0.length c0_0, .slice (some ad151) l0_1.length c0_1], .slice A151_6 ((q81 l0_1 x5_4).f6).length c151_6] ?_
  with_reducible refine (q16.calls k4 _ _ l0_0 _ _ l0_1 _ _ ((q81 l0_1 x5_4).f6) true _ ?side1 ?side2 ?side3 ?side4 ?side5 ?side6 A39.out).mono ?_
  (case side1 => exact kc_ HR0_0 HB)
  (case side2 => exact HC0_0.out)
  (case side3 => exact kc_ HR0_1 HB)
  (case side4 => exact HC0_1.out)
  (case side5 => exact kc_ HR153_6 HB)
  (case side6 => exact HC153_6.out)
  rintro e w44 ⟨rfl, hb⟩
  refine ⟨_, rfl, ?_⟩
  replace BK144 := bb_ BK144 hb
  replace HB := hb_ HB hb
  clear hb
  refine hK.out _ _ ⟨(bk0_ BK144 :), (bk1_ BK144 :), (rr_ HB hw151_0 :), (rr_ HB hw151_1 :), (rr_ HB hw151_2 :), (rr_ HB hw151_3 :), (rr_ HB hw151_4 :), (rr_ HB hw151_5 :), (rr_ HB hw151_6 :), (rr_ HB hw153_0 :), (rr_ HB hw153_1 :), (rr_ HB hw153_2 :), (rr_ HB hw153_3 :), (rr_ HB hw153_4 :), (rr_ HB hw153_5 :), (rr_ HB hw153_6 :)⟩ (fun hHeld => ?_)
  clear hK K
  refine nz_ (some 83) ?_
  refine pz_ 18 (some 84) (bits_ 20 524287) HT_.out ?_
  refine pz_ 19 (some 85) (bits_ 20 1048575) HT_.out ?_
  refine done_ (done_of HT_.out (by kernel_rfl)) ?_
  try go_wp2
  go_roundg k4
  case measure => have := HJ1.out; have := HK2.out; have := HK3.out; have := HK4.out; omega
  case rel => exact ⟨(wrap64 (x5_4 + 1)), rf_, H', ⟨by have := HJ1.out; have := HK2.out; have := HK3.out; have := HK4.out; omega⟩, ⟨gx_ BK144⟩, ⟨hf_⟩⟩
 replace c40 := Bool.eq_false_iff.mpr c40
 subst c40
 replace H := ie_ H
 obtain rfl := Option.some.inj H
 obtain ⟨hcz45_0, hcz45_1, hfz45_0, hfz45_1⟩ := bs2_ BK144
 try go_wp2
 replace BK144 := q56.mk (q64 BK144.out)
 replace HB := q56.mk (q58 HB.out)
 have p151 : 0 ≤ (x5_4 : Int) := od_
 have q151 : x5_4 < (l0_1.length : Int) := od_
 obtain ⟨ad151, A151_5, c151_5, A151_6, c151_6, e151, hx151_0, hx151_1, hx151_2, hx151_3, hx151_4, hx151_5, hx151_6, hl151_5, hi151_5, hl151_6, hi151_6⟩ := at_T41 HR0_1.out x5_4 p151 q151
 have hw151_6 := hx151_6
 have hw151_5 := hx151_5
 have hw151_4 := hx151_4
 have hw151_3 := hx151_3
 have hw151_2 := hx151_2
 have hw151_1 := hx151_1
 have hw151_0 := hx151_0
 cases e151
 replace hx151_0 := rr_ HB hx151_0
 replace hx151_1 := rr_ HB hx151_1
 replace hx151_2 := rr_ HB hx151_2
 replace hx151_3 := rr_ HB hx151_3
 replace hx151_4 := rr_ HB hx151_4
 replace hx151_5 := rr_ HB hx151_5
 replace hx151_6 := rr_ HB hx151_6
 have HR151_5 := q56.mk hi151_5
 have HC151_5 := q56.mk hl151_5
 clear hi151_5 hl151_5
 have HR151_6 := q56.mk hi151_6
 have HC151_6 := q56.mk hl151_6
 clear hi151_6 hl151_6
 replace p151 := eq_true p151
 replace q151 := eq_true q151
 have p153 : 0 ≤ (x5_4 : Int) := od_
 have q153 : x5_4 < (l0_1.length : Int) := od_
 obtain ⟨ad153, A153_5, c153_5, A153_6, c153_6, e153, hx153_0, hx153_1, hx153_2, hx153_3, hx153_4, hx153_5, hx153_6, hl153_5, hi153_5, hl153_6, hi153_6⟩ := at_T41 HR0_1.out x5_4 p153 q153
 have hw153_6 := hx153_6
 have hw153_5 := hx153_5
 have hw153_4 := hx153_4
 have hw153_3 := hx153_3
 have hw153_2 := hx153_2
 have hw153_1 := hx153_1
 have hw153_0 := hx153_0
 obtain rfl : ad151 = ad153 := (by injection e153)
 obtain ⟨rfl, rfl⟩ : A151_5 = A153_5 ∧ c151_5 = c153_5 := by (have z := Option.some.inj (hw151_5.symm.trans hw153_5); injection z with z1 z2 z3; exact ⟨z1, z3⟩)
 obtain ⟨rfl, rfl⟩ : A151_6 = A153_6 ∧ c151_6 = c153_6 := by (have z := Option.some.inj (hw151_6.symm.trans hw153_6); injection z with z1 z2 z3; exact ⟨z1, z3⟩)
 replace hx153_0 := rr_ HB hx153_0
 replace hx153_1 := rr_ HB hx153_1
 replace hx153_2 := rr_ HB hx153_2
 replace hx153_3 := rr_ HB hx153_3
 replace hx153_4 := rr_ HB hx153_4
 replace hx153_5 := rr_ HB hx153_5
 replace hx153_6 := rr_ HB hx153_6
 have HR153_5 := q56.mk hi153_5
 have HC153_5 := q56.mk hl153_5
 clear hi153_5 hl153_5
 have HR153_6 := q56.mk hi153_6
 have HC153_6 := q56.mk hl153_6
 clear hi153_6 hl153_6
 replace p153 := eq_true p153
 replace q153 := eq_true q153
 refine start_ (n := 20) (S := fun w' => w'.cell? ⟨gb144, 0, none⟩ = some (.slice A0_0 l0_0.length c0_0) ∧ w'.cell? ⟨gb144, 1, none⟩ = some (.slice (some ad151) l0_1.length c0_1) ∧ w'.cell? (ad151.add ((x5_4).toNat * 7)) = some (.string ((q81 l0_1 x5_4).f0)) ∧ w'.cell? ⟨(ad151.add ((x5_4).toNat * 7)).block, (ad151.add ((x5_4).toNat * 7)).off + 1, none⟩ = some (.int .i64 ((q81 l0_1 x5_4).f1)) ∧ w'.cell? ⟨(ad151.add ((x5_4).toNat * 7)).block, (ad151.add ((x5_4).toNat * 7)).off + 2, none⟩ = some (.string ((q81 l0_1 x5_4).f2)) ∧ w'.cell? ⟨(ad151.add ((x5_4).toNat * 7)).block, (ad151.add ((x5_4).toNat * 7)).off + 3, none⟩ = some (.bool ((q81 l0_1 x5_4).f3)) ∧ w'.cell? ⟨(ad151.add ((x5_4).toNat * 7)).block, (ad151.add ((x5_4).toNat * 7)).off + 4, none⟩ = some (.int .i64 ((q81 l0_1 x5_4).f4)) ∧ w'.cell? ⟨(ad151.add ((x5_4).toNat * 7)).block, (ad151.add ((x5_4).toNat * 7)).off + 5, none⟩ = some (.slice A151_5 ((q81 l0_1 x5_4).f5).length c151_5) ∧ w'.cell? ⟨(ad151.add ((x5_4).toNat * 7)).block, (ad151.add ((x5_4).toNat * 7)).off + 6, none⟩ = some (.slice A151_6 ((q81 l0_1 x5_4).f6).length c151_6) ∧ w'.cell? (ad151.add ((x5_4).toNat * 7)) = some (.string ((q81 l0_1 x5_4).f0)) ∧ w'.cell? ⟨(ad151.add ((x5_4).toNat * 7)).block, (ad151.add ((x5_4).toNat * 7)).off + 1, none⟩ = some (.int .i64 ((q81 l0_1 x5_4).f1)) ∧ w'.cell? ⟨(ad151.add ((x5_4).toNat * 7)).block, (ad151.add ((x5_4).toNat * 7)).off + 2, none⟩ = some (.string ((q81 l0_1 x5_4).f2)) ∧ w'.cell? ⟨(ad151.add ((x5_4).toNat * 7)).block, (ad151.add ((x5_4).toNat * 7)).off + 3, none⟩ = some (.bool ((q81 l0_1 x5_4).f3)) ∧ w'.cell? ⟨(ad151.add ((x5_4).toNat * 7)).block, (ad151.add ((x5_4).toNat * 7)).off + 4, none⟩ = some (.int .i64 ((q81 l0_1 x5_4).f4)) ∧ w'.cell? ⟨(ad151.add ((x5_4).toNat * 7)).block, (ad151.add ((x5_4).toNat * 7)).off + 5, none⟩ = some (.slice A151_5 ((q81 l0_1 x5_4).f5).length c151_5) ∧ w'.cell? ⟨(ad151.add ((x5_4).toNat * 7)).block, (ad151.add ((x5_4).toNat * 7)).off + 6, none⟩ = some (.slice A151_6 ((q81 l0_1 x5_4).f6).length c151_6)) (ds := []) (bits_ 20 0) (by kernel_rfl) rfl rfl ⟨(bk0_ BK144 :), (bk1_ BK144 :), (rr_ HB hw151_0 :), (rr_ HB hw151_1 :), (rr_ HB hw151_2 :), (rr_ HB hw151_3 :), (rr_ HB hw151_4 :), (rr_ HB hw151_5 :), (rr_ HB hw151_6 :), (rr_ HB hw153_0 :), (rr_ HB hw153_1 :), (rr_ HB hw153_2 :), (rr_ HB hw153_3 :), (rr_ HB hw153_4 :), (rr_ HB hw153_5 :), (rr_ HB hw153_6 :)⟩ (fun hHeld => ?_); refine with_tabW q35.tab16 q35.bits16 (fun HT_ HW_ => ?_)
 generalize wr.drew = w46 at BK144 HB HR151_5 HR151_6 HR153_5 HR153_6 hx151_0 hx151_1 hx151_2 hx151_3 hx151_4 hx151_5 hx151_6 hx153_0 hx153_1 hx153_2 hx153_3 hx153_4 hx153_5 hx153_6 hHeld ⊢
 refine pz_ 1 (some 67) (bits_ 20 2) HT_.out ?_
 refine pz_ 3 (some 69) (bits_ 20 10) HT_.out ?_
 refine tz_ 0 (some 66) (bits_ 20 11) HT_.out HW_.out hHeld ?_ (hy := by rintro w' ⟨s0, s1, s2, s3, s4, s5, s6, s7, s8, s9, s10, s11, s12, s13, s14, s15⟩; go_simp; with_reducible rfl)
 refine tz_ 2 (some 68) (bits_ 20 15) HT_.out HW_.out hHeld ?_ (hy := by rintro w' ⟨s0, s1, s2, s3, s4, s5, s6, s7, s8, s9, s10, s11, s12, s13, s14, s15⟩; go_simp; with_reducible rfl)
 refine pz_ 4 (some 70) (bits_ 20 31) HT_.out ?_
 refine pz_ 5 (some 71) (bits_ 20 63) HT_.out ?_
 refine tz_ 6 (some 72) (bits_ 20 127) HT_.out HW_.out hHeld ?_ (hy := by rintro w' ⟨s0, s1, s2, s3, s4, s5, s6, s7, s8, s9, s10, s11, s12, s13, s14, s15⟩; go_simp; with_reducible rfl)
 refine oz_ 7 (some 73) (bits_ 20 255) HT_.out (fun K hK => ?_)
 refine go_s_ Try.func20 #[.agg #[.slice A0_0 l0_0.length c0_0, .slice (some ad151) l0_1.length c0_1], .slice A151_5 ((q81 l0_1 x5_4).f5).length c151_5] ?_
 with_reducible refine (q16.calls k4 _ _ l0_0 _ _ l0_1 _ _ ((q81 l0_1 x5_4).f5) true _ ?side1 ?side2 ?side3 ?side4 ?side5 ?side6 A37.out).mono ?_
 (case side1 => exact kc_ HR0_0 HB)
 (case side2 => exact HC0_0.out)
 (case side3 => exact kc_ HR0_1 HB)
 (case side4 => exact HC0_1.out)
 (case side5 => exact kc_ HR151_5 HB)
 (case side6 => exact HC151_5.out)
 rintro e w47 ⟨rfl, hb⟩
 refine ⟨_, rfl, ?_⟩
 replace BK144 := bb_ BK144 hb
 replace HB := hb_ HB hb
 clear hb
 refine hK.out _ _ ⟨(bk0_ BK144 :), (bk1_ BK144 :), (rr_ HB hw151_0 :), (rr_ HB hw151_1 :), (rr_ HB hw151_2 :), (rr_ HB hw151_3 :), (rr_ HB hw151_4 :), (rr_ HB hw151_5 :), (rr_ HB hw151_6 :), (rr_ HB hw153_0 :), (rr_ HB hw153_1 :), (rr_ HB hw153_2 :), (rr_ HB hw153_3 :), (rr_ HB hw153_4 :), (rr_ HB hw153_5 :), (rr_ HB hw153_6 :)⟩ (fun hHeld => ?_)
 clear hK K
 refine nz_ (some 73) ?_
 refine pz_ 8 (some 74) (bits_ 20 511) HT_.out ?_
 refine pz_ 9 (some 75) (bits_ 20 1023) HT_.out ?_
 refine pz_ 11 (some 77) (bits_ 20 3071) HT_.out ?_
 refine pz_ 13 (some 79) (bits_ 20 11263) HT_.out ?_
 refine tz_ 10 (some 76) (bits_ 20 12287) HT_.out HW_.out hHeld ?_ (hy := by rintro w' ⟨s0, s1, s2, s3, s4, s5, s6, s7, s8, s9, s10, s11, s12, s13, s14, s15⟩; go_simp; with_reducible rfl)
 refine tz_ 12 (some 78) (bits_ 20 16383) HT_.out HW_.out hHeld ?_ (hy := by rintro w' ⟨s0, s1, s2, s3, s4, s5, s6, s7, s8, s9, s10, s11, s12, s13, s14, s15⟩; go_simp; with_reducible rfl)
 refine pz_ 14 (some 80) (bits_ 20 32767) HT_.out ?_
 refine pz_ 15 (some 81) (bits_ 20 65535) HT_.out ?_
 refine tz_ 16 (some 82) (bits_ 20 131071) HT_.out HW_.out hHeld ?_ (hy := by rintro w' ⟨s0, s1, s2, s3, s4, s5, s6, s7, s8, s9, s10, s11, s12, s13, s14, s15⟩; go_simp; with_reducible rfl)
 refine oz_ 17 (some 83) (bits_ 20 262143) HT_.out (fun K hK => ?_)
 refine go_s_ Try.func20 #[.agg #[.slice A0_0 l0_0.length c0_0, .slice (some ad151) l0_1.length c0_1], .slice A151_6 ((q81 l0_1 x5_4).f6).length c151_6] ?_
 with_reducible refine (q16.calls k4 _ _ l0_0 _ _ l0_1 _ _ ((q81 l0_1 x5_4).f6) false _ ?side1 ?side2 ?side3 ?side4 ?side5 ?side6 A39.out).mono ?_
 (case side1 => exact kc_ HR0_0 HB)
 (case side2 => exact HC0_0.out)
 (case side3 => exact kc_ HR0_1 HB)
 (case side4 => exact HC0_1.out)
 (case side5 => exact kc_ HR153_6 HB)
 (case side6 => exact HC153_6.out)
 rintro e w48 ⟨rfl, hb⟩
 refine ⟨_, rfl, ?_⟩
 replace BK144 := bb_ BK144 hb
 replace HB := hb_ HB hb
 clear hb
 refine hK.out _ _ ⟨(bk0_ BK144 :), (bk1_ BK144 :), (rr_ HB hw151_0 :), (rr_ HB hw151_1 :), (rr_ HB hw151_2 :), (rr_ HB hw151_3 :), (rr_ HB hw151_4 :), (rr_ HB hw151_5 :), (rr_ HB hw151_6 :), (rr_ HB hw153_0 :), (rr_ HB hw153_1 :), (rr_ HB hw153_2 :), (rr_ HB hw153_3 :), (rr_ HB hw153_4 :), (rr_ HB hw153_5 :), (rr_ HB hw153_6 :)⟩ (fun hHeld => ?_)
 clear hK K
 refine nz_ (some 83) ?_
 refine pz_ 18 (some 84) (bits_ 20 524287) HT_.out ?_
 refine pz_ 19 (some 85) (bits_ 20 1048575) HT_.out ?_
 refine done_ (done_of HT_.out (by kernel_rfl)) ?_
 try go_wp2
 go_ret
 exact ⟨er_, hf_⟩
def q52.l0 : Nat → List ByteArray → List (S41) → Int → Int → Option (List ByteArray)
 | 0, _, _, _, _ => none
 | k + 1, x3, x7, x8, x9 => if x9 < x8 then (if 0 ≤ x9 then (if x9 < (x7.length : Int) then (if x3.length < 8796093022208 then (q52.l0 k (x3 ++ [(q81 x7 x9).f0]) x7 x8 (wrap64 (x9 + 1))) else (none)) else (none)) else (none)) else (some x3)
def q52.f (k : Nat) (l0_0 : List ByteArray) (l0_1 : List (S41)) : Option (List ByteArray) := q52.l0 k ([] : List ByteArray) l0_1 (l0_1.length : Int) 0
theorem q52.mono_l : ∀ k, (∀ y0 y1 y2 y3, LeO (q52.l0 k y0 y1 y2 y3) (q52.l0 (k + 1) y0 y1 y2 y3))
 | 0 => fun _ _ _ _ r h => by simp [q52.l0] at h
 | k + 1 => by
  have ih0 := q52.mono_l k
  ·intro y0 y1 y2 y3
   unfold q52.l0
   repeat' first
   | (with_reducible exact ih0 _ _ _ _)
   | (with_reducible exact LeO.refl _)
   | (with_reducible exact LeO.none _)
   | (with_reducible refine LeO.ite ?_ ?_)
   | (with_reducible refine LeO.bind ?_ (fun _ => ?_))
   | exact ih0 _ _ _ _
   | exact LeO.none _
   | refine LeO.ite ?_ ?_
   | refine LeO.bind ?_ (fun _ => ?_)
theorem q52.mono : ∀ a0 a1 k, LeO (q52.f k a0 a1) (q52.f (k + 1) a0 a1) := by
 intro a0 a1 k
 have ih0 := q52.mono_l k
 unfold q52.f
 repeat' first
  | (with_reducible exact ih0 _ _ _ _)
  | (with_reducible exact LeO.refl _)
  | (with_reducible exact LeO.none _)
  | (with_reducible refine LeO.ite ?_ ?_)
  | (with_reducible refine LeO.bind ?_ (fun _ => ?_))
  | exact ih0 _ _ _ _
  | exact LeO.none _
  | refine LeO.ite ?_ ?_
  | refine LeO.bind ?_ (fun _ => ?_)
set_option maxHeartbeats 8000000 in
set_option maxRecDepth 100000 in
theorem q52.calls (k : Nat) (A0_0 : Option Addr) (c0_0 : Nat) (l0_0 : List ByteArray) (A0_1 : Option Addr) (c0_1 : Nat) (l0_1 : List (S41)) (r : List ByteArray) (w : World) (hr0_0 : Kd.C Kd.string w A0_0 l0_0.length l0_0) (hc0_0 : l0_0.length ≤ c0_0) (hr0_1 : Kd.C k41 w A0_1 l0_1.length l0_1) (hc0_1 : l0_1.length ≤ c0_1) (h : q52.f k l0_0 l0_1 = some r) :
 Calls Try.prog 56 #[.agg #[.slice A0_0 l0_0.length c0_0, .slice A0_1 l0_1.length c0_1]] w fun e w' => ∃ v0_ : Value, e = .returned (v0_) ∧ Kd.R Kd.string 9 w' w.heap.size (fun _ => True) v0_ r ∧ Below w.heap.size w w' := by
 have hu25 := Try.underlying25
 have hu41 := Try.underlying41
 have HR0_0 := q56.mk hr0_0
 have HC0_0 := q56.mk hc0_0
 clear hr0_0 hc0_0
 have HR0_1 := q56.mk hr0_1
 have HC0_1 := q56.mk hc0_1
 clear hr0_1 hc0_1
 have HB := q56.mk (Below.refl w.heap.size w)
 have H : (q52.l0 k ([] : List ByteArray) l0_1 (l0_1.length : Int) 0) = some r := h
 clear h
 have H' := q56.mk H
 clear H
 go_enter Try.func56, Try.ntmps56
 go_wp2_with (first | ((with_reducible refine q71 (N := 1) rfl ?_); refine bx_ 1 #[.slice A0_0 l0_0.length c0_0, .slice A0_1 l0_1.length c0_1] 25 ?_; intro gb213 hg w2 hbox hb; have BK213 := q56.mk (hbox); have GW213 := zz_ (w := w) hg; have GE213 := zz_ (w := w) hg; replace HB := hb_ HB hb;  clear hb hbox hg; obtain ⟨hcz3_0, hcz3_1, hfz3_0, hfz3_1⟩ := bs2_ BK213))
 go_loopg [3, 9] k (fun kq v3 v9 w' => ∃ (x3_1 : List ByteArray) (x9_1 : Int), v9 = .int .i64 x9_1 ∧ q56 (q52.l0 kq x3_1 l0_1 (l0_1.length : Int) x9_1 = some r) ∧ q56 (kq ≤ k) ∧ q56 (Kd.R Kd.string 9 w' w.heap.size (fun _ => True) v3 x3_1) ∧ q56 (w'.heap[gb213]? = some (.cells #[(.slice A0_0 l0_0.length c0_0), (.slice A0_1 l0_1.length c0_1)] 25 (0, 0))) ∧ q56 (Below w.heap.size w w'))
 case atStart => exact ⟨(([] : List ByteArray)), (0), rf_, H', ⟨Nat.le_refl _⟩, ⟨by first | exact Kd.R_nil _ _ _ _ _ | exact Kd.N_nil _ _ _ _ _ | exact Kd.V_nil _ _ _ _ _ | exact Kd.Q_nil _ _ _ _ _ | exact Kd.S_nil _ _ _ _ _⟩, ⟨gx_ BK213⟩, ⟨hf_⟩⟩
 case round =>
 clear H'
 (try clear hcz3_0); (try clear hcz3_1); (try clear hfz3_0); (try clear hfz3_1)
 obtain ⟨x3_1, x9_1, rfl, HA, HK1, HO_3, BK213, HB⟩ := hrel
 cases gk with
 | zero => exact absurd HA.out (by simp [q52.l0])
 | succ k1 =>
 have H := HA.out
 clear HA
 simp only [q52.l0] at H
 by_cases c4 : x9_1 < (l0_1.length : Int)
 rotate_left
 ·rw [if_neg c4] at H
  replace c4 := decide_eq_false c4
  obtain rfl := Option.some.inj H
  go_wp2
  go_ret
  exact ⟨_, by first | rfl | (simp [errW_none, errW_some] <;> rfl) | (simp [*, errW_none, errW_some] <;> rfl), by (with_reducible repeat (first | apply Kd.R_alloc | apply Kd.R_drewN | apply Kd.R_drew)); exact HO_3.out, by repeat (first | (with_reducible first | exact HB.out | apply q57 | apply q75 | apply q58 | refine below_set ?_ GE213.out) | exact HB.out)⟩
 rw [if_pos c4] at H
 replace c4 := decide_eq_true c4
 by_cases c5 : 0 ≤ x9_1
 rotate_left
 ·rw [if_neg c5] at H
  exact absurd H (by simp)
 rw [if_pos c5] at H
 replace c5 := decide_eq_true c5
 by_cases c6 : x9_1 < (l0_1.length : Int)
 rotate_left
 ·rw [if_neg c6] at H
  exact absurd H (by simp)
 rw [if_pos c6] at H
 replace c6 := decide_eq_true c6
 by_cases c7 : x3_1.length < 8796093022208
 rotate_left
 ·rw [if_neg c7] at H
  exact absurd H (by simp)
 rw [if_pos c7] at H
 have LMc7 := q56.mk c7
 clear c7
 obtain ⟨y216, hy216⟩ : ∃ y_ : List ByteArray, y_ = (x3_1 ++ [(q81 l0_1 x9_1).f0]) := ⟨_, rfl⟩
 rw [← hy216] at H
 have Ny216 := q56.mk hy216
 clear hy216
 have H' := q56.mk H
 clear H
 obtain ⟨ad214, A214_5, c214_5, A214_6, c214_6, e214, hx214_0, hx214_1, hx214_2, hx214_3, hx214_4, hx214_5, hx214_6, HC214_5, HR214_5, HC214_6, HR214_6, p214, q214⟩ := au_T41 HR0_1 HB (x9_1)
 cases e214
 go_wp2_with (first | ((with_reducible refine q71 (N := 5) rfl ?_); refine bx_ 5 #[.string (⟨#[]⟩ : ByteArray), .int .i64 0, .string (⟨#[]⟩ : ByteArray), .bool false, .int .i64 0, .slice none 0 0, .slice none 0 0] 41 ?_; intro gb215 hg w8 hbox hb; replace HO_3 := q56.mk (Kd.R_below (ra_ HO_3.out) hb); have BK215 := q56.mk (hbox); have GW215 := zz_ (w := w) hg; have GE215 := zz_ (w := w) hg; replace HB := hb_ HB hb; have NB213_215 := ne1_ hg BK213; have NB215_213 := ne2_ hg BK213; replace BK213 := bb_ BK213 hb;  clear hb hbox hg; have hnb9 := NB215_213.out; have hnc9 := NB213_215.out; obtain ⟨hcz10_0, hcz10_1, hcz10_2, hcz10_3, hcz10_4, hcz10_5, hcz10_6, hfz10_0, hfz10_1, hfz10_2, hfz10_3, hfz10_4, hfz10_5, hfz10_6⟩ := bs7_ BK215) | ((with_reducible refine q69 (b := .append) (xs := #[.tmp 13, .tmp 16]) rfl ?_); at_builtin; refine Kd.R_append Kd.string (w0 := w) w.heap.size rfl (.tmp 13) (.tmp 16) 22 9 (.string ⟨#[]⟩) 16 rfl Try.underlying22 info9 rfl (by decide) (by omega) u3 x3_1 ((q81 l0_1 x9_1).f0) [.string ((q81 l0_1 x9_1).f0)] (fun _ => True) (fun _ => False) rfl (by first | (go_simp; done) | (go_simp; rfl)) ?aP (fun _ hk => hk.elim) ?aF ?aO ?aB ?aS ?aL ?_; (case aP => exact rfl); (case aB => exact hf_); (case aF => exact (fun _ _ => trivial)); (case aO => exact (ra_ (Kd.R_mono (Kd.R_far (p := ⟨gb215, 6, none⟩) (Kd.R_far (p := ⟨gb215, 5, none⟩) (Kd.R_far (p := ⟨gb215, 4, none⟩) (Kd.R_far (p := ⟨gb215, 3, none⟩) (Kd.R_far (p := ⟨gb215, 2, none⟩) (Kd.R_far (p := ⟨gb215, 1, none⟩) (Kd.R_far (p := ⟨gb215, 0, none⟩) (Kd.R_types HO_3.out BK215.out (by decide)) (fun _ hk => hk.2) (.string ((q81 l0_1 x9_1).f0))) (fun _ hk => hk.2) (.int .i64 ((q81 l0_1 x9_1).f1))) (fun _ hk => hk.2) (.string ((q81 l0_1 x9_1).f2))) (fun _ hk => hk.2) (.bool ((q81 l0_1 x9_1).f3))) (fun _ hk => hk.2) (.int .i64 ((q81 l0_1 x9_1).f4))) (fun _ hk => hk.2) (.slice A214_5 ((q81 l0_1 x9_1).f5).length c214_5)) (fun _ hk => hk.2) (.slice A214_6 ((q81 l0_1 x9_1).f6).length c214_6)) (fun _ hk => trivial)))); (case aS => exact (q59 hf_)); (case aL => have := LMc7.out; omega); intro v217 w11 ho hb hg hat; rw [← Ny216.out] at ho; have n0_ := q56.mk (blk_grown (g := gb213) (o := .cells #[.slice A0_0 l0_0.length c0_0, .slice (some ad214) l0_1.length c0_1] 25 (0, 0)) (by (with_reducible repeat (first | refine q65 ?_ _ | refine q64 ?_ | refine q61 ?_ _ | refine q66 ?_ NB213_215.out _)); exact BK213.out) hg (Kd.R_ne HO_3.out BK213.out (by decide))); have n1_ := q56.mk (blk_grown (g := gb215) (o := .cells #[.string ((q81 l0_1 x9_1).f0), .int .i64 ((q81 l0_1 x9_1).f1), .string ((q81 l0_1 x9_1).f2), .bool ((q81 l0_1 x9_1).f3), .int .i64 ((q81 l0_1 x9_1).f4), .slice A214_5 ((q81 l0_1 x9_1).f5).length c214_5, .slice A214_6 ((q81 l0_1 x9_1).f6).length c214_6] 41 (0, 0)) (by (with_reducible repeat (first | refine q65 ?_ _ | refine q64 ?_ | refine q61 ?_ _)); apply put7_; (with_reducible repeat (first | refine q65 ?_ _ | refine q64 ?_ | refine q61 ?_ _)); exact BK215.out) hg (Kd.R_ne HO_3.out BK215.out (by decide))); have n2_ := q56.mk (hb); have n3_ := q56.mk (ho); clear BK213; clear BK215; clear HB; clear HO_3; have BK213 := n0_; have BK215 := n1_; have HB := n2_; have HO218 := n3_; clear n0_ n1_ n2_ n3_; clear ho hb hg hat))
 go_roundg k1
 case measure => have := HK1.out; omega
 case rel => exact ⟨(y216), (wrap64 (x9_1 + 1)), rf_, H', ⟨by have := HK1.out; omega⟩, ⟨ra_ HO218.out⟩, ⟨gx_ BK213⟩, ⟨hf_⟩⟩
end Go.Proofs.Yteddgedacjdjgaa.Pm
end
