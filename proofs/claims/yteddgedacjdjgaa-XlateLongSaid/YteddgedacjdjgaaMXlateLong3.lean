/- Walks and plain laws on the way to the law XlateLong: several texts of this workplace and of the kit's printer, merged; what is not used is struck, by a program. No condition. -/
import Derived.Test.YteddgedacjdjgaaMXlateLong0
import Derived.Test.YteddgedacjdjgaaMXlateLong1
import Derived.Test.YteddgedacjdjgaaMXlateLong2
import Derived.Lib.Hide
section
namespace Go.Proofs.Yteddgedacjdjgaa.Pm
open Go.RowKit Go.Proofs.YteddgedacjdjgaaW.PrintWords Go.Proofs.YteddgedacjdjgaaW.PrintLast Go.Proofs.YteddgedacjdjgaaW.PrintMore
attribute [local go_sem] max2_int min2_int max_two min_two max_three min_three max_four min_four   -- for this text's walks alone
set_option linter.unusedVariables false
set_option linter.unusedSimpArgs false
mutual
def q25.j0 : Nat → Bool → List ByteArray → List (S41) → Option (Bool)
 | 0, _, _, _ => none
 | k + 1, x21, x145000, x145001 => if x21 = true then (some false) else (q25.l0 k 0 x145000 x145001)
def q25.l0 : Nat → Int → List ByteArray → List (S41) → Option (Bool)
 | 0, _, _, _ => none
 | k + 1, x3, x145000, x145001 => if x3 < (x145000.length : Int) then (if 0 ≤ x3 then ((q26.f k (rdOf ByteArray.empty x145000 x3)).bind fun t146 => (if t146 = true then (if x3 ≤ (x145000.length : Int) then ((q20.f k (x145000.take (x3 : Int).toNat) (rdOf ByteArray.empty x145000 x3)).bind fun t149 => (if t149 = true then (some false) else (q25.l0 k (wrap64 (x3 + 1)) x145000 x145001))) else (none)) else (some false))) else (none)) else (q25.l1 k 0 x145000 x145001)
def q25.l1 : Nat → Int → List ByteArray → List (S41) → Option (Bool)
 | 0, _, _, _ => none
 | k + 1, x4, x145000, x145001 => if x4 < (x145001.length : Int) then ((q22.f k x145000 x145001 x4).bind fun t150 => (if t150 = true then (q25.l1 k (wrap64 (x4 + 1)) x145000 x145001) else (some false))) else (q25.l2 k 0 x145000 x145001)
def q25.l2 : Nat → Int → List ByteArray → List (S41) → Option (Bool)
 | 0, _, _, _ => none
 | k + 1, x5, x145000, x145001 => if x5 < (x145001.length : Int) then (if 0 ≤ x5 then ((q9.f k x145000 x145001 ((q74 x145001 x5).f5)).bind fun t152 => (if t152 = true then ((q9.f k x145000 x145001 ((q74 x145001 x5).f6)).bind fun t154 => (if t154 = true then (q25.l2 k (wrap64 (x5 + 1)) x145000 x145001) else (some false))) else (some false))) else (none)) else (some true)
end
def q25.f (k : Nat) (l0_0 : List ByteArray) (l0_1 : List (S41)) : Option (Bool) := if (l0_0.length : Int) > 6 then (q25.j0 k true l0_0 l0_1) else (if (l0_1.length : Int) < 1 then (q25.j0 k true l0_0 l0_1) else (q25.j0 k (decide ((l0_1.length : Int) > 16)) l0_0 l0_1))
theorem q25.mono_l : ∀ k, (∀ y0 y1 y2, LeO (q25.j0 k y0 y1 y2) (q25.j0 (k + 1) y0 y1 y2)) ∧ (∀ y0 y1 y2, LeO (q25.l0 k y0 y1 y2) (q25.l0 (k + 1) y0 y1 y2)) ∧ (∀ y0 y1 y2, LeO (q25.l1 k y0 y1 y2) (q25.l1 (k + 1) y0 y1 y2)) ∧ (∀ y0 y1 y2, LeO (q25.l2 k y0 y1 y2) (q25.l2 (k + 1) y0 y1 y2))
 | 0 => ⟨fun _ _ _ r h => by simp [q25.j0] at h, fun _ _ _ r h => by simp [q25.l0] at h, fun _ _ _ r h => by simp [q25.l1] at h, fun _ _ _ r h => by simp [q25.l2] at h⟩
 | k + 1 => by
  obtain ⟨ih0, ih1, ih2, ih3⟩ := q25.mono_l k
  refine ⟨?_, ?_, ?_, ?_⟩
  intro y0 y1 y2
  unfold q25.j0
  rotate_left
  intro y0 y1 y2
  unfold q25.l0
  rotate_left
  intro y0 y1 y2
  unfold q25.l1
  rotate_left
  intro y0 y1 y2
  unfold q25.l2
  rotate_left
  all_goals repeat' first
   | (with_reducible exact ih0 _ _ _)
   | (with_reducible exact ih1 _ _ _)
   | (with_reducible exact ih2 _ _ _)
   | (with_reducible exact ih3 _ _ _)
   | (with_reducible exact q26.mono _ _)
   | (with_reducible exact q20.mono _ _ _)
   | (with_reducible exact q22.mono _ _ _ _)
   | (with_reducible exact q9.mono _ _ _ _)
   | (with_reducible exact LeO.refl _)
   | (with_reducible exact LeO.none _)
   | (with_reducible refine LeO.ite ?_ ?_)
   | (with_reducible refine LeO.bind ?_ (fun _ => ?_))
   | exact ih0 _ _ _
   | exact ih1 _ _ _
   | exact ih2 _ _ _
   | exact ih3 _ _ _
   | exact q26.mono _ _
   | exact q20.mono _ _ _
   | exact q22.mono _ _ _ _
   | exact q9.mono _ _ _ _
   | exact LeO.none _
   | refine LeO.ite ?_ ?_
   | refine LeO.bind ?_ (fun _ => ?_)
theorem q25.mono : ∀ a0 a1 k, LeO (q25.f k a0 a1) (q25.f (k + 1) a0 a1) := by
 intro a0 a1 k
 obtain ⟨ih0, ih1, ih2, ih3⟩ := q25.mono_l k
 unfold q25.f
 repeat' first
  | (with_reducible exact ih0 _ _ _)
  | (with_reducible exact ih1 _ _ _)
  | (with_reducible exact ih2 _ _ _)
  | (with_reducible exact ih3 _ _ _)
  | (with_reducible exact q26.mono _ _)
  | (with_reducible exact q20.mono _ _ _)
  | (with_reducible exact q22.mono _ _ _ _)
  | (with_reducible exact q9.mono _ _ _ _)
  | (with_reducible exact LeO.refl _)
  | (with_reducible exact LeO.none _)
  | (with_reducible refine LeO.ite ?_ ?_)
  | (with_reducible refine LeO.bind ?_ (fun _ => ?_))
  | exact ih0 _ _ _
  | exact ih1 _ _ _
  | exact ih2 _ _ _
  | exact ih3 _ _ _
  | exact q26.mono _ _
  | exact q20.mono _ _ _
  | exact q22.mono _ _ _ _
  | exact q9.mono _ _ _ _
  | exact LeO.none _
  | refine LeO.ite ?_ ?_
  | refine LeO.bind ?_ (fun _ => ?_)
def q25.T6 : Bool × List (List Nat × List Nat) := (true, [([], []), ([0], [0]), ([], []), ([1, 2], [1, 2]), ([3], [3]), ([4], [4]), ([5], [5]), ([6, 5], [6]), ([7], [7]), ([8, 7], [7, 8]), ([7], [7]), ([9, 10, 7], [7, 9, 10]), ([7], [7]), ([12, 7], [7, 12]), ([7], [7]), ([13, 14, 7], [7, 13, 14]), ([15, 7], [7, 15]), ([11, 16, 7, 7], [7, 11, 16]), ([7, 17], [7, 17])])
def q25.B6 : List Nat := [0, 1, 0, 7, 15, 31, 63, 127, 255, 511, 255, 2047, 255, 4351, 255, 28927, 61695, 131071, 262143]
theorem q25.tab6 : rtab .any (opsOf Try.f7 6) = q25.T6 := by kernel_rfl
theorem q25.bits6 : waitsOk q25.T6.2 q25.B6 = true := by kernel_rfl
def q25.T16 : Bool × List (List Nat × List Nat) := (true, [([], []), ([], []), ([1], [1]), ([], []), ([2, 3], [2, 3]), ([4], [4]), ([5], [5]), ([0, 6], [0, 6]), ([7], [7]), ([8, 7], [8]), ([9], [9]), ([9], [9]), ([11, 9], [9, 11]), ([9], [9]), ([12, 13, 9], [9, 12, 13]), ([14, 9], [9, 14]), ([15, 9], [9, 15]), ([10, 16, 9, 9], [9, 10, 16]), ([17, 9], [9, 17]), ([9, 18], [9, 18])])
def q25.B16 : List Nat := [0, 0, 2, 0, 14, 30, 62, 127, 255, 511, 1023, 1023, 3071, 1023, 15359, 31743, 64511, 131071, 262143, 524287]
theorem q25.tab16 : rtab .any (opsOf Try.f7 16) = q25.T16 := by kernel_rfl
theorem q25.bits16 : waitsOk q25.T16.2 q25.B16 = true := by kernel_rfl
set_option maxHeartbeats 8000000 in
set_option maxRecDepth 100000 in
theorem q25.calls (k : Nat) (A0_0 : Option Addr) (c0_0 : Nat) (l0_0 : List ByteArray) (A0_1 : Option Addr) (c0_1 : Nat) (l0_1 : List (S41)) (r : Bool) (w : World) (hr0_0 : Kd.C Kd.string w A0_0 l0_0.length l0_0) (hc0_0 : l0_0.length ≤ c0_0) (hr0_1 : Kd.C k41 w A0_1 l0_1.length l0_1) (hc0_1 : l0_1.length ≤ c0_1) (h : q25.f k l0_0 l0_1 = some r) :
 Calls Try.prog 7 #[.agg #[.slice A0_0 l0_0.length c0_0, .slice A0_1 l0_1.length c0_1]] w fun e w' => e = .returned (.bool r) ∧ Below w.heap.size w w' := by
 have hu25 := Try.underlying25
 have HR0_0 := q49.mk hr0_0
 have HC0_0 := q49.mk hc0_0
 clear hr0_0 hc0_0
 have HR0_1 := q49.mk hr0_1
 have HC0_1 := q49.mk hc0_1
 clear hr0_1 hc0_1
 have HB := q49.mk (Below.refl w.heap.size w)
 unfold q25.f at h
 have H := h
 clear h
 have HC2 := q49.mk H
 clear H
 go_enter Try.func7, Try.ntmps7
 go_upto_region 1 with (first | ((with_reducible refine q64 (N := 1) rfl ?_); (try (refine gate_guard (by rfl) ?_; dsimp only)); refine bx_ 1 #[.slice A0_0 l0_0.length c0_0, .slice A0_1 l0_1.length c0_1] 25 ?_; intro gb144 hg w3 hbox hb; have BK144 := q49.mk (hbox); have GW144 := zz_ (w := w) hg; have GE144 := zz_ (w := w) hg; replace HB := hb_ HB hb;  clear hb hbox hg))
 (try simp only [Act.put, List.setIfInBounds_toArray, List.set_cons_zero, List.set_cons_succ])
 go_cut [21] (fun v21 wc => ∃ (kq : Nat) (x21_1 : Bool), v21 = .bool x21_1 ∧ q49 (q25.j0 kq x21_1 l0_0 l0_1 = some r) ∧ q49 (kq ≤ k) ∧ q49 (wc.heap[gb144]? = some (.cells #[(.slice A0_0 l0_0.length c0_0), (.slice A0_1 l0_1.length c0_1)] 25 (0, 0))) ∧ q49 (Below w.heap.size w wc))
 case first =>
  have H := HC2.out
  clear HC2
  by_cases c4 : (l0_0.length : Int) > 6
  ·rw [if_pos c4] at H
   have c4b0 := decide_eq_true c4
   have c4b1 : decide (6 < l0_0.length) = true := decide_eq_true (by omega)
   clear c4
   (first | rw [c4b0] | (simp only [i64_w, i32_w]; rw [c4b0]) | skip)
   have H' := q49.mk H
   clear H
   obtain ⟨hcz5_0, hcz5_1, hfz5_0, hfz5_1⟩ := bs2_ BK144
   go_wp2
   go_meet
   case rel => exact ⟨_, (true), rf_, H', ⟨by first | omega | exact Nat.le_refl _⟩, ⟨gx_ BK144⟩, ⟨hf_⟩⟩
  ·rw [if_neg c4] at H
   have c4b0 := decide_eq_false c4
   have c4b1 : decide (6 < l0_0.length) = false := decide_eq_false (by omega)
   clear c4
   (first | rw [c4b0] | (simp only [i64_w, i32_w]; rw [c4b0]) | skip)
   by_cases c6 : (l0_1.length : Int) < 1
   ·rw [if_pos c6] at H
    have c6b0 := decide_eq_true c6
    have c6b1 : decide (l0_1.length < 1) = true := decide_eq_true (by omega)
    clear c6
    have H' := q49.mk H
    clear H
    obtain ⟨hcz7_0, hcz7_1, hfz7_0, hfz7_1⟩ := bs2_ BK144
    go_wp2
    go_meet
    case rel => exact ⟨_, (true), rf_, H', ⟨by first | omega | exact Nat.le_refl _⟩, ⟨gx_ BK144⟩, ⟨hf_⟩⟩
   ·rw [if_neg c6] at H
    have c6b0 := decide_eq_false c6
    have c6b1 : decide (l0_1.length < 1) = false := decide_eq_false (by omega)
    clear c6
    have H' := q49.mk H
    clear H
    obtain ⟨hcz8_0, hcz8_1, hfz8_0, hfz8_1⟩ := bs2_ BK144
    go_wp2
    go_meet
    case rel => exact ⟨_, (decide ((l0_1.length : Int) > 16)), rf_, H', ⟨by first | omega | exact Nat.le_refl _⟩, ⟨gx_ BK144⟩, ⟨hf_⟩⟩
 case rest =>
  clear HC2
  obtain ⟨kq, x21_1, rfl, HA, HJ1, BK144, HB⟩ := hcut
  cases kq with
  | zero => exact absurd HA.out (by simp [q25.j0])
  | succ kj1 =>
   have H := HA.out
   clear HA
   simp only [q25.j0] at H
   by_cases c9 : x21_1 = true
   ·subst c9
    have H1 : (some false) = some r := by rw [if_pos rfl] at H; exact H
    clear H
    have H := H1
    clear H1
    obtain rfl := Option.some.inj H
    go_wp2
    go_ret
    exact ⟨er_, hf_⟩
   ·replace c9 := Bool.eq_false_iff.mpr c9
    subst c9
    have H1 : (q25.l0 kj1 0 l0_0 l0_1) = some r := by rw [if_neg (show ¬ (false = true) by decide)] at H; exact H
    clear H
    have H := H1
    clear H1
    have H' := q49.mk H
    clear H
    go_wp2
    go_loopg [3] kj1 (fun kq v3 w' => ∃ (x3_2 : Int), v3 = .int .i64 x3_2 ∧ q49 (q25.l0 kq x3_2 l0_0 l0_1 = some r) ∧ q49 (kq ≤ kj1) ∧ q49 (w'.heap[gb144]? = some (.cells #[(.slice A0_0 l0_0.length c0_0), (.slice A0_1 l0_1.length c0_1)] 25 (0, 0))) ∧ q49 (Below w.heap.size w w'))
    case atStart => exact ⟨(0), rf_, H', ⟨Nat.le_refl _⟩, ⟨gx_ BK144⟩, ⟨hf_⟩⟩
    case round =>
     clear H'
     obtain ⟨x3_2, rfl, HA, HK2, BK144, HB⟩ := hrel
     cases gk with
     | zero => exact absurd HA.out (by simp [q25.l0])
     | succ k2 =>
      have H := HA.out
      clear HA
      simp only [q25.l0] at H
      by_cases c10 : x3_2 < (l0_0.length : Int)
      ·rw [if_pos c10] at H
       have c10b0 := decide_eq_true c10
       clear c10
       by_cases c11 : 0 ≤ x3_2
       ·rw [if_pos c11] at H
        replace c11 := decide_eq_true c11
        replace H := Option.bind_eq_some_iff.mp H
        obtain ⟨t146, A120, H⟩ := H
        have A12 := q49.mk A120
        clear A120
        by_cases c13 : t146 = true
        ·subst c13
         have H1 : (if x3_2 ≤ (l0_0.length : Int) then ((q20.f k2 (l0_0.take (x3_2 : Int).toNat) (rdOf ByteArray.empty l0_0 x3_2)).bind fun t149 => (if t149 = true then (some false) else (q25.l0 k2 (wrap64 (x3_2 + 1)) l0_0 l0_1))) else (none)) = some r := by rw [if_pos rfl] at H; exact H
         clear H
         have H := H1
         clear H1
         have c14b0 := eq_true (od_ : 0 ≤ x3_2)
         by_cases c15 : x3_2 ≤ (l0_0.length : Int)
         ·rw [if_pos c15] at H
          have c15b0 := eq_true c15
          have c15b1 := decide_eq_true c15
          clear c15
          replace H := Option.bind_eq_some_iff.mp H
          obtain ⟨t149, A160, H⟩ := H
          have A16 := q49.mk A160
          clear A160
          by_cases c17 : t149 = true
          ·subst c17
           have H1 : (some false) = some r := by rw [if_pos rfl] at H; exact H
           clear H
           have H := H1
           clear H1
           obtain rfl := Option.some.inj H
           obtain ⟨hcz18_0, hcz18_1, hfz18_0, hfz18_1⟩ := bs2_ BK144
           try go_wp2
           replace BK144 := q49.mk (q57 BK144.out)
           replace HB := q49.mk (q51 HB.out)
           have p145 : 0 ≤ (x3_2 : Int) := od_
           have q145 : x3_2 < (l0_0.length : Int) := od_
           obtain ⟨ad145, e145, hx145_0⟩ := Kd.at_string HR0_0.out x3_2 p145 q145
           have hw145_0 := hx145_0
           cases e145
           replace hx145_0 := rr_ HB hx145_0
           replace p145 := eq_true p145
           replace q145 := eq_true q145
           have p148 : 0 ≤ (x3_2 : Int) := od_
           have q148 : x3_2 < (l0_0.length : Int) := od_
           obtain ⟨ad148, e148, hx148_0⟩ := Kd.at_string HR0_0.out x3_2 p148 q148
           have hw148_0 := hx148_0
           obtain rfl : ad145 = ad148 := (by injection e148)
           replace hx148_0 := rr_ HB hx148_0
           replace p148 := eq_true p148
           replace q148 := eq_true q148
           refine start_ (n := 19) (S := fun w' => w'.cell? ⟨gb144, 0, none⟩ = some (.slice (some ad145) l0_0.length c0_0) ∧ w'.cell? ⟨gb144, 1, none⟩ = some (.slice A0_1 l0_1.length c0_1) ∧ w'.cell? (ad145.add (x3_2).toNat) = some (.string (rdOf ByteArray.empty l0_0 x3_2)) ∧ w'.cell? (ad145.add (x3_2).toNat) = some (.string (rdOf ByteArray.empty l0_0 x3_2))) (ds := []) (bits_ 19 0) (by kernel_rfl) rfl rfl ⟨(bk0_ BK144 :), (bk1_ BK144 :), (rr_ HB hw145_0 :), (rr_ HB hw148_0 :)⟩ (fun hHeld => ?_); refine with_tabW q25.tab6 q25.bits6 (fun HT_ HW_ => ?_)
           generalize wr.drew = w19 at BK144 HB hx145_0 hx148_0 hHeld ⊢
           refine pz_ 0 (some 29) (bits_ 19 1) HT_.out ?_
           refine pz_ 2 (some 31) (bits_ 19 5) HT_.out ?_
           refine tz_ 1 (some 30) (bits_ 19 7) HT_.out HW_.out hHeld ?_ (hy := by rintro w' ⟨s0, s1, s2, s3⟩; go_simp; with_reducible rfl)
           refine pz_ 3 (some 32) (bits_ 19 15) HT_.out ?_
           refine tz_ 4 (some 33) (bits_ 19 31) HT_.out HW_.out hHeld ?_ (hy := by rintro w' ⟨s0, s1, s2, s3⟩; go_simp; with_reducible rfl)
           refine oz_ 5 (some 34) (bits_ 19 63) HT_.out (fun K hK => ?_)
           refine go_s_ Try.func17 #[.string (rdOf ByteArray.empty l0_0 x3_2)] ?_
           with_reducible refine (q26.calls k2 (rdOf ByteArray.empty l0_0 x3_2) true _ A12.out).mono ?_
           rintro e w' ⟨rfl, ⟨nd, rfl⟩⟩
           refine ⟨_, rfl, ?_⟩
           obtain ⟨i020, hi020, _, hsz20, _⟩ := info_parts info9
           obtain ⟨hcut20, hA20, hC20⟩ := print_take_of (P := Try.prog) Value.string (⟨#[]⟩ : ByteArray) 22 9 .i64 Try.underlying22 hi020 hsz20 (some ad145) c0_0 l0_0 x3_2 (od_) (od_) HC0_0.out
           have HR147 := q49.mk (Kd.C_of_reads (h1 := fun _ => rfl) (hA20 _ (Kd.reads_of_C HR0_0.out)))
           have HC147 := q49.mk hC20
           clear hA20 hC20 hi020 hsz20
           refine hK.out _ _ ⟨(bk0_ BK144 :), (bk1_ BK144 :), (rr_ HB hw145_0 :), (rr_ HB hw148_0 :)⟩ (fun hHeld => ?_)
           clear hK K
           refine nz_ (some 34) ?_
           refine pz_ 6 (some 35) (bits_ 19 127) HT_.out ?_
           refine pz_ 7 (some 36) (bits_ 19 255) HT_.out ?_
           refine pz_ 8 (some 37) (bits_ 19 511) HT_.out ?_
           refine pz_ 10 (some 39) (bits_ 19 1535) HT_.out ?_
           refine pz_ 12 (some 41) (bits_ 19 5631) HT_.out ?_
           refine pz_ 14 (some 43) (bits_ 19 22015) HT_.out ?_
           refine tz_ 9 (some 38) (bits_ 19 22527) HT_.out HW_.out hHeld ?_ (hy := by rintro w' ⟨s0, s1, s2, s3⟩; go_simp; with_reducible rfl)
           refine pz_ 11 (some 40) (bits_ 19 24575) HT_.out ?_
           refine tz_ 13 (some 42) (bits_ 19 32767) HT_.out HW_.out hHeld ?_ (hy := by rintro w' ⟨s0, s1, s2, s3⟩; go_simp; with_reducible rfl)
           refine pz_ 15 (some 44) (bits_ 19 65535) HT_.out ?_
           refine tz_ 16 (some 45) (bits_ 19 131071) HT_.out HW_.out hHeld ?_ (hy := by rintro w' ⟨s0, s1, s2, s3⟩; go_simp; with_reducible rfl)
           refine oz_ 17 (some 46) (bits_ 19 262143) HT_.out (fun K hK => ?_)
           refine goes_ Try.func18 (by kernel_rfl) rfl #[.slice (some ad145) (l0_0.take (x3_2 : Int).toNat).length c0_0, .string (rdOf ByteArray.empty l0_0 x3_2)] (by rfl) rfl rfl (by (try simp only [List.map_toArray, List.map_cons, List.map_nil]); first | done | (rw [show (l0_0.take (x3_2 : Int).toNat).length = x3_2.toNat from (by rw [List.length_take]; have h_ : (x3_2 : Int) ≤ (l0_0.length : Int) := od_; omega)] <;> rfl) | rfl | (simp only [List.length_drop, List.length_take]; rfl)) ?_
           with_reducible refine (q20.calls k2 _ _ (l0_0.take (x3_2 : Int).toNat) (rdOf ByteArray.empty l0_0 x3_2) true _ ?side1 ?side2 A16.out).mono ?_
           (case side1 => repeat (first | exact (Kd.C_below HR147.out hf_) | (with_reducible refine Kd.C_alloc ?_ _) | (with_reducible refine Kd.C_drewN ?_ _) | (with_reducible refine Kd.C_drew ?_)))
           (case side2 => exact HC147.out)
           rintro e w' ⟨rfl, ⟨nd, rfl⟩⟩
           refine ⟨_, rfl, ?_⟩
           refine hK.out _ _ ⟨(bk0_ BK144 :), (bk1_ BK144 :), (rr_ HB hw145_0 :), (rr_ HB hw148_0 :)⟩ (fun hHeld => ?_)
           clear hK K
           refine nz_ (some 46) ?_
           refine pz_ 18 (some 47) (bits_ 19 524287) HT_.out ?_
           refine done_ (done_of HT_.out (by kernel_rfl)) ?_
           try go_wp2
           go_ret
           exact ⟨er_, hf_⟩
          ·replace c17 := Bool.eq_false_iff.mpr c17
           subst c17
           have H1 : (q25.l0 k2 (wrap64 (x3_2 + 1)) l0_0 l0_1) = some r := by rw [if_neg (show ¬ (false = true) by decide)] at H; exact H
           clear H
           have H := H1
           clear H1
           have H' := q49.mk H
           clear H
           obtain ⟨hcz21_0, hcz21_1, hfz21_0, hfz21_1⟩ := bs2_ BK144
           try go_wp2
           replace BK144 := q49.mk (q57 BK144.out)
           replace HB := q49.mk (q51 HB.out)
           have p145 : 0 ≤ (x3_2 : Int) := od_
           have q145 : x3_2 < (l0_0.length : Int) := od_
           obtain ⟨ad145, e145, hx145_0⟩ := Kd.at_string HR0_0.out x3_2 p145 q145
           have hw145_0 := hx145_0
           cases e145
           replace hx145_0 := rr_ HB hx145_0
           replace p145 := eq_true p145
           replace q145 := eq_true q145
           have p148 : 0 ≤ (x3_2 : Int) := od_
           have q148 : x3_2 < (l0_0.length : Int) := od_
           obtain ⟨ad148, e148, hx148_0⟩ := Kd.at_string HR0_0.out x3_2 p148 q148
           have hw148_0 := hx148_0
           obtain rfl : ad145 = ad148 := (by injection e148)
           replace hx148_0 := rr_ HB hx148_0
           replace p148 := eq_true p148
           replace q148 := eq_true q148
           refine start_ (n := 19) (S := fun w' => w'.cell? ⟨gb144, 0, none⟩ = some (.slice (some ad145) l0_0.length c0_0) ∧ w'.cell? ⟨gb144, 1, none⟩ = some (.slice A0_1 l0_1.length c0_1) ∧ w'.cell? (ad145.add (x3_2).toNat) = some (.string (rdOf ByteArray.empty l0_0 x3_2)) ∧ w'.cell? (ad145.add (x3_2).toNat) = some (.string (rdOf ByteArray.empty l0_0 x3_2))) (ds := []) (bits_ 19 0) (by kernel_rfl) rfl rfl ⟨(bk0_ BK144 :), (bk1_ BK144 :), (rr_ HB hw145_0 :), (rr_ HB hw148_0 :)⟩ (fun hHeld => ?_); refine with_tabW q25.tab6 q25.bits6 (fun HT_ HW_ => ?_)
           generalize wr.drew = w22 at BK144 HB hx145_0 hx148_0 hHeld ⊢
           refine pz_ 0 (some 29) (bits_ 19 1) HT_.out ?_
           refine pz_ 2 (some 31) (bits_ 19 5) HT_.out ?_
           refine tz_ 1 (some 30) (bits_ 19 7) HT_.out HW_.out hHeld ?_ (hy := by rintro w' ⟨s0, s1, s2, s3⟩; go_simp; with_reducible rfl)
           refine pz_ 3 (some 32) (bits_ 19 15) HT_.out ?_
           refine tz_ 4 (some 33) (bits_ 19 31) HT_.out HW_.out hHeld ?_ (hy := by rintro w' ⟨s0, s1, s2, s3⟩; go_simp; with_reducible rfl)
           refine oz_ 5 (some 34) (bits_ 19 63) HT_.out (fun K hK => ?_)
           refine go_s_ Try.func17 #[.string (rdOf ByteArray.empty l0_0 x3_2)] ?_
           with_reducible refine (q26.calls k2 (rdOf ByteArray.empty l0_0 x3_2) true _ A12.out).mono ?_
           rintro e w' ⟨rfl, ⟨nd, rfl⟩⟩
           refine ⟨_, rfl, ?_⟩
           obtain ⟨i023, hi023, _, hsz23, _⟩ := info_parts info9
           obtain ⟨hcut23, hA23, hC23⟩ := print_take_of (P := Try.prog) Value.string (⟨#[]⟩ : ByteArray) 22 9 .i64 Try.underlying22 hi023 hsz23 (some ad145) c0_0 l0_0 x3_2 (od_) (od_) HC0_0.out
           have HR147 := q49.mk (Kd.C_of_reads (h1 := fun _ => rfl) (hA23 _ (Kd.reads_of_C HR0_0.out)))
           have HC147 := q49.mk hC23
           clear hA23 hC23 hi023 hsz23
           refine hK.out _ _ ⟨(bk0_ BK144 :), (bk1_ BK144 :), (rr_ HB hw145_0 :), (rr_ HB hw148_0 :)⟩ (fun hHeld => ?_)
           clear hK K
           refine nz_ (some 34) ?_
           refine pz_ 6 (some 35) (bits_ 19 127) HT_.out ?_
           refine pz_ 7 (some 36) (bits_ 19 255) HT_.out ?_
           refine pz_ 8 (some 37) (bits_ 19 511) HT_.out ?_
           refine pz_ 10 (some 39) (bits_ 19 1535) HT_.out ?_
           refine pz_ 12 (some 41) (bits_ 19 5631) HT_.out ?_
           refine pz_ 14 (some 43) (bits_ 19 22015) HT_.out ?_
           refine tz_ 9 (some 38) (bits_ 19 22527) HT_.out HW_.out hHeld ?_ (hy := by rintro w' ⟨s0, s1, s2, s3⟩; go_simp; with_reducible rfl)
           refine pz_ 11 (some 40) (bits_ 19 24575) HT_.out ?_
           refine tz_ 13 (some 42) (bits_ 19 32767) HT_.out HW_.out hHeld ?_ (hy := by rintro w' ⟨s0, s1, s2, s3⟩; go_simp; with_reducible rfl)
           refine pz_ 15 (some 44) (bits_ 19 65535) HT_.out ?_
           refine tz_ 16 (some 45) (bits_ 19 131071) HT_.out HW_.out hHeld ?_ (hy := by rintro w' ⟨s0, s1, s2, s3⟩; go_simp; with_reducible rfl)
           refine oz_ 17 (some 46) (bits_ 19 262143) HT_.out (fun K hK => ?_)
           refine goes_ Try.func18 (by kernel_rfl) rfl #[.slice (some ad145) (l0_0.take (x3_2 : Int).toNat).length c0_0, .string (rdOf ByteArray.empty l0_0 x3_2)] (by rfl) rfl rfl (by (try simp only [List.map_toArray, List.map_cons, List.map_nil]); first | done | (rw [show (l0_0.take (x3_2 : Int).toNat).length = x3_2.toNat from (by rw [List.length_take]; have h_ : (x3_2 : Int) ≤ (l0_0.length : Int) := od_; omega)] <;> rfl) | rfl | (simp only [List.length_drop, List.length_take]; rfl)) ?_
           with_reducible refine (q20.calls k2 _ _ (l0_0.take (x3_2 : Int).toNat) (rdOf ByteArray.empty l0_0 x3_2) false _ ?side1 ?side2 A16.out).mono ?_
           (case side1 => repeat (first | exact (Kd.C_below HR147.out hf_) | (with_reducible refine Kd.C_alloc ?_ _) | (with_reducible refine Kd.C_drewN ?_ _) | (with_reducible refine Kd.C_drew ?_)))
           (case side2 => exact HC147.out)
           rintro e w' ⟨rfl, ⟨nd, rfl⟩⟩
           refine ⟨_, rfl, ?_⟩
           refine hK.out _ _ ⟨(bk0_ BK144 :), (bk1_ BK144 :), (rr_ HB hw145_0 :), (rr_ HB hw148_0 :)⟩ (fun hHeld => ?_)
           clear hK K
           refine nz_ (some 46) ?_
           refine pz_ 18 (some 47) (bits_ 19 524287) HT_.out ?_
           refine done_ (done_of HT_.out (by kernel_rfl)) ?_
           try go_wp2
           go_roundg k2
           case measure => have := HJ1.out; have := HK2.out; omega
           case rel => exact ⟨(wrap64 (x3_2 + 1)), rf_, H', ⟨by have := HJ1.out; have := HK2.out; omega⟩, ⟨gx_ BK144⟩, ⟨hf_⟩⟩
         ·rw [if_neg c15] at H
          exact absurd H (by simp)
        ·replace c13 := Bool.eq_false_iff.mpr c13
         subst c13
         have H1 : (some false) = some r := by rw [if_neg (show ¬ (false = true) by decide)] at H; exact H
         clear H
         have H := H1
         clear H1
         obtain rfl := Option.some.inj H
         obtain ⟨hcz24_0, hcz24_1, hfz24_0, hfz24_1⟩ := bs2_ BK144
         try go_wp2
         replace BK144 := q49.mk (q57 BK144.out)
         replace HB := q49.mk (q51 HB.out)
         have p145 : 0 ≤ (x3_2 : Int) := od_
         have q145 : x3_2 < (l0_0.length : Int) := od_
         obtain ⟨ad145, e145, hx145_0⟩ := Kd.at_string HR0_0.out x3_2 p145 q145
         have hw145_0 := hx145_0
         cases e145
         replace hx145_0 := rr_ HB hx145_0
         replace p145 := eq_true p145
         replace q145 := eq_true q145
         refine start_ (n := 19) (S := fun w' => w'.cell? ⟨gb144, 0, none⟩ = some (.slice (some ad145) l0_0.length c0_0) ∧ w'.cell? ⟨gb144, 1, none⟩ = some (.slice A0_1 l0_1.length c0_1) ∧ w'.cell? (ad145.add (x3_2).toNat) = some (.string (rdOf ByteArray.empty l0_0 x3_2))) (ds := []) (bits_ 19 0) (by kernel_rfl) rfl rfl ⟨(bk0_ BK144 :), (bk1_ BK144 :), (rr_ HB hw145_0 :)⟩ (fun hHeld => ?_); refine with_tabW q25.tab6 q25.bits6 (fun HT_ HW_ => ?_)
         generalize wr.drew = w25 at BK144 HB hx145_0 hHeld ⊢
         refine pz_ 0 (some 29) (bits_ 19 1) HT_.out ?_
         refine pz_ 2 (some 31) (bits_ 19 5) HT_.out ?_
         refine tz_ 1 (some 30) (bits_ 19 7) HT_.out HW_.out hHeld ?_ (hy := by rintro w' ⟨s0, s1, s2⟩; go_simp; with_reducible rfl)
         refine pz_ 3 (some 32) (bits_ 19 15) HT_.out ?_
         refine tz_ 4 (some 33) (bits_ 19 31) HT_.out HW_.out hHeld ?_ (hy := by rintro w' ⟨s0, s1, s2⟩; go_simp; with_reducible rfl)
         refine oz_ 5 (some 34) (bits_ 19 63) HT_.out (fun K hK => ?_)
         refine go_s_ Try.func17 #[.string (rdOf ByteArray.empty l0_0 x3_2)] ?_
         with_reducible refine (q26.calls k2 (rdOf ByteArray.empty l0_0 x3_2) false _ A12.out).mono ?_
         rintro e w' ⟨rfl, ⟨nd, rfl⟩⟩
         refine ⟨_, rfl, ?_⟩
         refine hK.out _ _ ⟨(bk0_ BK144 :), (bk1_ BK144 :), (rr_ HB hw145_0 :)⟩ (fun hHeld => ?_)
         clear hK K
         refine nz_ (some 34) ?_
         refine pz_ 6 (some 35) (bits_ 19 127) HT_.out ?_
         refine pz_ 7 (some 36) (bits_ 19 255) HT_.out ?_
         refine sz_ 8 (some 37) (bits_ 19 511) HT_.out ?_
         refine sz_ 9 (some 38) (bits_ 19 1023) HT_.out ?_
         refine sz_ 10 (some 39) (bits_ 19 2047) HT_.out ?_
         refine sz_ 11 (some 40) (bits_ 19 4095) HT_.out ?_
         refine sz_ 12 (some 41) (bits_ 19 8191) HT_.out ?_
         refine sz_ 13 (some 42) (bits_ 19 16383) HT_.out ?_
         refine sz_ 14 (some 43) (bits_ 19 32767) HT_.out ?_
         refine sz_ 15 (some 44) (bits_ 19 65535) HT_.out ?_
         refine sz_ 16 (some 45) (bits_ 19 131071) HT_.out ?_
         refine sz_ 17 (some 46) (bits_ 19 262143) HT_.out ?_
         refine pz_ 18 (some 47) (bits_ 19 524287) HT_.out ?_
         refine done_ (done_of HT_.out (by kernel_rfl)) ?_
         try go_wp2
         go_ret
         exact ⟨er_, hf_⟩
       ·rw [if_neg c11] at H
        exact absurd H (by simp)
      ·rw [if_neg c10] at H
       have c10b0 := decide_eq_false c10
       clear c10
       have H' := q49.mk H
       clear H
       obtain ⟨hcz26_0, hcz26_1, hfz26_0, hfz26_1⟩ := bs2_ BK144
       go_wp2
       go_loopg [4] k2 (fun kq v4 w' => ∃ (x4_3 : Int), v4 = .int .i64 x4_3 ∧ q49 (q25.l1 kq x4_3 l0_0 l0_1 = some r) ∧ q49 (kq ≤ k2) ∧ q49 (w'.heap[gb144]? = some (.cells #[(.slice A0_0 l0_0.length c0_0), (.slice A0_1 l0_1.length c0_1)] 25 (0, 0))) ∧ q49 (Below w.heap.size w w'))
       case atStart => exact ⟨(0), rf_, H', ⟨Nat.le_refl _⟩, ⟨gx_ BK144⟩, ⟨hf_⟩⟩
       case round =>
        clear H'
        clear c10b0 hcz26_0 hcz26_1 hfz26_0 hfz26_1
        obtain ⟨x4_3, rfl, HA, HK3, BK144, HB⟩ := hrel
        cases gk with
        | zero => exact absurd HA.out (by simp [q25.l1])
        | succ k3 =>
         have H := HA.out
         clear HA
         simp only [q25.l1] at H
         by_cases c27 : x4_3 < (l0_1.length : Int)
         ·rw [if_pos c27] at H
          have c27b0 := decide_eq_true c27
          clear c27
          replace H := Option.bind_eq_some_iff.mp H
          obtain ⟨t150, A280, H⟩ := H
          have A28 := q49.mk A280
          clear A280
          by_cases c29 : t150 = true
          ·subst c29
           have H1 : (q25.l1 k3 (wrap64 (x4_3 + 1)) l0_0 l0_1) = some r := by rw [if_pos rfl] at H; exact H
           clear H
           have H := H1
           clear H1
           have H' := q49.mk H
           clear H
           obtain ⟨hcz30_0, hcz30_1, hfz30_0, hfz30_1⟩ := bs2_ BK144
           go_wp2_with (first | ((with_reducible refine q63 (f := 19) rfl ?_); refine gl_ (some 57) Try.func19 #[.agg #[.slice A0_0 l0_0.length c0_0, .slice A0_1 l0_1.length c0_1], .int .i64 x4_3] ?_; (with_reducible refine (q22.calls k3 _ _ l0_0 _ _ l0_1 x4_3 true _ ?side1 ?side2 ?side3 ?side4 A28.out).mono ?_); (case side1 => exact kc_ HR0_0 HB); (case side2 => exact HC0_0.out); (case side3 => exact kc_ HR0_1 HB); (case side4 => exact HC0_1.out); rintro e w31 ⟨rfl, hb⟩; refine ⟨_, rfl, ?_⟩; replace BK144 := bb_ BK144 hb; replace HB := hb_ HB hb;  (try clear hb)))
           go_roundg k3
           case measure => have := HJ1.out; have := HK2.out; have := HK3.out; omega
           case rel => exact ⟨(wrap64 (x4_3 + 1)), rf_, H', ⟨by have := HJ1.out; have := HK2.out; have := HK3.out; omega⟩, ⟨gx_ BK144⟩, ⟨hf_⟩⟩
          ·replace c29 := Bool.eq_false_iff.mpr c29
           subst c29
           have H1 : (some false) = some r := by rw [if_neg (show ¬ (false = true) by decide)] at H; exact H
           clear H
           have H := H1
           clear H1
           obtain rfl := Option.some.inj H
           obtain ⟨hcz32_0, hcz32_1, hfz32_0, hfz32_1⟩ := bs2_ BK144
           go_wp2_with (first | ((with_reducible refine q63 (f := 19) rfl ?_); refine gl_ (some 57) Try.func19 #[.agg #[.slice A0_0 l0_0.length c0_0, .slice A0_1 l0_1.length c0_1], .int .i64 x4_3] ?_; (with_reducible refine (q22.calls k3 _ _ l0_0 _ _ l0_1 x4_3 false _ ?side1 ?side2 ?side3 ?side4 A28.out).mono ?_); (case side1 => exact kc_ HR0_0 HB); (case side2 => exact HC0_0.out); (case side3 => exact kc_ HR0_1 HB); (case side4 => exact HC0_1.out); rintro e w33 ⟨rfl, hb⟩; refine ⟨_, rfl, ?_⟩; replace BK144 := bb_ BK144 hb; replace HB := hb_ HB hb;  (try clear hb)))
           go_ret
           exact ⟨er_, hf_⟩
         ·rw [if_neg c27] at H
          have c27b0 := decide_eq_false c27
          clear c27
          have H' := q49.mk H
          clear H
          obtain ⟨hcz34_0, hcz34_1, hfz34_0, hfz34_1⟩ := bs2_ BK144
          go_wp2
          go_loopg [5] k3 (fun kq v5 w' => ∃ (x5_4 : Int), v5 = .int .i64 x5_4 ∧ q49 (q25.l2 kq x5_4 l0_0 l0_1 = some r) ∧ q49 (kq ≤ k3) ∧ q49 (w'.heap[gb144]? = some (.cells #[(.slice A0_0 l0_0.length c0_0), (.slice A0_1 l0_1.length c0_1)] 25 (0, 0))) ∧ q49 (Below w.heap.size w w'))
          case atStart => exact ⟨(0), rf_, H', ⟨Nat.le_refl _⟩, ⟨gx_ BK144⟩, ⟨hf_⟩⟩
          case round =>
           clear H'
           clear c27b0 hcz34_0 hcz34_1 hfz34_0 hfz34_1
           obtain ⟨x5_4, rfl, HA, HK4, BK144, HB⟩ := hrel
           cases gk with
           | zero => exact absurd HA.out (by simp [q25.l2])
           | succ k4 =>
            have H := HA.out
            clear HA
            simp only [q25.l2] at H
            by_cases c35 : x5_4 < (l0_1.length : Int)
            ·rw [if_pos c35] at H
             replace c35 := decide_eq_true c35
             by_cases c36 : 0 ≤ x5_4
             ·rw [if_pos c36] at H
              replace c36 := decide_eq_true c36
              replace H := Option.bind_eq_some_iff.mp H
              obtain ⟨t152, A370, H⟩ := H
              have A37 := q49.mk A370
              clear A370
              by_cases c38 : t152 = true
              ·subst c38
               have H1 : ((q9.f k4 l0_0 l0_1 ((q74 l0_1 x5_4).f6)).bind fun t154 => (if t154 = true then (q25.l2 k4 (wrap64 (x5_4 + 1)) l0_0 l0_1) else (some false))) = some r := by rw [if_pos rfl] at H; exact H
               clear H
               have H := H1
               clear H1
               replace H := Option.bind_eq_some_iff.mp H
               obtain ⟨t154, A390, H⟩ := H
               have A39 := q49.mk A390
               clear A390
               by_cases c40 : t154 = true
               ·subst c40
                have H1 : (q25.l2 k4 (wrap64 (x5_4 + 1)) l0_0 l0_1) = some r := by rw [if_pos rfl] at H; exact H
                clear H
                have H := H1
                clear H1
                have H' := q49.mk H
                clear H
                obtain ⟨hcz41_0, hcz41_1, hfz41_0, hfz41_1⟩ := bs2_ BK144
                try go_wp2
                replace BK144 := q49.mk (q57 BK144.out)
                replace HB := q49.mk (q51 HB.out)
                have p151 : 0 ≤ (x5_4 : Int) := od_
                have q151 : x5_4 < (l0_1.length : Int) := od_
                obtain ⟨ad151, A151_5, c151_5, A151_6, c151_6, e151, hx151_0, hx151_1, hx151_2, hx151_3, hx151_4, hx151_5, hx151_6, hl151_5, hi151_5, hl151_6, hi151_6⟩ := at_T41 HR0_1.out x5_4 p151 q151
                have hw151_6 := hx151_6
                have hw151_5 := hx151_5
                have hw151_4 := hx151_4
                have hw151_3 := hx151_3
                have hw151_2 := hx151_2
                have hw151_1 := hx151_1
                have hw151_0 := hx151_0
                cases e151
                replace hx151_0 := rr_ HB hx151_0
                replace hx151_1 := rr_ HB hx151_1
                replace hx151_2 := rr_ HB hx151_2
                replace hx151_3 := rr_ HB hx151_3
                replace hx151_4 := rr_ HB hx151_4
                replace hx151_5 := rr_ HB hx151_5
                replace hx151_6 := rr_ HB hx151_6
                have HR151_5 := q49.mk hi151_5
                have HC151_5 := q49.mk hl151_5
                clear hi151_5 hl151_5
                have HR151_6 := q49.mk hi151_6
                have HC151_6 := q49.mk hl151_6
                clear hi151_6 hl151_6
                replace p151 := eq_true p151
                replace q151 := eq_true q151
                have p153 : 0 ≤ (x5_4 : Int) := od_
                have q153 : x5_4 < (l0_1.length : Int) := od_
                obtain ⟨ad153, A153_5, c153_5, A153_6, c153_6, e153, hx153_0, hx153_1, hx153_2, hx153_3, hx153_4, hx153_5, hx153_6, hl153_5, hi153_5, hl153_6, hi153_6⟩ := at_T41 HR0_1.out x5_4 p153 q153
                have hw153_6 := hx153_6
                have hw153_5 := hx153_5
                have hw153_4 := hx153_4
                have hw153_3 := hx153_3
                have hw153_2 := hx153_2
                have hw153_1 := hx153_1
                have hw153_0 := hx153_0
                obtain rfl : ad151 = ad153 := (by injection e153)
                obtain ⟨rfl, rfl⟩ : A151_5 = A153_5 ∧ c151_5 = c153_5 := by (have z := Option.some.inj (hw151_5.symm.trans hw153_5); injection z with z1 z2 z3; exact ⟨z1, z3⟩)
                obtain ⟨rfl, rfl⟩ : A151_6 = A153_6 ∧ c151_6 = c153_6 := by (have z := Option.some.inj (hw151_6.symm.trans hw153_6); injection z with z1 z2 z3; exact ⟨z1, z3⟩)
                replace hx153_0 := rr_ HB hx153_0
                replace hx153_1 := rr_ HB hx153_1
                replace hx153_2 := rr_ HB hx153_2
                replace hx153_3 := rr_ HB hx153_3
                replace hx153_4 := rr_ HB hx153_4
                replace hx153_5 := rr_ HB hx153_5
                replace hx153_6 := rr_ HB hx153_6
                have HR153_5 := q49.mk hi153_5
                have HC153_5 := q49.mk hl153_5
                clear hi153_5 hl153_5
                have HR153_6 := q49.mk hi153_6
                have HC153_6 := q49.mk hl153_6
                clear hi153_6 hl153_6
                replace p153 := eq_true p153
                replace q153 := eq_true q153
                refine start_ (n := 20) (S := fun w' => w'.cell? ⟨gb144, 0, none⟩ = some (.slice A0_0 l0_0.length c0_0) ∧ w'.cell? ⟨gb144, 1, none⟩ = some (.slice (some ad151) l0_1.length c0_1) ∧ w'.cell? (ad151.add ((x5_4).toNat * 7)) = some (.string ((q74 l0_1 x5_4).f0)) ∧ w'.cell? ⟨(ad151.add ((x5_4).toNat * 7)).block, (ad151.add ((x5_4).toNat * 7)).off + 1, none⟩ = some (.int .i64 ((q74 l0_1 x5_4).f1)) ∧ w'.cell? ⟨(ad151.add ((x5_4).toNat * 7)).block, (ad151.add ((x5_4).toNat * 7)).off + 2, none⟩ = some (.string ((q74 l0_1 x5_4).f2)) ∧ w'.cell? ⟨(ad151.add ((x5_4).toNat * 7)).block, (ad151.add ((x5_4).toNat * 7)).off + 3, none⟩ = some (.bool ((q74 l0_1 x5_4).f3)) ∧ w'.cell? ⟨(ad151.add ((x5_4).toNat * 7)).block, (ad151.add ((x5_4).toNat * 7)).off + 4, none⟩ = some (.int .i64 ((q74 l0_1 x5_4).f4)) ∧ w'.cell? ⟨(ad151.add ((x5_4).toNat * 7)).block, (ad151.add ((x5_4).toNat * 7)).off + 5, none⟩ = some (.slice A151_5 ((q74 l0_1 x5_4).f5).length c151_5) ∧ w'.cell? ⟨(ad151.add ((x5_4).toNat * 7)).block, (ad151.add ((x5_4).toNat * 7)).off + 6, none⟩ = some (.slice A151_6 ((q74 l0_1 x5_4).f6).length c151_6) ∧ w'.cell? (ad151.add ((x5_4).toNat * 7)) = some (.string ((q74 l0_1 x5_4).f0)) ∧ w'.cell? ⟨(ad151.add ((x5_4).toNat * 7)).block, (ad151.add ((x5_4).toNat * 7)).off + 1, none⟩ = some (.int .i64 ((q74 l0_1 x5_4).f1)) ∧ w'.cell? ⟨(ad151.add ((x5_4).toNat * 7)).block, (ad151.add ((x5_4).toNat * 7)).off + 2, none⟩ = some (.string ((q74 l0_1 x5_4).f2)) ∧ w'.cell? ⟨(ad151.add ((x5_4).toNat * 7)).block, (ad151.add ((x5_4).toNat * 7)).off + 3, none⟩ = some (.bool ((q74 l0_1 x5_4).f3)) ∧ w'.cell? ⟨(ad151.add ((x5_4).toNat * 7)).block, (ad151.add ((x5_4).toNat * 7)).off + 4, none⟩ = some (.int .i64 ((q74 l0_1 x5_4).f4)) ∧ w'.cell? ⟨(ad151.add ((x5_4).toNat * 7)).block, (ad151.add ((x5_4).toNat * 7)).off + 5, none⟩ = some (.slice A151_5 ((q74 l0_1 x5_4).f5).length c151_5) ∧ w'.cell? ⟨(ad151.add ((x5_4).toNat * 7)).block, (ad151.add ((x5_4).toNat * 7)).off + 6, none⟩ = some (.slice A151_6 ((q74 l0_1 x5_4).f6).length c151_6)) (ds := []) (bits_ 20 0) (by kernel_rfl) rfl rfl ⟨(bk0_ BK144 :), (bk1_ BK144 :), (rr_ HB hw151_0 :), (rr_ HB hw151_1 :), (rr_ HB hw151_2 :), (rr_ HB hw151_3 :), (rr_ HB hw151_4 :), (rr_ HB hw151_5 :), (rr_ HB hw151_6 :), (rr_ HB hw153_0 :), (rr_ HB hw153_1 :), (rr_ HB hw153_2 :), (rr_ HB hw153_3 :), (rr_ HB hw153_4 :), (rr_ HB hw153_5 :), (rr_ HB hw153_6 :)⟩ (fun hHeld => ?_); refine with_tabW q25.tab16 q25.bits16 (fun HT_ HW_ => ?_)
                generalize wr.drew = w42 at BK144 HB HR151_5 HR151_6 HR153_5 HR153_6 hx151_0 hx151_1 hx151_2 hx151_3 hx151_4 hx151_5 hx151_6 hx153_0 hx153_1 hx153_2 hx153_3 hx153_4 hx153_5 hx153_6 hHeld ⊢
                refine pz_ 1 (some 67) (bits_ 20 2) HT_.out ?_
                refine pz_ 3 (some 69) (bits_ 20 10) HT_.out ?_
                refine tz_ 0 (some 66) (bits_ 20 11) HT_.out HW_.out hHeld ?_ (hy := by rintro w' ⟨s0, s1, s2, s3, s4, s5, s6, s7, s8, s9, s10, s11, s12, s13, s14, s15⟩; go_simp; with_reducible rfl)
                refine tz_ 2 (some 68) (bits_ 20 15) HT_.out HW_.out hHeld ?_ (hy := by rintro w' ⟨s0, s1, s2, s3, s4, s5, s6, s7, s8, s9, s10, s11, s12, s13, s14, s15⟩; go_simp; with_reducible rfl)
                refine pz_ 4 (some 70) (bits_ 20 31) HT_.out ?_
                refine pz_ 5 (some 71) (bits_ 20 63) HT_.out ?_
                refine tz_ 6 (some 72) (bits_ 20 127) HT_.out HW_.out hHeld ?_ (hy := by rintro w' ⟨s0, s1, s2, s3, s4, s5, s6, s7, s8, s9, s10, s11, s12, s13, s14, s15⟩; go_simp; with_reducible rfl)
                refine oz_ 7 (some 73) (bits_ 20 255) HT_.out (fun K hK => ?_)
                refine go_s_ Try.func20 #[.agg #[.slice A0_0 l0_0.length c0_0, .slice (some ad151) l0_1.length c0_1], .slice A151_5 ((q74 l0_1 x5_4).f5).length c151_5] ?_
                with_reducible refine (q9.calls k4 _ _ l0_0 _ _ l0_1 _ _ ((q74 l0_1 x5_4).f5) true _ ?side1 ?side2 ?side3 ?side4 ?side5 ?side6 A37.out).mono ?_
                (case side1 => exact kc_ HR0_0 HB)
                (case side2 => exact HC0_0.out)
                (case side3 => exact kc_ HR0_1 HB)
                (case side4 => exact HC0_1.out)
                (case side5 => exact kc_ HR151_5 HB)
                (case side6 => exact HC151_5.out)
                rintro e w43 ⟨rfl, hb⟩
                refine ⟨_, rfl, ?_⟩
                replace BK144 := bb_ BK144 hb
                replace HB := hb_ HB hb
                clear hb
                refine hK.out _ _ ⟨(bk0_ BK144 :), (bk1_ BK144 :), (rr_ HB hw151_0 :), (rr_ HB hw151_1 :), (rr_ HB hw151_2 :), (rr_ HB hw151_3 :), (rr_ HB hw151_4 :), (rr_ HB hw151_5 :), (rr_ HB hw151_6 :), (rr_ HB hw153_0 :), (rr_ HB hw153_1 :), (rr_ HB hw153_2 :), (rr_ HB hw153_3 :), (rr_ HB hw153_4 :), (rr_ HB hw153_5 :), (rr_ HB hw153_6 :)⟩ (fun hHeld => ?_)
                clear hK K
                refine nz_ (some 73) ?_
                refine pz_ 8 (some 74) (bits_ 20 511) HT_.out ?_
                refine pz_ 9 (some 75) (bits_ 20 1023) HT_.out ?_
                refine pz_ 11 (some 77) (bits_ 20 3071) HT_.out ?_
                refine pz_ 13 (some 79) (bits_ 20 11263) HT_.out ?_
                refine tz_ 10 (some 76) (bits_ 20 12287) HT_.out HW_.out hHeld ?_ (hy := by rintro w' ⟨s0, s1, s2, s3, s4, s5, s6, s7, s8, s9, s10, s11, s12, s13, s14, s15⟩; go_simp; with_reducible rfl)
                refine tz_ 12 (some 78) (bits_ 20 16383) HT_.out HW_.out hHeld ?_ (hy := by rintro w' ⟨s0, s1, s2, s3, s4, s5, s6, s7, s8, s9, s10, s11, s12, s13, s14, s15⟩; go_simp; with_reducible rfl)
                refine pz_ 14 (some 80) (bits_ 20 32767) HT_.out ?_
                refine pz_ 15 (some 81) (bits_ 20 65535) HT_.out ?_
                refine tz_ 16 (some 82) (bits_ 20 131071) HT_.out HW_.out hHeld ?_ (hy := by rintro w' ⟨s0, s1, s2, s3, s4, s5, s6, s7, s8, s9, s10, s11, s12, s13, s14, s15⟩; go_simp; with_reducible rfl)
                refine oz_ 17 (some 83) (bits_ 20 262143) HT_.out (fun K hK => ?_)
                refine go_s_ Try.func20 #[.agg #[.slice A0_0 l0_0.length c0_0, .slice (some ad151) l0_1.length c0_1], .slice A151_6 ((q74 l0_1 x5_4).f6).length c151_6] ?_
                with_reducible refine (q9.calls k4 _ _ l0_0 _ _ l0_1 _ _ ((q74 l0_1 x5_4).f6) true _ ?side1 ?side2 ?side3 ?side4 ?side5 ?side6 A39.out).mono ?_
                (case side1 => exact kc_ HR0_0 HB)
                (case side2 => exact HC0_0.out)
                (case side3 => exact kc_ HR0_1 HB)
                (case side4 => exact HC0_1.out)
                (case side5 => exact kc_ HR153_6 HB)
                (case side6 => exact HC153_6.out)
                rintro e w44 ⟨rfl, hb⟩
                refine ⟨_, rfl, ?_⟩
                replace BK144 := bb_ BK144 hb
                replace HB := hb_ HB hb
                clear hb
                refine hK.out _ _ ⟨(bk0_ BK144 :), (bk1_ BK144 :), (rr_ HB hw151_0 :), (rr_ HB hw151_1 :), (rr_ HB hw151_2 :), (rr_ HB hw151_3 :), (rr_ HB hw151_4 :), (rr_ HB hw151_5 :), (rr_ HB hw151_6 :), (rr_ HB hw153_0 :), (rr_ HB hw153_1 :), (rr_ HB hw153_2 :), (rr_ HB hw153_3 :), (rr_ HB hw153_4 :), (rr_ HB hw153_5 :), (rr_ HB hw153_6 :)⟩ (fun hHeld => ?_)
                clear hK K
                refine nz_ (some 83) ?_
                refine pz_ 18 (some 84) (bits_ 20 524287) HT_.out ?_
                refine pz_ 19 (some 85) (bits_ 20 1048575) HT_.out ?_
                refine done_ (done_of HT_.out (by kernel_rfl)) ?_
                try go_wp2
                go_roundg k4
                case measure => have := HJ1.out; have := HK2.out; have := HK3.out; have := HK4.out; omega
                case rel => exact ⟨(wrap64 (x5_4 + 1)), rf_, H', ⟨by have := HJ1.out; have := HK2.out; have := HK3.out; have := HK4.out; omega⟩, ⟨gx_ BK144⟩, ⟨hf_⟩⟩
               ·replace c40 := Bool.eq_false_iff.mpr c40
                subst c40
                have H1 : (some false) = some r := by rw [if_neg (show ¬ (false = true) by decide)] at H; exact H
                clear H
                have H := H1
                clear H1
                obtain rfl := Option.some.inj H
                obtain ⟨hcz45_0, hcz45_1, hfz45_0, hfz45_1⟩ := bs2_ BK144
                try go_wp2
                replace BK144 := q49.mk (q57 BK144.out)
                replace HB := q49.mk (q51 HB.out)
                have p151 : 0 ≤ (x5_4 : Int) := od_
                have q151 : x5_4 < (l0_1.length : Int) := od_
                obtain ⟨ad151, A151_5, c151_5, A151_6, c151_6, e151, hx151_0, hx151_1, hx151_2, hx151_3, hx151_4, hx151_5, hx151_6, hl151_5, hi151_5, hl151_6, hi151_6⟩ := at_T41 HR0_1.out x5_4 p151 q151
                have hw151_6 := hx151_6
                have hw151_5 := hx151_5
                have hw151_4 := hx151_4
                have hw151_3 := hx151_3
                have hw151_2 := hx151_2
                have hw151_1 := hx151_1
                have hw151_0 := hx151_0
                cases e151
                replace hx151_0 := rr_ HB hx151_0
                replace hx151_1 := rr_ HB hx151_1
                replace hx151_2 := rr_ HB hx151_2
                replace hx151_3 := rr_ HB hx151_3
                replace hx151_4 := rr_ HB hx151_4
                replace hx151_5 := rr_ HB hx151_5
                replace hx151_6 := rr_ HB hx151_6
                have HR151_5 := q49.mk hi151_5
                have HC151_5 := q49.mk hl151_5
                clear hi151_5 hl151_5
                have HR151_6 := q49.mk hi151_6
                have HC151_6 := q49.mk hl151_6
                clear hi151_6 hl151_6
                replace p151 := eq_true p151
                replace q151 := eq_true q151
                have p153 : 0 ≤ (x5_4 : Int) := od_
                have q153 : x5_4 < (l0_1.length : Int) := od_
                obtain ⟨ad153, A153_5, c153_5, A153_6, c153_6, e153, hx153_0, hx153_1, hx153_2, hx153_3, hx153_4, hx153_5, hx153_6, hl153_5, hi153_5, hl153_6, hi153_6⟩ := at_T41 HR0_1.out x5_4 p153 q153
                have hw153_6 := hx153_6
                have hw153_5 := hx153_5
                have hw153_4 := hx153_4
                have hw153_3 := hx153_3
                have hw153_2 := hx153_2
                have hw153_1 := hx153_1
                have hw153_0 := hx153_0
                obtain rfl : ad151 = ad153 := (by injection e153)
                obtain ⟨rfl, rfl⟩ : A151_5 = A153_5 ∧ c151_5 = c153_5 := by (have z := Option.some.inj (hw151_5.symm.trans hw153_5); injection z with z1 z2 z3; exact ⟨z1, z3⟩)
                obtain ⟨rfl, rfl⟩ : A151_6 = A153_6 ∧ c151_6 = c153_6 := by (have z := Option.some.inj (hw151_6.symm.trans hw153_6); injection z with z1 z2 z3; exact ⟨z1, z3⟩)
                replace hx153_0 := rr_ HB hx153_0
                replace hx153_1 := rr_ HB hx153_1
                replace hx153_2 := rr_ HB hx153_2
                replace hx153_3 := rr_ HB hx153_3
                replace hx153_4 := rr_ HB hx153_4
                replace hx153_5 := rr_ HB hx153_5
                replace hx153_6 := rr_ HB hx153_6
                have HR153_5 := q49.mk hi153_5
                have HC153_5 := q49.mk hl153_5
                clear hi153_5 hl153_5
                have HR153_6 := q49.mk hi153_6
                have HC153_6 := q49.mk hl153_6
                clear hi153_6 hl153_6
                replace p153 := eq_true p153
                replace q153 := eq_true q153
                refine start_ (n := 20) (S := fun w' => w'.cell? ⟨gb144, 0, none⟩ = some (.slice A0_0 l0_0.length c0_0) ∧ w'.cell? ⟨gb144, 1, none⟩ = some (.slice (some ad151) l0_1.length c0_1) ∧ w'.cell? (ad151.add ((x5_4).toNat * 7)) = some (.string ((q74 l0_1 x5_4).f0)) ∧ w'.cell? ⟨(ad151.add ((x5_4).toNat * 7)).block, (ad151.add ((x5_4).toNat * 7)).off + 1, none⟩ = some (.int .i64 ((q74 l0_1 x5_4).f1)) ∧ w'.cell? ⟨(ad151.add ((x5_4).toNat * 7)).block, (ad151.add ((x5_4).toNat * 7)).off + 2, none⟩ = some (.string ((q74 l0_1 x5_4).f2)) ∧ w'.cell? ⟨(ad151.add ((x5_4).toNat * 7)).block, (ad151.add ((x5_4).toNat * 7)).off + 3, none⟩ = some (.bool ((q74 l0_1 x5_4).f3)) ∧ w'.cell? ⟨(ad151.add ((x5_4).toNat * 7)).block, (ad151.add ((x5_4).toNat * 7)).off + 4, none⟩ = some (.int .i64 ((q74 l0_1 x5_4).f4)) ∧ w'.cell? ⟨(ad151.add ((x5_4).toNat * 7)).block, (ad151.add ((x5_4).toNat * 7)).off + 5, none⟩ = some (.slice A151_5 ((q74 l0_1 x5_4).f5).length c151_5) ∧ w'.cell? ⟨(ad151.add ((x5_4).toNat * 7)).block, (ad151.add ((x5_4).toNat * 7)).off + 6, none⟩ = some (.slice A151_6 ((q74 l0_1 x5_4).f6).length c151_6) ∧ w'.cell? (ad151.add ((x5_4).toNat * 7)) = some (.string ((q74 l0_1 x5_4).f0)) ∧ w'.cell? ⟨(ad151.add ((x5_4).toNat * 7)).block, (ad151.add ((x5_4).toNat * 7)).off + 1, none⟩ = some (.int .i64 ((q74 l0_1 x5_4).f1)) ∧ w'.cell? ⟨(ad151.add ((x5_4).toNat * 7)).block, (ad151.add ((x5_4).toNat * 7)).off + 2, none⟩ = some (.string ((q74 l0_1 x5_4).f2)) ∧ w'.cell? ⟨(ad151.add ((x5_4).toNat * 7)).block, (ad151.add ((x5_4).toNat * 7)).off + 3, none⟩ = some (.bool ((q74 l0_1 x5_4).f3)) ∧ w'.cell? ⟨(ad151.add ((x5_4).toNat * 7)).block, (ad151.add ((x5_4).toNat * 7)).off + 4, none⟩ = some (.int .i64 ((q74 l0_1 x5_4).f4)) ∧ w'.cell? ⟨(ad151.add ((x5_4).toNat * 7)).block, (ad151.add ((x5_4).toNat * 7)).off + 5, none⟩ = some (.slice A151_5 ((q74 l0_1 x5_4).f5).length c151_5) ∧ w'.cell? ⟨(ad151.add ((x5_4).toNat * 7)).block, (ad151.add ((x5_4).toNat * 7)).off + 6, none⟩ = some (.slice A151_6 ((q74 l0_1 x5_4).f6).length c151_6)) (ds := []) (bits_ 20 0) (by kernel_rfl) rfl rfl ⟨(bk0_ BK144 :), (bk1_ BK144 :), (rr_ HB hw151_0 :), (rr_ HB hw151_1 :), (rr_ HB hw151_2 :), (rr_ HB hw151_3 :), (rr_ HB hw151_4 :), (rr_ HB hw151_5 :), (rr_ HB hw151_6 :), (rr_ HB hw153_0 :), (rr_ HB hw153_1 :), (rr_ HB hw153_2 :), (rr_ HB hw153_3 :), (rr_ HB hw153_4 :), (rr_ HB hw153_5 :), (rr_ HB hw153_6 :)⟩ (fun hHeld => ?_); refine with_tabW q25.tab16 q25.bits16 (fun HT_ HW_ => ?_)
                generalize wr.drew = w46 at BK144 HB HR151_5 HR151_6 HR153_5 HR153_6 hx151_0 hx151_1 hx151_2 hx151_3 hx151_4 hx151_5 hx151_6 hx153_0 hx153_1 hx153_2 hx153_3 hx153_4 hx153_5 hx153_6 hHeld ⊢
                refine pz_ 1 (some 67) (bits_ 20 2) HT_.out ?_
                refine pz_ 3 (some 69) (bits_ 20 10) HT_.out ?_
                refine tz_ 0 (some 66) (bits_ 20 11) HT_.out HW_.out hHeld ?_ (hy := by rintro w' ⟨s0, s1, s2, s3, s4, s5, s6, s7, s8, s9, s10, s11, s12, s13, s14, s15⟩; go_simp; with_reducible rfl)
                refine tz_ 2 (some 68) (bits_ 20 15) HT_.out HW_.out hHeld ?_ (hy := by rintro w' ⟨s0, s1, s2, s3, s4, s5, s6, s7, s8, s9, s10, s11, s12, s13, s14, s15⟩; go_simp; with_reducible rfl)
                refine pz_ 4 (some 70) (bits_ 20 31) HT_.out ?_
                refine pz_ 5 (some 71) (bits_ 20 63) HT_.out ?_
                refine tz_ 6 (some 72) (bits_ 20 127) HT_.out HW_.out hHeld ?_ (hy := by rintro w' ⟨s0, s1, s2, s3, s4, s5, s6, s7, s8, s9, s10, s11, s12, s13, s14, s15⟩; go_simp; with_reducible rfl)
                refine oz_ 7 (some 73) (bits_ 20 255) HT_.out (fun K hK => ?_)
                refine go_s_ Try.func20 #[.agg #[.slice A0_0 l0_0.length c0_0, .slice (some ad151) l0_1.length c0_1], .slice A151_5 ((q74 l0_1 x5_4).f5).length c151_5] ?_
                with_reducible refine (q9.calls k4 _ _ l0_0 _ _ l0_1 _ _ ((q74 l0_1 x5_4).f5) true _ ?side1 ?side2 ?side3 ?side4 ?side5 ?side6 A37.out).mono ?_
                (case side1 => exact kc_ HR0_0 HB)
                (case side2 => exact HC0_0.out)
                (case side3 => exact kc_ HR0_1 HB)
                (case side4 => exact HC0_1.out)
                (case side5 => exact kc_ HR151_5 HB)
                (case side6 => exact HC151_5.out)
                rintro e w47 ⟨rfl, hb⟩
                refine ⟨_, rfl, ?_⟩
                replace BK144 := bb_ BK144 hb
                replace HB := hb_ HB hb
                clear hb
                refine hK.out _ _ ⟨(bk0_ BK144 :), (bk1_ BK144 :), (rr_ HB hw151_0 :), (rr_ HB hw151_1 :), (rr_ HB hw151_2 :), (rr_ HB hw151_3 :), (rr_ HB hw151_4 :), (rr_ HB hw151_5 :), (rr_ HB hw151_6 :), (rr_ HB hw153_0 :), (rr_ HB hw153_1 :), (rr_ HB hw153_2 :), (rr_ HB hw153_3 :), (rr_ HB hw153_4 :), (rr_ HB hw153_5 :), (rr_ HB hw153_6 :)⟩ (fun hHeld => ?_)
                clear hK K
                refine nz_ (some 73) ?_
                refine pz_ 8 (some 74) (bits_ 20 511) HT_.out ?_
                refine pz_ 9 (some 75) (bits_ 20 1023) HT_.out ?_
                refine pz_ 11 (some 77) (bits_ 20 3071) HT_.out ?_
                refine pz_ 13 (some 79) (bits_ 20 11263) HT_.out ?_
                refine tz_ 10 (some 76) (bits_ 20 12287) HT_.out HW_.out hHeld ?_ (hy := by rintro w' ⟨s0, s1, s2, s3, s4, s5, s6, s7, s8, s9, s10, s11, s12, s13, s14, s15⟩; go_simp; with_reducible rfl)
                refine tz_ 12 (some 78) (bits_ 20 16383) HT_.out HW_.out hHeld ?_ (hy := by rintro w' ⟨s0, s1, s2, s3, s4, s5, s6, s7, s8, s9, s10, s11, s12, s13, s14, s15⟩; go_simp; with_reducible rfl)
                refine pz_ 14 (some 80) (bits_ 20 32767) HT_.out ?_
                refine pz_ 15 (some 81) (bits_ 20 65535) HT_.out ?_
                refine tz_ 16 (some 82) (bits_ 20 131071) HT_.out HW_.out hHeld ?_ (hy := by rintro w' ⟨s0, s1, s2, s3, s4, s5, s6, s7, s8, s9, s10, s11, s12, s13, s14, s15⟩; go_simp; with_reducible rfl)
                refine oz_ 17 (some 83) (bits_ 20 262143) HT_.out (fun K hK => ?_)
                refine go_s_ Try.func20 #[.agg #[.slice A0_0 l0_0.length c0_0, .slice (some ad151) l0_1.length c0_1], .slice A151_6 ((q74 l0_1 x5_4).f6).length c151_6] ?_
                with_reducible refine (q9.calls k4 _ _ l0_0 _ _ l0_1 _ _ ((q74 l0_1 x5_4).f6) false _ ?side1 ?side2 ?side3 ?side4 ?side5 ?side6 A39.out).mono ?_
                (case side1 => exact kc_ HR0_0 HB)
                (case side2 => exact HC0_0.out)
                (case side3 => exact kc_ HR0_1 HB)
                (case side4 => exact HC0_1.out)
                (case side5 => exact kc_ HR153_6 HB)
                (case side6 => exact HC153_6.out)
                rintro e w48 ⟨rfl, hb⟩
                refine ⟨_, rfl, ?_⟩
                replace BK144 := bb_ BK144 hb
                replace HB := hb_ HB hb
                clear hb
                refine hK.out _ _ ⟨(bk0_ BK144 :), (bk1_ BK144 :), (rr_ HB hw151_0 :), (rr_ HB hw151_1 :), (rr_ HB hw151_2 :), (rr_ HB hw151_3 :), (rr_ HB hw151_4 :), (rr_ HB hw151_5 :), (rr_ HB hw151_6 :), (rr_ HB hw153_0 :), (rr_ HB hw153_1 :), (rr_ HB hw153_2 :), (rr_ HB hw153_3 :), (rr_ HB hw153_4 :), (rr_ HB hw153_5 :), (rr_ HB hw153_6 :)⟩ (fun hHeld => ?_)
                clear hK K
                refine nz_ (some 83) ?_
                refine pz_ 18 (some 84) (bits_ 20 524287) HT_.out ?_
                refine pz_ 19 (some 85) (bits_ 20 1048575) HT_.out ?_
                refine done_ (done_of HT_.out (by kernel_rfl)) ?_
                try go_wp2
                go_ret
                exact ⟨er_, hf_⟩
              ·replace c38 := Bool.eq_false_iff.mpr c38
               subst c38
               have H1 : (some false) = some r := by rw [if_neg (show ¬ (false = true) by decide)] at H; exact H
               clear H
               have H := H1
               clear H1
               obtain rfl := Option.some.inj H
               obtain ⟨hcz49_0, hcz49_1, hfz49_0, hfz49_1⟩ := bs2_ BK144
               try go_wp2
               replace BK144 := q49.mk (q57 BK144.out)
               replace HB := q49.mk (q51 HB.out)
               have p151 : 0 ≤ (x5_4 : Int) := od_
               have q151 : x5_4 < (l0_1.length : Int) := od_
               obtain ⟨ad151, A151_5, c151_5, A151_6, c151_6, e151, hx151_0, hx151_1, hx151_2, hx151_3, hx151_4, hx151_5, hx151_6, hl151_5, hi151_5, hl151_6, hi151_6⟩ := at_T41 HR0_1.out x5_4 p151 q151
               have hw151_6 := hx151_6
               have hw151_5 := hx151_5
               have hw151_4 := hx151_4
               have hw151_3 := hx151_3
               have hw151_2 := hx151_2
               have hw151_1 := hx151_1
               have hw151_0 := hx151_0
               cases e151
               replace hx151_0 := rr_ HB hx151_0
               replace hx151_1 := rr_ HB hx151_1
               replace hx151_2 := rr_ HB hx151_2
               replace hx151_3 := rr_ HB hx151_3
               replace hx151_4 := rr_ HB hx151_4
               replace hx151_5 := rr_ HB hx151_5
               replace hx151_6 := rr_ HB hx151_6
               have HR151_5 := q49.mk hi151_5
               have HC151_5 := q49.mk hl151_5
               clear hi151_5 hl151_5
               have HR151_6 := q49.mk hi151_6
               have HC151_6 := q49.mk hl151_6
               clear hi151_6 hl151_6
               replace p151 := eq_true p151
               replace q151 := eq_true q151
               refine start_ (n := 20) (S := fun w' => w'.cell? ⟨gb144, 0, none⟩ = some (.slice A0_0 l0_0.length c0_0) ∧ w'.cell? ⟨gb144, 1, none⟩ = some (.slice (some ad151) l0_1.length c0_1) ∧ w'.cell? (ad151.add ((x5_4).toNat * 7)) = some (.string ((q74 l0_1 x5_4).f0)) ∧ w'.cell? ⟨(ad151.add ((x5_4).toNat * 7)).block, (ad151.add ((x5_4).toNat * 7)).off + 1, none⟩ = some (.int .i64 ((q74 l0_1 x5_4).f1)) ∧ w'.cell? ⟨(ad151.add ((x5_4).toNat * 7)).block, (ad151.add ((x5_4).toNat * 7)).off + 2, none⟩ = some (.string ((q74 l0_1 x5_4).f2)) ∧ w'.cell? ⟨(ad151.add ((x5_4).toNat * 7)).block, (ad151.add ((x5_4).toNat * 7)).off + 3, none⟩ = some (.bool ((q74 l0_1 x5_4).f3)) ∧ w'.cell? ⟨(ad151.add ((x5_4).toNat * 7)).block, (ad151.add ((x5_4).toNat * 7)).off + 4, none⟩ = some (.int .i64 ((q74 l0_1 x5_4).f4)) ∧ w'.cell? ⟨(ad151.add ((x5_4).toNat * 7)).block, (ad151.add ((x5_4).toNat * 7)).off + 5, none⟩ = some (.slice A151_5 ((q74 l0_1 x5_4).f5).length c151_5) ∧ w'.cell? ⟨(ad151.add ((x5_4).toNat * 7)).block, (ad151.add ((x5_4).toNat * 7)).off + 6, none⟩ = some (.slice A151_6 ((q74 l0_1 x5_4).f6).length c151_6)) (ds := []) (bits_ 20 0) (by kernel_rfl) rfl rfl ⟨(bk0_ BK144 :), (bk1_ BK144 :), (rr_ HB hw151_0 :), (rr_ HB hw151_1 :), (rr_ HB hw151_2 :), (rr_ HB hw151_3 :), (rr_ HB hw151_4 :), (rr_ HB hw151_5 :), (rr_ HB hw151_6 :)⟩ (fun hHeld => ?_); refine with_tabW q25.tab16 q25.bits16 (fun HT_ HW_ => ?_)
               generalize wr.drew = w50 at BK144 HB HR151_5 HR151_6 hx151_0 hx151_1 hx151_2 hx151_3 hx151_4 hx151_5 hx151_6 hHeld ⊢
               refine pz_ 1 (some 67) (bits_ 20 2) HT_.out ?_
               refine pz_ 3 (some 69) (bits_ 20 10) HT_.out ?_
               refine tz_ 0 (some 66) (bits_ 20 11) HT_.out HW_.out hHeld ?_ (hy := by rintro w' ⟨s0, s1, s2, s3, s4, s5, s6, s7, s8⟩; go_simp; with_reducible rfl)
               refine tz_ 2 (some 68) (bits_ 20 15) HT_.out HW_.out hHeld ?_ (hy := by rintro w' ⟨s0, s1, s2, s3, s4, s5, s6, s7, s8⟩; go_simp; with_reducible rfl)
               refine pz_ 4 (some 70) (bits_ 20 31) HT_.out ?_
               refine pz_ 5 (some 71) (bits_ 20 63) HT_.out ?_
               refine tz_ 6 (some 72) (bits_ 20 127) HT_.out HW_.out hHeld ?_ (hy := by rintro w' ⟨s0, s1, s2, s3, s4, s5, s6, s7, s8⟩; go_simp; with_reducible rfl)
               refine oz_ 7 (some 73) (bits_ 20 255) HT_.out (fun K hK => ?_)
               refine go_s_ Try.func20 #[.agg #[.slice A0_0 l0_0.length c0_0, .slice (some ad151) l0_1.length c0_1], .slice A151_5 ((q74 l0_1 x5_4).f5).length c151_5] ?_
               with_reducible refine (q9.calls k4 _ _ l0_0 _ _ l0_1 _ _ ((q74 l0_1 x5_4).f5) false _ ?side1 ?side2 ?side3 ?side4 ?side5 ?side6 A37.out).mono ?_
               (case side1 => exact kc_ HR0_0 HB)
               (case side2 => exact HC0_0.out)
               (case side3 => exact kc_ HR0_1 HB)
               (case side4 => exact HC0_1.out)
               (case side5 => exact kc_ HR151_5 HB)
               (case side6 => exact HC151_5.out)
               rintro e w51 ⟨rfl, hb⟩
               refine ⟨_, rfl, ?_⟩
               replace BK144 := bb_ BK144 hb
               replace HB := hb_ HB hb
               clear hb
               refine hK.out _ _ ⟨(bk0_ BK144 :), (bk1_ BK144 :), (rr_ HB hw151_0 :), (rr_ HB hw151_1 :), (rr_ HB hw151_2 :), (rr_ HB hw151_3 :), (rr_ HB hw151_4 :), (rr_ HB hw151_5 :), (rr_ HB hw151_6 :)⟩ (fun hHeld => ?_)
               clear hK K
               refine nz_ (some 73) ?_
               refine pz_ 8 (some 74) (bits_ 20 511) HT_.out ?_
               refine pz_ 9 (some 75) (bits_ 20 1023) HT_.out ?_
               refine sz_ 10 (some 76) (bits_ 20 2047) HT_.out ?_
               refine sz_ 11 (some 77) (bits_ 20 4095) HT_.out ?_
               refine sz_ 12 (some 78) (bits_ 20 8191) HT_.out ?_
               refine sz_ 13 (some 79) (bits_ 20 16383) HT_.out ?_
               refine sz_ 14 (some 80) (bits_ 20 32767) HT_.out ?_
               refine sz_ 15 (some 81) (bits_ 20 65535) HT_.out ?_
               refine sz_ 16 (some 82) (bits_ 20 131071) HT_.out ?_
               refine sz_ 17 (some 83) (bits_ 20 262143) HT_.out ?_
               refine sz_ 18 (some 84) (bits_ 20 524287) HT_.out ?_
               refine pz_ 19 (some 85) (bits_ 20 1048575) HT_.out ?_
               refine done_ (done_of HT_.out (by kernel_rfl)) ?_
               try go_wp2
               go_ret
               exact ⟨er_, hf_⟩
             ·rw [if_neg c36] at H
              exact absurd H (by simp)
            ·rw [if_neg c35] at H
             replace c35 := decide_eq_false c35
             obtain rfl := Option.some.inj H
             obtain ⟨hcz52_0, hcz52_1, hfz52_0, hfz52_1⟩ := bs2_ BK144
             go_wp2
             go_ret
             exact ⟨er_, hf_⟩
theorem bt_at (s : ByteArray) (i : Nat) (h : i < s.size) : bt s (i : Int) = byteAt s i := by
 unfold bt byteAt
 rw [dif_pos (by simpa using h), List.getD_eq_getElem?_getD, List.getElem?_eq_getElem (by simpa using h)]
 rfl
theorem first_eq (a : Int) : q16.f a = some (letterB a) := letter_eq a
theorem rbyte_eq (a : Int) : q21.f a = some (moreB a) := more_eq a
theorem ref_name_at (s : ByteArray) (hs : s.size ≤ 12) (d : Nat) : ∀ i k, i + d = s.size → d < k → q26.l0 k s (i : Nat) = some ((List.range' i d).all (fun j => moreB (byteAt s j))) := by
  induction d with
  | zero =>
    intro i k hi hk
    obtain ⟨k, rfl⟩ : ∃ m, k = m + 1 := ⟨k - 1, by omega⟩
    simp only [q26.l0]
    rw [if_neg (by omega)]
    rfl
  | succ d ih =>
    intro i k hi hk
    obtain ⟨k, rfl⟩ : ∃ m, k = m + 1 := ⟨k - 1, by omega⟩
    simp only [q26.l0]
    rw [if_pos (by omega), if_pos (by omega), bt_at s i (by omega), rbyte_eq, Option.bind_some, List.range'_succ, List.all_cons]
    cases moreB (byteAt s i) with
    | false => simp
    | true =>
      rw [if_pos rfl, wrap_lt (n := (s.size : Int)) (by omega) (by omega) (by omega), Bool.true_and]
      exact ih (i + 1) k (by omega) (by omega)
theorem ref_name (s : ByteArray) (k : Nat) (hk : 15 ≤ k) : q26.f k s = some (nameB s) := by
  obtain ⟨k, rfl⟩ : ∃ m, k = m + 1 := ⟨k - 1, by omega⟩
  unfold q26.f nameB
  by_cases h1 : s.size < 1
  · rw [if_pos (by omega), decide_eq_false (by omega)]; simp [q26.j0]
  by_cases h2 : s.size > 12
  · rw [if_neg (by omega), if_pos (by omega), decide_eq_false (by omega)]; simp [q26.j0]
  rw [if_neg (by omega), if_neg (by omega), if_pos (by omega), decide_eq_true (by omega), show (0 : Int) = ((0 : Nat) : Int) from rfl, bt_at s 0 (by omega), first_eq, Option.bind_some]
  cases letterB (byteAt s 0) with
  | false => simp [q26.j0]
  | true =>
    simp only [q26.j0, Bool.not_true, Bool.false_eq_true, if_false]
    rw [show (0 : Int) = ((0 : Nat) : Int) from rfl, ref_name_at s (by omega) s.size 0 k (by omega) (by omega), List.range_eq_range']
    rfl
theorem mem_any_at (l : List ByteArray) (s : ByteArray) (hn : l.length ≤ 9223372036854775807) (d : Nat) : ∀ (i k : Nat), i + d = l.length → d < k → q20.l0 k l s (i : Nat) = some ((l.drop i).any (fun x => s.toList == x.toList)) := by
  induction d with
  | zero =>
    intro i k hi hk
    obtain ⟨k, rfl⟩ : ∃ m, k = m + 1 := ⟨k - 1, by omega⟩
    simp only [q20.l0]
    rw [if_neg (by omega), List.drop_of_length_le (by omega)]
    rfl
  | succ d ih =>
    intro i k hi hk
    obtain ⟨k, rfl⟩ : ∃ m, k = m + 1 := ⟨k - 1, by omega⟩
    have hlt : i < l.length := by omega
    simp only [q20.l0]
    rw [if_pos (by omega), if_pos (by omega), rdOf_get _ _ _ hlt, List.drop_eq_getElem_cons hlt, List.any_cons]
    by_cases he : l[i].toList = s.toList
    · rw [if_pos he, show (s.toList == l[i].toList) = true by rw [he]; simp]; rfl
    · rw [if_neg he, show (s.toList == l[i].toList) = false by simpa using Ne.symm he, Bool.false_or, wrap_lt (n := (l.length : Int)) (by omega) (by omega) (by omega)]
      exact ih (i + 1) k (by omega) (by omega)
theorem ref_file (l : List ByteArray) (s : ByteArray) (hn : l.length ≤ 9223372036854775807) (k : Nat) (hk : l.length < k) : q20.f k l s = some (memB l s) := mem_any_at l s hn l.length 0 k (by omega) hk
theorem ref_op_at (s : ByteArray) (l : List ByteArray) (hn : l.length ≤ 9223372036854775807) (d : Nat) : ∀ (i k : Nat), i + d = l.length → d < k → ∃ r, q27.l0 k s l (i : Nat) = some r ∧ decide (r < 0) = !((l.drop i).any (fun x => s.toList == x.toList)) := by
  induction d with
  | zero =>
    intro i k hi hk
    obtain ⟨k, rfl⟩ : ∃ m, k = m + 1 := ⟨k - 1, by omega⟩
    refine ⟨-1, ?_, ?_⟩
    · simp only [q27.l0]
      rw [if_neg (by omega)]
    · rw [List.drop_of_length_le (by omega)]; rfl
  | succ d ih =>
    intro i k hi hk
    obtain ⟨k, rfl⟩ : ∃ m, k = m + 1 := ⟨k - 1, by omega⟩
    have hlt : i < l.length := by omega
    simp only [q27.l0]
    rw [if_pos (by omega), if_pos (by omega), rdOf_get _ _ _ hlt, List.drop_eq_getElem_cons hlt, List.any_cons]
    by_cases he : l[i].toList = s.toList
    · rw [if_pos he]
      refine ⟨i, rfl, ?_⟩
      rw [show (s.toList == l[i].toList) = true by rw [he]; simp, decide_eq_false (by omega)]; rfl
    · rw [if_neg he, show (s.toList == l[i].toList) = false by simpa using Ne.symm he, Bool.false_or, wrap_lt (n := (l.length : Int)) (by omega) (by omega) (by omega)]
      exact ih (i + 1) k (by omega) (by omega)
theorem ref_op (s : ByteArray) (k : Nat) (hk : 6 < k) : ∃ r, q27.f k s = some r ∧ decide (r < 0) = !memB opsL s := ref_op_at s opsL (by decide) 6 0 k (by decide) hk
theorem ref_place_at (fs : List ByteArray) (l : List (S41)) (id : ByteArray) (hn : l.length ≤ 9223372036854775807) (d : Nat) : ∀ (i k : Nat), i + d = l.length → d < k → (∀ j, j < i → q32.p id (l.getD j z41) = false) → q18.l0 k id (i : Nat) fs l = some (q67 l id) := by
  induction d with
  | zero =>
    intro i k hi hk hno
    obtain ⟨k, rfl⟩ : ∃ m, k = m + 1 := ⟨k - 1, by omega⟩
    simp only [q18.l0]
    rw [if_neg (by omega)]
    unfold q67
    rw [fidx_miss _ l z41 (fun j hj => hno j (by omega))]
  | succ d ih =>
    intro i k hi hk hno
    obtain ⟨k, rfl⟩ : ∃ m, k = m + 1 := ⟨k - 1, by omega⟩
    have hlt : i < l.length := by omega
    have hrd : q74 l (i : Int) = l.getD i z41 := rfl
    simp only [q18.l0]
    rw [if_pos (by omega), if_pos (by omega), hrd]
    by_cases he : (l.getD i z41).f0.toList = id.toList
    · rw [if_pos he]
      unfold q67
      rw [fidx_hit _ l i z41 hlt (by unfold q32.p; simpa using he) hno]
    · rw [if_neg he, wrap_lt (n := (l.length : Int)) (by omega) (by omega) (by omega)]
      refine ih (i + 1) k (by omega) (by omega) (fun j hj => ?_)
      by_cases e : j = i
      · subst e; unfold q32.p; simpa using he
      · exact hno j (by omega)
theorem ref_place (fs : List ByteArray) (l : List (S41)) (id : ByteArray) (hn : l.length ≤ 9223372036854775807) (k : Nat) (hk : l.length < k) : q18.f k fs l id = some (q67 l id) := ref_place_at fs l id hn l.length 0 k (by omega) hk (fun j hj => by omega)
theorem refLegal3 (a b : Int) : q19.f 3 a b = some (legalB a b) := by
 unfold q19.f legalB
 by_cases h1 : a < 1
 ·rw [if_pos h1]
  simp only [q19.j0, if_true]
  by_cases h15 : b = 1 ∨ b = 5
  ·rw [if_pos h15, decide_eq_false (by omega)]
  ·rw [if_neg h15]
   by_cases h23 : b = 2 ∨ b = 3
   ·rw [if_pos h23, decide_eq_false (by omega)]
   ·rw [if_neg h23]
    by_cases h4 : b = 4
    ·rw [if_pos h4, decide_eq_false (by omega)]
    ·rw [if_neg h4]
 ·rw [if_neg h1]
  by_cases h5 : a > 5
  ·rw [decide_eq_true h5]
   simp only [q19.j0, if_true]
   by_cases h15 : b = 1 ∨ b = 5
   ·rw [if_pos h15, decide_eq_false (by omega)]
   ·rw [if_neg h15]
    by_cases h23 : b = 2 ∨ b = 3
    ·rw [if_pos h23, decide_eq_false (by omega)]
    ·rw [if_neg h23]
     by_cases h4 : b = 4
     ·rw [if_pos h4, decide_eq_false (by omega)]
     ·rw [if_neg h4]
  ·rw [decide_eq_false h5]
   simp only [q19.j0, Bool.false_eq_true, if_false]
   by_cases e1 : b = 1
   ·subst e1; simp [q19.j1]; omega
   ·rw [if_neg e1]
    by_cases e5 : b = 5
    ·subst e5; simp [q19.j1]; omega
    ·rw [show (b == 5) = false by simpa using e5, if_neg (by omega)]
     simp only [q19.j1, Bool.false_eq_true, if_false]
     by_cases e2 : b = 2
     ·subst e2; simp [q19.j2]; rw [Bool.eq_iff_iff]; simp; omega
     ·rw [if_neg e2]
      by_cases e3 : b = 3
      ·subst e3; simp [q19.j2]; rw [Bool.eq_iff_iff]; simp; omega
      ·rw [show (b == 3) = false by simpa using e3, if_neg (by omega)]
       simp only [q19.j2, Bool.false_eq_true, if_false]
       by_cases e4 : b = 4
       ·subst e4; simp; rw [Bool.eq_iff_iff]; simp; omega
       ·simp [e4]
theorem Ev.at {α : Type} {g : Nat → Option α} {r : α} (K : Nat) (h : ∀ k, K ≤ k → g k = some r) : Ev g r := ⟨K, h⟩
theorem ev_place (fs : List ByteArray) (l : List (S41)) (id : ByteArray) (hn : l.length ≤ 9223372036854775807) : Ev (fun k => q18.f k fs l id) (q67 l id) := Ev.at (l.length + 1) (fun k hk => ref_place fs l id hn k (by omega))
theorem ev_l2 (fs : List ByteArray) (l : List (S41)) (on : List (S101)) (ifs : List (S90)) (hf : fs.length ≤ 9223372036854775807) (hn : ifs.length ≤ 9223372036854775807) (d : Nat) : ∀ i : Nat, i + d = ifs.length → Ev (fun k => q12.l2 k (i : Int) fs l on ifs) ((ifs.drop i).all (fun c => ifB fs c.f0 c.f1 c.f2)) := by
  induction d with
  | zero =>
    intro i hi
    refine Ev.step (f := fun _ => some true) (fun k => ?_) ?_
    · simp only [q12.l2]
      rw [if_neg (by omega)]
    · rw [List.drop_of_length_le (by omega)]
      exact Ev.now true
  | succ d ih =>
    intro i hi
    have hlt : i < ifs.length := by omega
    have hrd : q77 ifs (i : Int) = ifs[i] := by simp [q77, List.getD_eq_getElem?_getD, List.getElem?_eq_getElem hlt]
    refine Ev.step (f := fun k => (q20.f k fs (ifs[i]).f0).bind fun t => (if t = true then ((q27.f k (ifs[i]).f1).bind fun t2 => (if t2 < 0 then (some false) else (if (ifs[i]).f2 < (-1000000) then (some false) else (if (ifs[i]).f2 > 1000000 then (some false) else (q12.l2 k (((i + 1 : Nat)) : Int) fs l on ifs))))) else (some false))) (fun k => ?_) ?_
    · simp only [q12.l2]
      rw [if_pos (by omega), if_pos (by omega), hrd, wrap_lt (n := (ifs.length : Int)) (by omega) (by omega) (by omega)]
      rfl
    · rw [List.drop_eq_getElem_cons hlt, List.all_cons]
      refine Ev.bind (Ev.at (fs.length + 1) (fun k hk => ref_file fs _ hf k (by omega))) ?_
      unfold ifB
      cases memB fs (ifs[i]).f0 with
      | false =>
        refine Ev.congr (fun k => if_neg (by simp)) ?_
        rw [Bool.false_and, Bool.and_false, Bool.false_and]
        exact Ev.now false
      | true =>
        refine Ev.congr (fun k => if_pos rfl) ?_
        obtain ⟨r, hr, hd⟩ := ref_op (ifs[i]).f1 7 (by omega)
        refine Ev.bind (Ev.at 7 (fun k hk => at_rounds (fun k => q27.mono _ k) hk hr)) ?_
        by_cases h0 : r < 0
        · have : memB opsL (ifs[i]).f1 = false := by rw [decide_eq_true h0] at hd; simpa using hd.symm
          rw [this, Bool.false_and, Bool.false_and]
          refine Ev.congr (fun k => if_pos h0) (Ev.now false)
        · have : memB opsL (ifs[i]).f1 = true := by rw [decide_eq_false h0] at hd; simpa using hd.symm
          rw [this, Bool.true_and, Bool.true_and]
          refine Ev.congr (fun k => if_neg h0) ?_
          by_cases h1 : (ifs[i]).f2 < -1000000
          · rw [decide_eq_false (by omega), Bool.false_and]
            exact Ev.congr (fun k => if_pos h1) (Ev.now false)
          · by_cases h2 : (ifs[i]).f2 > 1000000
            · rw [decide_eq_false (by omega), Bool.false_and]
              exact Ev.congr (fun k => (if_neg h1).trans (if_pos h2)) (Ev.now false)
            · rw [decide_eq_true (by omega), Bool.true_and]
              exact Ev.congr (fun k => (if_neg h1).trans (if_neg h2)) (ih (i + 1) (by omega))
theorem ev_l1 (fs : List ByteArray) (l : List (S41)) (on : List (S101)) (ifs : List (S90)) (hn : on.length ≤ 9223372036854775807) (i : Nat) (hi : i < on.length) (R : Bool) (hR : Ev (fun k => q12.l0 k (((i + 1 : Nat)) : Int) fs l on ifs) R) (d : Nat) : ∀ j : Nat, j + d = i → Ev (fun k => q12.l1 k (i : Int) (j : Int) fs l on ifs) (!(((on.take i).drop j).any (hasOn_p (q69 on i).f0 (q69 on i).f1)) && R) := by
  induction d with
  | zero =>
    intro j hj
    refine Ev.step (f := fun k => q12.l0 k (((i + 1 : Nat)) : Int) fs l on ifs) (fun k => ?_) ?_
    · simp only [q12.l1]
      rw [if_neg (by omega), wrap_lt (n := (on.length : Int)) (by omega) (by omega) (by omega)]
      rfl
    · rw [List.drop_of_length_le (by rw [List.length_take]; omega)]
      simpa using hR
  | succ d ih =>
    intro j hj
    have hjl : j < (on.take i).length := by rw [List.length_take]; omega
    have hrd : q69 on (j : Int) = (on.take i)[j] := by simp [q69, List.getD_eq_getElem?_getD, List.getElem?_eq_getElem (show j < on.length by omega)]
    rw [List.drop_eq_getElem_cons hjl, List.any_cons]
    have hsym : ((((on.take i)[j]).f0.toList == (q69 on i).f0.toList) && (((on.take i)[j]).f1 == (q69 on i).f1)) = hasOn_p (q69 on i).f0 (q69 on i).f1 (on.take i)[j] := by
      unfold hasOn_p
      rw [Bool.eq_iff_iff]
      simp only [Bool.and_eq_true, beq_iff_eq]
      exact ⟨fun h => ⟨h.1.symm, h.2.symm⟩, fun h => ⟨h.1.symm, h.2.symm⟩⟩
    refine Ev.step (f := fun k => if hasOn_p (q69 on i).f0 (q69 on i).f1 (on.take i)[j] = true then some false else q12.l1 k (i : Int) (((j + 1 : Nat)) : Int) fs l on ifs) (fun k => ?_) ?_
    · simp only [q12.l1]
      rw [if_pos (by omega), if_pos (by omega), if_pos (by omega), if_pos (by omega), if_pos (by omega), hrd, hsym, wrap_lt (n := (on.length : Int)) (by omega) (by omega) (by omega)]
      rfl
    · cases hq : hasOn_p (q69 on i).f0 (q69 on i).f1 (on.take i)[j] with
      | true => exact Ev.congr (fun k => if_pos rfl) (by simpa using Ev.now false)
      | false => exact Ev.congr (fun k => if_neg (by simp)) (by simpa using ih (j + 1) (by omega))
theorem ev_l0 (fs : List ByteArray) (l : List (S41)) (on : List (S101)) (ifs : List (S90)) (hf : fs.length ≤ 9223372036854775807) (hl : l.length ≤ 9223372036854775807) (hn : on.length ≤ 9223372036854775807) (hi2 : ifs.length ≤ 9223372036854775807) (d : Nat) : ∀ i : Nat, i + d = on.length → Ev (fun k => q12.l0 k (i : Int) fs l on ifs) ((List.range' i d).all (onOk l on) && ifs.all (fun c => ifB fs c.f0 c.f1 c.f2)) := by
  induction d with
  | zero =>
    intro i hi
    refine Ev.step (f := fun k => q12.l2 k ((0 : Nat) : Int) fs l on ifs) (fun k => ?_) ?_
    · simp only [q12.l0]
      rw [if_neg (by omega)]
      rfl
    · simpa using ev_l2 fs l on ifs hf hi2 ifs.length 0 (by omega)
  | succ d ih =>
    intro i hi
    have hlt : i < on.length := by omega
    rw [List.range'_succ, List.all_cons]
    have hok : onOk l on i = (onB l (q69 on i).f0 (q69 on i).f1 && !hasOn (on.take i) (q69 on i).f0 (q69 on i).f1) := rfl
    rw [hok]
    refine Ev.step (f := fun k => (q18.f k fs l (q69 on i).f0).bind fun t => (if t < 0 then (q12.j2 k (i : Int) true fs l on ifs) else (if 0 ≤ t then (if t < (l.length : Int) then ((q19.f k ((q74 l t).f1) ((q69 on i).f1)).bind fun t2 => (q12.j2 k (i : Int) (!t2) fs l on ifs)) else (none)) else (none)))) (fun k => ?_) ?_
    · simp only [q12.l0]
      rw [if_pos (by omega), if_pos (by omega)]
    · refine Ev.bind (ev_place fs l _ hl) ?_
      have hj2f : Ev (fun k => q12.j2 k (i : Int) true fs l on ifs) false := Ev.step (f := fun _ => some false) (fun k => by simp [q12.j2]) (Ev.now false)
      have hj2t : Ev (fun k => q12.j2 k (i : Int) false fs l on ifs) (!hasOn (on.take i) (q69 on i).f0 (q69 on i).f1 && ((List.range' (i + 1) d).all (onOk l on) && ifs.all (fun c => ifB fs c.f0 c.f1 c.f2))) := by
        refine Ev.step (f := fun k => q12.l1 k (i : Int) ((0 : Nat) : Int) fs l on ifs) (fun k => by simp [q12.j2]) ?_
        have := ev_l1 fs l on ifs hn i hlt _ (ih (i + 1) (by omega)) i 0 (by omega)
        simpa [hasOn] using this
      unfold onB
      by_cases hp : 0 ≤ q67 l (q69 on i).f0
      · rw [if_pos hp]
        refine Ev.congr (fun k => (if_neg (by omega)).trans ((if_pos hp).trans (if_pos (placeI_lt l _)))) ?_
        refine Ev.bind (Ev.at 3 (fun k hk => at_rounds (fun k => q19.mono _ _ k) hk (refLegal3 _ _))) ?_
        cases legalB (q74 l (q67 l (q69 on i).f0)).f1 (q69 on i).f1 with
        | true => simpa [Bool.and_assoc] using hj2t
        | false => simpa using hj2f
      · rw [if_neg hp]
        exact Ev.congr (fun k => if_pos (by omega)) (by simpa using hj2f)
theorem ev_sentry (fs : List ByteArray) (l : List (S41)) (on : List (S101)) (ifs : List (S90)) (hf : fs.length ≤ 9223372036854775807) (hl : l.length ≤ 9223372036854775807) (hn : on.length ≤ 9223372036854775807) (hi2 : ifs.length ≤ 9223372036854775807) : Ev (fun k => q12.f k fs l on ifs) (sentryB fs l on ifs) := by
 have hjf : Ev (fun k => q12.j0 k true fs l on ifs) false := Ev.step (f := fun _ => some false) (fun k => by simp [q12.j0]) (Ev.now false)
 unfold q12.f sentryB
 by_cases h3 : on.length > 3
 ·rw [decide_eq_false (by omega), Bool.false_and]
  exact Ev.congr (fun k => if_pos (by omega)) hjf
 by_cases h2 : ifs.length > 2
 ·rw [decide_eq_false (by omega), Bool.false_and]
  exact Ev.congr (fun k => (if_neg (by omega)).trans (if_pos (by omega))) hjf
 refine Ev.congr (fun k => (if_neg (by omega)).trans (if_neg (by omega))) ?_
 have hw : wrap64 ((on.length : Int) + (ifs.length : Int)) = (on.length : Int) + (ifs.length : Int) := by unfold wrap64; omega
 rw [hw]
 by_cases h0 : on.length + ifs.length = 0
 ·rw [decide_eq_false (by omega), Bool.false_and, show (((on.length : Int) + (ifs.length : Int)) == 0) = true by simp; omega]
  exact hjf
 ·rw [decide_eq_true (by omega), Bool.true_and, show (((on.length : Int) + (ifs.length : Int)) == 0) = false by
   have : (on.length : Int) + (ifs.length : Int) ≠ 0 := by omega
   simpa using this]
  refine Ev.step (f := fun k => q12.l0 k ((0 : Nat) : Int) fs l on ifs) (fun k => by simp [q12.j0]) ?_
  have := ev_l0 fs l on ifs hf hl hn hi2 on.length 0 (by omega)
  rw [List.range_eq_range']
  have he : ifsOk fs ifs = ifs.all (fun c => ifB fs c.f0 c.f1 c.f2) := by unfold ifsOk; rw [List.not_any_eq_all_not]; simp
  rw [he]
  exact this
theorem ev_sentries_at (fs : List ByteArray) (l : List (S41)) (ss : List (S45)) (hf : fs.length ≤ 9223372036854775807) (hl : l.length ≤ 9223372036854775807) (hs : ss.length ≤ 9223372036854775807) (hg : ∀ s ∈ ss, s.f0.length ≤ 9223372036854775807 ∧ s.f1.length ≤ 9223372036854775807) (d : Nat) : ∀ i : Nat, i + d = ss.length → Ev (fun k => q9.l0 k ss (i : Int) fs l) ((ss.drop i).all (fun s => sentryB fs l s.f0 s.f1) && decide (ss.length ≤ 3)) := by
  induction d with
  | zero =>
    intro i hi
    refine Ev.step (f := fun _ => some (decide ((ss.length : Int) ≤ 3))) (fun k => ?_) ?_
    · simp only [q9.l0]
      rw [if_neg (by omega)]
    · rw [List.drop_of_length_le (by omega), List.all_nil, Bool.true_and, show decide (ss.length ≤ 3) = decide ((ss.length : Int) ≤ 3) by rw [decide_eq_decide]; omega]
      exact Ev.now _
  | succ d ih =>
    intro i hi
    have hlt : i < ss.length := by omega
    have hrd : q75 ss (i : Int) = ss[i] := by simp [q75, List.getD_eq_getElem?_getD, List.getElem?_eq_getElem hlt]
    rw [List.drop_eq_getElem_cons hlt, List.all_cons]
    refine Ev.step (f := fun k => (q12.f k fs l (ss[i]).f0 (ss[i]).f1).bind fun t => (if t = true then (q9.l0 k ss (((i + 1 : Nat)) : Int) fs l) else (some false))) (fun k => ?_) ?_
    · simp only [q9.l0]
      rw [if_pos (by omega), if_pos (by omega), hrd, wrap_lt (n := (ss.length : Int)) (by omega) (by omega) (by omega)]
      rfl
    · have hgi := hg ss[i] (List.getElem_mem hlt)
      refine Ev.bind (ev_sentry fs l _ _ hf hl hgi.1 hgi.2) ?_
      cases sentryB fs l (ss[i]).f0 (ss[i]).f1 with
      | true => exact Ev.congr (fun k => if_pos rfl) (by simpa using ih (i + 1) (by omega))
      | false => exact Ev.congr (fun k => if_neg (by simp)) (by simpa using Ev.now false)
theorem ev_sentries (fs : List ByteArray) (l : List (S41)) (ss : List (S45)) (hf : fs.length ≤ 9223372036854775807) (hl : l.length ≤ 9223372036854775807) (hs : ss.length ≤ 9223372036854775807) (hg : ∀ s ∈ ss, s.f0.length ≤ 9223372036854775807 ∧ s.f1.length ≤ 9223372036854775807) : Ev (fun k => q9.f k fs l ss) (sentsB fs l ss) := by
 have := ev_sentries_at fs l ss hf hl hs hg ss.length 0 (by omega)
 have e : sentsB fs l ss = ((ss.drop 0).all (fun s => sentryB fs l s.f0 s.f1) && decide (ss.length ≤ 3)) := by
  unfold sentsB
  rw [List.not_any_eq_all_not, Bool.and_comm]
  simp
 rw [e]
 exact this
theorem ev_name (s : ByteArray) : Ev (fun k => q26.f k s) (nameB s) := Ev.at 15 (fun k hk => ref_name s k hk)
abbrev nmA (l : List (S41)) (i : Int) : ByteArray := (q74 l i).f0
abbrev kdA (l : List (S41)) (i : Int) : Int := (q74 l i).f1
abbrev paA (l : List (S41)) (i : Int) : ByteArray := (q74 l i).f2
def wnF (l : List (S41)) (id : ByteArray) : Nat → Int → Bool
 | 0, _ => false
 | d + 1, x => if x ≥ 0 then (if (nmA l x).toList = id.toList then true else wnF l id d (q67 l (paA l x))) else false
def dpF (l : List (S41)) : Nat → Int → Int → Int
 | 0, _, _ => -1
 | d + 1, x, c => if x > 0 then dpF l d (q67 l (paA l x)) (c + 1) else if x < 0 then -1 else c
theorem ev_within_at (fs : List ByteArray) (l : List (S41)) (id : ByteArray) (hn : l.length ≤ 9223372036854775806) (d : Nat) : ∀ (x : Int) (c : Nat), c + d = l.length + 1 → x < l.length → Ev (fun k => q14.l0 k x id (c : Int) fs l) (wnF l id d x) := by
  induction d with
  | zero =>
    intro x c hc hx
    unfold wnF
    by_cases h : x ≥ 0
    · refine Ev.step (f := fun k => q14.j1 k x id (c : Int) false fs l) (fun k => ?_) ?_
      · simp only [q14.l0]
        rw [if_pos h, decide_eq_false (by omega)]
      · exact Ev.step (f := fun _ => some false) (fun k => by simp [q14.j1]) (Ev.now false)
    · refine Ev.step (f := fun k => q14.j1 k x id (c : Int) false fs l) (fun k => ?_) ?_
      · simp only [q14.l0]
        rw [if_neg h]
      · exact Ev.step (f := fun _ => some false) (fun k => by simp [q14.j1]) (Ev.now false)
  | succ d ih =>
    intro x c hc hx
    unfold wnF
    by_cases h : x ≥ 0
    · rw [if_pos h]
      refine Ev.step (f := fun k => q14.j1 k x id (c : Int) true fs l) (fun k => ?_) ?_
      · simp only [q14.l0]
        rw [if_pos h, decide_eq_true (by omega)]
      · refine Ev.step (f := fun k => if (nmA l x).toList = id.toList then (some true) else ((q18.f k fs l (paA l x)).bind fun t => (q14.l0 k t id (((c + 1 : Nat)) : Int) fs l))) (fun k => ?_) ?_
        · simp only [q14.j1]
          rw [if_pos trivial, if_pos h, if_pos hx, show wrap64 ((c : Int) + 1) = ((c + 1 : Nat) : Int) by unfold wrap64; omega]
        · by_cases he : (nmA l x).toList = id.toList
          · rw [if_pos he]
            exact Ev.congr (fun k => if_pos he) (Ev.now true)
          · rw [if_neg he]
            exact Ev.congr (fun k => if_neg he) (Ev.bind (ev_place fs l _ (by omega)) (ih _ (c + 1) (by omega) (placeI_lt l _)))
    · rw [if_neg h]
      refine Ev.step (f := fun k => q14.j1 k x id (c : Int) false fs l) (fun k => ?_) ?_
      · simp only [q14.l0]
        rw [if_neg h]
      · exact Ev.step (f := fun _ => some false) (fun k => by simp [q14.j1]) (Ev.now false)
theorem ev_within (fs : List ByteArray) (l : List (S41)) (id : ByteArray) (hn : l.length ≤ 9223372036854775806) (x : Int) (hx : x < l.length) : Ev (fun k => q14.f k fs l x id) (wnF l id (l.length + 1) x) := ev_within_at fs l id hn (l.length + 1) x 0 (by omega) hx
theorem ev_depth_at (fs : List ByteArray) (l : List (S41)) (hn : l.length ≤ 9223372036854775806) (d : Nat) : ∀ (x : Int) (c : Nat), c + d = l.length + 1 → x < l.length → Ev (fun k => q17.l0 k x (c : Int) fs l) (dpF l d x c) := by
  induction d with
  | zero =>
    intro x c hc hx
    unfold dpF
    refine Ev.step (f := fun _ => some (-1)) (fun k => ?_) (Ev.now _)
    simp only [q17.l0]
    by_cases h : x > 0
    · rw [if_pos h, if_neg (by omega), if_neg (by omega), if_pos (by omega)]
    · rw [if_neg h]
      by_cases h2 : x < 0
      · rw [if_pos h2]
      · rw [if_neg h2, if_pos (by omega)]
  | succ d ih =>
    intro x c hc hx
    unfold dpF
    by_cases h : x > 0
    · rw [if_pos h]
      refine Ev.step (f := fun k => ((q18.f k fs l (paA l x)).bind fun t => (q17.l0 k t (((c + 1 : Nat)) : Int) fs l))) (fun k => ?_) ?_
      · simp only [q17.l0]
        rw [if_pos h, if_pos (by omega), if_pos (by omega), if_pos hx, show wrap64 ((c : Int) + 1) = ((c + 1 : Nat) : Int) by unfold wrap64; omega]
      · exact Ev.bind (ev_place fs l _ (by omega)) (ih _ (c + 1) (by omega) (placeI_lt l _))
    · rw [if_neg h]
      by_cases h2 : x < 0
      · rw [if_pos h2]
        refine Ev.step (f := fun _ => some (-1)) (fun k => ?_) (Ev.now _)
        simp only [q17.l0]
        rw [if_neg h, if_pos h2]
      · rw [if_neg h2]
        refine Ev.step (f := fun _ => some (c : Int)) (fun k => ?_) (Ev.now _)
        simp only [q17.l0]
        rw [if_neg h, if_neg h2, if_neg (by omega)]
theorem ev_depth (fs : List ByteArray) (l : List (S41)) (hn : l.length ≤ 9223372036854775806) (x : Int) (hx : x < l.length) : Ev (fun k => q17.f k fs l x) (dpF l (l.length + 1) x 0) := ev_depth_at fs l hn (l.length + 1) x 0 (by omega) hx
def rplace (l : List (S41)) (i : Nat) : Bool :=
 if i = 0 then planB (q74 l i).f1 (q74 l i).f2 (q74 l i).f3 (q74 l i).f5.length (q74 l i).f6.length
 else !decide ((paA l i).toList = []) && (decide (0 ≤ q67 l (paA l i) ∧ q67 l (paA l i) < i ∧ kdA l (q67 l (paA l i)) = 1) && (wnF l (paA l i) (l.length + 1) ((i : Int) - 1) && decide (1 ≤ dpF l (l.length + 1) i 0 ∧ dpF l (l.length + 1) i 0 ≤ 5)))
def rown (x : S41) : Bool := decide (1 ≤ x.f1 ∧ x.f1 ≤ 5) && ((if x.f1 = 5 then decide (1 ≤ x.f4 ∧ x.f4 ≤ 100) else decide (x.f4 = 0)) && !(decide (x.f1 ≥ 4) && (x.f3 || decide (0 < x.f5.length))))
def ritem (l : List (S41)) (i : Nat) : Bool :=
 nameB (nmA l i) && (decide (q67 l (nmA l i) = i) && (rown (q74 l i) && rplace l i))
theorem ev_j2f (fs : List ByteArray) (l : List (S41)) (i : Int) (a0 : ByteArray) (a1 : Int) (a2 : ByteArray) (a3 : Bool) (a4 : Int) (l5 l6 : List (S45)) : Ev (fun k => q22.j2 k i true fs l a0 a1 a2 a3 a4 l5 l6) false := Ev.step (f := fun _ => some false) (fun k => by simp [q22.j2]) (Ev.now false)
theorem ev_j2 (fs : List ByteArray) (l : List (S41)) (hn : l.length ≤ 9223372036854775806) (i : Nat) (hi : i < l.length) (x : S41) (hx : x = q74 l i) : Ev (fun k => q22.j2 k i false fs l x.f0 x.f1 x.f2 x.f3 x.f4 x.f5 x.f6) (rplace l i) := by
  unfold rplace
  rw [← hx]
  show Ev _ (if i = 0 then planB x.f1 x.f2 x.f3 x.f5.length x.f6.length else !decide ((paA l i).toList = []) && (decide (0 ≤ q67 l (paA l i) ∧ q67 l (paA l i) < i ∧ kdA l (q67 l (paA l i)) = 1) && (wnF l (paA l i) (l.length + 1) ((i : Int) - 1) && decide (1 ≤ dpF l (l.length + 1) i 0 ∧ dpF l (l.length + 1) i 0 ≤ 5))))
  have hpa : paA l i = x.f2 := by rw [hx]
  rw [hpa]
  by_cases h0 : i = 0
  · rw [if_pos h0]
    unfold planB
    refine Ev.step (f := fun _ => some (decide (x.f1 = 1) && (decide (x.f2.toList = []) && (!x.f3 && decide (x.f5.length + x.f6.length = 0))))) (fun k => ?_) (Ev.now _)
    simp only [q22.j2]
    rw [if_neg (by simp), if_pos (by omega)]
    by_cases h1 : x.f1 = 1
    · by_cases h2 : x.f2.toList = []
      · cases h3 : x.f3 with
        | true => simp [h1, h2]
        | false =>
          by_cases h5 : x.f5.length = 0
          · by_cases h6 : x.f6.length = 0 <;> simp [h1, h2, h5, h6] <;> omega
          · have : ¬ ((x.f5.length : Int) = 0) := by omega
            simp [h1, h2, h5, this]
            
      · simp [h1, h2]
    · simp [h1]
  · rw [if_neg h0]
    refine Ev.step (f := fun k => ((q18.f k fs l x.f2).bind fun t180 => (if x.f2.toList = ([] : List UInt8) then (some false) else (if t180 ≥ 0 then (if t180 < (i : Int) then (if 0 ≤ t180 then (if t180 < (l.length : Int) then (if ((q74 l t180).f1) = 1 then ((q14.f k fs l ((i : Int) - 1) x.f2).bind fun t182 => (if t182 = true then ((q17.f k fs l i).bind fun t183 => (if t183 ≥ 1 then ((q17.f k fs l i).bind fun t184 => (some (decide (t184 ≤ 5)))) else (some false))) else (some false))) else (some false)) else (none)) else (none)) else (some false)) else (some false))))) (fun k => ?_) ?_
    · simp only [q22.j2]
      rw [if_neg (by simp), if_neg (by omega), show wrap64 ((i : Int) - 1) = (i : Int) - 1 by unfold wrap64; omega]
    · refine Ev.bind (ev_place fs l _ (by omega)) ?_
      by_cases h1 : x.f2.toList = []
      · rw [decide_eq_true h1, Bool.not_true, Bool.false_and]
        exact Ev.congr (fun k => if_pos h1) (Ev.now false)
      rw [decide_eq_false h1, Bool.not_false, Bool.true_and]
      refine Ev.congr (fun k => if_neg h1) ?_
      by_cases h2 : 0 ≤ q67 l x.f2
      case neg =>
        rw [decide_eq_false (fun h => h2 h.1), Bool.false_and]
        exact Ev.congr (fun k => if_neg h2) (Ev.now false)
      refine Ev.congr (fun k => if_pos h2) ?_
      by_cases h3 : q67 l x.f2 < (i : Int)
      case neg =>
        rw [decide_eq_false (fun h => h3 h.2.1), Bool.false_and]
        exact Ev.congr (fun k => if_neg h3) (Ev.now false)
      refine Ev.congr (fun k => (if_pos h3).trans ((if_pos h2).trans (if_pos (placeI_lt l _)))) ?_
      by_cases h4 : kdA l (q67 l x.f2) = 1
      case neg =>
        rw [decide_eq_false (fun h => h4 h.2.2), Bool.false_and]
        exact Ev.congr (fun k => if_neg h4) (Ev.now false)
      rw [decide_eq_true ⟨h2, h3, h4⟩, Bool.true_and]
      refine Ev.congr (fun k => if_pos h4) ?_
      refine Ev.bind (ev_within fs l x.f2 hn _ (by omega)) ?_
      cases wnF l x.f2 (l.length + 1) ((i : Int) - 1) with
      | false => exact Ev.congr (fun k => if_neg (by simp)) (by simpa using Ev.now false)
      | true =>
        rw [Bool.true_and]
        refine Ev.congr (fun k => if_pos rfl) ?_
        refine Ev.bind (ev_depth fs l hn _ (by omega)) ?_
        by_cases h5 : dpF l (l.length + 1) i 0 ≥ 1
        case neg =>
          rw [decide_eq_false (fun h => h5 h.1)]
          exact Ev.congr (fun k => if_neg h5) (Ev.now false)
        refine Ev.congr (fun k => if_pos h5) ?_
        refine Ev.bind (ev_depth fs l hn _ (by omega)) ?_
        rw [show decide (1 ≤ dpF l (l.length + 1) i 0 ∧ dpF l (l.length + 1) i 0 ≤ 5) = decide (dpF l (l.length + 1) i 0 ≤ 5) by rw [decide_eq_decide]; exact ⟨fun h => h.2, fun h => ⟨h5, h⟩⟩]
        exact Ev.now _
theorem ev_item (fs : List ByteArray) (l : List (S41)) (hn : l.length ≤ 9223372036854775806) (i : Nat) (hi : i < l.length) : Ev (fun k => q22.f k fs l i) (ritem l i) := by
  obtain ⟨x, hx⟩ : ∃ x, x = q74 l i := ⟨_, rfl⟩
  unfold q22.f ritem nmA
  rw [← hx]
  refine Ev.congr (fun k => (if_pos (by omega)).trans (if_pos (by omega))) ?_
  refine Ev.bind (ev_name _) ?_
  have hj0f : Ev (fun k => q22.j0 k i true fs l x.f0 x.f1 x.f2 x.f3 x.f4 x.f5 x.f6) false := Ev.step (f := fun _ => some false) (fun k => by simp [q22.j0]) (Ev.now false)
  cases nameB x.f0 with
  | false => exact Ev.congr (fun k => if_neg (by simp)) (by simpa using hj0f)
  | true =>
    rw [Bool.true_and]
    refine Ev.congr (fun k => if_pos rfl) (Ev.bind (ev_place fs l _ (by omega)) ?_)
    by_cases h1 : q67 l x.f0 = (i : Int)
    case neg =>
      rw [decide_eq_false h1, Bool.false_and]
      exact Ev.congr (fun k => if_neg h1) hj0f
    rw [decide_eq_true h1, Bool.true_and]
    refine Ev.congr (fun k => if_pos h1) ?_
    unfold rown
    by_cases h2 : x.f1 < 1
    · rw [decide_eq_false (p := 1 ≤ x.f1 ∧ x.f1 ≤ 5) (by omega), Bool.false_and, Bool.false_and]
      exact Ev.congr (fun k => if_pos h2) hj0f
    refine Ev.congr (fun k => if_neg h2) ?_
    by_cases h3 : x.f1 > 5
    · rw [decide_eq_false (p := 1 ≤ x.f1 ∧ x.f1 ≤ 5) (by omega), Bool.false_and, Bool.false_and, decide_eq_true (p := x.f1 > 5) h3]
      exact hj0f
    rw [decide_eq_true (p := 1 ≤ x.f1 ∧ x.f1 ≤ 5) (by omega), Bool.true_and, decide_eq_false (p := x.f1 > 5) h3]
    obtain ⟨T, hT⟩ : ∃ T, T = (if x.f1 = 5 then decide (1 ≤ x.f4 ∧ x.f4 ≤ 100) else decide (x.f4 = 0)) := ⟨_, rfl⟩
    rw [← hT]
    refine Ev.step (f := fun k => q22.j1 k i T fs l x.f0 x.f1 x.f2 x.f3 x.f4 x.f5 x.f6) (fun k => ?_) ?_
    · simp only [q22.j0, Bool.false_eq_true, if_false]
      rw [hT]
      by_cases h5 : x.f1 = 5
      · rw [if_pos h5, if_pos h5]
        by_cases ha : x.f4 ≥ 1
        · rw [if_pos ha, show decide (1 ≤ x.f4 ∧ x.f4 ≤ 100) = decide (x.f4 ≤ 100) by rw [decide_eq_decide]; omega]
        · rw [if_neg ha, decide_eq_false (by omega)]
      · rw [if_neg h5, if_neg h5]
        rfl
    · have hj2 := ev_j2 fs l hn i hi x hx
      have hj2f := ev_j2f fs l i x.f0 x.f1 x.f2 x.f3 x.f4 x.f5 x.f6
      cases T with
      | false => exact Ev.step (f := fun k => q22.j2 k i true fs l x.f0 x.f1 x.f2 x.f3 x.f4 x.f5 x.f6) (fun k => by simp [q22.j1]) (by simpa using hj2f)
      | true =>
        by_cases h4 : x.f1 ≥ 4
        · rw [decide_eq_true (p := x.f1 ≥ 4) h4, Bool.true_and]
          cases h6 : x.f3 with
          | true =>
            refine Ev.step (f := fun k => q22.j2 k i true fs l x.f0 x.f1 x.f2 true x.f4 x.f5 x.f6) (fun k => by simp [q22.j1, h4]) ?_
            rw [h6] at hj2f
            simpa using hj2f
          | false =>
            rw [h6] at hj2 hj2f
            by_cases h7 : 0 < x.f5.length
            · refine Ev.step (f := fun k => q22.j2 k i true fs l x.f0 x.f1 x.f2 false x.f4 x.f5 x.f6) (fun k => ?_) ?_
              · simp only [q22.j1]
                rw [if_pos trivial, if_pos h4, if_neg (by simp), decide_eq_true (by omega)]
              · rw [decide_eq_true h7]; simpa using hj2f
            · refine Ev.step (f := fun k => q22.j2 k i false fs l x.f0 x.f1 x.f2 false x.f4 x.f5 x.f6) (fun k => ?_) ?_
              · simp only [q22.j1]
                rw [if_pos trivial, if_pos h4, if_neg (by simp), decide_eq_false (by omega)]
              · rw [decide_eq_false h7]; simpa using hj2
        · rw [decide_eq_false (p := x.f1 ≥ 4) h4, Bool.false_and]
          refine Ev.step (f := fun k => q22.j2 k i false fs l x.f0 x.f1 x.f2 x.f3 x.f4 x.f5 x.f6) (fun k => ?_) (by simpa using hj2)
          simp only [q22.j1]
          rw [if_pos trivial, if_neg h4]
def risB (fs : List ByteArray) (l : List (S41)) : Bool :=
 decide (fs.length ≤ 6 ∧ 1 ≤ l.length ∧ l.length ≤ 16) && (namesB fs && ((List.range l.length).all (ritem l) && l.all (fun x => sentsB fs l x.f5 && sentsB fs l x.f6)))
def Fits (fs : List ByteArray) (l : List (S41)) : Prop := fs.length ≤ 9223372036854775806 ∧ l.length ≤ 9223372036854775806 ∧ ∀ x ∈ l, (x.f5.length ≤ 9223372036854775806 ∧ ∀ s ∈ x.f5, s.f0.length ≤ 9223372036854775806 ∧ s.f1.length ≤ 9223372036854775806) ∧ (x.f6.length ≤ 9223372036854775806 ∧ ∀ s ∈ x.f6, s.f0.length ≤ 9223372036854775806 ∧ s.f1.length ≤ 9223372036854775806)
theorem ev_is2 (fs : List ByteArray) (l : List (S41)) (hF : Fits fs l) (d : Nat) : ∀ i : Nat, i + d = l.length → Ev (fun k => q25.l2 k (i : Int) fs l) ((l.drop i).all (fun x => sentsB fs l x.f5 && sentsB fs l x.f6)) := by
  obtain ⟨h1, h2, h3⟩ := hF
  induction d with
  | zero =>
    intro i hi
    refine Ev.step (f := fun _ => some true) (fun k => ?_) ?_
    · simp only [q25.l2]
      rw [if_neg (by omega)]
    · rw [List.drop_of_length_le (by omega)]
      exact Ev.now true
  | succ d ih =>
    intro i hi
    have hlt : i < l.length := by omega
    have hrd : q74 l (i : Int) = l[i] := by simp [q74, List.getD_eq_getElem?_getD, List.getElem?_eq_getElem hlt]
    rw [List.drop_eq_getElem_cons hlt, List.all_cons]
    obtain ⟨⟨a5, b5⟩, a6, b6⟩ := h3 l[i] (List.getElem_mem hlt)
    refine Ev.step (f := fun k => ((q9.f k fs l (l[i].f5)).bind fun t213 => (if t213 = true then ((q9.f k fs l (l[i].f6)).bind fun t215 => (if t215 = true then (q25.l2 k (((i + 1 : Nat)) : Int) fs l) else (some false))) else (some false)))) (fun k => ?_) ?_
    · simp only [q25.l2]
      rw [if_pos (by omega), if_pos (by omega), hrd, wrap_lt (n := (l.length : Int)) (by omega) (by omega) (by omega)]
      rfl
    · refine Ev.bind (ev_sentries fs l _ (by omega) (by omega) (by omega) (fun s hs => ⟨by have := (b5 s hs).1; omega, by have := (b5 s hs).2; omega⟩)) ?_
      cases sentsB fs l l[i].f5 with
      | false => exact Ev.congr (fun k => if_neg (by simp)) (by simpa using Ev.now false)
      | true =>
        rw [Bool.true_and]
        refine Ev.congr (fun k => if_pos rfl) ?_
        refine Ev.bind (ev_sentries fs l _ (by omega) (by omega) (by omega) (fun s hs => ⟨by have := (b6 s hs).1; omega, by have := (b6 s hs).2; omega⟩)) ?_
        cases sentsB fs l l[i].f6 with
        | false => exact Ev.congr (fun k => if_neg (by simp)) (by simpa using Ev.now false)
        | true => exact Ev.congr (fun k => if_pos rfl) (by simpa using ih (i + 1) (by omega))
theorem ev_is1 (fs : List ByteArray) (l : List (S41)) (hF : Fits fs l) (d : Nat) : ∀ i : Nat, i + d = l.length → Ev (fun k => q25.l1 k (i : Int) fs l) ((List.range' i d).all (ritem l) && l.all (fun x => sentsB fs l x.f5 && sentsB fs l x.f6)) := by
  have h2 := hF.2.1
  induction d with
  | zero =>
    intro i hi
    refine Ev.step (f := fun k => q25.l2 k ((0 : Nat) : Int) fs l) (fun k => ?_) ?_
    · simp only [q25.l1]
      rw [if_neg (by omega)]
      rfl
    · simpa using ev_is2 fs l hF l.length 0 (by omega)
  | succ d ih =>
    intro i hi
    have hlt : i < l.length := by omega
    rw [List.range'_succ, List.all_cons]
    refine Ev.step (f := fun k => ((q22.f k fs l i).bind fun t211 => (if t211 = true then (q25.l1 k (((i + 1 : Nat)) : Int) fs l) else (some false)))) (fun k => ?_) ?_
    · simp only [q25.l1]
      rw [if_pos (by omega), wrap_lt (n := (l.length : Int)) (by omega) (by omega) (by omega)]
      rfl
    · refine Ev.bind (ev_item fs l h2 i hlt) ?_
      cases ritem l i with
      | false => exact Ev.congr (fun k => if_neg (by simp)) (by simpa using Ev.now false)
      | true => exact Ev.congr (fun k => if_pos rfl) (by simpa using ih (i + 1) (by omega))
theorem ev_is0 (fs : List ByteArray) (l : List (S41)) (hF : Fits fs l) (d : Nat) : ∀ i : Nat, i + d = fs.length → Ev (fun k => q25.l0 k (i : Int) fs l) ((List.range' i d).all (nameOk fs) && ((List.range l.length).all (ritem l) && l.all (fun x => sentsB fs l x.f5 && sentsB fs l x.f6))) := by
  have h1 := hF.1
  induction d with
  | zero =>
    intro i hi
    refine Ev.step (f := fun k => q25.l1 k ((0 : Nat) : Int) fs l) (fun k => ?_) ?_
    · simp only [q25.l0]
      rw [if_neg (by omega)]
      rfl
    · have := ev_is1 fs l hF l.length 0 (by omega)
      rw [List.range_eq_range']
      simpa using this
  | succ d ih =>
    intro i hi
    have hlt : i < fs.length := by omega
    rw [List.range'_succ, List.all_cons]
    refine Ev.step (f := fun k => ((q26.f k (rdOf ByteArray.empty fs i)).bind fun t207 => (if t207 = true then ((q20.f k (fs.take i) (rdOf ByteArray.empty fs i)).bind fun t210 => (if t210 = true then (some false) else (q25.l0 k (((i + 1 : Nat)) : Int) fs l))) else (some false)))) (fun k => ?_) ?_
    · simp only [q25.l0]
      rw [if_pos (by omega), if_pos (by omega), if_pos (by omega), wrap_lt (n := (fs.length : Int)) (by omega) (by omega) (by omega)]
      rfl
    · refine Ev.bind (ev_name _) ?_
      have hok : nameOk fs i = (nameB (rdOf ByteArray.empty fs i) && !memB (fs.take i) (rdOf ByteArray.empty fs i)) := rfl
      rw [hok]
      cases nameB (rdOf ByteArray.empty fs i) with
      | false => exact Ev.congr (fun k => if_neg (by simp)) (by simpa using Ev.now false)
      | true =>
        rw [Bool.true_and]
        refine Ev.congr (fun k => if_pos rfl) ?_
        refine Ev.bind (Ev.at ((fs.take i).length + 1) (fun k hk => ref_file _ _ (by rw [List.length_take]; omega) k (by omega))) ?_
        cases memB (fs.take i) (rdOf ByteArray.empty fs i) with
        | true => exact Ev.congr (fun k => if_pos rfl) (by simpa using Ev.now false)
        | false => exact Ev.congr (fun k => if_neg (by simp)) (by simpa using ih (i + 1) (by omega))
theorem ev_ris (fs : List ByteArray) (l : List (S41)) (hF : Fits fs l) : Ev (fun k => q25.f k fs l) (risB fs l) := by
 unfold q25.f risB
 have hjf : Ev (fun k => q25.j0 k true fs l) false := Ev.step (f := fun _ => some false) (fun k => by simp [q25.j0]) (Ev.now false)
 by_cases h1 : fs.length > 6
 ·rw [decide_eq_false (p := fs.length ≤ 6 ∧ 1 ≤ l.length ∧ l.length ≤ 16) (by omega), Bool.false_and]
  exact Ev.congr (fun k => if_pos (by omega)) hjf
 refine Ev.congr (fun k => if_neg (by omega)) ?_
 by_cases h2 : l.length < 1
 ·rw [decide_eq_false (p := fs.length ≤ 6 ∧ 1 ≤ l.length ∧ l.length ≤ 16) (by omega), Bool.false_and]
  exact Ev.congr (fun k => if_pos (by omega)) hjf
 refine Ev.congr (fun k => if_neg (by omega)) ?_
 by_cases h3 : l.length > 16
 ·rw [decide_eq_false (p := fs.length ≤ 6 ∧ 1 ≤ l.length ∧ l.length ≤ 16) (by omega), Bool.false_and, decide_eq_true (p := (l.length : Int) > 16) (by omega)]
  exact hjf
 rw [decide_eq_true (p := fs.length ≤ 6 ∧ 1 ≤ l.length ∧ l.length ≤ 16) (by omega), Bool.true_and, decide_eq_false (p := (l.length : Int) > 16) (by omega)]
 refine Ev.step (f := fun k => q25.l0 k ((0 : Nat) : Int) fs l) (fun k => by simp [q25.j0]) ?_
 have := ev_is0 fs l hF fs.length 0 (by omega)
 unfold namesB
 rw [List.range_eq_range' (n := fs.length)]
 exact this
theorem rd_in (l : List (S41)) (i : Nat) (h : i < l.length) : q74 l (i : Int) = l[i] := by simp [q74, List.getD_eq_getElem?_getD, List.getElem?_eq_getElem h]
theorem rd_getD (l : List (S41)) (i : Nat) : q74 l (i : Int) = l.getD i z41 := rfl
theorem placeI_congr (l : List (S41)) (a b : ByteArray) (h : a.toList = b.toList) : q67 l a = q67 l b := by
 unfold q67
 have : q32.p a = q32.p b := by funext x; unfold q32.p; rw [h]
 rw [this]
theorem placeI_self (l : List (S41)) (i : Nat) (hi : i < l.length) : decide (q67 l (nmA l i) = i) = !memB ((l.map (·.f0)).take i) (rdOf ByteArray.empty (l.map (·.f0)) (i : Int)) := by
  have hr : rdOf ByteArray.empty (l.map (·.f0)) (i : Int) = nmA l i := by
    rw [rdOf_get _ _ _ (by simpa using hi)]
    unfold nmA
    rw [rd_in l i hi]; simp
  rw [hr]
  cases hm : memB ((l.map (·.f0)).take i) (nmA l i) with
  | false =>
    have : q67 l (nmA l i) = i := by
      unfold q67
      refine fidx_hit _ l i z41 hi ?_ (fun j hj => ?_)
      · rw [← rd_getD]; unfold q32.p; simp
      · unfold memB at hm
        rw [List.any_eq_false] at hm
        have hjl : j < l.length := by omega
        have hmem : l[j].f0 ∈ (l.map (·.f0)).take i := by
          rw [List.mem_take_iff_getElem]
          exact ⟨j, by rw [List.length_map]; omega, by simp⟩
        have := hm _ hmem
        rw [← rd_getD, rd_in l j hjl]
        unfold q32.p
        have hne : (nmA l i).toList ≠ l[j].f0.toList := by simpa using this
        simpa using Ne.symm hne
    rw [this]; simp
  | true =>
    unfold memB at hm
    obtain ⟨x, hx, he⟩ := List.any_eq_true.1 hm
    obtain ⟨j, hj, hjx⟩ := List.mem_take_iff_getElem.1 hx
    rw [List.length_map] at hj
    have hjl : j < l.length := by omega
    have : q67 l (nmA l i) ≠ i := by
      intro h
      unfold q67 fidx at h
      cases e : l.findIdx? (q32.p (nmA l i)) with
      | none => rw [e] at h; simp only at h; omega
      | some q =>
        rw [e] at h
        simp only at h
        obtain ⟨_, _, hno⟩ := List.findIdx?_eq_some_iff_getElem.1 e
        have := hno j (by omega)
        apply this
        unfold q32.p
        have hx2 : x = l[j].f0 := by rw [← hjx]; simp
        have he2 : (nmA l i).toList = x.toList := by simpa using he
        rw [hx2] at he2
        simp [he2]
    simp [this]
inductive Pth (l : List (S41)) : Nat → List ByteArray → Prop
 | root : Pth l 0 [nmA l 0]
 | kid (p i : Nat) (st : List ByteArray) : Pth l p st → q67 l (paA l i) = p → p < i → Pth l i (st ++ [nmA l i])
theorem Pth.len {l : List (S41)} {i : Nat} {st : List ByteArray} (h : Pth l i st) : st.length ≤ i + 1 ∧ 0 < st.length := by
 induction h with
 | root => simp
 | kid p i st hp e hlt ih => simp only [List.length_append, List.length_singleton]; omega
theorem Pth.head {l : List (S41)} {i : Nat} {st : List ByteArray} (h : Pth l i st) : ∀ m, 0 < m → m ≤ st.length → ∃ q, q ≤ i ∧ Pth l q (st.take m) ∧ st[m-1]? = some (nmA l q) := by
  induction h with
  | root =>
    intro m h0 hm
    simp only [List.length_singleton] at hm
    obtain rfl : m = 1 := by omega
    exact ⟨0, Nat.le_refl _, Pth.root, rfl⟩
  | kid p i st hp e hlt ih =>
    intro m h0 hm
    simp only [List.length_append, List.length_singleton] at hm
    by_cases hq : m ≤ st.length
    · obtain ⟨q, hq1, hq2, hq3⟩ := ih m h0 hq
      refine ⟨q, by omega, ?_, ?_⟩
      · rw [List.take_append_of_le_length hq]; exact hq2
      · rw [List.getElem?_append_left (by omega)]; exact hq3
    · obtain rfl : m = st.length + 1 := by omega
      refine ⟨i, Nat.le_refl _, ?_, ?_⟩
      · rw [List.take_of_length_le (by simp)]
        exact Pth.kid p i st hp e hlt
      · simp
theorem Pth.wn {l : List (S41)} (h0 : q67 l (paA l 0) = -1) (id : ByteArray) {i : Nat} {st : List ByteArray} (h : Pth l i st) : ∀ d, st.length ≤ d → wnF l id d i = st.any (idxP id) := by
  induction h with
  | root =>
    intro d hd
    simp only [List.length_singleton] at hd
    obtain ⟨d, rfl⟩ : ∃ m, d = m + 1 := ⟨d - 1, by omega⟩
    unfold wnF
    rw [if_pos (by omega)]
    by_cases he : (nmA l 0).toList = id.toList
    · rw [if_pos (by exact he)]
      simp [idxP, he]
    · rw [if_neg (by exact he), show ((0 : Nat) : Int) = 0 from rfl, h0]
      have : wnF l id d (-1) = false := by cases d <;> simp [wnF]
      rw [this]
      simp [idxP, Ne.symm he]
  | kid p i st hp e hlt ih =>
    intro d hd
    simp only [List.length_append, List.length_singleton] at hd
    obtain ⟨d, rfl⟩ : ∃ m, d = m + 1 := ⟨d - 1, by omega⟩
    unfold wnF
    rw [if_pos (by omega), List.any_append]
    by_cases he : (nmA l i).toList = id.toList
    · rw [if_pos (by exact he)]
      simp [idxP, he]
    · rw [if_neg (by exact he), e, ih d (by omega)]
      simp [idxP, Ne.symm he]
theorem Pth.dp {l : List (S41)} {i : Nat} {st : List ByteArray} (h : Pth l i st) : ∀ d (c : Int), st.length ≤ d → dpF l d i c = c + st.length - 1 := by
  induction h with
  | root =>
    intro d c hd
    simp only [List.length_singleton] at hd
    obtain ⟨d, rfl⟩ : ∃ m, d = m + 1 := ⟨d - 1, by omega⟩
    simp [dpF]
  | kid p i st hp e hlt ih =>
    intro d c hd
    simp only [List.length_append, List.length_singleton] at hd ⊢
    obtain ⟨d, rfl⟩ : ∃ m, d = m + 1 := ⟨d - 1, by omega⟩
    unfold dpF
    rw [if_pos (by omega), e, ih d _ (by omega)]
    omega
theorem stk_places (l : List (S41)) (hD : ∀ i : Nat, i < l.length → q67 l (nmA l i) = i ∧ (nmA l i).toList ≠ []) (h0 : (paA l 0).toList = []) : ∀ i : Nat, i < l.length → (match stk l (i + 1) with | some st => Pth l i st ∧ ∀ q, q ≤ i → 0 < q → rplace l q = true | none => ∃ q, q ≤ i ∧ 0 < q ∧ rplace l q = false) := by
  have hroot : q67 l (paA l 0) = -1 := by
    unfold q67
    refine fidx_miss _ l z41 (fun j hj => ?_)
    rw [← rd_getD]
    unfold q32.p
    have := (hD j hj).2
    rw [h0]
    simpa using this
  intro i
  induction i with
  | zero =>
    intro hi
    have : stk l (0 + 1) = some [nmA l 0] := by simp [stk, stkStep]
    rw [this]
    exact ⟨Pth.root, fun q h1 h2 => by omega⟩
  | succ i ih =>
    intro hi
    have hi' := ih (by omega)
    have hstk : stk l (i + 1 + 1) = (stk l (i + 1)).bind (stkStep l (i + 1)) := rfl
    rw [hstk]
    cases hs : stk l (i + 1) with
    | none =>
      rw [hs] at hi'
      obtain ⟨q, h1, h2, h3⟩ := hi'
      exact ⟨q, by omega, h2, h3⟩
    | some st =>
      rw [hs] at hi'
      obtain ⟨hp, hall⟩ := hi'
      rw [Option.bind_some]
      obtain ⟨a, ha⟩ : ∃ a, a = paA l ((i + 1 : Nat) : Int) := ⟨_, rfl⟩
      have hlen := hp.len
      have hwn : wnF l a (l.length + 1) ((i + 1 : Nat) - 1) = st.any (idxP a) := by
        have := hp.wn hroot a (l.length + 1) (by omega)
        rw [show (((i + 1 : Nat) : Int) - 1) = (i : Int) by omega]
        exact this
      have hrp : rplace l (i + 1) = (!decide (a.toList = []) && (decide (0 ≤ q67 l a ∧ q67 l a < ((i + 1 : Nat) : Int) ∧ kdA l (q67 l a) = 1) && (wnF l a (l.length + 1) (((i + 1 : Nat) : Int) - 1) && decide (1 ≤ dpF l (l.length + 1) ((i + 1 : Nat) : Int) 0 ∧ dpF l (l.length + 1) ((i + 1 : Nat) : Int) 0 ≤ 5)))) := by
        unfold rplace
        rw [if_neg (by omega), ha]
      rw [hwn] at hrp
      have hst : stkStep l (i + 1) st = if (st.take (fidx (idxP a) st + 1).toNat).length = 0 ∨ 5 < (st.take (fidx (idxP a) st + 1).toNat).length ∨ kdA l (q67 l a) ≠ 1 then none else some (st.take (fidx (idxP a) st + 1).toNat ++ [nmA l ((i + 1 : Nat) : Int)]) := by
        unfold stkStep
        rw [if_neg (by omega), ha]
      rw [hst]
      have hfl := fidx_lt (idxP a) st
      have hfa := fidx_any (idxP a) st
      by_cases hin : st.any (idxP a) = true
      case neg =>
        have hin2 : st.any (idxP a) = false := by simpa using hin
        have hneg : fidx (idxP a) st = -1 := fidx_neg _ _ (by rw [hin2] at hfa; have := of_decide_eq_false hfa; omega)
        rw [hneg, if_pos (Or.inl (by simp))]
        refine ⟨i + 1, Nat.le_refl _, by omega, ?_⟩
        rw [hrp, hin2]; simp
      rw [hin] at hrp hfa
      have hge : fidx (idxP a) st ≥ 0 := of_decide_eq_true hfa
      obtain ⟨m, hm⟩ : ∃ m : Nat, fidx (idxP a) st = m := ⟨(fidx (idxP a) st).toNat, by omega⟩
      rw [hm] at hfl ⊢
      rw [show ((m : Int) + 1).toNat = m + 1 by omega]
      obtain ⟨q, hq1, hq2, hq3⟩ := hp.head (m + 1) (by omega) (by omega)
      have hna : (nmA l q).toList = a.toList := by
        unfold fidx at hm
        cases e : st.findIdx? (idxP a) with
        | none => rw [e] at hm; simp only at hm; omega
        | some j =>
          rw [e] at hm
          simp only at hm
          obtain rfl : j = m := by omega
          obtain ⟨hj, hpj, _⟩ := List.findIdx?_eq_some_iff_getElem.1 e
          have : st[j] = nmA l q := by
            have h := hq3
            rw [show j + 1 - 1 = j by omega, List.getElem?_eq_getElem hj] at h
            exact Option.some.inj h
          unfold idxP at hpj
          rw [this] at hpj
          exact (by simpa using hpj : a.toList = (nmA l q).toList).symm
      have hpq : q67 l a = q := by rw [← placeI_congr l _ _ hna]; exact (hD q (by omega)).1
      have hne : ¬ a.toList = [] := by rw [← hna]; exact (hD q (by omega)).2
      have hpi : q67 l (paA l ((i + 1 : Nat) : Int)) = q := by rw [← ha]; exact hpq
      have hk := Pth.kid q (i + 1) _ hq2 hpi (by omega)
      have htl : (st.take (m + 1)).length = m + 1 := by rw [List.length_take]; omega
      have hd := hk.dp (l.length + 1) 0 (by rw [List.length_append, htl, List.length_singleton]; omega)
      rw [List.length_append, htl, List.length_singleton] at hd
      rw [hd, decide_eq_false hne, hpq] at hrp
      rw [htl, hpq]
      by_cases hc : (m + 1 = 0 ∨ 5 < m + 1 ∨ kdA l q ≠ 1)
      · rw [if_pos hc]
        refine ⟨i + 1, Nat.le_refl _, by omega, ?_⟩
        rw [hrp]
        rcases hc with hc | hc | hc
        · omega
        · rw [decide_eq_false (p := (1 ≤ (0 : Int) + ((m + 1 + 1 : Nat) : Int) - 1 ∧ _)) (by omega)]; simp
        · simp [hc]
      · rw [if_neg hc]
        have hk1 : kdA l q = 1 := by
          by_cases h : kdA l q = 1
          · exact h
          · exact absurd (Or.inr (Or.inr h)) hc
        refine ⟨hk, fun r hr h0 => ?_⟩
        by_cases e : r = i + 1
        · rw [e, hrp, decide_eq_true (p := 0 ≤ (q : Int) ∧ _) ⟨by omega, by omega, hk1⟩, decide_eq_true (p := (1 ≤ (0 : Int) + ((m + 1 + 1 : Nat) : Int) - 1 ∧ _)) (by omega)]
          rfl
        · exact hall r (by omega) h0
theorem stands_places (l : List (S41)) (hn : 0 < l.length) (hD : ∀ i : Nat, i < l.length → q67 l (nmA l i) = i ∧ (nmA l i).toList ≠ []) (h0 : (paA l 0).toList = []) : standsB l = true ↔ ∀ q, q < l.length → 0 < q → rplace l q = true := by
  have h := stk_places l hD h0 (l.length - 1) (by omega)
  rw [show l.length - 1 + 1 = l.length by omega] at h
  unfold standsB
  cases hs : stk l l.length with
  | none =>
    rw [hs] at h
    obtain ⟨q, h1, h2, h3⟩ := h
    constructor
    · intro h; simp at h
    · intro h
      rw [h q (by omega) h2] at h3
      simp at h3
  | some st =>
    rw [hs] at h
    constructor
    · intro _ q hq h0; exact h.2 q (by omega) h0
    · intro _; rfl
theorem nameB_ne (s : ByteArray) (h : nameB s = true) : s.toList ≠ [] := by
 unfold nameB at h
 simp only [Bool.and_eq_true, decide_eq_true_eq] at h
 intro he
 have := empty_size s
 rw [he] at this
 have h2 := of_decide_eq_true (this.symm.trans rfl)
 omega
theorem names_at (l : List (S41)) (i : Nat) (hi : i < l.length) : nameOk (l.map (·.f0)) i = (nameB (nmA l i) && decide (q67 l (nmA l i) = i)) := by
 unfold nameOk
 rw [placeI_self l i hi]
 have hr : rdOf ByteArray.empty (l.map (·.f0)) (i : Int) = nmA l i := by
  rw [rdOf_get _ _ _ (by simpa using hi)]
  unfold nmA
  rw [rd_in l i hi]; simp
 rw [hr]
theorem all_range {l : List (S41)} (p : S41 → Bool) : l.all p = true ↔ ∀ i : Nat, i < l.length → p (q74 l i) = true := by
 rw [List.all_eq_true]
 constructor
 ·intro h i hi; rw [rd_in l i hi]; exact h _ (List.getElem_mem hi)
 ·intro h x hx
  obtain ⟨i, hi, rfl⟩ := List.getElem_of_mem hx
  rw [← rd_in l i hi]; exact h i hi
theorem itemB_eq (fs : List ByteArray) (l : List (S41)) (x : S41) : itemB fs l x.f1 x.f3 x.f4 x.f5 x.f6 = (rown x && (sentsB fs l x.f5 && sentsB fs l x.f6)) := by
 unfold itemB rown
 by_cases h1 : 1 ≤ x.f1 ∧ x.f1 ≤ 5
 ·have h4 : decide (x.f1 = 4 ∨ x.f1 = 5) = decide (x.f1 ≥ 4) := by rw [decide_eq_decide]; omega
  rw [h4]
  generalize decide (x.f1 ≥ 4) = A
  generalize sentsB fs l x.f5 = B
  generalize sentsB fs l x.f6 = C
  generalize (if x.f1 = 5 then decide (1 ≤ x.f4 ∧ x.f4 ≤ 100) else decide (x.f4 = 0)) = D
  generalize decide (1 ≤ x.f1 ∧ x.f1 ≤ 5) = E
  generalize (x.f3 || decide (0 < x.f5.length)) = F
  cases A <;> cases B <;> cases C <;> cases D <;> cases E <;> cases F <;> rfl
 ·rw [decide_eq_false h1]; simp
theorem ris_eq (fs : List ByteArray) (l : List (S41)) : risB fs l = isB fs l := by
 unfold risB isB
 by_cases hb : fs.length ≤ 6 ∧ 1 ≤ l.length ∧ l.length ≤ 16
 case neg => rw [decide_eq_false hb]; simp
 rw [decide_eq_true hb, Bool.true_and, Bool.true_and]
 congr 1
 rw [Bool.eq_iff_iff]
 have hR : rplace l 0 = planB (q74 l 0).f1 (q74 l 0).f2 (q74 l 0).f3 (q74 l 0).f5.length (q74 l 0).f6.length := rfl
 have hn : namesB (l.map (·.f0)) = true ↔ ∀ i : Nat, i < l.length → nameB (nmA l i) = true ∧ q67 l (nmA l i) = i := by
  unfold namesB
  rw [List.all_eq_true]
  constructor
  ·intro h i hi
   have := h i (List.mem_range.2 (by simpa using hi))
   rw [names_at l i hi] at this
   simpa using this
  ·intro h i hi
   have hi' : i < l.length := by simpa using List.mem_range.1 hi
   rw [names_at l i hi']
   simpa using h i hi'
 rw [← hR]
 have hany : (!l.any fun x => !itemB fs l x.f1 x.f3 x.f4 x.f5 x.f6) = l.all (fun x => rown x && (sentsB fs l x.f5 && sentsB fs l x.f6)) := by
  rw [List.not_any_eq_all_not]
  congr 1
  funext x
  rw [Bool.not_not, itemB_eq]
 rw [hany]
 have h0 : rplace l 0 = true → (paA l 0).toList = [] := by
  intro h
  rw [hR] at h
  unfold planB at h
  simp only [Bool.and_eq_true, decide_eq_true_eq] at h
  exact h.2.1
 constructor
 ·intro h
  rw [Bool.and_eq_true] at h
  obtain ⟨h1, h2⟩ := h
  have hi : ∀ i : Nat, i < l.length → nameB (nmA l i) = true ∧ q67 l (nmA l i) = i ∧ rown (q74 l i) = true ∧ rplace l i = true := by
   intro i hi
   have := List.all_eq_true.1 h1 i (List.mem_range.2 hi)
   unfold ritem at this
   simpa using this
  have hp0 := (hi 0 (by omega)).2.2.2
  rw [Bool.and_eq_true, Bool.and_eq_true, Bool.and_eq_true]
  refine ⟨hn.2 (fun i h => ⟨(hi i h).1, (hi i h).2.1⟩), hp0, (stands_places l (by omega) (fun i h => ⟨(hi i h).2.1, nameB_ne _ (hi i h).1⟩) (h0 hp0)).2 (fun q hq _ => (hi q hq).2.2.2), ?_⟩
  rw [all_range] at h2 ⊢
  intro i h
  rw [(hi i h).2.2.1, Bool.true_and]
  exact h2 i h
 ·intro h
  rw [Bool.and_eq_true, Bool.and_eq_true, Bool.and_eq_true] at h
  obtain ⟨h1, h2, h3, h4⟩ := h
  have hnm := hn.1 h1
  have hst := (stands_places l (by omega) (fun i h => ⟨(hnm i h).2, nameB_ne _ (hnm i h).1⟩) (h0 h2)).1 h3
  rw [all_range] at h4
  rw [Bool.and_eq_true]
  refine ⟨List.all_eq_true.2 (fun i hi => ?_), (all_range _).2 (fun i hi => ?_)⟩
  ·have hi := List.mem_range.1 hi
   have := h4 i hi
   rw [Bool.and_eq_true] at this
   unfold ritem
   rw [(hnm i hi).1, (hnm i hi).2, this.1, Bool.true_and, decide_eq_true rfl, Bool.true_and, Bool.true_and]
   by_cases e : i = 0
   ·rw [e]; exact h2
   ·exact hst i hi (by omega)
  ·have := h4 i hi
   rw [Bool.and_eq_true] at this
   exact this.2
theorem legal_parts (fs : List ByteArray) (l : List (S41)) (h : isB fs l = true) : (fs.length ≤ 6 ∧ 1 ≤ l.length ∧ l.length ≤ 16) ∧ namesB fs = true ∧ (∀ i : Nat, i < l.length → ritem l i = true) ∧ (∀ i : Nat, i < l.length → sentsB fs l (q74 l i).f5 = true ∧ sentsB fs l (q74 l i).f6 = true) := by
 rw [← ris_eq] at h
 unfold risB at h
 rw [Bool.and_eq_true, Bool.and_eq_true, Bool.and_eq_true, decide_eq_true_eq, all_range] at h
 obtain ⟨h1, h2, h3, h4⟩ := h
 refine ⟨h1, h2, fun i hi => List.all_eq_true.1 h3 i (List.mem_range.2 hi), fun i hi => ?_⟩
 have := h4 i hi
 rw [Bool.and_eq_true] at this
 exact this
theorem legal_facts (fs : List ByteArray) (l : List (S41)) (h : isB fs l = true) : fs.length ≤ 6 ∧ 1 ≤ l.length ∧ l.length ≤ 16 ∧ (∀ i : Nat, i < l.length → q67 l (nmA l i) = i ∧ (nmA l i).toList ≠ []) ∧ (paA l 0).toList = [] ∧ ∀ q : Nat, 0 < q → q < l.length → ∃ p : Nat, p < q ∧ q67 l (paA l q) = p ∧ (paA l q).toList ≠ [] ∧ kdA l p = 1 := by
 obtain ⟨⟨h1, h2, h3⟩, -, hi, -⟩ := legal_parts fs l h
 have hr : ∀ i : Nat, i < l.length → nameB (nmA l i) = true ∧ q67 l (nmA l i) = i ∧ rplace l i = true := by
  intro i hl
  have := hi i hl
  unfold ritem at this
  rw [Bool.and_eq_true, Bool.and_eq_true, Bool.and_eq_true, decide_eq_true_eq] at this
  exact ⟨this.1, this.2.1, this.2.2.2⟩
 refine ⟨h1, h2, h3, fun i hl => ⟨(hr i hl).2.1, nameB_ne _ (hr i hl).1⟩, ?_, fun q h0 hq => ?_⟩
 ·have := (hr 0 (by omega)).2.2
  rw [show rplace l 0 = planB (q74 l 0).f1 (q74 l 0).f2 (q74 l 0).f3 (q74 l 0).f5.length (q74 l 0).f6.length from rfl] at this
  unfold planB at this
  simp only [Bool.and_eq_true, decide_eq_true_eq] at this
  exact this.2.1
 ·have := (hr q hq).2.2
  unfold rplace at this
  rw [if_neg (by omega), Bool.and_eq_true, Bool.and_eq_true, decide_eq_true_eq, Bool.not_eq_true', decide_eq_false_iff_not] at this
  obtain ⟨e, ⟨a, b, c⟩, -⟩ := this
  obtain ⟨p, hp⟩ := Int.eq_ofNat_of_zero_le a
  rw [hp] at b c
  exact ⟨p, by omega, hp, e, c⟩
theorem fits_of (fs : List ByteArray) (l : List (S41)) (hf : fs.length ≤ 140737488351232) (hl : l.length ≤ 140737488351232) (hg : ∀ x ∈ l, goodItem x) : Fits fs l :=
 ⟨by omega, by omega, fun x hx => by
  obtain ⟨_, _, h5, h6, s5, s6⟩ := hg x hx
  exact ⟨⟨by omega, fun s hs => by obtain ⟨a, b⟩ := s5 s hs; constructor <;> omega⟩, ⟨by omega, fun s hs => by obtain ⟨a, b⟩ := s6 s hs; constructor <;> omega⟩⟩⟩
structure Mc where
 A0 : Option Addr
 c0 : Nat
 fs : List ByteArray
 A1 : Option Addr
 c1 : Nat
 l : List (S41)
 fl : Int
 la : Int
 v4 : Value
 v5 : Value
 v7 : Value
 v11 : Value
 vd : Value
def Mcells (c : Mc) (vr vc vu : Value) : Array Value := #[.slice c.A0 c.fs.length c.c0, .slice c.A1 c.l.length c.c1, .int .i64 c.fl, .int .i64 c.la, c.v4, c.v5, .int .i64 6, c.v7, vr, vc, vu, c.v11, c.vd]
def Mr (c : Mc) (w0 w : World) (g : Nat) (vr : Value) (rs : List (S72)) : Prop :=
 Below w0.heap.size w0 w ∧ w0.heap.size ≤ g ∧ w.heap[g]? = some (.cells (Mcells c vr (.slice none 0 0) (.slice none 0 0)) 58 (0, 0)) ∧ Kd.R k72 72 w (g + 1) (fun _ => True) vr rs
def Go_ (g : Nat) (vr vr' : Value) (w w' : World) : Prop := Kept w w' (fun k => k = g ∨ vr.ownBlock = some k) ∧ ∀ k, vr'.ownBlock = some k → vr.ownBlock = some k ∨ w.heap.size ≤ k
def RulePost (c : Mc) (w0 w : World) (g : Nat) (vr : Value) (rs : List (S72)) (e : Ending) (w' : World) : Prop := e = .returned (.tuple #[]) ∧ ∃ vr', Mr c w0 w' g vr' rs ∧ Go_ g vr vr' w w'
section
variable {c : Mc} {w0 w w1 w2 : World} {g : Nat} {vr vr' vr'' : Value} {rs : List (S72)}
theorem Go_.refl : Go_ g vr vr w w := ⟨Kept.refl _ _, fun _ h => .inl h⟩
theorem Go_.then_ (h : Go_ g vr vr' w w1) (k : Go_ g vr' vr'' w1 w2) : Go_ g vr vr'' w w2 :=
 ⟨h.1.then_ k.1 (fun j e => e.elim (fun e => .inl (.inl e)) (fun e => (h.2 j e).elim (fun e => .inl (.inr e)) .inr)), fun j e => (k.2 j e).elim (fun e => h.2 j e) (fun e => .inr (Nat.le_trans h.1.1 e))⟩
theorem Go_.below (h : Go_ g vr vr' w w1) (hb : Below w1.heap.size w1 w2) : Go_ g vr vr' w w2 := ⟨h.1.below hb, h.2⟩
theorem Mr.lt (h : Mr c w0 w g vr rs) : g < w.heap.size := blk_lt h.2.2.1
theorem Mr.below (h : Mr c w0 w g vr rs) (hb : Below w.heap.size w w1) : Mr c w0 w1 g vr rs := ⟨q53 h.1 h.1.size hb, h.2.1, q55 h.2.2.1 hb, Kd.R_below h.2.2.2 hb⟩
end
theorem R_set2x {w : World} {α : Type} {d : Kd α} {e base : Nat} {ok : Nat → Prop} {v : Value} {xs : List α} (h : d.R e w base ok v xs) (p : Addr) (u : Value) (hp : p.block < base) : d.R e (w.setCell p u) base ok v xs :=
 Kd.R_mono (Kd.R_far (Kd.R_bound h) (fun k hk => by have := hk.2.1; omega) u) (fun _ hk => hk.1)
theorem info72x_ : (Try.prog.info? 72).map (fun i => (i.zero, i.size, i.bytes)) = some (some (.agg #[.int .i64 0, .slice none 0 0, .slice none 0 0, .slice none 0 0]), 4, 80) := by kernel_rfl
set_option maxHeartbeats 4000000 in
set_option maxRecDepth 100000 in
theorem rule_any (c : Mc) (w0 w : World) (g : Nat) (vr : Value) (rs : List (S72)) (st : Int) (A2 : Option Addr) (c2 : Nat) (th : List (S111)) (A3 : Option Addr) (c3 : Nat) (ls : List (S93))
 (hM : Mr c w0 w g vr rs) (h2 : Kd.R k111 111 w (g + 1) (fun k => some k ≠ vr.ownBlock) (.slice A2 th.length c2) th) (h3 : Kd.R k93 93 w (g + 1) (fun k => some k ≠ vr.ownBlock) (.slice A3 ls.length c3) ls) (hlim : rs.length ≤ 100000) :
 Calls Try.prog 69 #[.pointer (some ⟨g, 0, none⟩), .int .i64 st, .slice A2 th.length c2, .slice A3 ls.length c3] w (RulePost c w0 w g vr (rs ++ [⟨st, ls, [], th⟩])) := by
 have hu32 := Try.underlying32
 have hu58 := Try.underlying58
 have hgl := hM.lt
 obtain ⟨hb0, hwg, hg, hR⟩ := hM
 obtain ⟨A8, c8, rfl⟩ := Kd.R_slice hR
 have hM1 : Kd.M k72 w (g + 1) (fun k => some k ≠ (Value.slice A8 rs.length c8).ownBlock) ⟨st, ls, [], th⟩ [.int .i64 st, .slice A3 ls.length c3, .slice none 0 0, .slice A2 th.length c2] := k72_mkM _ _ _ _ h3 (Kd.R_nil _ _ _ _ _) h2
 obtain ⟨m, hm⟩ : ∃ m, m = rs.length := ⟨_, rfl⟩
 have hl : (rs.length + 1) * 80 ≤ 140737488355328 := by omega
 have HB0 := Lib.hid hb0
 have HG := Lib.hid hg
 have HM1 := Lib.hid hM1
 have HR := Lib.hid hR
 have HL := Lib.hid hl
 have HM := Lib.hid hm
 rw [← hm] at HG HM1 HR ⊢
 have hcz : w.cell? ⟨g, 8, none⟩ = some (.slice A8 m c8) := (q56 HG.out 8).trans rfl
 obtain ⟨n2, hn2⟩ : ∃ n2, n2 = th.length := ⟨_, rfl⟩
 obtain ⟨n3, hn3⟩ : ∃ n3, n3 = ls.length := ⟨_, rfl⟩
 rw [← hn2, ← hn3] at HM1 ⊢
 clear hb0 hg hR hM1 hl hm h2 h3 hn2 hn3
 go_enter Try.func69, Try.ntmps69
 go_wp2_with (first | ((with_reducible refine q62 (b := .append) (xs := #[.tmp 13, .tmp 18]) rfl ?_); at_builtin; refine Kd.R_append k72 (w0 := w) (g + 1) rfl (.tmp 13) (.tmp 18) 28 72 (.agg #[.int .i64 0, .slice none 0 0, .slice none 0 0, .slice none 0 0]) 80 rfl Try.underlying28 info72x_ rfl (by decide) (by omega) (.slice A8 m c8) rs ⟨st, ls, [], th⟩ [.int .i64 st, .slice A3 n3 c3, .slice none 0 0, .slice A2 n2 c2] (fun _ => True) (fun k => some k ≠ (Value.slice A8 m c8).ownBlock) rfl rfl HM1.out (fun _ hk => ⟨trivial, hk⟩) (fun _ _ => trivial) HR.out (Below.refl _ _) hgl HL.out ?_; intro v1 w1 hR1 hB1 hgr hat; have hown : ∀ kk, (Value.slice A8 m c8).ownBlock = some kk → g + 1 ≤ kk := Kd.R_base HR.out; have hg1 := (hgr.block _ hgl (fun ek => by have := hown _ ek.symm; omega)).trans HG.out; have hb1 : Below w0.heap.size w0 w1 := HB0.out.grown hgr HB0.out.size (fun kk ek => by have := hown kk ek; omega); have hkp : Kept w w1 (fun k => k = g ∨ (Value.slice A8 m c8).ownBlock = some k) := Kept.of_grown hgr (Kept.refl _ _) (fun kk ek => .inl (.inr ek)); obtain ⟨A9, c9, rfl⟩ := Kd.R_slice hR1; rw [List.length_append, List.length_singleton] at hR1 hat; have hc8 : w1.cell? ⟨g, 8, none⟩ = some (.slice A8 m c8) := (q56 hg1 8).trans rfl; have hf8 := q60 hg1 8; have HG1 := Lib.hid hg1; have HB1 := Lib.hid hb1; have HKP := Lib.hid hkp; have HR1 := Lib.hid hR1; have HAT := Lib.hid hat; clear hgr hB1 hg1 hb1 hkp hR1 hat hown))
 refine bodyPost_end (results_none rfl _ _ _) rfl ?_
 refine ⟨rfl, .slice A9 (rs.length + 1) c9, ⟨HB1.out.setCell hwg _, hwg, q61 HG1.out 8 _ rfl, R_set2x HR1.out _ _ (Nat.lt_succ_self g)⟩, HKP.out.setCell (p := ⟨g, 8, none⟩) (.inl (.inl rfl)) _, fun k ek => ?_⟩
 rcases HAT.out with e | ⟨b, e, hb⟩
 ·exact .inl (e ▸ ek)
 ·rw [ek] at e
  cases e
  exact .inr hb
def Mm (c : Mc) (w0 : World) : Prop := Kd.C Kd.string w0 c.A0 c.fs.length c.fs ∧ c.fs.length ≤ c.c0 ∧ Kd.C k41 w0 c.A1 c.l.length c.l ∧ c.l.length ≤ c.c1 ∧ c.l.length ≤ 1000 ∧ (0 ≤ c.la ∧ c.la ≤ 100000) ∧ ∀ x ∈ c.l, (x.f5 ++ x.f6).length ≤ 6 ∧ ∀ s ∈ x.f5 ++ x.f6, s.f0.length ≤ 3 ∧ s.f1.length ≤ 2
def Mg (c : Mc) (w : World) (g : Nat) : Prop := ∃ vr vc vu, w.heap[g]? = some (.cells (Mcells c vr vc vu) 58 (0, 0))
theorem Mr.mg {c : Mc} {w0 w : World} {g : Nat} {vr : Value} {rs : List (S72)} (h : Mr c w0 w g vr rs) : Mg c w g := ⟨_, _, _, h.2.2.1⟩
def passF (la : Int) (i f : Int) : Int := la + 6 * i + f
set_option maxHeartbeats 4000000 in
set_option maxRecDepth 100000 in
theorem pass_any (c : Mc) (w : World) (g : Nat) (i f : Int) (hG : Mg c w g) (hla : 0 ≤ c.la ∧ c.la ≤ 100000) (hi : 0 ≤ i ∧ i ≤ 1000) (hf : 0 ≤ f ∧ f ≤ 10) :
 Calls Try.prog 70 #[.pointer (some ⟨g, 0, none⟩), .int .i64 i, .int .i64 f] w fun e w' => e = .returned (.int .i64 (passF c.la i f)) ∧ w' = w := by
 have hu32 := Try.underlying32
 have hu58 := Try.underlying58
 obtain ⟨vr, vc, vu, hg⟩ := hG
 have hcz : w.cell? ⟨g, 3, none⟩ = some (.int .i64 c.la) := (q56 hg 3).trans rfl
 have h1 : wrap64 (6 * i) = 6 * i := by unfold wrap64; omega
 have h2 : wrap64 (c.la + 6 * i) = c.la + 6 * i := by unfold wrap64; omega
 have h3 : wrap64 (c.la + 6 * i + f) = passF c.la i f := by unfold wrap64 passF; omega
 obtain ⟨la, hla'⟩ : ∃ la, la = c.la := ⟨_, rfl⟩
 rw [← hla'] at hcz h2 h3 ⊢
 obtain ⟨R, hR⟩ : ∃ R, R = passF la i f := ⟨_, rfl⟩
 rw [← hR] at h3 ⊢
 clear hg hla hi hf hla' hR
 go_enter Try.func70, Try.ntmps70
 go_wp2
 go_ret
 exact ⟨by show Ending.returned (.int .i64 (wrap64 (la + 6 * i + f))) = _; rw [h3], rfl⟩
def parI (l : List (S41)) (i : Nat) : Int := fidx (q32.p (q74 l (i : Int)).f2) l
theorem Mm.at {c : Mc} {w0 w : World} (h : Mm c w0) (hb : Below w0.heap.size w0 w) : Kd.C Kd.string w c.A0 c.fs.length c.fs ∧ Kd.C k41 w c.A1 c.l.length c.l := ⟨Kd.C_below h.1 hb, Kd.C_below h.2.2.1 hb⟩
set_option maxHeartbeats 4000000 in
set_option maxRecDepth 100000 in
theorem parent_any (c : Mc) (w0 w : World) (g : Nat) (i : Nat) (hG : Mg c w g) (hm : Mm c w0) (hb : Below w0.heap.size w0 w) (hi : i < c.l.length) :
 Calls Try.prog 27 #[.pointer (some ⟨g, 0, none⟩), .int .i64 i] w fun e w' => e = .returned (.int .i64 (parI c.l i)) ∧ Below w.heap.size w w' := by
 have hu25 := Try.underlying25
 have hu58 := Try.underlying58
 have hu41 := Try.underlying41
 have hml := hm.2.2.2.2.1
 obtain ⟨hC0, hC1⟩ := hm.at hb
 obtain ⟨vr, vc, vu, hg⟩ := hG
 have hcz0 : w.cell? ⟨g, 0, none⟩ = some (.slice c.A0 c.fs.length c.c0) := (q56 hg 0).trans rfl
 have hcz1 : w.cell? ⟨g, 1, none⟩ = some (.slice c.A1 c.l.length c.c1) := (q56 hg 1).trans rfl
 obtain ⟨ad, A5, c5, A6, c6, e, x0, x1, x2, x3, x4, x5, x6, -⟩ := at_T41 hC1 (i : Int) (by omega) (by omega)
 simp only [Int.toNat_natCast] at x2
 have hP : ∀ W, Below w.heap.size w W → Calls Try.prog 45 #[.agg #[.slice c.A0 c.fs.length c.c0, .slice c.A1 c.l.length c.c1], .string (q74 c.l (i : Int)).f2] W fun e w' => e = .returned (.int .i64 (parI c.l i)) ∧ Below W.heap.size W w' := fun W hbw =>
  q32.calls c.A0 c.c0 c.fs c.A1 c.c1 c.l (q74 c.l (i : Int)).f2 (parI c.l i) W (Kd.C_below hC0 hbw) hm.2.1 (Kd.C_below hC1 hbw) hm.2.2.2.1 rfl
 rw [e] at hcz1 hP
 obtain ⟨n, hn⟩ : ∃ n, n = c.l.length := ⟨_, rfl⟩
 rw [← hn] at hcz1 hP hi hml
 obtain ⟨nf, hnf⟩ : ∃ nf, nf = c.fs.length := ⟨_, rfl⟩
 rw [← hnf] at hcz0 hP
 obtain ⟨R, hR⟩ : ∃ R, R = parI c.l i := ⟨_, rfl⟩
 rw [← hR] at hP ⊢
 obtain ⟨s, hs⟩ : ∃ s, s = (q74 c.l (i : Int)).f2 := ⟨_, rfl⟩
 rw [← hs] at hP x2
 have HP := Lib.hid hP
 have hlt : (i : Int) < (n : Int) := by omega
 clear hm hb hC0 hC1 hg e x0 x1 x3 x4 x5 x6 hn hnf hR hs hP
 go_enter Try.func27, Try.ntmps27
 go_wp2
 have hS : (w.cell? ⟨g, 0, none⟩ = some (.slice c.A0 nf c.c0) ∧ w.cell? ⟨g, 1, none⟩ = some (.slice (some ad) n c.c1) ∧ w.cell? ⟨(ad.add (i * 7)).block, (ad.add (i * 7)).off + 2, none⟩ = some (.string s)) ∧ Below w.heap.size w w.drew := ⟨⟨hcz0, hcz1, x2⟩, q51 (Below.refl _ _)⟩
 refine st_ (fun w' => (w'.cell? ⟨g, 0, none⟩ = some (.slice c.A0 nf c.c0) ∧ w'.cell? ⟨g, 1, none⟩ = some (.slice (some ad) n c.c1) ∧ w'.cell? ⟨(ad.add (i * 7)).block, (ad.add (i * 7)).off + 2, none⟩ = some (.string s)) ∧ Below w.heap.size w w') 15 hS (fun hHeld => ?_)
 clear hS hcz0 hcz1 x2
 refine pu_ 0 (some 5) ?_
 refine pu_ 1 (some 6) ?_
 refine pu_ 2 (some 7) ?_
 refine tk_ 3 (some 8) hHeld ?_ (hy := by rintro w' ⟨⟨s0, s1, s2⟩, -⟩; go_simp; with_reducible rfl)
 refine pu_ 4 (some 9) ?_
 refine pu_ 5 (some 10) ?_
 refine pu_ 6 (some 11) ?_
 refine pu_ 7 (some 12) ?_
 refine tk_ 8 (some 13) hHeld ?_ (hy := by rintro w' ⟨⟨s0, s1, s2⟩, -⟩; go_simp; with_reducible rfl)
 refine pu_ 9 (some 14) ?_
 refine pu_ 10 (some 15) ?_
 refine pu_ 11 (some 16) ?_
 refine tk_ 12 (some 17) hHeld ?_ (hy := by rintro w' ⟨⟨s0, s1, s2⟩, -⟩; go_simp; with_reducible rfl)
 refine ca_ 13 (some 18) Try.func45 #[.agg #[.slice c.A0 nf c.c0, .slice (some ad) n c.c1], .string s] ?_
 refine (HP.out _ hHeld.2).mono ?_
 rintro e w' ⟨rfl, hbw⟩
 refine ⟨_, rfl, ⟨⟨q66 hbw hHeld.1.1, q66 hbw hHeld.1.2.1, q66 hbw hHeld.1.2.2⟩, q65 hbw hHeld.2⟩, fun hHeld2 => ⟨_, rfl, nz_ (some 18) ?_⟩⟩
 refine pu_ 14 (some 4) ?_
 refine dn_ ?_
 go_wp2
 go_ret
 exact ⟨rfl, hHeld2.2⟩
def q47.f (l0_0 : List ByteArray) (l0_1 : List (S41)) : Option Bool := some (isB l0_0 l0_1)
theorem q47.eg : ∀ args w, (callFunc 60 args).run Try.prog w = .ok (.enter 60 args) w := enters_of Try.func60 (by kernel_rfl) rfl
set_option maxHeartbeats 4000000 in
theorem q47.closure (b : Nat) (A0_0 : Option Addr) (c0_0 : Nat) (l0_0 : List ByteArray) (A0_1 : Option Addr) (c0_1 : Nat) (l0_1 : List (S41)) (W : World) (hm0 : W.cell? ⟨b, 0, none⟩ = some (.slice A0_0 l0_0.length c0_0)) (hm1 : W.cell? ⟨b, 1, none⟩ = some (.slice A0_1 l0_1.length c0_1))
 (hr0_0 : Kd.C Kd.string W A0_0 l0_0.length l0_0) (hc0_0 : l0_0.length ≤ c0_0) (hr0_1 : Kd.C k41 W A0_1 l0_1.length l0_1) (hc0_1 : l0_1.length ≤ c0_1) (x : S41) (cs : List Value) (hK : Kd.K k41 W x cs) :
 Calls Try.prog 60 (#[.agg cs.toArray] ++ #[.pointer (some ⟨b, 0, none⟩)]) W fun e w' => e = .returned (.bool (!itemB l0_0 l0_1 x.f1 x.f3 x.f4 x.f5 x.f6)) ∧ Below W.heap.size W w' := by
 obtain ⟨A5, c5, A6, c6, rfl, g5, h5, g6, h6⟩ := k41_open hK
 have hb := World.block_lt_of_cell? W _ hm0
 simp only at hb
 have hW1 := q50 (Below.refl W.heap.size W) (.cells #[.string x.f0, .int .i64 x.f1, .string x.f2, .bool x.f3, .int .i64 x.f4, .slice A5 x.f5.length c5, .slice A6 x.f6.length c6] 41)
 have hif := q30.calls 1 A0_0 c0_0 l0_0 A0_1 c0_1 l0_1 x.f0 x.f1 x.f2 x.f3 x.f4 A5 c5 x.f5 A6 c6 x.f6 _ _ (Kd.C_below hr0_0 hW1) hc0_0 (Kd.C_below hr0_1 hW1) hc0_1 (Kd.C_below h5 hW1) g5 (Kd.C_below h6 hW1) g6 (isItem_eq l0_0 l0_1 x.f0 x.f1 x.f2 x.f3 x.f4 x.f5 x.f6)
 have HW := Lib.hid hW1
 clear hr0_0 hr0_1 hW1 hK h5 h6
 obtain ⟨T, hT⟩ : ∃ T, T = itemB l0_0 l0_1 x.f1 x.f3 x.f4 x.f5 x.f6 := ⟨_, rfl⟩
 rw [← hT] at hif ⊢
 clear hT
 have hu36 := Try.underlying25
 have hu32 := Try.underlying41
 go_enter Try.func60, Try.ntmps60
 go_wp2_with (go_at_call 61; refine hif.mono ?_; rintro e w' ⟨rfl, hb'⟩)
 go_ret
 exact ⟨rfl, q65 hb' HW.out⟩
set_option maxHeartbeats 8000000 in
set_option maxRecDepth 100000 in
theorem q47.calls (A0_0 : Option Addr) (c0_0 : Nat) (l0_0 : List ByteArray) (A0_1 : Option Addr) (c0_1 : Nat) (l0_1 : List (S41)) (r : Bool) (w : World) (hr0_0 : Kd.C Kd.string w A0_0 l0_0.length l0_0) (hc0_0 : l0_0.length ≤ c0_0) (hr0_1 : Kd.C k41 w A0_1 l0_1.length l0_1) (hc0_1 : l0_1.length ≤ c0_1) (h : q47.f l0_0 l0_1 = some r) :
    Calls Try.prog 21 #[.agg #[.slice A0_0 l0_0.length c0_0, .slice A0_1 l0_1.length c0_1]] w fun e w' => e = .returned (.bool r) ∧ Below w.heap.size w w' := by
  obtain rfl := Option.some.inj h
  clear h
  have hu36 := Try.underlying25
  have hu32 := Try.underlying41
  have HR := Lib.hid (And.intro hr0_0 hr0_1)
  clear hr0_0 hr0_1
  have W1 := q50 (Below.refl w.heap.size w) (.cells #[.slice A0_0 l0_0.length c0_0, .slice A0_1 l0_1.length c0_1] 25)
  have HW1 := Lib.hid W1
  clear W1
  by_cases hA : 6 < l0_0.length
  · have e : isB l0_0 l0_1 = false := by simp [isB]; omega
    rw [e]
    have hA' : (6 : Int) < l0_0.length := by omega
    clear e
    go_enter Try.func21, Try.ntmps21
    go_wp2
    go_ret
    exact ⟨rfl, HW1.out⟩
  have hA' : ¬ (6 : Int) < l0_0.length := by omega
  by_cases hB : l0_1.length < 1
  · have e : isB l0_0 l0_1 = false := by simp [isB]; omega
    rw [e]
    have hB' : (l0_1.length : Int) < 1 := by omega
    clear e
    go_enter Try.func21, Try.ntmps21
    go_wp2
    go_ret
    exact ⟨rfl, HW1.out⟩
  have hB' : ¬ (l0_1.length : Int) < 1 := by omega
  by_cases hC : 16 < l0_1.length
  · have e : isB l0_0 l0_1 = false := by simp [isB]; omega
    rw [e]
    have hC' : (16 : Int) < l0_1.length := by omega
    clear e
    go_enter Try.func21, Try.ntmps21
    go_wp2
    go_ret
    exact ⟨rfl, HW1.out⟩
  have hC' : ¬ (16 : Int) < l0_1.length := by omega
  have hd : decide (l0_0.length ≤ 6 ∧ 1 ≤ l0_1.length ∧ l0_1.length ≤ 16) = true := decide_eq_true (by omega)
  obtain ⟨P0, hP0⟩ : ∃ P, P = planB (q74 l0_1 0).f1 (q74 l0_1 0).f2 (q74 l0_1 0).f3 (q74 l0_1 0).f5.length (q74 l0_1 0).f6.length := ⟨_, rfl⟩
  obtain ⟨T0, hT0⟩ : ∃ T, T = l0_1.any (fun x => !itemB l0_0 l0_1 x.f1 x.f3 x.f4 x.f5 x.f6) := ⟨_, rfl⟩
  have hI : isB l0_0 l0_1 = (namesB l0_0 && (namesB (l0_1.map (·.f0)) && (P0 && (standsB l0_1 && !T0)))) := by
    unfold isB
    rw [hd, ← hP0, ← hT0]; rfl
  have HI := Lib.hid hI
  have HP := Lib.hid (And.intro hP0 hT0)
  clear hI hd hP0 hT0
  -- the world behind the box
  obtain ⟨W1, hW1⟩ : ∃ W, W = w.alloc (.cells #[.slice A0_0 l0_0.length c0_0, .slice A0_1 l0_1.length c0_1] 25) := ⟨_, rfl⟩
  have hm0 : W1.cell? ⟨w.heap.size, 0, none⟩ = some (.slice A0_0 l0_0.length c0_0) := by rw [hW1]; simp
  have hm1 : W1.cell? ⟨w.heap.size, 1, none⟩ = some (.slice A0_1 l0_1.length c0_1) := by rw [hW1]; simp
  have hb1 : Below w.heap.size w W1 := by rw [hW1]; exact HW1.out
  have H1 := Lib.hid (And.intro hm0 (And.intro hm1 hb1))
  have HE1 := Lib.hid hW1
  have hn1 := fun (W : World) (hb : Below w.heap.size w W) => q23.calls A0_0 c0_0 l0_0 _ W (Kd.C_below HR.out.1 hb) hc0_0 rfl
  have hn1' := hn1 W1 hb1
  clear hn1 hW1 hm0 hm1 hb1
  go_enter Try.func21, Try.ntmps21
  go_wp2_with fail
  rw [← HE1.out]
  go_at_call 55
  cases hq1 : namesB l0_0 with
  | false =>
    rw [hq1] at hn1' HI
    have HI2 : Hid (isB l0_0 l0_1 = false) := Lib.hid (by rw [HI.out]; rfl)
    clear hq1 HI
    refine hn1'.mono ?_
    rintro e w2 ⟨rfl, hb2⟩
    have HB := Lib.hid (q65 hb2 H1.out.2.2)
    clear hn1' hb2
    go_wp2
    go_ret
    exact ⟨by rw [HI2.out]; rfl, HB.out⟩
  | true =>
  rw [hq1] at hn1' HI
  clear hq1
  refine hn1'.mono ?_
  rintro e w2 ⟨rfl, hb2⟩
  have hm0 := q66 hb2 H1.out.1
  have hm1 := q66 hb2 H1.out.2.1
  have HB2 := Lib.hid (And.intro (q65 hb2 H1.out.2.2) (And.intro hm0 hm1))
  clear hn1' hb2
  have hids := q45.calls (l0_1.length + 1) A0_0 c0_0 l0_0 A0_1 c0_1 l0_1 _ w2 (Kd.C_below HR.out.1 HB2.out.1) hc0_0 (Kd.C_below HR.out.2 HB2.out.1) hc0_1 (ids_eq l0_0 l0_1 (by omega) (l0_1.length + 1) (by omega))
  go_wp2_with fail
  go_at_call 56
  refine hids.mono ?_
  rintro e w3 ⟨v3, rfl, hR3, hb3⟩
  obtain ⟨A3, c3, rfl, hl3, hC3⟩ := Kd.R_reads hR3
  have hn2 := q23.calls A3 c3 (l0_1.map (·.f0)) _ w3 hC3 hl3 rfl
  rw [List.length_map] at hn2
  have hm03 := q66 hb3 hm0
  have hm13 := q66 hb3 hm1
  have HB3 := Lib.hid (And.intro (q65 hb3 HB2.out.1) (And.intro hm03 hm13))
  clear hids hR3 hb3 hC3 hm0 hm1
  go_wp2_with fail
  go_at_call 55
  cases hq2 : namesB (l0_1.map (·.f0)) with
  | false =>
    rw [hq2] at hn2 HI
    have HI2 : Hid (isB l0_0 l0_1 = false) := Lib.hid (by rw [HI.out]; rfl)
    clear hq2 HI
    refine hn2.mono ?_
    rintro e w4 ⟨rfl, hb4⟩
    have HB := Lib.hid (q65 hb4 HB3.out.1)
    clear hn2 hb4
    go_wp2
    go_ret
    exact ⟨by rw [HI2.out]; rfl, HB.out⟩
  | true =>
  rw [hq2] at hn2 HI
  clear hq2
  refine hn2.mono ?_
  rintro e w4 ⟨rfl, hb4⟩
  have hm04 := q66 hb4 hm03
  have hm14 := q66 hb4 hm13
  have HB4 := Lib.hid (And.intro (q65 hb4 HB3.out.1) (And.intro hm04 hm14))
  obtain ⟨ad, B5, d5, B6, d6, e, hx0, hx1, hx2, hx3, hx4, hx5, hx6, g5, h5, g6, h6⟩ := at_T41 HR.out.2 (0 : Int) (by omega) (by omega)
  cases e
  obtain ⟨x, hx⟩ : ∃ x, x = q74 l0_1 (0 : Int) := ⟨_, rfl⟩
  rw [← hx] at hx0 hx1 hx2 hx3 hx4 hx5 hx6 g5 h5 g6 h6 HP
  have hip := q31.calls x.f0 x.f1 x.f2 x.f3 x.f4 B5 d5 x.f5 B6 d6 x.f6 _ w4 (Kd.C_below h5 HB4.out.1) g5 (Kd.C_below h6 HB4.out.1) g6 (isPlan_eq x.f0 x.f1 x.f2 x.f3 x.f4 x.f5 x.f6 h5.2.1 h6.2.1)
  rw [← HP.out.1] at hip
  replace hx0 := q66 HB4.out.1 hx0
  replace hx1 := q66 HB4.out.1 hx1
  replace hx2 := q66 HB4.out.1 hx2
  replace hx3 := q66 HB4.out.1 hx3
  replace hx4 := q66 HB4.out.1 hx4
  replace hx5 := q66 HB4.out.1 hx5
  replace hx6 := q66 HB4.out.1 hx6
  rw [show (0 : Int).toNat * 7 = 0 by rfl, show ad.add 0 = ad by simp [Addr.add]] at hx0 hx1 hx2 hx3 hx4 hx5 hx6
  have hl0 : (0 : Int) < l0_1.length := by omega
  clear hx hn2 hb4 hm03 hm13 h5 h6 g5 g6
  go_wp2_with fail
  go_at_call 57
  have HBox := Lib.hid (And.intro hm04 hm14)
  clear hx0 hx1 hx2 hx3 hx4 hx5 hx6
  cases P0 with
  | false =>
    have HI2 : Hid (isB l0_0 l0_1 = false) := Lib.hid (by rw [HI.out]; rfl)
    clear HI
    refine hip.mono ?_
    rintro e w5 ⟨rfl, hb5⟩
    have HB := Lib.hid (q65 hb5 HB4.out.1)
    clear hip hb5
    go_wp2
    go_ret
    exact ⟨by rw [HI2.out]; rfl, HB.out⟩
  | true =>
  refine hip.mono ?_
  rintro e w5 ⟨rfl, hb5⟩
  have hm05 := q66 hb5 HBox.out.1
  have hm15 := q66 hb5 HBox.out.2
  have hb5w := q65 hb5 HB4.out.1
  have hst := q29.calls A0_0 c0_0 l0_0 (some ad) c0_1 l0_1 _ w5 (Kd.C_below HR.out.1 hb5w) hc0_0 (Kd.C_below HR.out.2 hb5w) hc0_1 rfl
  have HB5 := Lib.hid hb5w
  clear hip hb5 hm04 hm14 hb5w
  go_wp2_with fail
  go_at_call 58
  have HBox5 := Lib.hid (And.intro hm05 hm15)
  cases hq3 : standsB l0_1 with
  | false =>
    rw [hq3] at hst HI
    have HI2 : Hid (isB l0_0 l0_1 = false) := Lib.hid (by rw [HI.out]; rfl)
    clear HI hq3
    refine hst.mono ?_
    rintro e w6 ⟨rfl, hb6⟩
    have HB := Lib.hid (q65 hb6 HB5.out)
    clear hst hb6
    go_wp2
    go_ret
    exact ⟨by rw [HI2.out]; rfl, HB.out⟩
  | true =>
  rw [hq3] at hst HI
  clear hq3
  refine hst.mono ?_
  rintro e w6 ⟨rfl, hb6⟩
  have hm06 := q66 hb6 hm05
  have hm16 := q66 hb6 hm15
  have hb6w := q65 hb6 HB5.out
  have hany := anyItem (some ad) c0_1 l0_1 w6 (Kd.C_below HR.out.2 hb6w) hc0_1 60 #[.pointer (some ⟨w.heap.size, 0, none⟩)] q47.eg (fun x => !itemB l0_0 l0_1 x.f1 x.f3 x.f4 x.f5 x.f6) (fun W x cs hx hb hK => q47.closure w.heap.size A0_0 c0_0 l0_0 (some ad) c0_1 l0_1 W (q66 hb hm06) (q66 hb hm16) (Kd.C_below (Kd.C_below HR.out.1 hb6w) hb) hc0_0 (Kd.C_below (Kd.C_below HR.out.2 hb6w) hb) hc0_1 x cs hK)
  rw [← HP.out.2] at hany
  have HB6 := Lib.hid hb6w
  clear hst hb6 hm05 hm15 hb6w
  go_wp2_with fail
  go_at_call 59
  refine hany.mono ?_
  rintro e w7 ⟨rfl, hb7⟩
  have HB := Lib.hid (q65 hb7 HB6.out)
  clear hany hb7
  go_wp2
  go_ret
  exact ⟨by rw [HI.out]; rfl, HB.out⟩
set_option maxHeartbeats 4000000 in
set_option maxRecDepth 100000 in
theorem each_m (c : Mc) (g : Nat) (w : World) (f : Nat) (eg : ∀ args w, (callFunc f args).run Try.prog w = .ok (.enter f args) w) (I : Nat → World → Prop) (hG : Mg c w g) (h0 : I 0 w) (hl : c.l.length ≤ 1000)
 (hS : ∀ i W, i < c.l.length → I i W → Calls Try.prog f #[.pointer (some ⟨g, 0, none⟩), .int .i64 i] W fun e w' => e = .returned (.tuple #[]) ∧ I (i + 1) w') :
 Calls Try.prog 33 #[.pointer (some ⟨g, 0, none⟩), .func (.func f) #[.pointer (some ⟨g, 0, none⟩)] #[]] w fun e w' => e = .returned (.tuple #[]) ∧ I c.l.length w' := by
 have hu25 := Try.underlying25
 have hu58 := Try.underlying58
 obtain ⟨vr, vc, vu, hg⟩ := hG
 have hcz1 : w.cell? ⟨g, 1, none⟩ = some (.slice c.A1 c.l.length c.c1) := (q56 hg 1).trans rfl
 obtain ⟨n, hn⟩ : ∃ n, n = c.l.length := ⟨_, rfl⟩
 rw [← hn] at hcz1 hS hl ⊢
 have HS := Lib.hid hS
 have H0 := Lib.hid h0
 clear hS hn hg h0
 go_enter Try.func33, Try.ntmps33
 go_wp2
 go_loopg [11] n (fun gg s11 wr => ∃ i : Nat, s11 = .int .i64 i ∧ i ≤ n ∧ n - i ≤ gg ∧ Hid (I i wr))
 case atStart => exact ⟨0, rfl, Nat.zero_le _, by omega, H0⟩
 case round =>
  obtain ⟨i, rfl, hin, hig, Y⟩ := hrel
  obtain ⟨wO, rfl⟩ : ∃ wO, wO = wr := ⟨_, rfl⟩
  by_cases hlt : i < n
  case neg =>
   have hltz : ¬ (i : Int) < (n : Int) := by omega
   obtain rfl : i = n := by omega
   go_wp2
   refine bodyPost_end (results_none rfl _ _ _) rfl ?_
   exact ⟨rfl, Y.out⟩
  have hltz : (i : Int) < (n : Int) := by omega
  have hcall := HS.out i wO hlt Y.out
  clear Y
  go_wp2_with (go_at_fn f; refine hcall.mono ?_; rintro e w' ⟨rfl, hI⟩; have HI := Lib.hid hI; clear hI hcall)
  go_roundg (n - (i + 1))
  case measure => omega
  case rel => exact ⟨i + 1, by go_num, by omega, Nat.le_refl _, HI⟩
set_option maxHeartbeats 4000000 in
set_option maxRecDepth 100000 in
theorem each_c (c : Mc) (g : Nat) (w : World) (f : Nat) (p1 p2 : Addr) (eg : ∀ args w, (callFunc f args).run Try.prog w = .ok (.enter f args) w) (I : Nat → World → Prop) (hG : Mg c w g) (h0 : I 0 w) (hl : c.l.length ≤ 1000)
 (hS : ∀ i W, i < c.l.length → I i W → Calls Try.prog f #[.int .i64 i, .pointer (some p1), .pointer (some p2)] W fun e w' => e = .returned (.tuple #[]) ∧ I (i + 1) w') :
 Calls Try.prog 33 #[.pointer (some ⟨g, 0, none⟩), .func (.func f) #[] #[.pointer (some p1), .pointer (some p2)]] w fun e w' => e = .returned (.tuple #[]) ∧ I c.l.length w' := by
 have hu25 := Try.underlying25
 have hu58 := Try.underlying58
 obtain ⟨vr, vc, vu, hg⟩ := hG
 have hcz1 : w.cell? ⟨g, 1, none⟩ = some (.slice c.A1 c.l.length c.c1) := (q56 hg 1).trans rfl
 obtain ⟨n, hn⟩ : ∃ n, n = c.l.length := ⟨_, rfl⟩
 rw [← hn] at hcz1 hS hl ⊢
 have HS := Lib.hid hS
 have H0 := Lib.hid h0
 clear hS hn hg h0
 go_enter Try.func33, Try.ntmps33
 go_wp2
 go_loopg [11] n (fun gg s11 wr => ∃ i : Nat, s11 = .int .i64 i ∧ i ≤ n ∧ n - i ≤ gg ∧ Hid (I i wr))
 case atStart => exact ⟨0, rfl, Nat.zero_le _, by omega, H0⟩
 case round =>
  obtain ⟨i, rfl, hin, hig, Y⟩ := hrel
  obtain ⟨wO, rfl⟩ : ∃ wO, wO = wr := ⟨_, rfl⟩
  by_cases hlt : i < n
  case neg =>
   have hltz : ¬ (i : Int) < (n : Int) := by omega
   obtain rfl : i = n := by omega
   go_wp2
   refine bodyPost_end (results_none rfl _ _ _) rfl ?_
   exact ⟨rfl, Y.out⟩
  have hltz : (i : Int) < (n : Int) := by omega
  have hcall := HS.out i wO hlt Y.out
  clear Y
  go_wp2_with (go_at_fn f; refine hcall.mono ?_; rintro e w' ⟨rfl, hI⟩; have HI := Lib.hid hI; clear hI hcall)
  go_roundg (n - (i + 1))
  case measure => omega
  case rel => exact ⟨i + 1, by go_num, by omega, Nat.le_refl _, HI⟩
def q38.f (a0 : Int) : Option (Int × Bool) := some (a0, true)
set_option maxHeartbeats 8000000 in
set_option maxRecDepth 100000 in
theorem q38.calls (a0 : Int) (r1 : Int) (r2 : Bool) (w : World) (h : q38.f a0 = some (r1, r2)) :
 Calls Try.prog 73 #[.int .i64 a0] w fun e w' => e = .returned (.agg #[.int .i64 r1, .bool r2]) ∧ Below w.heap.size w w' := by
 have hu93 := Try.underlying93
 have HB := q49.mk (Below.refl w.heap.size w)
 have H : (some (a0, true)) = some (r1, r2) := h
 clear h
 simp only [Option.some.injEq, Prod.mk.injEq] at H
 obtain ⟨rfl, rfl⟩ := H
 go_enter Try.func73, Try.ntmps73
 go_wp2_with (first | ((with_reducible refine q64 (N := 2) rfl ?_); refine bx_ 2 #[.int .i64 0, .bool false] 93 ?_; intro gb252 hg w2 hbox hb; have BK252 := q49.mk (hbox); have GW252 := zz_ (w := w) hg; have GE252 := zz_ (w := w) hg; replace HB := hb_ HB hb;  clear hb hbox hg; obtain ⟨hcz3_0, hcz3_1, hfz3_0, hfz3_1⟩ := bs2_ BK252))
 refine bodyPost_ret (results_cell_row rfl _ _ gb252 93 #[.int .i64 a0, .bool true] (0, 0) _ rfl (by (with_reducible repeat (first | refine q58 ?_ _ | refine q57 ?_ | refine q54 ?_ _)); refine q61 (cs := #[.int .i64 a0, .bool false]) ?_ 1 _ rfl; (with_reducible repeat (first | refine q58 ?_ _ | refine q57 ?_ | refine q54 ?_ _)); refine q61 (cs := #[.int .i64 0, .bool false]) ?_ 0 _ rfl; (with_reducible repeat (first | refine q58 ?_ _ | refine q57 ?_ | refine q54 ?_ _)); exact BK252.out) Try.underlying93 rfl (by kernel_rfl)) rfl ?_
 exact ⟨er_, hf_⟩
def q36.f (a0 : Int) (a1 : Int) : Option (Int) := some (wrap64 ((wrap64 ((wrap64 (4 * a0)) + a1)) - 1))
set_option maxHeartbeats 8000000 in
set_option maxRecDepth 100000 in
theorem q36.calls (a0 : Int) (a1 : Int) (r : Int) (w : World) (h : q36.f a0 a1 = some r) :
 Calls Try.prog 23 #[.int .i64 a0, .int .i64 a1] w fun e w' => e = .returned (.int .i64 r) ∧ Drawn0 w w' := by
 have H : (some (wrap64 ((wrap64 ((wrap64 (4 * a0)) + a1)) - 1))) = some r := h
 clear h
 obtain rfl := Option.some.inj H
 go_enter Try.func23, Try.ntmps23
 go_wp2
 go_ret
 exact ⟨by first | rfl | (simp; done) | (simp [*]; done), by repeat (first | exact Drawn0.refl _ | apply Drawn0.step)⟩
def q41.l0 : Nat → List (S111) → List Int → Int → Int → Option ((List (S111)))
 | 0, _, _, _, _ => none
 | k + 1, x3, x6, x7, x8 => if x8 < x7 then (if 0 ≤ x8 then (if x8 < (x6.length : Int) then (if x3.length < 8796093022208 then (q41.l0 k (x3 ++ [(⟨rd x6 x8, (x8 == 0)⟩ : S111)]) x6 x7 (wrap64 (x8 + 1))) else (none)) else (none)) else (none)) else (some x3)
def q41.f (k : Nat) (l0 : List Int) : Option ((List (S111))) := q41.l0 k ([] : List (S111)) l0 (l0.length : Int) 0
theorem q41.mono_l : ∀ k, (∀ y0 y1 y2 y3, LeO (q41.l0 k y0 y1 y2 y3) (q41.l0 (k + 1) y0 y1 y2 y3))
 | 0 => fun _ _ _ _ r h => by simp [q41.l0] at h
 | k + 1 => by
  have ih0 := q41.mono_l k
  ·intro y0 y1 y2 y3
   unfold q41.l0
   repeat' first
   | (with_reducible exact ih0 _ _ _ _)
   | (with_reducible exact LeO.refl _)
   | (with_reducible exact LeO.none _)
   | (with_reducible refine LeO.ite ?_ ?_)
   | (with_reducible refine LeO.bind ?_ (fun _ => ?_))
   | exact ih0 _ _ _ _
   | exact LeO.none _
   | refine LeO.ite ?_ ?_
   | refine LeO.bind ?_ (fun _ => ?_)
theorem q41.mono : ∀ a0 k, LeO (q41.f k a0) (q41.f (k + 1) a0) := by
 intro a0 k
 have ih0 := q41.mono_l k
 unfold q41.f
 repeat' first
  | (with_reducible exact ih0 _ _ _ _)
  | (with_reducible exact LeO.refl _)
  | (with_reducible exact LeO.none _)
  | (with_reducible refine LeO.ite ?_ ?_)
  | (with_reducible refine LeO.bind ?_ (fun _ => ?_))
  | exact ih0 _ _ _ _
  | exact LeO.none _
  | refine LeO.ite ?_ ?_
  | refine LeO.bind ?_ (fun _ => ?_)
set_option maxHeartbeats 8000000 in
set_option maxRecDepth 100000 in
theorem q41.calls (k : Nat) (A0 : Option Addr) (c0 : Nat) (l0 : List Int) (r : List (S111)) (w : World) (hr0 : Kd.C (Kd.int .i64) w A0 l0.length l0) (hc0 : l0.length ≤ c0) (h : q41.f k l0 = some r) :
 Calls Try.prog 66 #[.slice A0 l0.length c0] w fun e w' => ∃ v0_ : Value, e = .returned (v0_) ∧ Kd.R k111 111 w' w.heap.size (fun _ => True) v0_ r ∧ Below w.heap.size w w' := by
 have hu111 := Try.underlying111
 have HR0 := q49.mk hr0
 have HC0 := q49.mk hc0
 clear hr0 hc0
 have HB := q49.mk (Below.refl w.heap.size w)
 have H : (q41.l0 k ([] : List (S111)) l0 (l0.length : Int) 0) = some r := h
 clear h
 have H' := q49.mk H
 clear H
 go_enter Try.func66, Try.ntmps66
 go_wp2
 go_loopg [3, 8] k (fun kq v3 v8 w' => ∃ (x3_1 : List (S111)) (x8_1 : Int), v8 = .int .i64 x8_1 ∧ q49 (q41.l0 kq x3_1 l0 (l0.length : Int) x8_1 = some r) ∧ q49 (kq ≤ k) ∧ q49 (Kd.R k111 111 w' w.heap.size (fun _ => True) v3 x3_1) ∧ q49 (Below w.heap.size w w'))
 case atStart => exact ⟨(([] : List (S111))), (0), rf_, H', ⟨Nat.le_refl _⟩, ⟨by first | exact Kd.R_nil _ _ _ _ _ | exact Kd.N_nil _ _ _ _ _ | exact Kd.V_nil _ _ _ _ _ | exact Kd.Q_nil _ _ _ _ _ | exact Kd.S_nil _ _ _ _ _⟩, ⟨hf_⟩⟩
 case round =>
  clear H'
  obtain ⟨x3_1, x8_1, rfl, HA, HK1, HO_3, HB⟩ := hrel
  cases gk with
  | zero => exact absurd HA.out (by simp [q41.l0])
  | succ k1 =>
   have H := HA.out
   clear HA
   simp only [q41.l0] at H
   by_cases c2 : x8_1 < (l0.length : Int)
   ·rw [if_pos c2] at H
    replace c2 := decide_eq_true c2
    by_cases c3 : 0 ≤ x8_1
    ·rw [if_pos c3] at H
     replace c3 := decide_eq_true c3
     by_cases c4 : x8_1 < (l0.length : Int)
     ·rw [if_pos c4] at H
      replace c4 := decide_eq_true c4
      by_cases c5 : x3_1.length < 8796093022208
      ·rw [if_pos c5] at H
       have LMc5 := q49.mk c5
       clear c5
       obtain ⟨y254, hy254⟩ : ∃ y_ : List (S111), y_ = (x3_1 ++ [(⟨rd l0 x8_1, (x8_1 == 0)⟩ : S111)]) := ⟨_, rfl⟩
       rw [← hy254] at H
       have Ny254 := q49.mk hy254
       clear hy254
       have H' := q49.mk H
       clear H
       obtain ⟨ad253, e253, hx253_0, p253, q253⟩ := au_int HR0 HB (x8_1)
       cases e253
       go_wp2_with (first | ((with_reducible refine q62 (b := .append) (xs := #[.tmp 13, .tmp 18]) rfl ?_); at_builtin; refine Kd.R_append k111 (w0 := w) w.heap.size rfl (.tmp 13) (.tmp 18) 70 111 (.agg #[(.int .i64 0), (.bool false)]) 16 rfl Try.underlying70 info111 rfl (by decide) (by omega) u3 x3_1 (⟨rd l0 x8_1, (x8_1 == 0)⟩ : S111) [.int .i64 (rd l0 x8_1), .bool (x8_1 == 0)] (fun _ => True) (fun _ => False) rfl rfl ?aP (fun _ hk => hk.elim) ?aF ?aO ?aB ?aS ?aL ?_; (case aP => exact k111_mkM _ _ _ (⟨rd l0 x8_1, (x8_1 == 0)⟩ : S111)); (case aB => exact hf_); (case aF => exact (fun _ _ => trivial)); (case aO => exact (ra_ HO_3.out)); (case aS => exact (q52 hf_)); (case aL => have := LMc5.out; omega); intro v255 w6 ho hb hg hat; rw [← Ny254.out] at ho; have n0_ := q49.mk (hb); have n1_ := q49.mk (ho); clear HB; clear HO_3; have HB := n0_; have HO256 := n1_; clear n0_ n1_; clear ho hb hg hat))
       go_roundg k1
       case measure => have := HK1.out; omega
       case rel => exact ⟨(y254), (wrap64 (x8_1 + 1)), rf_, H', ⟨by have := HK1.out; omega⟩, ⟨ra_ HO256.out⟩, ⟨hf_⟩⟩
      ·rw [if_neg c5] at H
       exact absurd H (by simp)
     ·rw [if_neg c4] at H
      exact absurd H (by simp)
    ·rw [if_neg c3] at H
     exact absurd H (by simp)
   ·rw [if_neg c2] at H
    replace c2 := decide_eq_false c2
    obtain rfl := Option.some.inj H
    go_wp2
    go_ret
    exact ⟨_, by first | rfl | (simp [errW_none, errW_some] <;> rfl) | (simp [*, errW_none, errW_some] <;> rfl), by (with_reducible repeat (first | apply Kd.R_alloc | apply Kd.R_drewN | apply Kd.R_drew)); exact HO_3.out, by repeat (first | (with_reducible first | exact HB.out | apply q50 | apply q68 | apply q51) | exact HB.out)⟩
def q46.f (a0 : Int) : Option (Int × Bool) := some (a0, false)
set_option maxHeartbeats 8000000 in
set_option maxRecDepth 100000 in
theorem q46.calls (a0 : Int) (r1 : Int) (r2 : Bool) (w : World) (h : q46.f a0 = some (r1, r2)) :
 Calls Try.prog 67 #[.int .i64 a0] w fun e w' => e = .returned (.agg #[.int .i64 r1, .bool r2]) ∧ Below w.heap.size w w' := by
 have hu93 := Try.underlying93
 have HB := q49.mk (Below.refl w.heap.size w)
 have H : (some (a0, false)) = some (r1, r2) := h
 clear h
 simp only [Option.some.injEq, Prod.mk.injEq] at H
 obtain ⟨rfl, rfl⟩ := H
 go_enter Try.func67, Try.ntmps67
 go_wp2_with (first | ((with_reducible refine q64 (N := 2) rfl ?_); refine bx_ 2 #[.int .i64 0, .bool false] 93 ?_; intro gb251 hg w2 hbox hb; have BK251 := q49.mk (hbox); have GW251 := zz_ (w := w) hg; have GE251 := zz_ (w := w) hg; replace HB := hb_ HB hb;  clear hb hbox hg; obtain ⟨hcz3_0, hcz3_1, hfz3_0, hfz3_1⟩ := bs2_ BK251))
 refine bodyPost_ret (results_cell_row rfl _ _ gb251 93 #[.int .i64 a0, .bool false] (0, 0) _ rfl (by (with_reducible repeat (first | refine q58 ?_ _ | refine q57 ?_ | refine q54 ?_ _)); refine q61 (cs := #[.int .i64 a0, .bool false]) ?_ 1 _ rfl; (with_reducible repeat (first | refine q58 ?_ _ | refine q57 ?_ | refine q54 ?_ _)); refine q61 (cs := #[.int .i64 0, .bool false]) ?_ 0 _ rfl; (with_reducible repeat (first | refine q58 ?_ _ | refine q57 ?_ | refine q54 ?_ _)); exact BK251.out) Try.underlying93 rfl (by kernel_rfl)) rfl ?_
 exact ⟨er_, hf_⟩
set_option maxHeartbeats 2000000 in
set_option maxRecDepth 100000 in
theorem growS_call (w : World) (n : Nat) (hl : n * 48 ≤ 140737488355328) :
 Calls Try.prog 97 #[.slice none 0 0, .int .i64 n] w fun e w' => ∃ v, e = .returned v ∧ Kd.R (kRaw 2) 45 w' w.heap.size (fun _ => True) v [] ∧ Below w.heap.size w w' := by
 have h1 : ¬ (n : Int) < 0 := by omega
 rcases Nat.eq_zero_or_pos n with rfl | h0
 ·go_enter Try.func97, Try.ntmps97
  go_wp2
  go_ret
  exact ⟨_, rfl, Kd.R_nil _ _ _ _ _, Below.refl _ _⟩
 have h2 : (n : Int) > 0 := by omega
 go_enter Try.func97, Try.ntmps97
 go_wp2_with (first | ((with_reducible refine q62 (b := .append) (xs := #[.tmp 20, .tmp 21]) rfl ?_); at_builtin; refine Kd.R_append_zeros (kRaw 2) (w0 := w) w.heap.size rfl (.tmp 20) (.tmp 21) 39 3 45 (.agg #[.slice none 0 0, .slice none 0 0]) 48 rfl Try.underlying39 Try.underlying3 iSent_ rfl (by decide) (by omega) (.slice none 0 0) [] [.slice none 0 0, .slice none 0 0] n (fun _ => True) rfl rfl ⟨rfl, rfl, by decide⟩ (fun _ _ => trivial) (Kd.R_nil _ _ _ _ _) (by omega) (Below.refl _ _) (Nat.le_refl _) (by simpa using hl) ?_; intro v1 w1 hR1 hB1 hg1 hg2; clear hg1 hg2; obtain ⟨A1, c1, rfl⟩ := Kd.R_slice hR1; have hRT := Kd.R_take hR1 (Nat.zero_le _)))
 go_ret
 exact ⟨_, rfl, by simpa using hRT, hB1⟩
def totS (f : Nat → Nat) : Nat → Nat
 | 0 => 0
 | i + 1 => totS f i + f i
def catS (bs : Nat → List (List Value)) : Nat → List (List Value)
 | 0 => []
 | i + 1 => catS bs i ++ bs i
theorem catS_length (bs : Nat → List (List Value)) (i : Nat) : (catS bs i).length = totS (fun k => (bs k).length) i := by
 induction i with
 | zero => rfl
 | succ i ih => simp only [catS, totS, List.length_append, ih]
theorem totS_le (f : Nat → Nat) {i j : Nat} (h : i ≤ j) : totS f i ≤ totS f j := by
  induction j with
  | zero => obtain rfl : i = 0 := by omega
            exact Nat.le_refl _
  | succ j ih =>
    rcases Nat.lt_or_ge j i with h' | h'
    · obtain rfl : i = j + 1 := by omega
      exact Nat.le_refl _
    · have := ih h'
      simp only [totS]
      omega
set_option maxHeartbeats 4000000 in
set_option maxRecDepth 100000 in
theorem concatS_call (w : World) (rw_ : Addr) (m : Nat) (A : Nat → Option Addr) (c : Nat → Nat) (bs : Nat → List (List Value))
 (hcell : ∀ i, i < m → w.cell? (rw_.add i) = some (.slice (A i) (bs i).length (c i))) (hC : ∀ i, i < m → Kd.C (kRaw 2) w (A i) (bs i).length (bs i)) (hm : m ≤ 1000) (hl : totS (fun k => (bs k).length) m ≤ 1000000) :
 Calls Try.prog 90 #[.slice (some rw_) m m] w fun e w' => ∃ v, e = .returned v ∧ Kd.R (kRaw 2) 45 w' w.heap.size (fun _ => True) v (catS bs m) ∧ Below w.heap.size w w' := by
 have HC := Lib.hid hC
 have HCell := Lib.hid hcell
 clear hC hcell
 go_enter Try.func90, Try.ntmps90
 go_wp2
 go_loopg [3, 11] m (fun gg s3 s11 wr => ∃ i : Nat, s3 = .int .i64 (totS (fun k => (bs k).length) i : Nat) ∧ s11 = .int .i64 i ∧ i ≤ m ∧ m - i ≤ gg ∧ wr = w)
 case atStart => exact ⟨0, rfl, rfl, Nat.zero_le _, by omega, rfl⟩
 case round =>
  obtain ⟨i, rfl, rfl, him, hig, rfl⟩ := hrel
  obtain ⟨w0_, rfl⟩ : ∃ w0_, w0_ = wr := ⟨_, rfl⟩
  by_cases hlt : i < m
  case pos =>
   have hltz : (i : Int) < (m : Int) := by omega
   have hx0 := HCell.out i hlt
   have hle := totS_le (fun k => (bs k).length) (show i + 1 ≤ m by omega)
   have hsum : totS (fun k => (bs k).length) (i + 1) = totS (fun k => (bs k).length) i + (bs i).length := rfl
   obtain ⟨n, hn⟩ : ∃ n, n = (bs i).length := ⟨_, rfl⟩
   obtain ⟨t, ht⟩ : ∃ t, t = totS (fun k => (bs k).length) i := ⟨_, rfl⟩
   rw [← hn] at hx0 hsum
   rw [← ht] at hsum ⊢
   have HS := Lib.hid hsum
   have htn : t + n ≤ 1000000 := by omega
   have hneg : ¬ (t : Int) + (n : Int) < 0 := by omega
   have hw : wrap64 ((t : Int) + (n : Int)) = (t : Int) + (n : Int) := by unfold wrap64; omega
   clear hn ht hle hsum
   go_wp2
   go_roundg (m - (i + 1))
   case measure => omega
   case rel => exact ⟨i + 1, by rw [HS.out]; go_num, by go_num, by omega, by omega, rfl⟩
  have hltz : ¬ (i : Int) < (m : Int) := by omega
  obtain rfl : m = i := by omega
  obtain ⟨t, ht⟩ : ∃ t, t = totS (fun k => (bs k).length) m := ⟨_, rfl⟩
  rw [← ht] at hl ⊢
  have HT := Lib.hid ht
  clear ht
  go_wp2_with fail
  refine (growS_call w0_ t (by omega)).mono ?_
  rintro e w1 ⟨v1, rfl, hR1, hB1⟩
  have HR1 := Lib.hid hR1
  have HB1 := Lib.hid hB1
  clear hR1 hB1
  go_wp2
  go_loopg [6, 27] m (fun gg s6 s27 wq => ∃ i : Nat, s27 = .int .i64 i ∧ i ≤ m ∧ m - i ≤ gg ∧ Hid (Kd.R (kRaw 2) 45 wq w0_.heap.size (fun _ => True) s6 (catS bs i) ∧ Below w0_.heap.size w0_ wq))
  case atStart => exact ⟨0, rfl, Nat.zero_le _, by omega, Lib.hid ⟨HR1.out, HB1.out⟩⟩
  case round =>
   obtain ⟨i, rfl, hin, hjg, Y⟩ := hrel
   obtain ⟨wz, rfl⟩ : ∃ wz, wz = wr := ⟨_, rfl⟩
   obtain ⟨hR, hB⟩ := Y.out
   obtain ⟨Av, cv, rfl⟩ := Kd.R_slice hR
   by_cases hlk : i < m
   case neg =>
    have hltj : ¬ (i : Int) < (m : Int) := by omega
    obtain rfl : m = i := by omega
    have HR := Lib.hid hR
    have HB := Lib.hid hB
    clear hR hB Y
    go_wp2
    go_ret
    exact ⟨_, rfl, HR.out, HB.out⟩
   have hltj : (i : Int) < (m : Int) := by omega
   have hx0 := q66 hB (HCell.out i hlk)
   have hle := totS_le (fun k => (bs k).length) (show i + 1 ≤ m by omega)
   have hsum : totS (fun k => (bs k).length) (i + 1) = totS (fun k => (bs k).length) i + (bs i).length := rfl
   have hcl := catS_length bs i
   have hCi := Kd.C_below (HC.out i hlk) hB
   obtain ⟨n, hn⟩ : ∃ n, n = (bs i).length := ⟨_, rfl⟩
   obtain ⟨lv, hlv⟩ : ∃ lv, lv = (catS bs i).length := ⟨_, rfl⟩
   rw [← hn] at hx0 hsum hCi
   have hfit : ((catS bs i).length + n) * 48 ≤ 140737488355328 := by have := HT.out; omega
   rw [← hlv] at hR ⊢
   have HR := Lib.hid hR
   have HB := Lib.hid hB
   have HCI := Lib.hid hCi
   have HFIT := Lib.hid hfit
   clear hR hB Y hn hle hsum hcl hlv hCi hfit
   go_wp2_with (first | ((with_reducible refine q62 (b := .append) (xs := #[.tmp 31, .tmp 32]) rfl ?_); at_builtin; refine Kd.R_append_rows (kRaw 2) (w0 := w0_) w0_.heap.size rfl (.tmp 31) (.tmp 32) 39 45 (.agg #[.slice none 0 0, .slice none 0 0]) 48 rfl Try.underlying39 iSent_ rfl (by decide) (by omega) (.slice Av lv cv) (catS bs i) (bs i) _ _ _ (fun _ => True) (fun _ => False) rfl rfl HR.out HCI.out (fun _ _ h => h) (fun _ h => h.elim) (fun _ _ => trivial) HB.out HB.out.size HFIT.out ?_; intro v2 w2 hR2 hB2 hg1 hg2; clear hg1 hg2; have HR2 := Lib.hid hR2; have HB2 := Lib.hid hB2; clear hR2 hB2))
   go_roundg (m - (i + 1))
   case measure => omega
   case rel => exact ⟨i + 1, by go_num, by omega, by omega, Lib.hid ⟨HR2.out, HB2.out⟩⟩
theorem raw_C {α : Type} {d : Kd α} {w : World} {A : Option Addr} {n : Nat} {rows : List (List Value)} {xs : List α} (h : Kd.C (kRaw d.sz) w A n rows) (hl : xs.length = n) (hK : ∀ (j : Nat) (p : α), xs[j]? = some p → ∃ cs, rows[j]? = some cs ∧ d.K w p cs) : Kd.C d w A n xs := by
 obtain ⟨h1, h2, h3⟩ := h
 refine ⟨hl, h2, fun hp => ?_⟩
 obtain ⟨ad, e, hc⟩ := h3 hp
 refine ⟨ad, e, fun j p hj => ?_⟩
 obtain ⟨cs, h4, h5⟩ := hK j p hj
 obtain ⟨c, h6, ⟨rfl, -⟩, h7⟩ := hc j cs h4
 exact ⟨c, h6, h5, h7⟩
set_option maxHeartbeats 4000000 in
set_option maxRecDepth 100000 in
theorem sentries_call (x : S41) (A5 : Option Addr) (c5 : Nat) (A6 : Option Addr) (c6 : Nat) (w : World) (h5 : Kd.C k45 w A5 x.f5.length x.f5) (h6 : Kd.C k45 w A6 x.f6.length x.f6) (hl : x.f5.length + x.f6.length ≤ 1000) :
 Calls Try.prog 64 #[.agg #[.string x.f0, .int .i64 x.f1, .string x.f2, .bool x.f3, .int .i64 x.f4, .slice A5 x.f5.length c5, .slice A6 x.f6.length c6]] w fun e w' => ∃ A c, e = .returned (.slice A (x.f5 ++ x.f6).length c) ∧ (x.f5 ++ x.f6).length ≤ c ∧ Kd.C k45 w' A (x.f5 ++ x.f6).length (x.f5 ++ x.f6) ∧ (∀ ad, A = some ad → w.heap.size ≤ ad.block) ∧ Below w.heap.size w w' := by
 have hu41 := Try.underlying41
 obtain ⟨r5, hr5, hC5, hK5⟩ := C_raw h5
 obtain ⟨r6, hr6, hC6, hK6⟩ := C_raw h6
 obtain ⟨W2, hW2⟩ : ∃ W2, W2 = (w.alloc (.cells #[.string x.f0, .int .i64 x.f1, .string x.f2, .bool x.f3, .int .i64 x.f4, .slice A5 x.f5.length c5, .slice A6 x.f6.length c6] 41)).alloc (.cells #[.slice A5 x.f5.length c5, .slice A6 x.f6.length c6] 39) := ⟨_, rfl⟩
 have hb2 : Below w.heap.size w W2 := by rw [hW2]; exact q50 (q50 (Below.refl _ _) _) _
 have hg2 : W2.heap[w.heap.size + 1]? = some (.cells #[.slice A5 x.f5.length c5, .slice A6 x.f6.length c6] 39 (0, 0)) := by
  rw [hW2, show w.heap.size + 1 = (w.alloc (.cells #[.string x.f0, .int .i64 x.f1, .string x.f2, .bool x.f3, .int .i64 x.f4, .slice A5 x.f5.length c5, .slice A6 x.f6.length c6] 41)).heap.size by simp]
  exact heap_alloc_new _ _
 have hcat : catS (fun i => if i = 0 then r5 else r6) 2 = r5 ++ r6 := by simp [catS]
 have htot : totS (fun k => ((fun i => if i = 0 then r5 else r6) k).length) 2 ≤ 1000000 := by simp [totS]; omega
 have hcc := concatS_call W2 ⟨w.heap.size + 1, 0, none⟩ 2 (fun i => if i = 0 then A5 else A6) (fun i => if i = 0 then c5 else c6) (fun i => if i = 0 then r5 else r6) (by
  intro i hi
  have : i = 0 ∨ i = 1 := by omega
  rcases this with rfl | rfl
  ·show W2.cell? ⟨w.heap.size + 1, 0, none⟩ = some (.slice A5 r5.length c5)
   rw [hr5]; exact (q56 hg2 0).trans rfl
  ·show W2.cell? ⟨w.heap.size + 1, 1, none⟩ = some (.slice A6 r6.length c6)
   rw [hr6]; exact (q56 hg2 1).trans rfl) (by
  intro i hi
  have : i = 0 ∨ i = 1 := by omega
  rcases this with rfl | rfl
  ·show Kd.C (kRaw 2) W2 A5 r5.length r5
   rw [hr5]; exact Kd.C_below hC5 hb2
  ·show Kd.C (kRaw 2) W2 A6 r6.length r6
   rw [hr6]; exact Kd.C_below hC6 hb2) (by omega) htot
 rw [hcat] at hcc
 have HFIN : Hid (∀ (e : Ending) (w' : World) (v : Value), e = .returned v → Kd.R (kRaw 2) 45 w' W2.heap.size (fun _ => True) v (r5 ++ r6) → Below W2.heap.size W2 w' → ∃ A c, e = .returned (.slice A (x.f5 ++ x.f6).length c) ∧ (x.f5 ++ x.f6).length ≤ c ∧ Kd.C k45 w' A (x.f5 ++ x.f6).length (x.f5 ++ x.f6) ∧ (∀ ad, A = some ad → w.heap.size ≤ ad.block) ∧ Below w.heap.size w w') := Lib.hid (by
  intro e w' v he hR hb
  obtain ⟨A, c, rfl⟩ := Kd.R_slice hR
  have hlen : (r5 ++ r6).length = (x.f5 ++ x.f6).length := by rw [List.length_append, List.length_append, hr5, hr6]
  have hrd := Kd.R_reads' hR
  have hbw := q53 hb2 hb2.size hb
  rw [hlen] at he hrd
  refine ⟨A, c, he, hrd.2.1, raw_C hrd.2.2 rfl ?_, fun ad e => ?_, hbw⟩
  ·intro j p hj
   rw [List.getElem?_append] at hj
   rw [List.getElem?_append, hr5]
   split at hj
   ·rename_i hlt
    rw [if_pos hlt]
    obtain ⟨cs, h1, h2⟩ := hK5 j p hj
    exact ⟨cs, h1, (k45).K_below hbw h2⟩
   ·rename_i hlt
    rw [if_neg hlt]
    obtain ⟨cs, h1, h2⟩ := hK6 (j - x.f5.length) p hj
    exact ⟨cs, h1, (k45).K_below hbw h2⟩
  ·subst e
   have := Kd.R_base hR ad.block (by simp [Value.ownBlock])
   exact Nat.le_trans hb2.size this)
 have HW2 := Lib.hid hW2
 obtain ⟨n5, hn5⟩ : ∃ n5, n5 = x.f5.length := ⟨_, rfl⟩
 obtain ⟨n6, hn6⟩ : ∃ n6, n6 = x.f6.length := ⟨_, rfl⟩
 rw [← hn5, ← hn6] at HW2 ⊢
 clear h5 h6 hl hr5 hC5 hK5 hr6 hC6 hK6 hW2 hb2 hg2 hcat htot hn5 hn6
 go_enter Try.func64, Try.ntmps64
 go_wp2_with fail
 rw [← HW2.out]
 refine hcc.mono ?_
 rintro e w' ⟨v, rfl, hR, hb⟩
 have HF := Lib.hid (HFIN.out _ w' v rfl hR hb)
 clear hcc hR hb
 go_wp2
 go_ret
 exact HF.out
def onsN (ss : List (S45)) : Nat := (ss.map (fun s => s.f0.length)).sum
def marksN (l : List (S41)) (i : Nat) : Nat := 4 * l.length + ((l.take i).map (fun x => onsN (x.f5 ++ x.f6))).sum
def sentsN (l : List (S41)) (i : Nat) : Nat := ((l.take i).map (fun x => (x.f5 ++ x.f6).length)).sum
theorem take_sum {α : Type} (f : α → Nat) (l : List α) (i : Nat) (hi : i < l.length) : ((l.take (i + 1)).map f).sum = ((l.take i).map f).sum + f l[i] := by
 rw [List.take_succ_eq_append_getElem hi, List.map_append, List.sum_append]
 simp
theorem take_sum_le {α : Type} (f : α → Nat) (k : Nat) (l : List α) (h : ∀ x ∈ l, f x ≤ k) (i : Nat) : ((l.take i).map f).sum ≤ k * i := by
  induction i with
  | zero => simp
  | succ i ih =>
    by_cases hi : i < l.length
    · rw [take_sum f l i hi]
      have := h l[i] (List.getElem_mem hi)
      rw [Nat.mul_succ]
      omega
    · have e : l.take (i + 1) = l.take i := by rw [List.take_of_length_le (by omega), List.take_of_length_le (by omega)]
      rw [e, Nat.mul_succ]
      omega
theorem onsN_take (ss : List (S45)) (q : Nat) (hq : q < ss.length) : onsN (ss.take (q + 1)) = onsN (ss.take q) + ss[q].f0.length := take_sum _ ss q hq
theorem marksN_succ (l : List (S41)) (i : Nat) (hi : i < l.length) : marksN l (i + 1) = marksN l i + onsN (l[i].f5 ++ l[i].f6) := by unfold marksN; rw [take_sum _ l i hi]; omega
theorem sentsN_succ (l : List (S41)) (i : Nat) (hi : i < l.length) : sentsN l (i + 1) = sentsN l i + (l[i].f5 ++ l[i].f6).length := take_sum _ l i hi
section
variable {l : List (S41)} (hw : ∀ x ∈ l, (x.f5 ++ x.f6).length ≤ 6 ∧ ∀ s ∈ x.f5 ++ x.f6, s.f0.length ≤ 3 ∧ s.f1.length ≤ 2)
include hw
theorem onsN_le (x : S41) (hx : x ∈ l) (q : Nat) : onsN ((x.f5 ++ x.f6).take q) ≤ 18 := by
 have h := hw x hx
 have h1 := take_sum_le (fun s : S45 => s.f0.length) 3 (x.f5 ++ x.f6) (fun s hs => (h.2 s hs).1) (min q 6)
 have e : (x.f5 ++ x.f6).take q = (x.f5 ++ x.f6).take (min q 6) := by
  rcases Nat.le_total q 6 with h' | h'
  ·rw [Nat.min_eq_left h']
  ·rw [Nat.min_eq_right h', List.take_of_length_le (by omega), List.take_of_length_le (by omega)]
 show ((((x.f5 ++ x.f6).take q).map (fun s => s.f0.length)).sum) ≤ 18
 rw [e]
 omega
theorem marksN_le (hl : l.length ≤ 1000) (i : Nat) (hi : i ≤ l.length) : marksN l i ≤ 22000 := by
 have h1 := take_sum_le (fun x : S41 => onsN (x.f5 ++ x.f6)) 18 l (fun x hx => by
  have := onsN_le hw x hx (x.f5 ++ x.f6).length
  rwa [List.take_length] at this) i
 unfold marksN
 omega
theorem sentsN_le (hl : l.length ≤ 1000) (i : Nat) (hi : i ≤ l.length) : sentsN l i ≤ 6000 := by
 have h1 := take_sum_le (fun x : S41 => (x.f5 ++ x.f6).length) 6 l (fun x hx => (hw x hx).1) i
 unfold sentsN
 omega
end
set_option maxHeartbeats 8000000 in
set_option maxRecDepth 100000 in
theorem mark_any (c : Mc) (w0 w : World) (g : Nat) (i : Nat) (hG : Mg c w g) (hm : Mm c w0) (hb : Below w0.heap.size w0 w) (hi : i ≤ c.l.length) :
 Calls Try.prog 25 #[.pointer (some ⟨g, 0, none⟩), .int .i64 i] w fun e w' => e = .returned (.int .i64 (marksN c.l i : Nat)) ∧ Below w.heap.size w w' := by
 have hu25 := Try.underlying25
 have hu58 := Try.underlying58
 have hu41 := Try.underlying41
 have hu45 := Try.underlying45
 have hml := hm.2.2.2.2.1
 have hcc := hm.2.2.2.1
 have hw := hm.2.2.2.2.2.2
 have hCC := (hm.at hb).2
 obtain ⟨vr, vc, vu, hg⟩ := hG
 have hcz1 : w.cell? ⟨g, 1, none⟩ = some (.slice c.A1 c.l.length c.c1) := (q56 hg 1).trans rfl
 obtain ⟨l, hl⟩ : ∃ l, l = c.l := ⟨_, rfl⟩
 rw [← hl] at hml hcc hw hCC hcz1 hi ⊢
 obtain ⟨A1, hA1⟩ : ∃ A1, A1 = c.A1 := ⟨_, rfl⟩
 rw [← hA1] at hCC hcz1
 obtain ⟨i0, hi0, hz0, hz1, hz2⟩ := info_parts iItem_
 have k1 := cut_to (P := Try.prog) 23 41 .i64 Try.underlying23 hi0 A1 l.length c.c1 (i : Int) (by omega) (by omega) hcc
 rw [Int.toNat_natCast] at k1
 obtain ⟨n, hn⟩ : ∃ n, n = l.length := ⟨_, rfl⟩
 have HN := Lib.hid hn
 have HC := Lib.hid hCC
 have HW := Lib.hid hw
 rw [← hn] at hcz1 k1 hi hml
 have HM0 : Hid (4 * (n : Int) = ((marksN l 0 : Nat) : Int)) := Lib.hid (by unfold marksN; simp; omega)
 have hzi : (i : Int) ≤ (n : Int) := by omega
 clear hm hb hg hCC hw hl hi0 hz0 hz1 hz2 hn hcc hA1
 go_enter Try.func25, Try.ntmps25
 go_wp2
 go_loopg [5, 25] i (fun gg s5 s25 wr => ∃ j : Nat, s25 = .int .i64 j ∧ s5 = .int .i64 (marksN l j : Nat) ∧ j ≤ i ∧ i - j ≤ gg ∧ Hid (Below w.heap.size w wr))
 case atStart => exact ⟨0, rfl, by rw [← HM0.out], Nat.zero_le _, by omega, Lib.hid (Below.refl _ _)⟩
 case round =>
  obtain ⟨j, rfl, rfl, hji, hjg, Y⟩ := hrel
  obtain ⟨wO, rfl⟩ : ∃ wO, wO = wr := ⟨_, rfl⟩
  by_cases hlt : j < i
  case neg =>
   obtain rfl : j = i := by omega
   have hltz : ¬ (j : Int) < (j : Int) := by omega
   obtain ⟨mj, hmj⟩ : ∃ mj, mj = marksN l j := ⟨_, rfl⟩
   have HMJ := Lib.hid hmj
   rw [← hmj]
   clear hmj
   go_wp2
   go_ret
   exact ⟨by rw [← HMJ.out]; rfl, Y.out⟩
  have hjl : j < l.length := by have := HN.out; omega
  have hltz : (j : Int) < (i : Int) := by omega
  obtain ⟨ad, A5, c5, A6, c6, e, x0, x1, x2, x3, x4, x5, x6, l5, g5, l6, g6⟩ := at_T41 (Kd.C_below HC.out Y.out) (j : Int) (by omega) (by omega)
  simp only [Int.toNat_natCast] at x0 x1 x2 x3 x4 x5 x6
  obtain ⟨x, hx⟩ : ∃ x, x = q74 l (j : Int) := ⟨_, rfl⟩
  have hxl : x = l[j] := by rw [hx]; simp [q74, List.getD_eq_getElem?_getD, List.getElem?_eq_getElem hjl]
  rw [← hx] at x0 x1 x2 x3 x4 x5 x6 g5 g6
  have hwx := HW.out x (by rw [hxl]; exact List.getElem_mem hjl)
  have hms : marksN l (j + 1) = marksN l j + onsN (x.f5 ++ x.f6) := by rw [hxl]; exact marksN_succ l j hjl
  have hmj := marksN_le HW.out (by have := HN.out; omega) j (by omega)
  have hon := onsN_le HW.out x (by rw [hxl]; exact List.getElem_mem hjl)
  have hll : x.f5.length + x.f6.length ≤ 1000 := by have := hwx.1; rw [List.length_append] at this; omega
  obtain ⟨W2, hW2⟩ : ∃ W2, W2 = wO.alloc (.cells #[.string x.f0, .int .i64 x.f1, .string x.f2, .bool x.f3, .int .i64 x.f4, .slice A5 x.f5.length c5, .slice A6 x.f6.length c6] 41) := ⟨_, rfl⟩
  have hb2 : Below wO.heap.size wO W2 := by rw [hW2]; exact q50 (Below.refl _ _) _
  have hse := sentries_call x A5 c5 A6 c6 W2 (Kd.C_below g5 hb2) (Kd.C_below g6 hb2) hll
  cases e
  obtain ⟨ss, hss⟩ : ∃ ss, ss = x.f5 ++ x.f6 := ⟨_, rfl⟩
  have hm6 := hwx.1
  rw [← hss] at hse hms hon hm6
  obtain ⟨m, hm⟩ : ∃ m, m = ss.length := ⟨_, rfl⟩
  rw [← hm] at hm6
  rw [← hm] at hse
  obtain ⟨mj, hmjj⟩ : ∃ mj, mj = marksN l j := ⟨_, rfl⟩
  rw [← hmjj] at hms hmj ⊢
  obtain ⟨n5, hn5⟩ : ∃ n5, n5 = x.f5.length := ⟨_, rfl⟩
  obtain ⟨n6, hn6⟩ : ∃ n6, n6 = x.f6.length := ⟨_, rfl⟩
  rw [← hn5] at x5 hW2 hse
  rw [← hn6] at x6 hW2 hse
  have HW2 := Lib.hid hW2
  have HM := Lib.hid hm
  have HMS := Lib.hid hms
  have HON := Lib.hid hon
  have HB2 := Lib.hid (q53 Y.out Y.out.size hb2)
  clear Y hx hxl hwx hll hW2 hb2 hss hm hmjj hn5 hn6 l5 l6 g5 g6 hms hon
  go_wp2_with fail
  rw [← HW2.out]
  refine hse.mono ?_
  rintro e w3 ⟨A7, c7, rfl, hc7, hC7, -, hb3⟩
  have HC7 := Lib.hid hC7
  have HB3 := Lib.hid (q53 HB2.out HB2.out.size hb3)
  clear hse hC7 hb3 x0 x1 x2 x3 x4 x5 x6
  go_wp2
  go_loopg [5, 32] m (fun gg s5 s32 wq => ∃ q : Nat, s32 = .int .i64 q ∧ s5 = .int .i64 ((mj + onsN (ss.take q) : Nat) : Int) ∧ q ≤ m ∧ m - q ≤ gg ∧ Hid (Below w3.heap.size w3 wq))
  case atStart => exact ⟨0, rfl, by simp [onsN], Nat.zero_le _, by omega, Lib.hid (Below.refl _ _)⟩
  case round =>
   obtain ⟨q, rfl, rfl, hqm, hqg, Z⟩ := hrel
   obtain ⟨wq, rfl⟩ : ∃ wq, wq = wr := ⟨_, rfl⟩
   by_cases hlq : q < m
   case neg =>
    obtain rfl : q = m := by omega
    have hlz : ¬ (q : Int) < (q : Int) := by omega
    have HE : Hid (mj + onsN (ss.take q) = marksN l (j + 1)) := Lib.hid (by rw [HMS.out, List.take_of_length_le (by have := HM.out; omega)])
    have HBZ := Lib.hid (q53 HB3.out HB3.out.size Z.out)
    rw [HE.out]
    go_wp2
    go_roundg (i - (j + 1))
    case measure => omega
    case rel => exact ⟨j + 1, by go_num, rfl, by omega, Nat.le_refl _, HBZ⟩
   have hlz : (q : Int) < (m : Int) := by omega
   have hqs : q < ss.length := by have := HM.out; omega
   obtain ⟨ad2, A8, c8, A9, c9, e2, y0, y1, -⟩ := at_T45 (Kd.C_below HC7.out Z.out) (q : Int) (by omega) (by omega)
   simp only [Int.toNat_natCast] at y0 y1
   have hsq : q75 ss (q : Int) = ss[q] := by simp [q75, List.getD_eq_getElem?_getD, List.getElem?_eq_getElem hqs]
   rw [hsq] at y0 y1
   have hts := onsN_take ss q hqs
   have ho1 := HON.out q
   have ho2 := HON.out (q + 1)
   obtain ⟨nq, hnq⟩ : ∃ nq, nq = ss[q].f0.length := ⟨_, rfl⟩
   obtain ⟨nr, hnr⟩ : ∃ nr, nr = ss[q].f1.length := ⟨_, rfl⟩
   rw [← hnq] at y0 hts
   rw [← hnr] at y1
   obtain ⟨t, ht⟩ : ∃ t, t = mj + onsN (ss.take q) := ⟨_, rfl⟩
   have HT : Hid (mj + onsN (ss.take (q + 1)) = t + nq) := Lib.hid (by rw [hts, ht]; omega)
   have ht1 : t + nq ≤ 30000 := by rw [ht]; omega
   rw [← ht]
   cases e2
   have HZ := Lib.hid (q50 Z.out (.cells #[.slice A8 nq c8, .slice A9 nr c9] 45))
   clear Z hsq hts hnq hnr ht
   go_wp2
   go_roundg (m - (q + 1))
   case measure => omega
   case rel => exact ⟨q + 1, by go_num, by rw [HT.out]; go_num, by omega, Nat.le_refl _, HZ⟩
set_option maxHeartbeats 8000000 in
set_option maxRecDepth 100000 in
theorem sent_any (c : Mc) (w0 w : World) (g : Nat) (i : Nat) (hG : Mg c w g) (hm : Mm c w0) (hb : Below w0.heap.size w0 w) (hi : i ≤ c.l.length) :
 Calls Try.prog 26 #[.pointer (some ⟨g, 0, none⟩), .int .i64 i] w fun e w' => e = .returned (.int .i64 (c.la + 6 * (c.l.length : Int) + (sentsN c.l i : Nat))) ∧ Below w.heap.size w w' := by
 have hu25 := Try.underlying25
 have hu32 := Try.underlying32
 have hu58 := Try.underlying58
 have hu41 := Try.underlying41
 have hml := hm.2.2.2.2.1
 have hcc := hm.2.2.2.1
 obtain ⟨hla, hw⟩ := hm.2.2.2.2.2
 have hCC := (hm.at hb).2
 obtain ⟨vr, vc, vu, hg⟩ := hG
 have hcz1 : w.cell? ⟨g, 1, none⟩ = some (.slice c.A1 c.l.length c.c1) := (q56 hg 1).trans rfl
 have hcz3 : w.cell? ⟨g, 3, none⟩ = some (.int .i64 c.la) := (q56 hg 3).trans rfl
 obtain ⟨l, hl⟩ : ∃ l, l = c.l := ⟨_, rfl⟩
 rw [← hl] at hml hcc hw hCC hcz1 hi ⊢
 obtain ⟨A1, hA1⟩ : ∃ A1, A1 = c.A1 := ⟨_, rfl⟩
 rw [← hA1] at hCC hcz1
 obtain ⟨la, hla'⟩ : ∃ la, la = c.la := ⟨_, rfl⟩
 rw [← hla'] at hla hcz3 ⊢
 obtain ⟨i0, hi0, hz0, hz1, hz2⟩ := info_parts iItem_
 have k1 := cut_to (P := Try.prog) 23 41 .i64 Try.underlying23 hi0 A1 l.length c.c1 (i : Int) (by omega) (by omega) hcc
 rw [Int.toNat_natCast] at k1
 obtain ⟨n, hn⟩ : ∃ n, n = l.length := ⟨_, rfl⟩
 have HN := Lib.hid hn
 have HC := Lib.hid hCC
 have HW := Lib.hid hw
 rw [← hn] at hcz1 k1 hi hml ⊢
 have hzi : (i : Int) ≤ (n : Int) := by omega
 clear hm hb hg hCC hw hl hi0 hz0 hz1 hz2 hn hcc hA1 hla'
 go_enter Try.func26, Try.ntmps26
 go_wp2
 have hS : w.cell? ⟨g, 1, none⟩ = some (.slice A1 n c.c1) ∧ w.cell? ⟨g, 3, none⟩ = some (.int .i64 la) := ⟨hcz1, hcz3⟩
 refine st_ (fun w' => w'.cell? ⟨g, 1, none⟩ = some (.slice A1 n c.c1) ∧ w'.cell? ⟨g, 3, none⟩ = some (.int .i64 la)) 14 hS (fun hHeld => ?_)
 refine pu_ 0 (some 8) ?_
 refine pu_ 1 (some 9) ?_
 refine pu_ 2 (some 10) ?_
 refine pu_ 3 (some 11) ?_
 refine tk_ 4 (some 12) hHeld ?_ (hy := by rintro w' ⟨s0, s1⟩; go_simp; with_reducible rfl)
 refine pu_ 5 (some 13) ?_
 refine pu_ 6 (some 14) ?_
 refine pu_ 7 (some 15) ?_
 refine pu_ 8 (some 16) ?_
 refine tk_ 9 (some 17) hHeld ?_ (hy := by rintro w' ⟨s0, s1⟩; go_simp; with_reducible rfl)
 refine pu_ 10 (some 18) ?_
 refine pu_ 11 (some 19) ?_
 refine pu_ 12 (some 20) ?_
 refine pu_ 13 (some 5) ?_
 refine dn_ ?_
 have HBD := Lib.hid (q51 (Below.refl w.heap.size w))
 obtain ⟨hcz1, hcz3⟩ := hHeld
 generalize w.drew = wD at HBD hcz1 hcz3 ⊢
 go_wp2
 have HL0 : Hid (wrap64 (la + wrap64 (6 * (n : Int))) = la + 6 * (n : Int) + ((sentsN l 0 : Nat) : Int)) := Lib.hid (by unfold sentsN wrap64; simp; omega)
 go_loopg [5, 29] i (fun gg s5 s29 wr => ∃ j : Nat, s29 = .int .i64 j ∧ s5 = .int .i64 (la + 6 * (n : Int) + ((sentsN l j : Nat) : Int)) ∧ j ≤ i ∧ i - j ≤ gg ∧ Hid (Below w.heap.size w wr))
 case atStart => exact ⟨0, rfl, by rw [HL0.out], Nat.zero_le _, by omega, HBD⟩
 case round =>
  obtain ⟨j, rfl, rfl, hji, hjg, Y⟩ := hrel
  obtain ⟨wO, rfl⟩ : ∃ wO, wO = wr := ⟨_, rfl⟩
  by_cases hlt : j < i
  case neg =>
   obtain rfl : j = i := by omega
   have hltz : ¬ (j : Int) < (j : Int) := by omega
   obtain ⟨mj, hmj⟩ : ∃ mj : Int, mj = la + 6 * (n : Int) + ((sentsN l j : Nat) : Int) := ⟨_, rfl⟩
   have HMJ := Lib.hid hmj
   rw [← hmj]
   clear hmj
   go_wp2
   go_ret
   exact ⟨by rw [← HMJ.out]; rfl, Y.out⟩
  have hjl : j < l.length := by have := HN.out; omega
  have hltz : (j : Int) < (i : Int) := by omega
  obtain ⟨ad, A5, c5, A6, c6, e, x0, x1, x2, x3, x4, x5, x6, l5, g5, l6, g6⟩ := at_T41 (Kd.C_below HC.out Y.out) (j : Int) (by omega) (by omega)
  simp only [Int.toNat_natCast] at x0 x1 x2 x3 x4 x5 x6
  obtain ⟨x, hx⟩ : ∃ x, x = q74 l (j : Int) := ⟨_, rfl⟩
  have hxl : x = l[j] := by rw [hx]; simp [q74, List.getD_eq_getElem?_getD, List.getElem?_eq_getElem hjl]
  rw [← hx] at x0 x1 x2 x3 x4 x5 x6 g5 g6
  have hwx := HW.out x (by rw [hxl]; exact List.getElem_mem hjl)
  have hms : sentsN l (j + 1) = sentsN l j + (x.f5 ++ x.f6).length := by rw [hxl]; exact sentsN_succ l j hjl
  have hmj := sentsN_le HW.out (by have := HN.out; omega) j (by omega)
  have hll : x.f5.length + x.f6.length ≤ 1000 := by have := hwx.1; rw [List.length_append] at this; omega
  obtain ⟨W2, hW2⟩ : ∃ W2, W2 = wO.alloc (.cells #[.string x.f0, .int .i64 x.f1, .string x.f2, .bool x.f3, .int .i64 x.f4, .slice A5 x.f5.length c5, .slice A6 x.f6.length c6] 41) := ⟨_, rfl⟩
  have hb2 : Below wO.heap.size wO W2 := by rw [hW2]; exact q50 (Below.refl _ _) _
  have hse := sentries_call x A5 c5 A6 c6 W2 (Kd.C_below g5 hb2) (Kd.C_below g6 hb2) hll
  cases e
  have hm6 := hwx.1
  obtain ⟨ss, hss⟩ : ∃ ss, ss = x.f5 ++ x.f6 := ⟨_, rfl⟩
  rw [← hss] at hse hms hm6
  obtain ⟨m, hm⟩ : ∃ m, m = ss.length := ⟨_, rfl⟩
  rw [← hm] at hm6 hse hms
  obtain ⟨mj, hmjj⟩ : ∃ mj : Int, mj = la + 6 * (n : Int) + ((sentsN l j : Nat) : Int) := ⟨_, rfl⟩
  have HMS : Hid (la + 6 * (n : Int) + ((sentsN l (j + 1) : Nat) : Int) = mj + (m : Int)) := Lib.hid (by rw [hms, hmjj]; omega)
  have hb0 : 0 ≤ mj + (m : Int) ∧ mj + (m : Int) ≤ 200000 := by rw [hmjj]; omega
  rw [← hmjj]
  obtain ⟨n5, hn5⟩ : ∃ n5, n5 = x.f5.length := ⟨_, rfl⟩
  obtain ⟨n6, hn6⟩ : ∃ n6, n6 = x.f6.length := ⟨_, rfl⟩
  rw [← hn5] at x5 hW2 hse
  rw [← hn6] at x6 hW2 hse
  have HW2 := Lib.hid hW2
  have HB2 := Lib.hid (q53 Y.out Y.out.size hb2)
  clear Y hx hxl hwx hll hW2 hb2 hss hm hmjj hn5 hn6 l5 l6 g5 g6 hms hmj
  go_wp2_with fail
  rw [← HW2.out]
  refine hse.mono ?_
  rintro e w3 ⟨A7, c7, rfl, -, -, -, hb3⟩
  have HB3 := Lib.hid (q53 HB2.out HB2.out.size hb3)
  clear hse hb3 x0 x1 x2 x3 x4 x5 x6
  have hwr : wrap64 (mj + (m : Int)) = mj + (m : Int) := by unfold wrap64; omega
  go_wp2
  go_roundg (i - (j + 1))
  case measure => omega
  case rel => exact ⟨j + 1, by go_num, by rw [HMS.out], by omega, Nat.le_refl _, HB3⟩
def flagF (i s : Int) : Int := 4 * i + s - 1
theorem flag_call (i s : Int) (w : World) (hi : 0 ≤ i ∧ i ≤ 1000) (hs : 0 ≤ s ∧ s ≤ 10) : Calls Try.prog 23 #[.int .i64 i, .int .i64 s] w fun e w' => e = .returned (.int .i64 (flagF i s)) ∧ Below w.heap.size w w' :=
 (q36.calls i s (flagF i s) w (by unfold q36.f flagF wrap64; congr 1; omega)).mono fun e w' h => ⟨h.1, h.2.below⟩
theorem up_call (f : Int) (w : World) : Calls Try.prog 67 #[.int .i64 f] w fun e w' => e = .returned (.agg #[.int .i64 f, .bool false]) ∧ Below w.heap.size w w' := q46.calls f f false w rfl
theorem down_call (f : Int) (w : World) : Calls Try.prog 73 #[.int .i64 f] w fun e w' => e = .returned (.agg #[.int .i64 f, .bool true]) ∧ Below w.heap.size w w' := q38.calls f f true w rfl
theorem ints1_row (W : World) (n : Int) : Kd.C (Kd.int .i64) (W.alloc (.cells #[.int .i64 n] 3)) (some ⟨W.heap.size, 0, none⟩) 1 [n] := by
 have h : Kd.R (Kd.int .i64) 3 (W.alloc (.cells #[.int .i64 n] 3)) W.heap.size (fun _ => True) (.slice (some ⟨W.heap.size, 0, none⟩) 1 1) [n] := Kd.R_of_own (by simpa [encs] using World.ownsRow_lit (base := W.heap.size) (e := 3) (size := 1) W #[.int .i64 n] 1 (Nat.le_refl _) (by decide) (by simp)) (fun _ _ => trivial)
 exact (Kd.R_reads' h).2.2
theorem puts1_call (n : Int) (W : World) : Calls Try.prog 66 #[.slice (some ⟨W.heap.size, 0, none⟩) 1 1] (W.alloc (.cells #[.int .i64 n] 3)) fun e w' => ∃ A c, e = .returned (.slice A 1 c) ∧ Kd.R k111 111 w' (W.heap.size + 1) (fun _ => True) (.slice A 1 c) [⟨n, true⟩] ∧ Below W.heap.size W w' := by
 refine (q41.calls 2 (some ⟨W.heap.size, 0, none⟩) 1 [n] [⟨n, true⟩] (W.alloc (.cells #[.int .i64 n] 3)) (ints1_row W n) (Nat.le_refl _) (by simp [q41.f, q41.l0, rd, wrap64])).mono ?_
 rintro e w' ⟨v, rfl, hR, hb⟩
 obtain ⟨A, c, rfl⟩ := Kd.R_slice hR
 have hb0 := q50 (Below.refl W.heap.size W) (.cells #[.int .i64 n] 3)
 exact ⟨A, c, rfl, by simpa using hR, q53 hb0 hb0.size hb⟩
def litCells : List (S93) → List Value
 | [] => []
 | x :: l => .int .i64 x.f0 :: .bool x.f1 :: litCells l
theorem litCells_len (ls : List (S93)) : (litCells ls).length = ls.length * 2 := by
 induction ls with
 | nil => rfl
 | cons x l ih => simp only [litCells, List.length_cons, ih]; omega
theorem lits_reps (W : World) (base : Nat) (ok : Nat → Prop) (ls : List (S93)) : Reps (Kd.M k93 W base ok) 2 ls (litCells ls) := by
 induction ls with
 | nil => exact Reps.none _ _
 | cons x l ih => exact Reps.c2 (k93_mkM _ _ _ x) ih
theorem lits_row (W : World) (ls : List (S93)) (hn : ls.length ≤ 1000) : Kd.R k93 93 (W.alloc (.cells (litCells ls).toArray 93)) W.heap.size (fun _ => True) (.slice (some ⟨W.heap.size, 0, none⟩) ls.length ls.length) ls := by
 refine ⟨fun _ _ => trivial, litCells ls, ?_, lits_reps _ _ _ ls⟩
 have h2 := World.ownsRow_lit (base := W.heap.size) (e := 93) (size := 2) W (litCells ls).toArray ls.length (Nat.le_refl _) (by simp [maxLen]; omega) (by simp [litCells_len])
 show World.ownsRow _ _ _ 2 _ _ _
 simpa using h2
theorem Mr.rule {c : Mc} {w0 w : World} {g : Nat} {vr : Value} {rs : List (S72)} (hM : Mr c w0 w g vr rs) (st : Int) {A2 : Option Addr} {c2 n2 b2 : Nat} {th : List (S111)} {W : World} {A3 : Option Addr} {c3 n3 b3 : Nat} {ls : List (S93)}
 (hb : Below w.heap.size w W) (h2 : Kd.R k111 111 W b2 (fun _ => True) (.slice A2 n2 c2) th) (hb2 : w.heap.size ≤ b2) (h3 : Kd.R k93 93 W b3 (fun _ => True) (.slice A3 n3 c3) ls) (hb3 : w.heap.size ≤ b3) (hn2 : n2 = th.length) (hn3 : n3 = ls.length) (hlim : rs.length ≤ 100000) :
 Calls Try.prog 69 #[.pointer (some ⟨g, 0, none⟩), .int .i64 st, .slice A2 n2 c2, .slice A3 n3 c3] W (RulePost c w0 w g vr (rs ++ [⟨st, ls, [], th⟩])) := by
 subst hn2 hn3
 have hlt := hM.lt
 have ho : ∀ k, vr.ownBlock = some k → k < w.heap.size := fun k e => Kd.R_lt hM.2.2.2 k e
 refine (rule_any c w0 W g vr rs st A2 c2 th A3 c3 ls (hM.below hb) (Kd.R_lower (Kd.R_mono (Kd.R_bound h2) (fun k hk e => by have := ho k e.symm; have := hk.2.1; omega)) (by omega)) (Kd.R_lower (Kd.R_mono (Kd.R_bound h3) (fun k hk e => by have := ho k e.symm; have := hk.2.1; omega)) (by omega)) hlim).mono ?_
 rintro e w' ⟨rfl, vr', h4, h5⟩
 exact ⟨rfl, vr', h4, (Go_.below Go_.refl hb).then_ h5⟩
def fifthL (c : Mc) (i : Nat) : List (S72) := if (q74 c.l (i : Int)).f1 = 1 then [⟨5, [⟨flagF i 2, false⟩, ⟨passF c.la i 0, true⟩, ⟨passF c.la i 5, true⟩], [], [⟨passF c.la i 3, true⟩]⟩] else []
set_option maxHeartbeats 8000000 in
set_option maxRecDepth 100000 in
theorem fifth_any (c : Mc) (w0 w : World) (g : Nat) (vr : Value) (rs : List (S72)) (i : Nat) (hM : Mr c w0 w g vr rs) (hm : Mm c w0) (hi : i < c.l.length) (hlim : rs.length ≤ 100000) :
 Calls Try.prog 32 #[.pointer (some ⟨g, 0, none⟩), .int .i64 i] w (RulePost c w0 w g vr (rs ++ fifthL c i)) := by
 have hu25 := Try.underlying25
 have hu58 := Try.underlying58
 have hu41 := Try.underlying41
 have hml := hm.2.2.2.2.1
 have hla := hm.2.2.2.2.2.1
 have hcz1 : w.cell? ⟨g, 1, none⟩ = some (.slice c.A1 c.l.length c.c1) := (q56 hM.2.2.1 1).trans rfl
 obtain ⟨ad, A5, c5, A6, c6, e, x0, x1, -⟩ := at_T41 (hm.at hM.1).2 (i : Int) (by omega) (by omega)
 simp only [Int.toNat_natCast] at x1
 rw [e] at hcz1
 obtain ⟨n, hn⟩ : ∃ n, n = c.l.length := ⟨_, rfl⟩
 rw [← hn] at hcz1 hi hml
 have hlt : (i : Int) < (n : Int) := by omega
 have hi3 : 0 ≤ (i : Int) ∧ (i : Int) ≤ 1000 := by omega
 obtain ⟨R, hR⟩ : ∃ R, R = fifthL c i := ⟨_, rfl⟩
 rw [← hR]
 unfold fifthL at hR
 obtain ⟨kd, hk⟩ : ∃ kd, kd = (q74 c.l (i : Int)).f1 := ⟨_, rfl⟩
 rw [← hk] at x1 hR
 have HM := Lib.hid hM
 have HR := Lib.hid hR
 clear hM hm e x0 hn hR hk
 by_cases hk1 : kd = 1
 case neg =>
  have hkb : (kd == 1) = false := beq_eq_false_iff_ne.mpr hk1
  have HN : Hid (R = []) := Lib.hid (by rw [HR.out, if_neg hk1])
  go_enter Try.func32, Try.ntmps32
  go_wp2
  refine bodyPost_end (results_none rfl _ _ _) rfl ?_
  rw [HN.out, List.append_nil]
  exact ⟨rfl, vr, HM.out, Go_.refl⟩
 have HP : Hid (R = [⟨5, [⟨flagF i 2, false⟩, ⟨passF c.la i 0, true⟩, ⟨passF c.la i 5, true⟩], [], [⟨passF c.la i 3, true⟩]⟩]) := Lib.hid (by rw [HR.out, if_pos hk1])
 subst hk1
 have hp := pass_any c w g i 3 HM.out.mg hla hi3 (by decide)
 go_enter Try.func32, Try.ntmps32
 go_wp2_with fail
 refine hp.mono ?_
 rintro e w1 ⟨rfl, rfl⟩
 clear hp x1 hcz1
 go_wp2_with fail
 refine (puts1_call (passF c.la i 3) w1).mono ?_
 rintro e w2 ⟨A2, c2, rfl, hR2, hb2⟩
 have HR2 := Lib.hid hR2
 have HB2 := Lib.hid hb2
 clear hR2 hb2
 go_wp2_with fail
 refine (flag_call i 2 w2 hi3 (by decide)).mono ?_
 rintro e w3 ⟨rfl, hb⟩
 have HR2 := Lib.hid (Kd.R_below HR2.out hb)
 have HB2 := Lib.hid (q53 HB2.out HB2.out.size hb)
 clear hb
 go_wp2_with fail
 refine (up_call (flagF i 2) w3).mono ?_
 rintro e w4 ⟨rfl, hb⟩
 have HR2 := Lib.hid (Kd.R_below HR2.out hb)
 have HB2 := Lib.hid (q53 HB2.out HB2.out.size hb)
 clear hb
 have hp := pass_any c w4 g i 0 (HM.out.below HB2.out).mg hla hi3 (by decide)
 go_wp2_with fail
 refine hp.mono ?_
 rintro e w5 ⟨rfl, rfl⟩
 clear hp
 go_wp2_with fail
 refine (down_call (passF c.la i 0) w5).mono ?_
 rintro e w6 ⟨rfl, hb⟩
 have HR2 := Lib.hid (Kd.R_below HR2.out hb)
 have HB2 := Lib.hid (q53 HB2.out HB2.out.size hb)
 clear hb
 have hp := pass_any c w6 g i 5 (HM.out.below HB2.out).mg hla hi3 (by decide)
 go_wp2_with fail
 refine hp.mono ?_
 rintro e w7 ⟨rfl, rfl⟩
 clear hp
 go_wp2_with fail
 refine (down_call (passF c.la i 5) w7).mono ?_
 rintro e w8 ⟨rfl, hb⟩
 have HR2 := Lib.hid (Kd.R_below HR2.out hb)
 have HB2 := Lib.hid (q53 HB2.out HB2.out.size hb)
 clear hb
 have hlit := lits_row w8 [⟨flagF i 2, false⟩, ⟨passF c.la i 0, true⟩, ⟨passF c.la i 5, true⟩] (by simp)
 have hb8 := q50 HB2.out (.cells (litCells [⟨flagF i 2, false⟩, ⟨passF c.la i 0, true⟩, ⟨passF c.la i 5, true⟩]).toArray 93)
 have hru := HM.out.rule 5 hb8 (Kd.R_alloc HR2.out _) (Nat.le_succ _) hlit HB2.out.size rfl rfl hlim
 go_wp2_with fail
 refine hru.mono ?_
 rintro e w9 ⟨rfl, vr', h1, h2⟩
 have HF := Lib.hid (And.intro h1 h2)
 clear hlit hb8 hru h1 h2
 go_wp2
 refine bodyPost_end (results_none rfl _ _ _) rfl ?_
 rw [HP.out]
 exact ⟨rfl, vr', HF.out.1, HF.out.2⟩
def q37.l0 : Nat → ByteArray → List Int → List (S41) → Int → Int → Option (List Int)
 | 0, _, _, _, _, _ => none
 | k + 1, x1, x5, x9, x10, x11 => if x11 < x10 then (if 0 ≤ x11 then (if x11 < (x9.length : Int) then (if ((q74 x9 x11).f2).toList = x1.toList then (if x5.length < 17592186044416 then (q37.l0 k x1 (x5 ++ [x11]) x9 x10 (wrap64 (x11 + 1))) else (none)) else (q37.l0 k x1 x5 x9 x10 (wrap64 (x11 + 1)))) else (none)) else (none)) else (some x5)
def q37.f (k : Nat) (l0_0 : List ByteArray) (l0_1 : List (S41)) (a1 : ByteArray) : Option (List Int) := q37.l0 k a1 ([] : List Int) l0_1 (l0_1.length : Int) 0
theorem q37.mono_l : ∀ k, (∀ y0 y1 y2 y3 y4, LeO (q37.l0 k y0 y1 y2 y3 y4) (q37.l0 (k + 1) y0 y1 y2 y3 y4))
 | 0 => fun _ _ _ _ _ r h => by simp [q37.l0] at h
 | k + 1 => by
  have ih0 := q37.mono_l k
  ·intro y0 y1 y2 y3 y4
   unfold q37.l0
   repeat' first
   | (with_reducible exact ih0 _ _ _ _ _)
   | (with_reducible exact LeO.refl _)
   | (with_reducible exact LeO.none _)
   | (with_reducible refine LeO.ite ?_ ?_)
   | (with_reducible refine LeO.bind ?_ (fun _ => ?_))
   | exact ih0 _ _ _ _ _
   | exact LeO.none _
   | refine LeO.ite ?_ ?_
   | refine LeO.bind ?_ (fun _ => ?_)
theorem q37.mono : ∀ a0 a1 a2 k, LeO (q37.f k a0 a1 a2) (q37.f (k + 1) a0 a1 a2) := by
 intro a0 a1 a2 k
 have ih0 := q37.mono_l k
 unfold q37.f
 repeat' first
  | (with_reducible exact ih0 _ _ _ _ _)
  | (with_reducible exact LeO.refl _)
  | (with_reducible exact LeO.none _)
  | (with_reducible refine LeO.ite ?_ ?_)
  | (with_reducible refine LeO.bind ?_ (fun _ => ?_))
  | exact ih0 _ _ _ _ _
  | exact LeO.none _
  | refine LeO.ite ?_ ?_
  | refine LeO.bind ?_ (fun _ => ?_)
set_option maxHeartbeats 8000000 in
set_option maxRecDepth 100000 in
theorem q37.calls (k : Nat) (A0_0 : Option Addr) (c0_0 : Nat) (l0_0 : List ByteArray) (A0_1 : Option Addr) (c0_1 : Nat) (l0_1 : List (S41)) (a1 : ByteArray) (r : List Int) (w : World) (hr0_0 : Kd.C Kd.string w A0_0 l0_0.length l0_0) (hc0_0 : l0_0.length ≤ c0_0) (hr0_1 : Kd.C k41 w A0_1 l0_1.length l0_1) (hc0_1 : l0_1.length ≤ c0_1) (h : q37.f k l0_0 l0_1 a1 = some r) :
 Calls Try.prog 71 #[.agg #[.slice A0_0 l0_0.length c0_0, .slice A0_1 l0_1.length c0_1], .string a1] w fun e w' => ∃ v0_ : Value, e = .returned (v0_) ∧ Kd.R (Kd.int .i64) 3 w' w.heap.size (fun _ => True) v0_ r ∧ Below w.heap.size w w' := by
 have hu25 := Try.underlying25
 have hu41 := Try.underlying41
 have HR0_0 := q49.mk hr0_0
 have HC0_0 := q49.mk hc0_0
 clear hr0_0 hc0_0
 have HR0_1 := q49.mk hr0_1
 have HC0_1 := q49.mk hc0_1
 clear hr0_1 hc0_1
 have HB := q49.mk (Below.refl w.heap.size w)
 have H : (q37.l0 k a1 ([] : List Int) l0_1 (l0_1.length : Int) 0) = some r := h
 clear h
 have H' := q49.mk H
 clear H
 go_enter Try.func71, Try.ntmps71
 go_wp2_with (first | ((with_reducible refine q64 (N := 2) rfl ?_); refine bx_ 2 #[.slice A0_0 l0_0.length c0_0, .slice A0_1 l0_1.length c0_1] 25 ?_; intro gb302 hg w3 hbox hb; have BK302 := q49.mk (hbox); have GW302 := zz_ (w := w) hg; have GE302 := zz_ (w := w) hg; replace HB := hb_ HB hb;  clear hb hbox hg; obtain ⟨hcz4_0, hcz4_1, hfz4_0, hfz4_1⟩ := bs2_ BK302))
 go_loopg [5, 11] k (fun kq v5 v11 w' => ∃ (x5_1 : List Int) (x11_1 : Int), v11 = .int .i64 x11_1 ∧ q49 (q37.l0 kq a1 x5_1 l0_1 (l0_1.length : Int) x11_1 = some r) ∧ q49 (kq ≤ k) ∧ q49 (Kd.R (Kd.int .i64) 3 w' w.heap.size (fun _ => True) v5 x5_1) ∧ q49 (w'.heap[gb302]? = some (.cells #[(.slice A0_0 l0_0.length c0_0), (.slice A0_1 l0_1.length c0_1)] 25 (0, 0))) ∧ q49 (Below w.heap.size w w'))
 case atStart => exact ⟨(([] : List Int)), (0), rf_, H', ⟨Nat.le_refl _⟩, ⟨by first | exact Kd.R_nil _ _ _ _ _ | exact Kd.N_nil _ _ _ _ _ | exact Kd.V_nil _ _ _ _ _ | exact Kd.Q_nil _ _ _ _ _ | exact Kd.S_nil _ _ _ _ _⟩, ⟨gx_ BK302⟩, ⟨hf_⟩⟩
 case round =>
  clear H'
  (try clear hcz4_0); (try clear hcz4_1); (try clear hfz4_0); (try clear hfz4_1)
  obtain ⟨x5_1, x11_1, rfl, HA, HK1, HO_5, BK302, HB⟩ := hrel
  cases gk with
  | zero => exact absurd HA.out (by simp [q37.l0])
  | succ k1 =>
   have H := HA.out
   clear HA
   simp only [q37.l0] at H
   by_cases c5 : x11_1 < (l0_1.length : Int)
   ·rw [if_pos c5] at H
    replace c5 := decide_eq_true c5
    by_cases c6 : 0 ≤ x11_1
    ·rw [if_pos c6] at H
     replace c6 := decide_eq_true c6
     by_cases c7 : x11_1 < (l0_1.length : Int)
     ·rw [if_pos c7] at H
      replace c7 := decide_eq_true c7
      by_cases c8 : ((q74 l0_1 x11_1).f2).toList = a1.toList
      ·rw [if_pos c8] at H
       have c8b0 : (((q74 l0_1 x11_1).f2).toList == a1.toList) = true := beq_iff_eq.mpr c8
       have c8b1 : (((q74 l0_1 x11_1).f2).toList != a1.toList) = false := bne_eq_false_iff_eq.mpr c8
       clear c8
       by_cases c9 : x5_1.length < 17592186044416
       ·rw [if_pos c9] at H
        have LMc9 := q49.mk c9
        clear c9
        obtain ⟨y305, hy305⟩ : ∃ y_ : List Int, y_ = (x5_1 ++ [x11_1]) := ⟨_, rfl⟩
        rw [← hy305] at H
        have Ny305 := q49.mk hy305
        clear hy305
        have H' := q49.mk H
        clear H
        obtain ⟨ad303, A303_5, c303_5, A303_6, c303_6, e303, hx303_0, hx303_1, hx303_2, hx303_3, hx303_4, hx303_5, hx303_6, HC303_5, HR303_5, HC303_6, HR303_6, p303, q303⟩ := au_T41 HR0_1 HB (x11_1)
        cases e303
        go_wp2_with (first | ((with_reducible refine q64 (N := 7) rfl ?_); refine bx_ 7 #[.string (⟨#[]⟩ : ByteArray), .int .i64 0, .string (⟨#[]⟩ : ByteArray), .bool false, .int .i64 0, .slice none 0 0, .slice none 0 0] 41 ?_; intro gb304 hg w10 hbox hb; replace HO_5 := q49.mk (Kd.R_below (ra_ HO_5.out) hb); have BK304 := q49.mk (hbox); have GW304 := zz_ (w := w) hg; have GE304 := zz_ (w := w) hg; replace HB := hb_ HB hb; have NB302_304 := ne1_ hg BK302; have NB304_302 := ne2_ hg BK302; replace BK302 := bb_ BK302 hb;  clear hb hbox hg; have hnb11 := NB304_302.out; have hnc11 := NB302_304.out; obtain ⟨hcz12_0, hcz12_1, hcz12_2, hcz12_3, hcz12_4, hcz12_5, hcz12_6, hfz12_0, hfz12_1, hfz12_2, hfz12_3, hfz12_4, hfz12_5, hfz12_6⟩ := bs7_ BK304) | ((with_reducible refine q62 (b := .append) (xs := #[.tmp 20, .tmp 22]) rfl ?_); at_builtin; refine Kd.R_append (Kd.int .i64) (w0 := w) w.heap.size rfl (.tmp 20) (.tmp 22) 27 3 (.int .i64 0) 8 rfl Try.underlying27 info3 rfl (by decide) (by omega) u5 x5_1 x11_1 [.int .i64 x11_1] (fun _ => True) (fun _ => False) rfl (by first | (go_simp; done) | (go_simp; rfl)) ?aP (fun _ hk => hk.elim) ?aF ?aO ?aB ?aS ?aL ?_; (case aP => exact rfl); (case aB => exact hf_); (case aF => exact (fun _ _ => trivial)); (case aO => exact (ra_ (Kd.R_mono (Kd.R_far (p := ⟨gb304, 6, none⟩) (Kd.R_far (p := ⟨gb304, 5, none⟩) (Kd.R_far (p := ⟨gb304, 4, none⟩) (Kd.R_far (p := ⟨gb304, 3, none⟩) (Kd.R_far (p := ⟨gb304, 2, none⟩) (Kd.R_far (p := ⟨gb304, 1, none⟩) (Kd.R_far (p := ⟨gb304, 0, none⟩) (Kd.R_types HO_5.out BK304.out (by decide)) (fun _ hk => hk.2) (.string ((q74 l0_1 x11_1).f0))) (fun _ hk => hk.2) (.int .i64 ((q74 l0_1 x11_1).f1))) (fun _ hk => hk.2) (.string ((q74 l0_1 x11_1).f2))) (fun _ hk => hk.2) (.bool ((q74 l0_1 x11_1).f3))) (fun _ hk => hk.2) (.int .i64 ((q74 l0_1 x11_1).f4))) (fun _ hk => hk.2) (.slice A303_5 ((q74 l0_1 x11_1).f5).length c303_5)) (fun _ hk => hk.2) (.slice A303_6 ((q74 l0_1 x11_1).f6).length c303_6)) (fun _ hk => trivial)))); (case aS => exact (q52 hf_)); (case aL => have := LMc9.out; omega); intro v306 w13 ho hb hg hat; rw [← Ny305.out] at ho; have n0_ := q49.mk (blk_grown (g := gb302) (o := .cells #[.slice A0_0 l0_0.length c0_0, .slice (some ad303) l0_1.length c0_1] 25 (0, 0)) (by (with_reducible repeat (first | refine q58 ?_ _ | refine q57 ?_ | refine q54 ?_ _)); refine q59 ?_ NB302_304.out _; (with_reducible repeat (first | refine q58 ?_ _ | refine q57 ?_ | refine q54 ?_ _)); refine q59 ?_ NB302_304.out _; (with_reducible repeat (first | refine q58 ?_ _ | refine q57 ?_ | refine q54 ?_ _)); refine q59 ?_ NB302_304.out _; (with_reducible repeat (first | refine q58 ?_ _ | refine q57 ?_ | refine q54 ?_ _)); refine q59 ?_ NB302_304.out _; (with_reducible repeat (first | refine q58 ?_ _ | refine q57 ?_ | refine q54 ?_ _)); refine q59 ?_ NB302_304.out _; (with_reducible repeat (first | refine q58 ?_ _ | refine q57 ?_ | refine q54 ?_ _)); refine q59 ?_ NB302_304.out _; (with_reducible repeat (first | refine q58 ?_ _ | refine q57 ?_ | refine q54 ?_ _)); refine q59 ?_ NB302_304.out _; (with_reducible repeat (first | refine q58 ?_ _ | refine q57 ?_ | refine q54 ?_ _)); exact BK302.out) hg (Kd.R_ne HO_5.out BK302.out (by decide))); have n1_ := q49.mk (blk_grown (g := gb304) (o := .cells #[.string ((q74 l0_1 x11_1).f0), .int .i64 ((q74 l0_1 x11_1).f1), .string ((q74 l0_1 x11_1).f2), .bool ((q74 l0_1 x11_1).f3), .int .i64 ((q74 l0_1 x11_1).f4), .slice A303_5 ((q74 l0_1 x11_1).f5).length c303_5, .slice A303_6 ((q74 l0_1 x11_1).f6).length c303_6] 41 (0, 0)) (by (with_reducible repeat (first | refine q58 ?_ _ | refine q57 ?_ | refine q54 ?_ _)); refine q61 (cs := #[.string ((q74 l0_1 x11_1).f0), .int .i64 ((q74 l0_1 x11_1).f1), .string ((q74 l0_1 x11_1).f2), .bool ((q74 l0_1 x11_1).f3), .int .i64 ((q74 l0_1 x11_1).f4), .slice A303_5 ((q74 l0_1 x11_1).f5).length c303_5, .slice none 0 0]) ?_ 6 _ rfl; (with_reducible repeat (first | refine q58 ?_ _ | refine q57 ?_ | refine q54 ?_ _)); refine q61 (cs := #[.string ((q74 l0_1 x11_1).f0), .int .i64 ((q74 l0_1 x11_1).f1), .string ((q74 l0_1 x11_1).f2), .bool ((q74 l0_1 x11_1).f3), .int .i64 ((q74 l0_1 x11_1).f4), .slice none 0 0, .slice none 0 0]) ?_ 5 _ rfl; (with_reducible repeat (first | refine q58 ?_ _ | refine q57 ?_ | refine q54 ?_ _)); refine q61 (cs := #[.string ((q74 l0_1 x11_1).f0), .int .i64 ((q74 l0_1 x11_1).f1), .string ((q74 l0_1 x11_1).f2), .bool ((q74 l0_1 x11_1).f3), .int .i64 0, .slice none 0 0, .slice none 0 0]) ?_ 4 _ rfl; (with_reducible repeat (first | refine q58 ?_ _ | refine q57 ?_ | refine q54 ?_ _)); refine q61 (cs := #[.string ((q74 l0_1 x11_1).f0), .int .i64 ((q74 l0_1 x11_1).f1), .string ((q74 l0_1 x11_1).f2), .bool false, .int .i64 0, .slice none 0 0, .slice none 0 0]) ?_ 3 _ rfl; (with_reducible repeat (first | refine q58 ?_ _ | refine q57 ?_ | refine q54 ?_ _)); refine q61 (cs := #[.string ((q74 l0_1 x11_1).f0), .int .i64 ((q74 l0_1 x11_1).f1), .string (⟨#[]⟩ : ByteArray), .bool false, .int .i64 0, .slice none 0 0, .slice none 0 0]) ?_ 2 _ rfl; (with_reducible repeat (first | refine q58 ?_ _ | refine q57 ?_ | refine q54 ?_ _)); refine q61 (cs := #[.string ((q74 l0_1 x11_1).f0), .int .i64 0, .string (⟨#[]⟩ : ByteArray), .bool false, .int .i64 0, .slice none 0 0, .slice none 0 0]) ?_ 1 _ rfl; (with_reducible repeat (first | refine q58 ?_ _ | refine q57 ?_ | refine q54 ?_ _)); refine q61 (cs := #[.string (⟨#[]⟩ : ByteArray), .int .i64 0, .string (⟨#[]⟩ : ByteArray), .bool false, .int .i64 0, .slice none 0 0, .slice none 0 0]) ?_ 0 _ rfl; (with_reducible repeat (first | refine q58 ?_ _ | refine q57 ?_ | refine q54 ?_ _)); exact BK304.out) hg (Kd.R_ne HO_5.out BK304.out (by decide))); have n2_ := q49.mk (hb); have n3_ := q49.mk (ho); clear BK302; clear BK304; clear HB; clear HO_5; have BK302 := n0_; have BK304 := n1_; have HB := n2_; have HO307 := n3_; clear n0_ n1_ n2_ n3_; clear ho hb hg hat))
        go_roundg k1
        case measure => have := HK1.out; omega
        case rel => exact ⟨(y305), (wrap64 (x11_1 + 1)), rf_, H', ⟨by have := HK1.out; omega⟩, ⟨ra_ HO307.out⟩, ⟨gx_ BK302⟩, ⟨hf_⟩⟩
       ·rw [if_neg c9] at H
        exact absurd H (by simp)
      ·rw [if_neg c8] at H
       have c8b0 : (((q74 l0_1 x11_1).f2).toList == a1.toList) = false := beq_eq_false_iff_ne.mpr c8
       have c8b1 : (((q74 l0_1 x11_1).f2).toList != a1.toList) = true := bne_iff_ne.mpr c8
       have H' := q49.mk H
       clear H
       obtain ⟨ad303, A303_5, c303_5, A303_6, c303_6, e303, hx303_0, hx303_1, hx303_2, hx303_3, hx303_4, hx303_5, hx303_6, HC303_5, HR303_5, HC303_6, HR303_6, p303, q303⟩ := au_T41 HR0_1 HB (x11_1)
       cases e303
       go_wp2_with (first | ((with_reducible refine q64 (N := 7) rfl ?_); refine bx_ 7 #[.string (⟨#[]⟩ : ByteArray), .int .i64 0, .string (⟨#[]⟩ : ByteArray), .bool false, .int .i64 0, .slice none 0 0, .slice none 0 0] 41 ?_; intro gb304 hg w14 hbox hb; replace HO_5 := q49.mk (Kd.R_below (ra_ HO_5.out) hb); have BK304 := q49.mk (hbox); have GW304 := zz_ (w := w) hg; have GE304 := zz_ (w := w) hg; replace HB := hb_ HB hb; have NB302_304 := ne1_ hg BK302; have NB304_302 := ne2_ hg BK302; replace BK302 := bb_ BK302 hb;  clear hb hbox hg; have hnb15 := NB304_302.out; have hnc15 := NB302_304.out; obtain ⟨hcz16_0, hcz16_1, hcz16_2, hcz16_3, hcz16_4, hcz16_5, hcz16_6, hfz16_0, hfz16_1, hfz16_2, hfz16_3, hfz16_4, hfz16_5, hfz16_6⟩ := bs7_ BK304))
       go_roundg k1
       case measure => have := HK1.out; omega
       case rel => exact ⟨(x5_1), (wrap64 (x11_1 + 1)), rf_, H', ⟨by have := HK1.out; omega⟩, ⟨ra_ (Kd.R_mono (Kd.R_far (p := ⟨gb304, 6, none⟩) (Kd.R_far (p := ⟨gb304, 5, none⟩) (Kd.R_far (p := ⟨gb304, 4, none⟩) (Kd.R_far (p := ⟨gb304, 3, none⟩) (Kd.R_far (p := ⟨gb304, 2, none⟩) (Kd.R_far (p := ⟨gb304, 1, none⟩) (Kd.R_far (p := ⟨gb304, 0, none⟩) (Kd.R_types HO_5.out BK304.out (by decide)) (fun _ hk => hk.2) (.string ((q74 l0_1 x11_1).f0))) (fun _ hk => hk.2) (.int .i64 ((q74 l0_1 x11_1).f1))) (fun _ hk => hk.2) (.string ((q74 l0_1 x11_1).f2))) (fun _ hk => hk.2) (.bool ((q74 l0_1 x11_1).f3))) (fun _ hk => hk.2) (.int .i64 ((q74 l0_1 x11_1).f4))) (fun _ hk => hk.2) (.slice A303_5 ((q74 l0_1 x11_1).f5).length c303_5)) (fun _ hk => hk.2) (.slice A303_6 ((q74 l0_1 x11_1).f6).length c303_6)) (fun _ hk => trivial))⟩, ⟨by (with_reducible repeat (first | refine q58 ?_ _ | refine q57 ?_ | refine q54 ?_ _)); refine q59 ?_ NB302_304.out _; (with_reducible repeat (first | refine q58 ?_ _ | refine q57 ?_ | refine q54 ?_ _)); refine q59 ?_ NB302_304.out _; (with_reducible repeat (first | refine q58 ?_ _ | refine q57 ?_ | refine q54 ?_ _)); refine q59 ?_ NB302_304.out _; (with_reducible repeat (first | refine q58 ?_ _ | refine q57 ?_ | refine q54 ?_ _)); refine q59 ?_ NB302_304.out _; (with_reducible repeat (first | refine q58 ?_ _ | refine q57 ?_ | refine q54 ?_ _)); refine q59 ?_ NB302_304.out _; (with_reducible repeat (first | refine q58 ?_ _ | refine q57 ?_ | refine q54 ?_ _)); refine q59 ?_ NB302_304.out _; (with_reducible repeat (first | refine q58 ?_ _ | refine q57 ?_ | refine q54 ?_ _)); refine q59 ?_ NB302_304.out _; (with_reducible repeat (first | refine q58 ?_ _ | refine q57 ?_ | refine q54 ?_ _)); exact BK302.out⟩, ⟨hf_⟩⟩
     ·rw [if_neg c7] at H
      exact absurd H (by simp)
    ·rw [if_neg c6] at H
     exact absurd H (by simp)
   ·rw [if_neg c5] at H
    replace c5 := decide_eq_false c5
    obtain rfl := Option.some.inj H
    go_wp2
    go_ret
    exact ⟨_, by first | rfl | (simp [errW_none, errW_some] <;> rfl) | (simp [*, errW_none, errW_some] <;> rfl), by (with_reducible repeat (first | apply Kd.R_alloc | apply Kd.R_drewN | apply Kd.R_drew)); exact HO_5.out, by repeat (first | (with_reducible first | exact HB.out | apply q50 | apply q68 | apply q51 | refine below_set ?_ GE302.out) | exact HB.out)⟩
def kidsX (l : List (S41)) (id : ByteArray) : Nat → List Int
 | 0 => []
 | i + 1 => kidsX l id i ++ (if ((q74 l (i : Int)).f2).toList = id.toList then [(i : Int)] else [])
theorem kidsX_len (l : List (S41)) (id : ByteArray) (i : Nat) : (kidsX l id i).length ≤ i := by
 induction i with
 | zero => simp [kidsX]
 | succ i ih => simp only [kidsX, List.length_append]; split <;> simp <;> omega
theorem kidsX_mem (l : List (S41)) (id : ByteArray) (i : Nat) : ∀ k ∈ kidsX l id i, 0 ≤ k ∧ k < i := by
  induction i with
  | zero => intro k hk; simp [kidsX] at hk
  | succ i ih =>
    intro k hk
    simp only [kidsX, List.mem_append] at hk
    rcases hk with hk | hk
    · have := ih k hk; omega
    · split at hk
      · rw [List.mem_singleton.1 hk]; omega
      · cases hk
theorem kids_go (l : List (S41)) (id : ByteArray) (hl : l.length ≤ 1000) (d : Nat) : ∀ (i k : Nat), i + d = l.length → d < k → q37.l0 k id (kidsX l id i) l (l.length : Int) (i : Int) = some (kidsX l id l.length) := by
  induction d with
  | zero =>
    intro i k hi hk
    obtain ⟨k, rfl⟩ : ∃ m, k = m + 1 := ⟨k - 1, by omega⟩
    obtain rfl : i = l.length := by omega
    simp only [q37.l0]
    rw [if_neg (by omega)]
  | succ d ih =>
    intro i k hi hk
    obtain ⟨k, rfl⟩ : ∃ m, k = m + 1 := ⟨k - 1, by omega⟩
    have hlen := kidsX_len l id i
    simp only [q37.l0]
    rw [if_pos (by omega), if_pos (by omega), if_pos (by omega)]
    have hw : wrap64 ((i : Int) + 1) = ((i + 1 : Nat) : Int) := by unfold wrap64; omega
    by_cases h : ((q74 l (i : Int)).f2).toList = id.toList
    · rw [if_pos h, if_pos (by omega), hw]
      have e : kidsX l id i ++ [(i : Int)] = kidsX l id (i + 1) := by simp only [kidsX]; rw [if_pos h]
      rw [e]
      exact ih (i + 1) k (by omega) (by omega)
    · rw [if_neg h, hw]
      have e : kidsX l id i = kidsX l id (i + 1) := by simp only [kidsX]; rw [if_neg h, List.append_nil]
      rw [e]
      exact ih (i + 1) k (by omega) (by omega)
theorem kids_call (c : Mc) (w0 w W : World) (id : ByteArray) (hm : Mm c w0) (hb : Below w0.heap.size w0 W) : Calls Try.prog 71 #[.agg #[.slice c.A0 c.fs.length c.c0, .slice c.A1 c.l.length c.c1], .string id] W fun e w' => ∃ A cc, e = .returned (.slice A (kidsX c.l id c.l.length).length cc) ∧ (kidsX c.l id c.l.length).length ≤ cc ∧ Kd.C (Kd.int .i64) w' A (kidsX c.l id c.l.length).length (kidsX c.l id c.l.length) ∧ (∀ ad, A = some ad → W.heap.size ≤ ad.block ∧ ad.block < w'.heap.size) ∧ Below W.heap.size W w' := by
 refine (q37.calls (c.l.length + 1) c.A0 c.c0 c.fs c.A1 c.c1 c.l id (kidsX c.l id c.l.length) W (hm.at hb).1 hm.2.1 (hm.at hb).2 hm.2.2.2.1 (kids_go c.l id hm.2.2.2.2.1 c.l.length 0 (c.l.length + 1) (by omega) (by omega))).mono ?_
 rintro e w' ⟨v, rfl, hR, hb'⟩
 obtain ⟨A, cc, rfl⟩ := Kd.R_slice hR
 have hrd := Kd.R_reads' hR
 exact ⟨A, cc, rfl, hrd.2.1, hrd.2.2, fun ad e => by subst e; exact ⟨Kd.R_base hR ad.block (by simp [Value.ownBlock]), Kd.R_lt hR ad.block (by simp [Value.ownBlock])⟩, hb'⟩
theorem C_stayX {α : Type} {enc : α → Value} {h1 : ∀ x, (enc x).oneCell' = true} {w w' : World} {A : Option Addr} {n : Nat} {xs : List α} (h : Kd.C (Kd.scalar enc h1) w A n xs) (hb : ∀ ad, A = some ad → w'.heap[ad.block]? = w.heap[ad.block]?) : Kd.C (Kd.scalar enc h1) w' A n xs := by
 obtain ⟨h1, h2, h3⟩ := h
 refine ⟨h1, h2, fun hp => ?_⟩
 obtain ⟨ad, rfl, hc⟩ := h3 hp
 refine ⟨ad, rfl, fun j p hj => ?_⟩
 obtain ⟨c, hl, hK, hcc⟩ := hc j p hj
 refine ⟨c, hl, hK, fun i u hu => ?_⟩
 have := hcc i u hu
 have hblk : ∀ m, (ad.add m).block = ad.block := fun m => by unfold Addr.add; split <;> rfl
 unfold World.cell? at this ⊢
 rw [hblk] at this ⊢
 rw [hb ad rfl]
 exact this
theorem Go_.C_int {g : Nat} {vr vr' : Value} {w w' : World} {A : Option Addr} {n : Nat} {xs : List Int} (h : Go_ g vr vr' w w') (hC : Kd.C (Kd.int .i64) w A n xs) (hA : ∀ ad, A = some ad → ad.block < w.heap.size ∧ ad.block ≠ g ∧ vr.ownBlock ≠ some ad.block) : Kd.C (Kd.int .i64) w' A n xs :=
 C_stayX hC (fun ad e => h.1.2 _ (hA ad e).1 (fun hh => hh.elim (hA ad e).2.1 (hA ad e).2.2))
def fourthR (c : Mc) (i : Nat) (k : Int) : S72 := ⟨4, [⟨flagF i 2, false⟩, ⟨passF c.la k 1, false⟩], [], [⟨passF c.la i 5, true⟩]⟩
def fourthL (c : Mc) (i : Nat) : List (S72) := if (q74 c.l (i : Int)).f1 = 1 then (kidsX c.l (q74 c.l (i : Int)).f0 c.l.length).map (fourthR c i) else []
set_option maxHeartbeats 8000000 in
set_option maxRecDepth 100000 in
theorem fourth_any (c : Mc) (w0 w : World) (g : Nat) (vr : Value) (rs : List (S72)) (i : Nat) (hM : Mr c w0 w g vr rs) (hm : Mm c w0) (hi : i < c.l.length) (hlim : rs.length ≤ 90000) :
 Calls Try.prog 31 #[.pointer (some ⟨g, 0, none⟩), .int .i64 i] w (RulePost c w0 w g vr (rs ++ fourthL c i)) := by
 have hu25 := Try.underlying25
 have hu58 := Try.underlying58
 have hu41 := Try.underlying41
 have hml := hm.2.2.2.2.1
 have hla := hm.2.2.2.2.2.1
 have HMM := Lib.hid hm
 have hcz0 : w.cell? ⟨g, 0, none⟩ = some (.slice c.A0 c.fs.length c.c0) := (q56 hM.2.2.1 0).trans rfl
 have hcz1 : w.cell? ⟨g, 1, none⟩ = some (.slice c.A1 c.l.length c.c1) := (q56 hM.2.2.1 1).trans rfl
 obtain ⟨ad, A5, c5, A6, c6, e, x0, x1, -⟩ := at_T41 (hm.at hM.1).2 (i : Int) (by omega) (by omega)
 simp only [Int.toNat_natCast] at x0 x1
 have hK : ∀ W, Below w.heap.size w W → _ := fun W hb => kids_call c w0 w W (q74 c.l (i : Int)).f0 hm (q53 hM.1 hM.1.size hb)
 obtain ⟨A1, hA1⟩ : ∃ A1, A1 = c.A1 := ⟨_, rfl⟩
 rw [← hA1] at hcz1 hK e
 cases e
 obtain ⟨n, hn⟩ : ∃ n, n = c.l.length := ⟨_, rfl⟩
 obtain ⟨nf, hnf⟩ : ∃ nf, nf = c.fs.length := ⟨_, rfl⟩
 rw [← hnf] at hcz0 hK
 obtain ⟨ks, hks⟩ : ∃ ks, ks = kidsX c.l (q74 c.l (i : Int)).f0 c.l.length := ⟨_, rfl⟩
 have hkl : ks.length ≤ 1000 := by rw [hks]; have := kidsX_len c.l (q74 c.l (i : Int)).f0 c.l.length; omega
 have hkm : ∀ k ∈ ks, 0 ≤ k ∧ k ≤ 1000 := by rw [hks]; intro k hk; have := kidsX_mem _ _ _ k hk; omega
 rw [← hks] at hK
 rw [← hn] at hcz1 hi hml hK
 have hlt : (i : Int) < (n : Int) := by omega
 obtain ⟨R, hR⟩ : ∃ R, R = fourthL c i := ⟨_, rfl⟩
 rw [← hR]
 unfold fourthL at hR
 rw [← hks] at hR
 obtain ⟨kd, hk⟩ : ∃ kd, kd = (q74 c.l (i : Int)).f1 := ⟨_, rfl⟩
 rw [← hk] at x1 hR
 obtain ⟨id, hid⟩ : ∃ id, id = (q74 c.l (i : Int)).f0 := ⟨_, rfl⟩
 rw [← hid] at x0 hK
 have HM := Lib.hid hM
 have HR := Lib.hid hR
 have HK := Lib.hid hK
 have HKM := Lib.hid hkm
 clear hM hm hn hnf hks hR hk hA1 hid hkm hK
 by_cases hk1 : kd = 1
 case neg =>
  have hkb : (kd == 1) = false := beq_eq_false_iff_ne.mpr hk1
  have HN : Hid (R = []) := Lib.hid (by rw [HR.out, if_neg hk1])
  go_enter Try.func31, Try.ntmps31
  go_wp2
  refine bodyPost_ret (results_none rfl _ _ _) rfl ?_
  rw [HN.out, List.append_nil]
  exact ⟨rfl, vr, HM.out, Go_.refl⟩
 have HP : Hid (R = ks.map (fourthR c i)) := Lib.hid (by rw [HR.out, if_pos hk1])
 subst hk1
 have hgw := HM.out.lt
 have howr : ∀ k, vr.ownBlock = some k → k < w.heap.size := fun k e => Kd.R_lt HM.out.2.2.2 k e
 have HOW := Lib.hid howr
 go_enter Try.func31, Try.ntmps31
 go_wp2
 have hS : (w.cell? ⟨g, 0, none⟩ = some (.slice c.A0 nf c.c0) ∧ w.cell? ⟨g, 1, none⟩ = some (.slice (some ad) n c.c1) ∧ w.cell? (ad.add (i * 7)) = some (.string id)) ∧ Below w.heap.size w w.drew := ⟨⟨hcz0, hcz1, x0⟩, q51 (Below.refl _ _)⟩
 refine st_ (fun w' => (w'.cell? ⟨g, 0, none⟩ = some (.slice c.A0 nf c.c0) ∧ w'.cell? ⟨g, 1, none⟩ = some (.slice (some ad) n c.c1) ∧ w'.cell? (ad.add (i * 7)) = some (.string id)) ∧ Below w.heap.size w w') 16 hS (fun hHeld => ?_)
 clear hS hcz0 hcz1 x0 x1 howr
 refine pu_ 0 (some 16) ?_
 refine pu_ 1 (some 17) ?_
 refine pu_ 2 (some 18) ?_
 refine tk_ 3 (some 19) hHeld ?_ (hy := by rintro w' ⟨⟨s0, s1, s2⟩, -⟩; go_simp; with_reducible rfl)
 refine pu_ 4 (some 20) ?_
 refine pu_ 5 (some 21) ?_
 refine pu_ 6 (some 22) ?_
 refine pu_ 7 (some 23) ?_
 refine tk_ 8 (some 24) hHeld ?_ (hy := by rintro w' ⟨⟨s0, s1, s2⟩, -⟩; go_simp; with_reducible rfl)
 refine pu_ 9 (some 25) ?_
 refine pu_ 10 (some 26) ?_
 refine pu_ 11 (some 27) ?_
 refine tk_ 12 (some 28) hHeld ?_ (hy := by rintro w' ⟨⟨s0, s1, s2⟩, -⟩; go_simp; with_reducible rfl)
 refine pu_ 15 (some 31) ?_
 refine ca_ 13 (some 29) Try.func71 #[.agg #[.slice c.A0 nf c.c0, .slice (some ad) n c.c1], .string id] ?_
 refine (HK.out _ hHeld.2).mono ?_
 rintro e w1 ⟨Ak, ck, rfl, hck, hCk, hAk, hb1⟩
 refine ⟨_, rfl, ⟨⟨q66 hb1 hHeld.1.1, q66 hb1 hHeld.1.2.1, q66 hb1 hHeld.1.2.2⟩, q65 hb1 hHeld.2⟩, fun hHeld2 => ⟨_, rfl, nz_ (some 29) ?_⟩⟩
 refine pu_ 14 (some 30) ?_
 refine dn_ ?_
 have HB1 := Lib.hid hHeld2.2
 have HCK := Lib.hid hCk
 have HAK : Hid (∀ ad, Ak = some ad → ad.block < w1.heap.size ∧ ad.block ≠ g ∧ vr.ownBlock ≠ some ad.block) := Lib.hid (fun ad e => by
  have h1 := hAk ad e
  have h2 : w.heap.size ≤ w.drew.heap.size := Nat.le_refl _
  have h3 : w.drew.heap.size = w.heap.size := rfl
  exact ⟨h1.2, by omega, fun e2 => by have := HOW.out _ e2; omega⟩)
 obtain ⟨nk, hnk⟩ : ∃ nk, nk = ks.length := ⟨_, rfl⟩
 have HNK := Lib.hid hnk
 rw [← hnk] at hkl ⊢
 clear hHeld hHeld2 hb1 hAk hCk hck hnk HK
 go_wp2
 go_loopg [31] nk (fun gg s31 wr => ∃ (q : Nat) (vr' : Value), s31 = .int .i64 q ∧ q ≤ nk ∧ nk - q ≤ gg ∧ Hid (Mr c w0 wr g vr' (rs ++ (ks.take q).map (fourthR c i)) ∧ Go_ g vr vr' w wr ∧ Go_ g vr vr' w1 wr))
 case atStart => exact ⟨0, vr, rfl, Nat.zero_le _, by omega, Lib.hid ⟨by simpa using HM.out.below HB1.out, Go_.below Go_.refl HB1.out, Go_.refl⟩⟩
 case round =>
  obtain ⟨q, vq, rfl, hqk, hqg, Y⟩ := hrel
  obtain ⟨wO, rfl⟩ : ∃ wO, wO = wr := ⟨_, rfl⟩
  by_cases hlq : q < nk
  case neg =>
   obtain rfl : q = nk := by omega
   have hlz : ¬ (q : Int) < (q : Int) := by omega
   have HE : Hid ((ks.take q).map (fourthR c i) = R) := Lib.hid (by rw [HP.out, List.take_of_length_le (by have := HNK.out; omega)])
   go_wp2
   refine bodyPost_end (results_none rfl _ _ _) rfl ?_
   exact ⟨rfl, vq, HE.out ▸ Y.out.1, Y.out.2.1⟩
  have hlz : (q : Int) < (nk : Int) := by omega
  have hqs : q < ks.length := by have := HNK.out; omega
  obtain ⟨adk, e, y0⟩ := Kd.at_int (Y.out.2.2.C_int HCK.out HAK.out) (q : Int) (by omega) (by omega)
  cases e
  simp only [Int.toNat_natCast] at y0
  obtain ⟨kv, hkv⟩ : ∃ kv, kv = rd ks (q : Int) := ⟨_, rfl⟩
  have hkq : kv = ks[q] := by rw [hkv]; simp [rd, List.getD_eq_getElem?_getD, List.getElem?_eq_getElem hqs]
  rw [← hkv] at y0
  have hkb := HKM.out kv (by rw [hkq]; exact List.getElem_mem hqs)
  have HTS : Hid ((ks.take (q + 1)).map (fourthR c i) = (ks.take q).map (fourthR c i) ++ [fourthR c i kv]) := Lib.hid (by rw [List.take_succ_eq_append_getElem hqs, List.map_append, hkq]; rfl)
  have HM := Lib.hid Y.out.1
  have HY := Lib.hid Y.out.2
  have HB := Lib.hid (Below.refl wO.heap.size wO)
  have hlim : (rs ++ (ks.take q).map (fourthR c i)).length ≤ 100000 := by rw [List.length_append, List.length_map, List.length_take]; omega
  clear Y hkv hkq
  have hp := pass_any c wO g i 5 (HM.out.below HB.out).mg hla (by omega) (by omega)
  go_wp2_with fail
  refine hp.mono ?_
  rintro e v1_ ⟨rfl, rfl⟩
  clear hp
  go_wp2_with fail
  refine (puts1_call (passF c.la i 5) v1_).mono ?_
  rintro e v2_ ⟨A2, c2, rfl, hR2, hb⟩
  have HR2 := Lib.hid hR2
  have HS2 := Lib.hid (Nat.le_succ_of_le HB.out.size)
  clear hR2
  have HB := Lib.hid (q53 HB.out HB.out.size hb)
  clear hb
  have hp := flag_call i 2 v2_ (by omega) (by omega)
  go_wp2_with fail
  refine hp.mono ?_
  rintro e v3_ ⟨rfl, hb⟩
  clear hp
  have HB := Lib.hid (q53 HB.out HB.out.size hb)
  have HR2 := Lib.hid (Kd.R_below HR2.out hb)
  clear hb
  have hp := up_call (flagF i 2) v3_
  go_wp2_with fail
  refine hp.mono ?_
  rintro e v4_ ⟨rfl, hb⟩
  clear hp
  have HB := Lib.hid (q53 HB.out HB.out.size hb)
  have HR2 := Lib.hid (Kd.R_below HR2.out hb)
  clear hb
  have hp := pass_any c v4_ g kv 1 (HM.out.below HB.out).mg hla (by omega) (by omega)
  go_wp2_with fail
  refine hp.mono ?_
  rintro e v5_ ⟨rfl, rfl⟩
  clear hp
  have hp := up_call (passF c.la kv 1) v5_
  go_wp2_with fail
  refine hp.mono ?_
  rintro e v6_ ⟨rfl, hb⟩
  clear hp
  have HB := Lib.hid (q53 HB.out HB.out.size hb)
  have HR2 := Lib.hid (Kd.R_below HR2.out hb)
  clear hb
  have hlit := lits_row v6_ [⟨flagF i 2, false⟩, ⟨passF c.la kv 1, false⟩] (by simp)
  have hb8 := q50 HB.out (.cells (litCells [⟨flagF i 2, false⟩, ⟨passF c.la kv 1, false⟩]).toArray 93)
  have hru := HM.out.rule 4 hb8 (Kd.R_alloc HR2.out _) HS2.out hlit HB.out.size rfl rfl hlim
  go_wp2_with fail
  refine hru.mono ?_
  rintro e v7_ ⟨rfl, vr', h1, h2⟩
  have HM := Lib.hid h1
  have HG := Lib.hid h2
  have HB := Lib.hid (Below.refl v7_.heap.size v7_)
  clear hlit hb8 hru h1 h2 HR2 HS2
  go_wp2
  go_roundg (nk - (q + 1))
  case measure => omega
  case rel => exact ⟨q + 1, vr', by go_num, by omega, Nat.le_refl _, Lib.hid ⟨by rw [HTS.out, ← List.append_assoc]; exact HM.out, HY.out.1.then_ HG.out, HY.out.2.then_ HG.out⟩⟩
end Go.Proofs.Yteddgedacjdjgaa.Pm
end
