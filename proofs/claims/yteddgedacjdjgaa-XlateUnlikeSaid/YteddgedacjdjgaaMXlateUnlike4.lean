/- Walks and plain laws on the way to the law XlateUnlike: several texts of this workplace and of the kit's printer, merged; what is not used is struck, by a program. No condition. -/
import Derived.Lib.Hide
import Derived.Test.YteddgedacjdjgaaMXlateUnlike1
import Derived.Test.YteddgedacjdjgaaMXlateUnlike3
import Derived.Test.YteddgedacjdjgaaMXlateUnlike0
import Derived.Test.YteddgedacjdjgaaMXlateUnlike2
section
namespace Go.Proofs.Yteddgedacjdjgaa.Pm
open Go.RowKit Go.Proofs.YteddgedacjdjgaaW.PrintWords Go.Proofs.YteddgedacjdjgaaW.PrintLast Go.Proofs.YteddgedacjdjgaaW.PrintMore
attribute [local go_sem] max2_int min2_int max_two min_two max_three min_three max_four min_four   -- for this text's walks alone
set_option linter.unusedVariables false
set_option linter.unusedSimpArgs false
def q53.f (l0_0 : List ByteArray) (l0_1 : List (S41)) : Option Bool := some (isB l0_0 l0_1)
theorem q53.eg : ∀ args w, (callFunc 60 args).run Try.prog w = .ok (.enter 60 args) w := enters_of Try.func60 (by kernel_rfl) rfl
set_option maxHeartbeats 4000000 in
theorem q53.closure (b : Nat) (A0_0 : Option Addr) (c0_0 : Nat) (l0_0 : List ByteArray) (A0_1 : Option Addr) (c0_1 : Nat) (l0_1 : List (S41)) (W : World) (hm0 : W.cell? ⟨b, 0, none⟩ = some (.slice A0_0 l0_0.length c0_0)) (hm1 : W.cell? ⟨b, 1, none⟩ = some (.slice A0_1 l0_1.length c0_1))
 (hr0_0 : Kd.C Kd.string W A0_0 l0_0.length l0_0) (hc0_0 : l0_0.length ≤ c0_0) (hr0_1 : Kd.C k41 W A0_1 l0_1.length l0_1) (hc0_1 : l0_1.length ≤ c0_1) (x : S41) (cs : List Value) (hK : Kd.K k41 W x cs) :
 Calls Try.prog 60 (#[.agg cs.toArray] ++ #[.pointer (some ⟨b, 0, none⟩)]) W fun e w' => e = .returned (.bool (!itemB l0_0 l0_1 x.f1 x.f3 x.f4 x.f5 x.f6)) ∧ Below W.heap.size W w' := by
 obtain ⟨A5, c5, A6, c6, rfl, g5, h5, g6, h6⟩ := k41_open hK
 have hb := World.block_lt_of_cell? W _ hm0
 simp only at hb
 have hW1 := q57 (Below.refl W.heap.size W) (.cells #[.string x.f0, .int .i64 x.f1, .string x.f2, .bool x.f3, .int .i64 x.f4, .slice A5 x.f5.length c5, .slice A6 x.f6.length c6] 41)
 have hif := q38.calls 1 A0_0 c0_0 l0_0 A0_1 c0_1 l0_1 x.f0 x.f1 x.f2 x.f3 x.f4 A5 c5 x.f5 A6 c6 x.f6 _ _ (Kd.C_below hr0_0 hW1) hc0_0 (Kd.C_below hr0_1 hW1) hc0_1 (Kd.C_below h5 hW1) g5 (Kd.C_below h6 hW1) g6 (isItem_eq l0_0 l0_1 x.f0 x.f1 x.f2 x.f3 x.f4 x.f5 x.f6)
 have HW := Lib.hid hW1
 clear hr0_0 hr0_1 hW1 hK h5 h6
 obtain ⟨T, hT⟩ : ∃ T, T = itemB l0_0 l0_1 x.f1 x.f3 x.f4 x.f5 x.f6 := ⟨_, rfl⟩
 rw [← hT] at hif ⊢
 clear hT
 have hu36 := Try.underlying25
 have hu32 := Try.underlying41
 go_enter Try.func60, Try.ntmps60
 go_wp2_with (go_at_call 61; refine hif.mono ?_; rintro e w' ⟨rfl, hb'⟩)
 go_ret
 exact ⟨rfl, q72 hb' HW.out⟩
set_option maxHeartbeats 8000000 in
set_option maxRecDepth 100000 in
theorem q53.calls (A0_0 : Option Addr) (c0_0 : Nat) (l0_0 : List ByteArray) (A0_1 : Option Addr) (c0_1 : Nat) (l0_1 : List (S41)) (r : Bool) (w : World) (hr0_0 : Kd.C Kd.string w A0_0 l0_0.length l0_0) (hc0_0 : l0_0.length ≤ c0_0) (hr0_1 : Kd.C k41 w A0_1 l0_1.length l0_1) (hc0_1 : l0_1.length ≤ c0_1) (h : q53.f l0_0 l0_1 = some r) :
    Calls Try.prog 21 #[.agg #[.slice A0_0 l0_0.length c0_0, .slice A0_1 l0_1.length c0_1]] w fun e w' => e = .returned (.bool r) ∧ Below w.heap.size w w' := by
  obtain rfl := Option.some.inj h
  clear h
  have hu36 := Try.underlying25
  have hu32 := Try.underlying41
  have HR := Lib.hid (And.intro hr0_0 hr0_1)
  clear hr0_0 hr0_1
  have W1 := q57 (Below.refl w.heap.size w) (.cells #[.slice A0_0 l0_0.length c0_0, .slice A0_1 l0_1.length c0_1] 25)
  have HW1 := Lib.hid W1
  clear W1
  by_cases hA : 6 < l0_0.length
  · have e : isB l0_0 l0_1 = false := by simp [isB]; omega
    rw [e]
    have hA' : (6 : Int) < l0_0.length := by omega
    clear e
    go_enter Try.func21, Try.ntmps21
    go_wp2
    go_ret
    exact ⟨rfl, HW1.out⟩
  have hA' : ¬ (6 : Int) < l0_0.length := by omega
  by_cases hB : l0_1.length < 1
  · have e : isB l0_0 l0_1 = false := by simp [isB]; omega
    rw [e]
    have hB' : (l0_1.length : Int) < 1 := by omega
    clear e
    go_enter Try.func21, Try.ntmps21
    go_wp2
    go_ret
    exact ⟨rfl, HW1.out⟩
  have hB' : ¬ (l0_1.length : Int) < 1 := by omega
  by_cases hC : 16 < l0_1.length
  · have e : isB l0_0 l0_1 = false := by simp [isB]; omega
    rw [e]
    have hC' : (16 : Int) < l0_1.length := by omega
    clear e
    go_enter Try.func21, Try.ntmps21
    go_wp2
    go_ret
    exact ⟨rfl, HW1.out⟩
  have hC' : ¬ (16 : Int) < l0_1.length := by omega
  have hd : decide (l0_0.length ≤ 6 ∧ 1 ≤ l0_1.length ∧ l0_1.length ≤ 16) = true := decide_eq_true (by omega)
  obtain ⟨P0, hP0⟩ : ∃ P, P = planB (q81 l0_1 0).f1 (q81 l0_1 0).f2 (q81 l0_1 0).f3 (q81 l0_1 0).f5.length (q81 l0_1 0).f6.length := ⟨_, rfl⟩
  obtain ⟨T0, hT0⟩ : ∃ T, T = l0_1.any (fun x => !itemB l0_0 l0_1 x.f1 x.f3 x.f4 x.f5 x.f6) := ⟨_, rfl⟩
  have hI : isB l0_0 l0_1 = (namesB l0_0 && (namesB (l0_1.map (·.f0)) && (P0 && (standsB l0_1 && !T0)))) := by
    unfold isB
    rw [hd, ← hP0, ← hT0]; rfl
  have HI := Lib.hid hI
  have HP := Lib.hid (And.intro hP0 hT0)
  clear hI hd hP0 hT0
  -- the world behind the box
  obtain ⟨W1, hW1⟩ : ∃ W, W = w.alloc (.cells #[.slice A0_0 l0_0.length c0_0, .slice A0_1 l0_1.length c0_1] 25) := ⟨_, rfl⟩
  have hm0 : W1.cell? ⟨w.heap.size, 0, none⟩ = some (.slice A0_0 l0_0.length c0_0) := by rw [hW1]; simp
  have hm1 : W1.cell? ⟨w.heap.size, 1, none⟩ = some (.slice A0_1 l0_1.length c0_1) := by rw [hW1]; simp
  have hb1 : Below w.heap.size w W1 := by rw [hW1]; exact HW1.out
  have H1 := Lib.hid (And.intro hm0 (And.intro hm1 hb1))
  have HE1 := Lib.hid hW1
  have hn1 := fun (W : World) (hb : Below w.heap.size w W) => q31.calls A0_0 c0_0 l0_0 _ W (Kd.C_below HR.out.1 hb) hc0_0 rfl
  have hn1' := hn1 W1 hb1
  clear hn1 hW1 hm0 hm1 hb1
  go_enter Try.func21, Try.ntmps21
  go_wp2_with fail
  rw [← HE1.out]
  go_at_call 55
  cases hq1 : namesB l0_0 with
  | false =>
    rw [hq1] at hn1' HI
    have HI2 : Hid (isB l0_0 l0_1 = false) := Lib.hid (by rw [HI.out]; rfl)
    clear hq1 HI
    refine hn1'.mono ?_
    rintro e w2 ⟨rfl, hb2⟩
    have HB := Lib.hid (q72 hb2 H1.out.2.2)
    clear hn1' hb2
    go_wp2
    go_ret
    exact ⟨by rw [HI2.out]; rfl, HB.out⟩
  | true =>
  rw [hq1] at hn1' HI
  clear hq1
  refine hn1'.mono ?_
  rintro e w2 ⟨rfl, hb2⟩
  have hm0 := q73 hb2 H1.out.1
  have hm1 := q73 hb2 H1.out.2.1
  have HB2 := Lib.hid (And.intro (q72 hb2 H1.out.2.2) (And.intro hm0 hm1))
  clear hn1' hb2
  have hids := q52.calls (l0_1.length + 1) A0_0 c0_0 l0_0 A0_1 c0_1 l0_1 _ w2 (Kd.C_below HR.out.1 HB2.out.1) hc0_0 (Kd.C_below HR.out.2 HB2.out.1) hc0_1 (ids_eq l0_0 l0_1 (by omega) (l0_1.length + 1) (by omega))
  go_wp2_with fail
  go_at_call 56
  refine hids.mono ?_
  rintro e w3 ⟨v3, rfl, hR3, hb3⟩
  obtain ⟨A3, c3, rfl, hl3, hC3⟩ := Kd.R_reads hR3
  have hn2 := q31.calls A3 c3 (l0_1.map (·.f0)) _ w3 hC3 hl3 rfl
  rw [List.length_map] at hn2
  have hm03 := q73 hb3 hm0
  have hm13 := q73 hb3 hm1
  have HB3 := Lib.hid (And.intro (q72 hb3 HB2.out.1) (And.intro hm03 hm13))
  clear hids hR3 hb3 hC3 hm0 hm1
  go_wp2_with fail
  go_at_call 55
  cases hq2 : namesB (l0_1.map (·.f0)) with
  | false =>
    rw [hq2] at hn2 HI
    have HI2 : Hid (isB l0_0 l0_1 = false) := Lib.hid (by rw [HI.out]; rfl)
    clear hq2 HI
    refine hn2.mono ?_
    rintro e w4 ⟨rfl, hb4⟩
    have HB := Lib.hid (q72 hb4 HB3.out.1)
    clear hn2 hb4
    go_wp2
    go_ret
    exact ⟨by rw [HI2.out]; rfl, HB.out⟩
  | true =>
  rw [hq2] at hn2 HI
  clear hq2
  refine hn2.mono ?_
  rintro e w4 ⟨rfl, hb4⟩
  have hm04 := q73 hb4 hm03
  have hm14 := q73 hb4 hm13
  have HB4 := Lib.hid (And.intro (q72 hb4 HB3.out.1) (And.intro hm04 hm14))
  obtain ⟨ad, B5, d5, B6, d6, e, hx0, hx1, hx2, hx3, hx4, hx5, hx6, g5, h5, g6, h6⟩ := at_T41 HR.out.2 (0 : Int) (by omega) (by omega)
  cases e
  obtain ⟨x, hx⟩ : ∃ x, x = q81 l0_1 (0 : Int) := ⟨_, rfl⟩
  rw [← hx] at hx0 hx1 hx2 hx3 hx4 hx5 hx6 g5 h5 g6 h6 HP
  have hip := q36.calls x.f0 x.f1 x.f2 x.f3 x.f4 B5 d5 x.f5 B6 d6 x.f6 _ w4 (Kd.C_below h5 HB4.out.1) g5 (Kd.C_below h6 HB4.out.1) g6 (isPlan_eq x.f0 x.f1 x.f2 x.f3 x.f4 x.f5 x.f6 h5.2.1 h6.2.1)
  rw [← HP.out.1] at hip
  replace hx0 := q73 HB4.out.1 hx0
  replace hx1 := q73 HB4.out.1 hx1
  replace hx2 := q73 HB4.out.1 hx2
  replace hx3 := q73 HB4.out.1 hx3
  replace hx4 := q73 HB4.out.1 hx4
  replace hx5 := q73 HB4.out.1 hx5
  replace hx6 := q73 HB4.out.1 hx6
  rw [show (0 : Int).toNat * 7 = 0 by rfl, show ad.add 0 = ad by simp [Addr.add]] at hx0 hx1 hx2 hx3 hx4 hx5 hx6
  have hl0 : (0 : Int) < l0_1.length := by omega
  clear hx hn2 hb4 hm03 hm13 h5 h6 g5 g6
  go_wp2_with fail
  go_at_call 57
  have HBox := Lib.hid (And.intro hm04 hm14)
  clear hx0 hx1 hx2 hx3 hx4 hx5 hx6
  cases P0 with
  | false =>
    have HI2 : Hid (isB l0_0 l0_1 = false) := Lib.hid (by rw [HI.out]; rfl)
    clear HI
    refine hip.mono ?_
    rintro e w5 ⟨rfl, hb5⟩
    have HB := Lib.hid (q72 hb5 HB4.out.1)
    clear hip hb5
    go_wp2
    go_ret
    exact ⟨by rw [HI2.out]; rfl, HB.out⟩
  | true =>
  refine hip.mono ?_
  rintro e w5 ⟨rfl, hb5⟩
  have hm05 := q73 hb5 HBox.out.1
  have hm15 := q73 hb5 HBox.out.2
  have hb5w := q72 hb5 HB4.out.1
  have hst := q37.calls A0_0 c0_0 l0_0 (some ad) c0_1 l0_1 _ w5 (Kd.C_below HR.out.1 hb5w) hc0_0 (Kd.C_below HR.out.2 hb5w) hc0_1 rfl
  have HB5 := Lib.hid hb5w
  clear hip hb5 hm04 hm14 hb5w
  go_wp2_with fail
  go_at_call 58
  have HBox5 := Lib.hid (And.intro hm05 hm15)
  cases hq3 : standsB l0_1 with
  | false =>
    rw [hq3] at hst HI
    have HI2 : Hid (isB l0_0 l0_1 = false) := Lib.hid (by rw [HI.out]; rfl)
    clear HI hq3
    refine hst.mono ?_
    rintro e w6 ⟨rfl, hb6⟩
    have HB := Lib.hid (q72 hb6 HB5.out)
    clear hst hb6
    go_wp2
    go_ret
    exact ⟨by rw [HI2.out]; rfl, HB.out⟩
  | true =>
  rw [hq3] at hst HI
  clear hq3
  refine hst.mono ?_
  rintro e w6 ⟨rfl, hb6⟩
  have hm06 := q73 hb6 hm05
  have hm16 := q73 hb6 hm15
  have hb6w := q72 hb6 HB5.out
  have hany := anyItem (some ad) c0_1 l0_1 w6 (Kd.C_below HR.out.2 hb6w) hc0_1 60 #[.pointer (some ⟨w.heap.size, 0, none⟩)] q53.eg (fun x => !itemB l0_0 l0_1 x.f1 x.f3 x.f4 x.f5 x.f6) (fun W x cs hx hb hK => q53.closure w.heap.size A0_0 c0_0 l0_0 (some ad) c0_1 l0_1 W (q73 hb hm06) (q73 hb hm16) (Kd.C_below (Kd.C_below HR.out.1 hb6w) hb) hc0_0 (Kd.C_below (Kd.C_below HR.out.2 hb6w) hb) hc0_1 x cs hK)
  rw [← HP.out.2] at hany
  have HB6 := Lib.hid hb6w
  clear hst hb6 hm05 hm15 hb6w
  go_wp2_with fail
  go_at_call 59
  refine hany.mono ?_
  rintro e w7 ⟨rfl, hb7⟩
  have HB := Lib.hid (q72 hb7 HB6.out)
  clear hany hb7
  go_wp2
  go_ret
  exact ⟨by rw [HI.out]; rfl, HB.out⟩
set_option maxHeartbeats 4000000 in
set_option maxRecDepth 100000 in
theorem each_m (c : Mc) (g : Nat) (w : World) (f : Nat) (eg : ∀ args w, (callFunc f args).run Try.prog w = .ok (.enter f args) w) (I : Nat → World → Prop) (hG : Mg c w g) (h0 : I 0 w) (hl : c.l.length ≤ 1000)
 (hS : ∀ i W, i < c.l.length → I i W → Calls Try.prog f #[.pointer (some ⟨g, 0, none⟩), .int .i64 i] W fun e w' => e = .returned (.tuple #[]) ∧ I (i + 1) w') :
 Calls Try.prog 33 #[.pointer (some ⟨g, 0, none⟩), .func (.func f) #[.pointer (some ⟨g, 0, none⟩)] #[]] w fun e w' => e = .returned (.tuple #[]) ∧ I c.l.length w' := by
 have hu25 := Try.underlying25
 have hu58 := Try.underlying58
 obtain ⟨vr, vc, vu, hg⟩ := hG
 have hcz1 : w.cell? ⟨g, 1, none⟩ = some (.slice c.A1 c.l.length c.c1) := (q63 hg 1).trans rfl
 obtain ⟨n, hn⟩ : ∃ n, n = c.l.length := ⟨_, rfl⟩
 rw [← hn] at hcz1 hS hl ⊢
 have HS := Lib.hid hS
 have H0 := Lib.hid h0
 clear hS hn hg h0
 go_enter Try.func33, Try.ntmps33
 go_wp2
 go_loopg [11] n (fun gg s11 wr => ∃ i : Nat, s11 = .int .i64 i ∧ i ≤ n ∧ n - i ≤ gg ∧ Hid (I i wr))
 case atStart => exact ⟨0, rfl, Nat.zero_le _, by omega, H0⟩
 case round =>
 obtain ⟨i, rfl, hin, hig, Y⟩ := hrel
 obtain ⟨wO, rfl⟩ : ∃ wO, wO = wr := ⟨_, rfl⟩
 by_cases hlt : i < n
 case neg =>
  have hltz : ¬ (i : Int) < (n : Int) := by omega
  obtain rfl : i = n := by omega
  go_wp2
  refine bodyPost_end (results_none rfl _ _ _) rfl ?_
  exact ⟨rfl, Y.out⟩
 have hltz : (i : Int) < (n : Int) := by omega
 have hcall := HS.out i wO hlt Y.out
 clear Y
 go_wp2_with (go_at_fn f; refine hcall.mono ?_; rintro e w' ⟨rfl, hI⟩; have HI := Lib.hid hI; clear hI hcall)
 go_roundg (n - (i + 1))
 case measure => omega
 case rel => exact ⟨i + 1, by go_num, by omega, Nat.le_refl _, HI⟩
set_option maxHeartbeats 4000000 in
set_option maxRecDepth 100000 in
theorem each_c (c : Mc) (g : Nat) (w : World) (f : Nat) (p1 p2 : Addr) (eg : ∀ args w, (callFunc f args).run Try.prog w = .ok (.enter f args) w) (I : Nat → World → Prop) (hG : Mg c w g) (h0 : I 0 w) (hl : c.l.length ≤ 1000)
 (hS : ∀ i W, i < c.l.length → I i W → Calls Try.prog f #[.int .i64 i, .pointer (some p1), .pointer (some p2)] W fun e w' => e = .returned (.tuple #[]) ∧ I (i + 1) w') :
 Calls Try.prog 33 #[.pointer (some ⟨g, 0, none⟩), .func (.func f) #[] #[.pointer (some p1), .pointer (some p2)]] w fun e w' => e = .returned (.tuple #[]) ∧ I c.l.length w' := by
 have hu25 := Try.underlying25
 have hu58 := Try.underlying58
 obtain ⟨vr, vc, vu, hg⟩ := hG
 have hcz1 : w.cell? ⟨g, 1, none⟩ = some (.slice c.A1 c.l.length c.c1) := (q63 hg 1).trans rfl
 obtain ⟨n, hn⟩ : ∃ n, n = c.l.length := ⟨_, rfl⟩
 rw [← hn] at hcz1 hS hl ⊢
 have HS := Lib.hid hS
 have H0 := Lib.hid h0
 clear hS hn hg h0
 go_enter Try.func33, Try.ntmps33
 go_wp2
 go_loopg [11] n (fun gg s11 wr => ∃ i : Nat, s11 = .int .i64 i ∧ i ≤ n ∧ n - i ≤ gg ∧ Hid (I i wr))
 case atStart => exact ⟨0, rfl, Nat.zero_le _, by omega, H0⟩
 case round =>
 obtain ⟨i, rfl, hin, hig, Y⟩ := hrel
 obtain ⟨wO, rfl⟩ : ∃ wO, wO = wr := ⟨_, rfl⟩
 by_cases hlt : i < n
 case neg =>
  have hltz : ¬ (i : Int) < (n : Int) := by omega
  obtain rfl : i = n := by omega
  go_wp2
  refine bodyPost_end (results_none rfl _ _ _) rfl ?_
  exact ⟨rfl, Y.out⟩
 have hltz : (i : Int) < (n : Int) := by omega
 have hcall := HS.out i wO hlt Y.out
 clear Y
 go_wp2_with (go_at_fn f; refine hcall.mono ?_; rintro e w' ⟨rfl, hI⟩; have HI := Lib.hid hI; clear hI hcall)
 go_roundg (n - (i + 1))
 case measure => omega
 case rel => exact ⟨i + 1, by go_num, by omega, Nat.le_refl _, HI⟩
def q48.f (a0 : Int) : Option (Int × Bool) := some (a0, true)
set_option maxHeartbeats 8000000 in
set_option maxRecDepth 100000 in
theorem q48.calls (a0 : Int) (r1 : Int) (r2 : Bool) (w : World) (h : q48.f a0 = some (r1, r2)) :
 Calls Try.prog 73 #[.int .i64 a0] w fun e w' => e = .returned (.agg #[.int .i64 r1, .bool r2]) ∧ Below w.heap.size w w' := by
 have hu93 := Try.underlying93
 have HB := q56.mk (Below.refl w.heap.size w)
 have H : (some (a0, true)) = some (r1, r2) := h
 clear h
 simp only [Option.some.injEq, Prod.mk.injEq] at H
 obtain ⟨rfl, rfl⟩ := H
 go_enter Try.func73, Try.ntmps73
 go_wp2_with (first | ((with_reducible refine q71 (N := 2) rfl ?_); refine bx_ 2 #[.int .i64 0, .bool false] 93 ?_; intro gb252 hg w2 hbox hb; have BK252 := q56.mk (hbox); have GW252 := zz_ (w := w) hg; have GE252 := zz_ (w := w) hg; replace HB := hb_ HB hb;  clear hb hbox hg; obtain ⟨hcz3_0, hcz3_1, hfz3_0, hfz3_1⟩ := bs2_ BK252))
 refine bodyPost_ret (results_cell_row rfl _ _ gb252 93 #[.int .i64 a0, .bool true] (0, 0) _ rfl (by (with_reducible repeat (first | refine q65 ?_ _ | refine q64 ?_ | refine q61 ?_ _)); apply put2_; (with_reducible repeat (first | refine q65 ?_ _ | refine q64 ?_ | refine q61 ?_ _)); exact BK252.out) Try.underlying93 rfl (by kernel_rfl)) rfl ?_
 exact ⟨er_, hf_⟩
def q43.l0 : Nat → List (S111) → List Int → Int → Int → Option ((List (S111)))
 | 0, _, _, _, _ => none
 | k + 1, x3, x6, x7, x8 => if x8 < x7 then (if 0 ≤ x8 then (if x8 < (x6.length : Int) then (if x3.length < 8796093022208 then (q43.l0 k (x3 ++ [(⟨rd x6 x8, (x8 == 0)⟩ : S111)]) x6 x7 (wrap64 (x8 + 1))) else (none)) else (none)) else (none)) else (some x3)
def q43.f (k : Nat) (l0 : List Int) : Option ((List (S111))) := q43.l0 k ([] : List (S111)) l0 (l0.length : Int) 0
theorem q43.mono_l : ∀ k, (∀ y0 y1 y2 y3, LeO (q43.l0 k y0 y1 y2 y3) (q43.l0 (k + 1) y0 y1 y2 y3))
 | 0 => fun _ _ _ _ r h => by simp [q43.l0] at h
 | k + 1 => by
  have ih0 := q43.mono_l k
  ·intro y0 y1 y2 y3
   unfold q43.l0
   repeat' first
   | (with_reducible exact ih0 _ _ _ _)
   | (with_reducible exact LeO.refl _)
   | (with_reducible exact LeO.none _)
   | (with_reducible refine LeO.ite ?_ ?_)
   | (with_reducible refine LeO.bind ?_ (fun _ => ?_))
   | exact ih0 _ _ _ _
   | exact LeO.none _
   | refine LeO.ite ?_ ?_
   | refine LeO.bind ?_ (fun _ => ?_)
theorem q43.mono : ∀ a0 k, LeO (q43.f k a0) (q43.f (k + 1) a0) := by
 intro a0 k
 have ih0 := q43.mono_l k
 unfold q43.f
 repeat' first
  | (with_reducible exact ih0 _ _ _ _)
  | (with_reducible exact LeO.refl _)
  | (with_reducible exact LeO.none _)
  | (with_reducible refine LeO.ite ?_ ?_)
  | (with_reducible refine LeO.bind ?_ (fun _ => ?_))
  | exact ih0 _ _ _ _
  | exact LeO.none _
  | refine LeO.ite ?_ ?_
  | refine LeO.bind ?_ (fun _ => ?_)
set_option maxHeartbeats 8000000 in
set_option maxRecDepth 100000 in
theorem q43.calls (k : Nat) (A0 : Option Addr) (c0 : Nat) (l0 : List Int) (r : List (S111)) (w : World) (hr0 : Kd.C (Kd.int .i64) w A0 l0.length l0) (hc0 : l0.length ≤ c0) (h : q43.f k l0 = some r) :
 Calls Try.prog 66 #[.slice A0 l0.length c0] w fun e w' => ∃ v0_ : Value, e = .returned (v0_) ∧ Kd.R k111 111 w' w.heap.size (fun _ => True) v0_ r ∧ Below w.heap.size w w' := by
 have hu111 := Try.underlying111
 have HR0 := q56.mk hr0
 have HC0 := q56.mk hc0
 clear hr0 hc0
 have HB := q56.mk (Below.refl w.heap.size w)
 have H : (q43.l0 k ([] : List (S111)) l0 (l0.length : Int) 0) = some r := h
 clear h
 have H' := q56.mk H
 clear H
 go_enter Try.func66, Try.ntmps66
 go_wp2
 go_loopg [3, 8] k (fun kq v3 v8 w' => ∃ (x3_1 : List (S111)) (x8_1 : Int), v8 = .int .i64 x8_1 ∧ q56 (q43.l0 kq x3_1 l0 (l0.length : Int) x8_1 = some r) ∧ q56 (kq ≤ k) ∧ q56 (Kd.R k111 111 w' w.heap.size (fun _ => True) v3 x3_1) ∧ q56 (Below w.heap.size w w'))
 case atStart => exact ⟨(([] : List (S111))), (0), rf_, H', ⟨Nat.le_refl _⟩, ⟨by first | exact Kd.R_nil _ _ _ _ _ | exact Kd.N_nil _ _ _ _ _ | exact Kd.V_nil _ _ _ _ _ | exact Kd.Q_nil _ _ _ _ _ | exact Kd.S_nil _ _ _ _ _⟩, ⟨hf_⟩⟩
 case round =>
 clear H'
 obtain ⟨x3_1, x8_1, rfl, HA, HK1, HO_3, HB⟩ := hrel
 cases gk with
 | zero => exact absurd HA.out (by simp [q43.l0])
 | succ k1 =>
 have H := HA.out
 clear HA
 simp only [q43.l0] at H
 by_cases c2 : x8_1 < (l0.length : Int)
 rotate_left
 ·rw [if_neg c2] at H
  replace c2 := decide_eq_false c2
  obtain rfl := Option.some.inj H
  go_wp2
  go_ret
  exact ⟨_, by first | rfl | (simp [errW_none, errW_some] <;> rfl) | (simp [*, errW_none, errW_some] <;> rfl), by (with_reducible repeat (first | apply Kd.R_alloc | apply Kd.R_drewN | apply Kd.R_drew)); exact HO_3.out, by repeat (first | (with_reducible first | exact HB.out | apply q57 | apply q75 | apply q58) | exact HB.out)⟩
 rw [if_pos c2] at H
 replace c2 := decide_eq_true c2
 by_cases c3 : 0 ≤ x8_1
 rotate_left
 ·rw [if_neg c3] at H
  exact absurd H (by simp)
 rw [if_pos c3] at H
 replace c3 := decide_eq_true c3
 by_cases c4 : x8_1 < (l0.length : Int)
 rotate_left
 ·rw [if_neg c4] at H
  exact absurd H (by simp)
 rw [if_pos c4] at H
 replace c4 := decide_eq_true c4
 by_cases c5 : x3_1.length < 8796093022208
 rotate_left
 ·rw [if_neg c5] at H
  exact absurd H (by simp)
 rw [if_pos c5] at H
 have LMc5 := q56.mk c5
 clear c5
 obtain ⟨y254, hy254⟩ : ∃ y_ : List (S111), y_ = (x3_1 ++ [(⟨rd l0 x8_1, (x8_1 == 0)⟩ : S111)]) := ⟨_, rfl⟩
 rw [← hy254] at H
 have Ny254 := q56.mk hy254
 clear hy254
 have H' := q56.mk H
 clear H
 obtain ⟨ad253, e253, hx253_0, p253, q253⟩ := au_int HR0 HB (x8_1)
 cases e253
 go_wp2_with (first | ((with_reducible refine q69 (b := .append) (xs := #[.tmp 13, .tmp 18]) rfl ?_); at_builtin; refine Kd.R_append k111 (w0 := w) w.heap.size rfl (.tmp 13) (.tmp 18) 70 111 (.agg #[(.int .i64 0), (.bool false)]) 16 rfl Try.underlying70 info111 rfl (by decide) (by omega) u3 x3_1 (⟨rd l0 x8_1, (x8_1 == 0)⟩ : S111) [.int .i64 (rd l0 x8_1), .bool (x8_1 == 0)] (fun _ => True) (fun _ => False) rfl rfl ?aP (fun _ hk => hk.elim) ?aF ?aO ?aB ?aS ?aL ?_; (case aP => exact k111_mkM _ _ _ (⟨rd l0 x8_1, (x8_1 == 0)⟩ : S111)); (case aB => exact hf_); (case aF => exact (fun _ _ => trivial)); (case aO => exact (ra_ HO_3.out)); (case aS => exact (q59 hf_)); (case aL => have := LMc5.out; omega); intro v255 w6 ho hb hg hat; rw [← Ny254.out] at ho; have n0_ := q56.mk (hb); have n1_ := q56.mk (ho); clear HB; clear HO_3; have HB := n0_; have HO256 := n1_; clear n0_ n1_; clear ho hb hg hat))
 go_roundg k1
 case measure => have := HK1.out; omega
 case rel => exact ⟨(y254), (wrap64 (x8_1 + 1)), rf_, H', ⟨by have := HK1.out; omega⟩, ⟨ra_ HO256.out⟩, ⟨hf_⟩⟩
def q54.f (a0 : Int) : Option (Int × Bool) := some (a0, false)
set_option maxHeartbeats 8000000 in
set_option maxRecDepth 100000 in
theorem q54.calls (a0 : Int) (r1 : Int) (r2 : Bool) (w : World) (h : q54.f a0 = some (r1, r2)) :
 Calls Try.prog 67 #[.int .i64 a0] w fun e w' => e = .returned (.agg #[.int .i64 r1, .bool r2]) ∧ Below w.heap.size w w' := by
 have hu93 := Try.underlying93
 have HB := q56.mk (Below.refl w.heap.size w)
 have H : (some (a0, false)) = some (r1, r2) := h
 clear h
 simp only [Option.some.injEq, Prod.mk.injEq] at H
 obtain ⟨rfl, rfl⟩ := H
 go_enter Try.func67, Try.ntmps67
 go_wp2_with (first | ((with_reducible refine q71 (N := 2) rfl ?_); refine bx_ 2 #[.int .i64 0, .bool false] 93 ?_; intro gb251 hg w2 hbox hb; have BK251 := q56.mk (hbox); have GW251 := zz_ (w := w) hg; have GE251 := zz_ (w := w) hg; replace HB := hb_ HB hb;  clear hb hbox hg; obtain ⟨hcz3_0, hcz3_1, hfz3_0, hfz3_1⟩ := bs2_ BK251))
 refine bodyPost_ret (results_cell_row rfl _ _ gb251 93 #[.int .i64 a0, .bool false] (0, 0) _ rfl (by (with_reducible repeat (first | refine q65 ?_ _ | refine q64 ?_ | refine q61 ?_ _)); apply put2_; (with_reducible repeat (first | refine q65 ?_ _ | refine q64 ?_ | refine q61 ?_ _)); exact BK251.out) Try.underlying93 rfl (by kernel_rfl)) rfl ?_
 exact ⟨er_, hf_⟩
set_option maxHeartbeats 2000000 in
set_option maxRecDepth 100000 in
theorem growS_call (w : World) (n : Nat) (hl : n * 48 ≤ 140737488355328) :
 Calls Try.prog 97 #[.slice none 0 0, .int .i64 n] w fun e w' => ∃ v, e = .returned v ∧ Kd.R (kRaw 2) 45 w' w.heap.size (fun _ => True) v [] ∧ Below w.heap.size w w' := by
 have h1 : ¬ (n : Int) < 0 := by omega
 rcases Nat.eq_zero_or_pos n with rfl | h0
 ·go_enter Try.func97, Try.ntmps97
  go_wp2
  go_ret
  exact ⟨_, rfl, Kd.R_nil _ _ _ _ _, Below.refl _ _⟩
 have h2 : (n : Int) > 0 := by omega
 go_enter Try.func97, Try.ntmps97
 go_wp2_with (first | ((with_reducible refine q69 (b := .append) (xs := #[.tmp 20, .tmp 21]) rfl ?_); at_builtin; refine Kd.R_append_zeros (kRaw 2) (w0 := w) w.heap.size rfl (.tmp 20) (.tmp 21) 39 3 45 (.agg #[.slice none 0 0, .slice none 0 0]) 48 rfl Try.underlying39 Try.underlying3 iSent_ rfl (by decide) (by omega) (.slice none 0 0) [] [.slice none 0 0, .slice none 0 0] n (fun _ => True) rfl rfl ⟨rfl, rfl, by decide⟩ (fun _ _ => trivial) (Kd.R_nil _ _ _ _ _) (by omega) (Below.refl _ _) (Nat.le_refl _) (by simpa using hl) ?_; intro v1 w1 hR1 hB1 hg1 hg2; clear hg1 hg2; obtain ⟨A1, c1, rfl⟩ := Kd.R_slice hR1; have hRT := Kd.R_take hR1 (Nat.zero_le _)))
 go_ret
 exact ⟨_, rfl, by simpa using hRT, hB1⟩
def totS (f : Nat → Nat) : Nat → Nat
 | 0 => 0
 | i + 1 => totS f i + f i
def catS (bs : Nat → List (List Value)) : Nat → List (List Value)
 | 0 => []
 | i + 1 => catS bs i ++ bs i
theorem catS_length (bs : Nat → List (List Value)) (i : Nat) : (catS bs i).length = totS (fun k => (bs k).length) i := by
 induction i with
 | zero => rfl
 | succ i ih => simp only [catS, totS, List.length_append, ih]
theorem totS_le (f : Nat → Nat) {i j : Nat} (h : i ≤ j) : totS f i ≤ totS f j := by
  induction j with
  | zero => obtain rfl : i = 0 := by omega
            exact Nat.le_refl _
  | succ j ih =>
    rcases Nat.lt_or_ge j i with h' | h'
    · obtain rfl : i = j + 1 := by omega
      exact Nat.le_refl _
    · have := ih h'
      simp only [totS]
      omega
set_option maxHeartbeats 4000000 in
set_option maxRecDepth 100000 in
theorem concatS_call (w : World) (rw_ : Addr) (m : Nat) (A : Nat → Option Addr) (c : Nat → Nat) (bs : Nat → List (List Value))
 (hcell : ∀ i, i < m → w.cell? (rw_.add i) = some (.slice (A i) (bs i).length (c i))) (hC : ∀ i, i < m → Kd.C (kRaw 2) w (A i) (bs i).length (bs i)) (hm : m ≤ 1000) (hl : totS (fun k => (bs k).length) m ≤ 1000000) :
 Calls Try.prog 90 #[.slice (some rw_) m m] w fun e w' => ∃ v, e = .returned v ∧ Kd.R (kRaw 2) 45 w' w.heap.size (fun _ => True) v (catS bs m) ∧ Below w.heap.size w w' := by
 have HC := Lib.hid hC
 have HCell := Lib.hid hcell
 clear hC hcell
 go_enter Try.func90, Try.ntmps90
 go_wp2
 go_loopg [3, 11] m (fun gg s3 s11 wr => ∃ i : Nat, s3 = .int .i64 (totS (fun k => (bs k).length) i : Nat) ∧ s11 = .int .i64 i ∧ i ≤ m ∧ m - i ≤ gg ∧ wr = w)
 case atStart => exact ⟨0, rfl, rfl, Nat.zero_le _, by omega, rfl⟩
 case round =>
 obtain ⟨i, rfl, rfl, him, hig, rfl⟩ := hrel
 obtain ⟨w0_, rfl⟩ : ∃ w0_, w0_ = wr := ⟨_, rfl⟩
 by_cases hlt : i < m
 case pos =>
  have hltz : (i : Int) < (m : Int) := by omega
  have hx0 := HCell.out i hlt
  have hle := totS_le (fun k => (bs k).length) (show i + 1 ≤ m by omega)
  have hsum : totS (fun k => (bs k).length) (i + 1) = totS (fun k => (bs k).length) i + (bs i).length := rfl
  obtain ⟨n, hn⟩ : ∃ n, n = (bs i).length := ⟨_, rfl⟩
  obtain ⟨t, ht⟩ : ∃ t, t = totS (fun k => (bs k).length) i := ⟨_, rfl⟩
  rw [← hn] at hx0 hsum
  rw [← ht] at hsum ⊢
  have HS := Lib.hid hsum
  have htn : t + n ≤ 1000000 := by omega
  have hneg : ¬ (t : Int) + (n : Int) < 0 := by omega
  have hw : wrap64 ((t : Int) + (n : Int)) = (t : Int) + (n : Int) := by unfold wrap64; omega
  clear hn ht hle hsum
  go_wp2
  go_roundg (m - (i + 1))
  case measure => omega
  case rel => exact ⟨i + 1, by rw [HS.out]; go_num, by go_num, by omega, by omega, rfl⟩
 have hltz : ¬ (i : Int) < (m : Int) := by omega
 obtain rfl : m = i := by omega
 obtain ⟨t, ht⟩ : ∃ t, t = totS (fun k => (bs k).length) m := ⟨_, rfl⟩
 rw [← ht] at hl ⊢
 have HT := Lib.hid ht
 clear ht
 go_wp2_with fail
 refine (growS_call w0_ t (by omega)).mono ?_
 rintro e w1 ⟨v1, rfl, hR1, hB1⟩
 have HR1 := Lib.hid hR1
 have HB1 := Lib.hid hB1
 clear hR1 hB1
 go_wp2
 go_loopg [6, 27] m (fun gg s6 s27 wq => ∃ i : Nat, s27 = .int .i64 i ∧ i ≤ m ∧ m - i ≤ gg ∧ Hid (Kd.R (kRaw 2) 45 wq w0_.heap.size (fun _ => True) s6 (catS bs i) ∧ Below w0_.heap.size w0_ wq))
 case atStart => exact ⟨0, rfl, Nat.zero_le _, by omega, Lib.hid ⟨HR1.out, HB1.out⟩⟩
 case round =>
 obtain ⟨i, rfl, hin, hjg, Y⟩ := hrel
 obtain ⟨wz, rfl⟩ : ∃ wz, wz = wr := ⟨_, rfl⟩
 obtain ⟨hR, hB⟩ := Y.out
 obtain ⟨Av, cv, rfl⟩ := Kd.R_slice hR
 by_cases hlk : i < m
 case neg =>
  have hltj : ¬ (i : Int) < (m : Int) := by omega
  obtain rfl : m = i := by omega
  have HR := Lib.hid hR
  have HB := Lib.hid hB
  clear hR hB Y
  go_wp2
  go_ret
  exact ⟨_, rfl, HR.out, HB.out⟩
 have hltj : (i : Int) < (m : Int) := by omega
 have hx0 := q73 hB (HCell.out i hlk)
 have hle := totS_le (fun k => (bs k).length) (show i + 1 ≤ m by omega)
 have hsum : totS (fun k => (bs k).length) (i + 1) = totS (fun k => (bs k).length) i + (bs i).length := rfl
 have hcl := catS_length bs i
 have hCi := Kd.C_below (HC.out i hlk) hB
 obtain ⟨n, hn⟩ : ∃ n, n = (bs i).length := ⟨_, rfl⟩
 obtain ⟨lv, hlv⟩ : ∃ lv, lv = (catS bs i).length := ⟨_, rfl⟩
 rw [← hn] at hx0 hsum hCi
 have hfit : ((catS bs i).length + n) * 48 ≤ 140737488355328 := by have := HT.out; omega
 rw [← hlv] at hR ⊢
 have HR := Lib.hid hR
 have HB := Lib.hid hB
 have HCI := Lib.hid hCi
 have HFIT := Lib.hid hfit
 clear hR hB Y hn hle hsum hcl hlv hCi hfit
 go_wp2_with (first | ((with_reducible refine q69 (b := .append) (xs := #[.tmp 31, .tmp 32]) rfl ?_); at_builtin; refine Kd.R_append_rows (kRaw 2) (w0 := w0_) w0_.heap.size rfl (.tmp 31) (.tmp 32) 39 45 (.agg #[.slice none 0 0, .slice none 0 0]) 48 rfl Try.underlying39 iSent_ rfl (by decide) (by omega) (.slice Av lv cv) (catS bs i) (bs i) _ _ _ (fun _ => True) (fun _ => False) rfl rfl HR.out HCI.out (fun _ _ h => h) (fun _ h => h.elim) (fun _ _ => trivial) HB.out HB.out.size HFIT.out ?_; intro v2 w2 hR2 hB2 hg1 hg2; clear hg1 hg2; have HR2 := Lib.hid hR2; have HB2 := Lib.hid hB2; clear hR2 hB2))
 go_roundg (m - (i + 1))
 case measure => omega
 case rel => exact ⟨i + 1, by go_num, by omega, by omega, Lib.hid ⟨HR2.out, HB2.out⟩⟩
theorem raw_C {α : Type} {d : Kd α} {w : World} {A : Option Addr} {n : Nat} {rows : List (List Value)} {xs : List α} (h : Kd.C (kRaw d.sz) w A n rows) (hl : xs.length = n) (hK : ∀ (j : Nat) (p : α), xs[j]? = some p → ∃ cs, rows[j]? = some cs ∧ d.K w p cs) : Kd.C d w A n xs := by
 obtain ⟨h1, h2, h3⟩ := h
 refine ⟨hl, h2, fun hp => ?_⟩
 obtain ⟨ad, e, hc⟩ := h3 hp
 refine ⟨ad, e, fun j p hj => ?_⟩
 obtain ⟨cs, h4, h5⟩ := hK j p hj
 obtain ⟨c, h6, ⟨rfl, -⟩, h7⟩ := hc j cs h4
 exact ⟨c, h6, h5, h7⟩
set_option maxHeartbeats 4000000 in
set_option maxRecDepth 100000 in
theorem sentries_call (x : S41) (A5 : Option Addr) (c5 : Nat) (A6 : Option Addr) (c6 : Nat) (w : World) (h5 : Kd.C k45 w A5 x.f5.length x.f5) (h6 : Kd.C k45 w A6 x.f6.length x.f6) (hl : x.f5.length + x.f6.length ≤ 1000) :
 Calls Try.prog 64 #[.agg #[.string x.f0, .int .i64 x.f1, .string x.f2, .bool x.f3, .int .i64 x.f4, .slice A5 x.f5.length c5, .slice A6 x.f6.length c6]] w fun e w' => ∃ A c, e = .returned (.slice A (x.f5 ++ x.f6).length c) ∧ (x.f5 ++ x.f6).length ≤ c ∧ Kd.C k45 w' A (x.f5 ++ x.f6).length (x.f5 ++ x.f6) ∧ (∀ ad, A = some ad → w.heap.size ≤ ad.block) ∧ Below w.heap.size w w' := by
 have hu41 := Try.underlying41
 obtain ⟨r5, hr5, hC5, hK5⟩ := C_raw h5
 obtain ⟨r6, hr6, hC6, hK6⟩ := C_raw h6
 obtain ⟨W2, hW2⟩ : ∃ W2, W2 = (w.alloc (.cells #[.string x.f0, .int .i64 x.f1, .string x.f2, .bool x.f3, .int .i64 x.f4, .slice A5 x.f5.length c5, .slice A6 x.f6.length c6] 41)).alloc (.cells #[.slice A5 x.f5.length c5, .slice A6 x.f6.length c6] 39) := ⟨_, rfl⟩
 have hb2 : Below w.heap.size w W2 := by rw [hW2]; exact q57 (q57 (Below.refl _ _) _) _
 have hg2 : W2.heap[w.heap.size + 1]? = some (.cells #[.slice A5 x.f5.length c5, .slice A6 x.f6.length c6] 39 (0, 0)) := by
  rw [hW2, show w.heap.size + 1 = (w.alloc (.cells #[.string x.f0, .int .i64 x.f1, .string x.f2, .bool x.f3, .int .i64 x.f4, .slice A5 x.f5.length c5, .slice A6 x.f6.length c6] 41)).heap.size by simp]
  exact heap_alloc_new _ _
 have hcat : catS (fun i => if i = 0 then r5 else r6) 2 = r5 ++ r6 := by simp [catS]
 have htot : totS (fun k => ((fun i => if i = 0 then r5 else r6) k).length) 2 ≤ 1000000 := by simp [totS]; omega
 have hcc := concatS_call W2 ⟨w.heap.size + 1, 0, none⟩ 2 (fun i => if i = 0 then A5 else A6) (fun i => if i = 0 then c5 else c6) (fun i => if i = 0 then r5 else r6) (by
  intro i hi
  have : i = 0 ∨ i = 1 := by omega
  rcases this with rfl | rfl
  ·show W2.cell? ⟨w.heap.size + 1, 0, none⟩ = some (.slice A5 r5.length c5)
   rw [hr5]; exact (q63 hg2 0).trans rfl
  ·show W2.cell? ⟨w.heap.size + 1, 1, none⟩ = some (.slice A6 r6.length c6)
   rw [hr6]; exact (q63 hg2 1).trans rfl) (by
  intro i hi
  have : i = 0 ∨ i = 1 := by omega
  rcases this with rfl | rfl
  ·show Kd.C (kRaw 2) W2 A5 r5.length r5
   rw [hr5]; exact Kd.C_below hC5 hb2
  ·show Kd.C (kRaw 2) W2 A6 r6.length r6
   rw [hr6]; exact Kd.C_below hC6 hb2) (by omega) htot
 rw [hcat] at hcc
 have HFIN : Hid (∀ (e : Ending) (w' : World) (v : Value), e = .returned v → Kd.R (kRaw 2) 45 w' W2.heap.size (fun _ => True) v (r5 ++ r6) → Below W2.heap.size W2 w' → ∃ A c, e = .returned (.slice A (x.f5 ++ x.f6).length c) ∧ (x.f5 ++ x.f6).length ≤ c ∧ Kd.C k45 w' A (x.f5 ++ x.f6).length (x.f5 ++ x.f6) ∧ (∀ ad, A = some ad → w.heap.size ≤ ad.block) ∧ Below w.heap.size w w') := Lib.hid (by
  intro e w' v he hR hb
  obtain ⟨A, c, rfl⟩ := Kd.R_slice hR
  have hlen : (r5 ++ r6).length = (x.f5 ++ x.f6).length := by rw [List.length_append, List.length_append, hr5, hr6]
  have hrd := Kd.R_reads' hR
  have hbw := q60 hb2 hb2.size hb
  rw [hlen] at he hrd
  refine ⟨A, c, he, hrd.2.1, raw_C hrd.2.2 rfl ?_, fun ad e => ?_, hbw⟩
  ·intro j p hj
   rw [List.getElem?_append] at hj
   rw [List.getElem?_append, hr5]
   split at hj
   ·rename_i hlt
    rw [if_pos hlt]
    obtain ⟨cs, h1, h2⟩ := hK5 j p hj
    exact ⟨cs, h1, (k45).K_below hbw h2⟩
   rename_i hlt
   rw [if_neg hlt]
   obtain ⟨cs, h1, h2⟩ := hK6 (j - x.f5.length) p hj
   exact ⟨cs, h1, (k45).K_below hbw h2⟩
  subst e
  have := Kd.R_base hR ad.block (by simp [Value.ownBlock])
  exact Nat.le_trans hb2.size this)
 have HW2 := Lib.hid hW2
 obtain ⟨n5, hn5⟩ : ∃ n5, n5 = x.f5.length := ⟨_, rfl⟩
 obtain ⟨n6, hn6⟩ : ∃ n6, n6 = x.f6.length := ⟨_, rfl⟩
 rw [← hn5, ← hn6] at HW2 ⊢
 clear h5 h6 hl hr5 hC5 hK5 hr6 hC6 hK6 hW2 hb2 hg2 hcat htot hn5 hn6
 go_enter Try.func64, Try.ntmps64
 go_wp2_with fail
 rw [← HW2.out]
 refine hcc.mono ?_
 rintro e w' ⟨v, rfl, hR, hb⟩
 have HF := Lib.hid (HFIN.out _ w' v rfl hR hb)
 clear hcc hR hb
 go_wp2
 go_ret
 exact HF.out
def onsN (ss : List (S45)) : Nat := (ss.map (fun s => s.f0.length)).sum
def marksN (l : List (S41)) (i : Nat) : Nat := 4 * l.length + ((l.take i).map (fun x => onsN (x.f5 ++ x.f6))).sum
def sentsN (l : List (S41)) (i : Nat) : Nat := ((l.take i).map (fun x => (x.f5 ++ x.f6).length)).sum
theorem take_sum {α : Type} (f : α → Nat) (l : List α) (i : Nat) (hi : i < l.length) : ((l.take (i + 1)).map f).sum = ((l.take i).map f).sum + f l[i] := by
 rw [List.take_succ_eq_append_getElem hi, List.map_append, List.sum_append]
 simp
theorem take_sum_le {α : Type} (f : α → Nat) (k : Nat) (l : List α) (h : ∀ x ∈ l, f x ≤ k) (i : Nat) : ((l.take i).map f).sum ≤ k * i := by
  induction i with
  | zero => simp
  | succ i ih =>
    by_cases hi : i < l.length
    · rw [take_sum f l i hi]
      have := h l[i] (List.getElem_mem hi)
      rw [Nat.mul_succ]
      omega
    · have e : l.take (i + 1) = l.take i := by rw [List.take_of_length_le (by omega), List.take_of_length_le (by omega)]
      rw [e, Nat.mul_succ]
      omega
theorem onsN_take (ss : List (S45)) (q : Nat) (hq : q < ss.length) : onsN (ss.take (q + 1)) = onsN (ss.take q) + ss[q].f0.length := take_sum _ ss q hq
theorem marksN_succ (l : List (S41)) (i : Nat) (hi : i < l.length) : marksN l (i + 1) = marksN l i + onsN (l[i].f5 ++ l[i].f6) := by unfold marksN; rw [take_sum _ l i hi]; omega
theorem sentsN_succ (l : List (S41)) (i : Nat) (hi : i < l.length) : sentsN l (i + 1) = sentsN l i + (l[i].f5 ++ l[i].f6).length := take_sum _ l i hi
section
variable {l : List (S41)} (hw : ∀ x ∈ l, (x.f5 ++ x.f6).length ≤ 6 ∧ ∀ s ∈ x.f5 ++ x.f6, s.f0.length ≤ 3 ∧ s.f1.length ≤ 2)
include hw
theorem onsN_le (x : S41) (hx : x ∈ l) (q : Nat) : onsN ((x.f5 ++ x.f6).take q) ≤ 18 := by
 have h := hw x hx
 have h1 := take_sum_le (fun s : S45 => s.f0.length) 3 (x.f5 ++ x.f6) (fun s hs => (h.2 s hs).1) (min q 6)
 have e : (x.f5 ++ x.f6).take q = (x.f5 ++ x.f6).take (min q 6) := by
  rcases Nat.le_total q 6 with h' | h'
  ·rw [Nat.min_eq_left h']
  ·rw [Nat.min_eq_right h', List.take_of_length_le (by omega), List.take_of_length_le (by omega)]
 show ((((x.f5 ++ x.f6).take q).map (fun s => s.f0.length)).sum) ≤ 18
 rw [e]
 omega
theorem marksN_le (hl : l.length ≤ 1000) (i : Nat) (hi : i ≤ l.length) : marksN l i ≤ 22000 := by
 have h1 := take_sum_le (fun x : S41 => onsN (x.f5 ++ x.f6)) 18 l (fun x hx => by
  have := onsN_le hw x hx (x.f5 ++ x.f6).length
  rwa [List.take_length] at this) i
 unfold marksN
 omega
theorem sentsN_le (hl : l.length ≤ 1000) (i : Nat) (hi : i ≤ l.length) : sentsN l i ≤ 6000 := by
 have h1 := take_sum_le (fun x : S41 => (x.f5 ++ x.f6).length) 6 l (fun x hx => (hw x hx).1) i
 unfold sentsN
 omega
end
set_option maxHeartbeats 8000000 in
set_option maxRecDepth 100000 in
theorem mark_any (c : Mc) (w0 w : World) (g : Nat) (i : Nat) (hG : Mg c w g) (hm : Mm c w0) (hb : Below w0.heap.size w0 w) (hi : i ≤ c.l.length) :
 Calls Try.prog 25 #[.pointer (some ⟨g, 0, none⟩), .int .i64 i] w fun e w' => e = .returned (.int .i64 (marksN c.l i : Nat)) ∧ Below w.heap.size w w' := by
 have hu25 := Try.underlying25
 have hu58 := Try.underlying58
 have hu41 := Try.underlying41
 have hu45 := Try.underlying45
 have hml := hm.2.2.2.2.1
 have hcc := hm.2.2.2.1
 have hw := hm.2.2.2.2.2.2
 have hCC := (hm.at hb).2
 obtain ⟨vr, vc, vu, hg⟩ := hG
 have hcz1 : w.cell? ⟨g, 1, none⟩ = some (.slice c.A1 c.l.length c.c1) := (q63 hg 1).trans rfl
 obtain ⟨l, hl⟩ : ∃ l, l = c.l := ⟨_, rfl⟩
 rw [← hl] at hml hcc hw hCC hcz1 hi ⊢
 obtain ⟨A1, hA1⟩ : ∃ A1, A1 = c.A1 := ⟨_, rfl⟩
 rw [← hA1] at hCC hcz1
 obtain ⟨i0, hi0, hz0, hz1, hz2⟩ := info_parts iItem_
 have k1 := cut_to (P := Try.prog) 23 41 .i64 Try.underlying23 hi0 A1 l.length c.c1 (i : Int) (by omega) (by omega) hcc
 rw [Int.toNat_natCast] at k1
 obtain ⟨n, hn⟩ : ∃ n, n = l.length := ⟨_, rfl⟩
 have HN := Lib.hid hn
 have HC := Lib.hid hCC
 have HW := Lib.hid hw
 rw [← hn] at hcz1 k1 hi hml
 have HM0 : Hid (4 * (n : Int) = ((marksN l 0 : Nat) : Int)) := Lib.hid (by unfold marksN; simp; omega)
 have hzi : (i : Int) ≤ (n : Int) := by omega
 clear hm hb hg hCC hw hl hi0 hz0 hz1 hz2 hn hcc hA1
 go_enter Try.func25, Try.ntmps25
 go_wp2
 go_loopg [5, 25] i (fun gg s5 s25 wr => ∃ j : Nat, s25 = .int .i64 j ∧ s5 = .int .i64 (marksN l j : Nat) ∧ j ≤ i ∧ i - j ≤ gg ∧ Hid (Below w.heap.size w wr))
 case atStart => exact ⟨0, rfl, by rw [← HM0.out], Nat.zero_le _, by omega, Lib.hid (Below.refl _ _)⟩
 case round =>
 obtain ⟨j, rfl, rfl, hji, hjg, Y⟩ := hrel
 obtain ⟨wO, rfl⟩ : ∃ wO, wO = wr := ⟨_, rfl⟩
 by_cases hlt : j < i
 case neg =>
  obtain rfl : j = i := by omega
  have hltz : ¬ (j : Int) < (j : Int) := by omega
  obtain ⟨mj, hmj⟩ : ∃ mj, mj = marksN l j := ⟨_, rfl⟩
  have HMJ := Lib.hid hmj
  rw [← hmj]
  clear hmj
  go_wp2
  go_ret
  exact ⟨by rw [← HMJ.out]; rfl, Y.out⟩
 have hjl : j < l.length := by have := HN.out; omega
 have hltz : (j : Int) < (i : Int) := by omega
 obtain ⟨ad, A5, c5, A6, c6, e, x0, x1, x2, x3, x4, x5, x6, l5, g5, l6, g6⟩ := at_T41 (Kd.C_below HC.out Y.out) (j : Int) (by omega) (by omega)
 simp only [Int.toNat_natCast] at x0 x1 x2 x3 x4 x5 x6
 obtain ⟨x, hx⟩ : ∃ x, x = q81 l (j : Int) := ⟨_, rfl⟩
 have hxl : x = l[j] := by rw [hx]; simp [q81, List.getD_eq_getElem?_getD, List.getElem?_eq_getElem hjl]
 rw [← hx] at x0 x1 x2 x3 x4 x5 x6 g5 g6
 have hwx := HW.out x (by rw [hxl]; exact List.getElem_mem hjl)
 have hms : marksN l (j + 1) = marksN l j + onsN (x.f5 ++ x.f6) := by rw [hxl]; exact marksN_succ l j hjl
 have hmj := marksN_le HW.out (by have := HN.out; omega) j (by omega)
 have hon := onsN_le HW.out x (by rw [hxl]; exact List.getElem_mem hjl)
 have hll : x.f5.length + x.f6.length ≤ 1000 := by have := hwx.1; rw [List.length_append] at this; omega
 obtain ⟨W2, hW2⟩ : ∃ W2, W2 = wO.alloc (.cells #[.string x.f0, .int .i64 x.f1, .string x.f2, .bool x.f3, .int .i64 x.f4, .slice A5 x.f5.length c5, .slice A6 x.f6.length c6] 41) := ⟨_, rfl⟩
 have hb2 : Below wO.heap.size wO W2 := by rw [hW2]; exact q57 (Below.refl _ _) _
 have hse := sentries_call x A5 c5 A6 c6 W2 (Kd.C_below g5 hb2) (Kd.C_below g6 hb2) hll
 cases e
 obtain ⟨ss, hss⟩ : ∃ ss, ss = x.f5 ++ x.f6 := ⟨_, rfl⟩
 have hm6 := hwx.1
 rw [← hss] at hse hms hon hm6
 obtain ⟨m, hm⟩ : ∃ m, m = ss.length := ⟨_, rfl⟩
 rw [← hm] at hm6
 rw [← hm] at hse
 obtain ⟨mj, hmjj⟩ : ∃ mj, mj = marksN l j := ⟨_, rfl⟩
 rw [← hmjj] at hms hmj ⊢
 obtain ⟨n5, hn5⟩ : ∃ n5, n5 = x.f5.length := ⟨_, rfl⟩
 obtain ⟨n6, hn6⟩ : ∃ n6, n6 = x.f6.length := ⟨_, rfl⟩
 rw [← hn5] at x5 hW2 hse
 rw [← hn6] at x6 hW2 hse
 have HW2 := Lib.hid hW2
 have HM := Lib.hid hm
 have HMS := Lib.hid hms
 have HON := Lib.hid hon
 have HB2 := Lib.hid (q60 Y.out Y.out.size hb2)
 clear Y hx hxl hwx hll hW2 hb2 hss hm hmjj hn5 hn6 l5 l6 g5 g6 hms hon
 go_wp2_with fail
 rw [← HW2.out]
 refine hse.mono ?_
 rintro e w3 ⟨A7, c7, rfl, hc7, hC7, -, hb3⟩
 have HC7 := Lib.hid hC7
 have HB3 := Lib.hid (q60 HB2.out HB2.out.size hb3)
 clear hse hC7 hb3 x0 x1 x2 x3 x4 x5 x6
 go_wp2
 go_loopg [5, 32] m (fun gg s5 s32 wq => ∃ q : Nat, s32 = .int .i64 q ∧ s5 = .int .i64 ((mj + onsN (ss.take q) : Nat) : Int) ∧ q ≤ m ∧ m - q ≤ gg ∧ Hid (Below w3.heap.size w3 wq))
 case atStart => exact ⟨0, rfl, by simp [onsN], Nat.zero_le _, by omega, Lib.hid (Below.refl _ _)⟩
 case round =>
 obtain ⟨q, rfl, rfl, hqm, hqg, Z⟩ := hrel
 obtain ⟨wq, rfl⟩ : ∃ wq, wq = wr := ⟨_, rfl⟩
 by_cases hlq : q < m
 case neg =>
  obtain rfl : q = m := by omega
  have hlz : ¬ (q : Int) < (q : Int) := by omega
  have HE : Hid (mj + onsN (ss.take q) = marksN l (j + 1)) := Lib.hid (by rw [HMS.out, List.take_of_length_le (by have := HM.out; omega)])
  have HBZ := Lib.hid (q60 HB3.out HB3.out.size Z.out)
  rw [HE.out]
  go_wp2
  go_roundg (i - (j + 1))
  case measure => omega
  case rel => exact ⟨j + 1, by go_num, rfl, by omega, Nat.le_refl _, HBZ⟩
 have hlz : (q : Int) < (m : Int) := by omega
 have hqs : q < ss.length := by have := HM.out; omega
 obtain ⟨ad2, A8, c8, A9, c9, e2, y0, y1, -⟩ := at_T45 (Kd.C_below HC7.out Z.out) (q : Int) (by omega) (by omega)
 simp only [Int.toNat_natCast] at y0 y1
 have hsq : q82 ss (q : Int) = ss[q] := by simp [q82, List.getD_eq_getElem?_getD, List.getElem?_eq_getElem hqs]
 rw [hsq] at y0 y1
 have hts := onsN_take ss q hqs
 have ho1 := HON.out q
 have ho2 := HON.out (q + 1)
 obtain ⟨nq, hnq⟩ : ∃ nq, nq = ss[q].f0.length := ⟨_, rfl⟩
 obtain ⟨nr, hnr⟩ : ∃ nr, nr = ss[q].f1.length := ⟨_, rfl⟩
 rw [← hnq] at y0 hts
 rw [← hnr] at y1
 obtain ⟨t, ht⟩ : ∃ t, t = mj + onsN (ss.take q) := ⟨_, rfl⟩
 have HT : Hid (mj + onsN (ss.take (q + 1)) = t + nq) := Lib.hid (by rw [hts, ht]; omega)
 have ht1 : t + nq ≤ 30000 := by rw [ht]; omega
 rw [← ht]
 cases e2
 have HZ := Lib.hid (q57 Z.out (.cells #[.slice A8 nq c8, .slice A9 nr c9] 45))
 clear Z hsq hts hnq hnr ht
 go_wp2
 go_roundg (m - (q + 1))
 case measure => omega
 case rel => exact ⟨q + 1, by go_num, by rw [HT.out]; go_num, by omega, Nat.le_refl _, HZ⟩
set_option maxHeartbeats 8000000 in
set_option maxRecDepth 100000 in
theorem sent_any (c : Mc) (w0 w : World) (g : Nat) (i : Nat) (hG : Mg c w g) (hm : Mm c w0) (hb : Below w0.heap.size w0 w) (hi : i ≤ c.l.length) :
 Calls Try.prog 26 #[.pointer (some ⟨g, 0, none⟩), .int .i64 i] w fun e w' => e = .returned (.int .i64 (c.la + 6 * (c.l.length : Int) + (sentsN c.l i : Nat))) ∧ Below w.heap.size w w' := by
 have hu25 := Try.underlying25
 have hu32 := Try.underlying32
 have hu58 := Try.underlying58
 have hu41 := Try.underlying41
 have hml := hm.2.2.2.2.1
 have hcc := hm.2.2.2.1
 obtain ⟨hla, hw⟩ := hm.2.2.2.2.2
 have hCC := (hm.at hb).2
 obtain ⟨vr, vc, vu, hg⟩ := hG
 have hcz1 : w.cell? ⟨g, 1, none⟩ = some (.slice c.A1 c.l.length c.c1) := (q63 hg 1).trans rfl
 have hcz3 : w.cell? ⟨g, 3, none⟩ = some (.int .i64 c.la) := (q63 hg 3).trans rfl
 obtain ⟨l, hl⟩ : ∃ l, l = c.l := ⟨_, rfl⟩
 rw [← hl] at hml hcc hw hCC hcz1 hi ⊢
 obtain ⟨A1, hA1⟩ : ∃ A1, A1 = c.A1 := ⟨_, rfl⟩
 rw [← hA1] at hCC hcz1
 obtain ⟨la, hla'⟩ : ∃ la, la = c.la := ⟨_, rfl⟩
 rw [← hla'] at hla hcz3 ⊢
 obtain ⟨i0, hi0, hz0, hz1, hz2⟩ := info_parts iItem_
 have k1 := cut_to (P := Try.prog) 23 41 .i64 Try.underlying23 hi0 A1 l.length c.c1 (i : Int) (by omega) (by omega) hcc
 rw [Int.toNat_natCast] at k1
 obtain ⟨n, hn⟩ : ∃ n, n = l.length := ⟨_, rfl⟩
 have HN := Lib.hid hn
 have HC := Lib.hid hCC
 have HW := Lib.hid hw
 rw [← hn] at hcz1 k1 hi hml ⊢
 have hzi : (i : Int) ≤ (n : Int) := by omega
 clear hm hb hg hCC hw hl hi0 hz0 hz1 hz2 hn hcc hA1 hla'
 go_enter Try.func26, Try.ntmps26
 go_wp2
 have hS : w.cell? ⟨g, 1, none⟩ = some (.slice A1 n c.c1) ∧ w.cell? ⟨g, 3, none⟩ = some (.int .i64 la) := ⟨hcz1, hcz3⟩
 refine st_ (fun w' => w'.cell? ⟨g, 1, none⟩ = some (.slice A1 n c.c1) ∧ w'.cell? ⟨g, 3, none⟩ = some (.int .i64 la)) 14 hS (fun hHeld => ?_)
 refine pu_ 0 (some 8) ?_
 refine pu_ 1 (some 9) ?_
 refine pu_ 2 (some 10) ?_
 refine pu_ 3 (some 11) ?_
 refine tk_ 4 (some 12) hHeld ?_ (hy := by rintro w' ⟨s0, s1⟩; go_simp; with_reducible rfl)
 refine pu_ 5 (some 13) ?_
 refine pu_ 6 (some 14) ?_
 refine pu_ 7 (some 15) ?_
 refine pu_ 8 (some 16) ?_
 refine tk_ 9 (some 17) hHeld ?_ (hy := by rintro w' ⟨s0, s1⟩; go_simp; with_reducible rfl)
 refine pu_ 10 (some 18) ?_
 refine pu_ 11 (some 19) ?_
 refine pu_ 12 (some 20) ?_
 refine pu_ 13 (some 5) ?_
 refine dn_ ?_
 have HBD := Lib.hid (q58 (Below.refl w.heap.size w))
 obtain ⟨hcz1, hcz3⟩ := hHeld
 generalize w.drew = wD at HBD hcz1 hcz3 ⊢
 go_wp2
 have HL0 : Hid (wrap64 (la + wrap64 (6 * (n : Int))) = la + 6 * (n : Int) + ((sentsN l 0 : Nat) : Int)) := Lib.hid (by unfold sentsN wrap64; simp; omega)
 go_loopg [5, 29] i (fun gg s5 s29 wr => ∃ j : Nat, s29 = .int .i64 j ∧ s5 = .int .i64 (la + 6 * (n : Int) + ((sentsN l j : Nat) : Int)) ∧ j ≤ i ∧ i - j ≤ gg ∧ Hid (Below w.heap.size w wr))
 case atStart => exact ⟨0, rfl, by rw [HL0.out], Nat.zero_le _, by omega, HBD⟩
 case round =>
 obtain ⟨j, rfl, rfl, hji, hjg, Y⟩ := hrel
 obtain ⟨wO, rfl⟩ : ∃ wO, wO = wr := ⟨_, rfl⟩
 by_cases hlt : j < i
 case neg =>
  obtain rfl : j = i := by omega
  have hltz : ¬ (j : Int) < (j : Int) := by omega
  obtain ⟨mj, hmj⟩ : ∃ mj : Int, mj = la + 6 * (n : Int) + ((sentsN l j : Nat) : Int) := ⟨_, rfl⟩
  have HMJ := Lib.hid hmj
  rw [← hmj]
  clear hmj
  go_wp2
  go_ret
  exact ⟨by rw [← HMJ.out]; rfl, Y.out⟩
 have hjl : j < l.length := by have := HN.out; omega
 have hltz : (j : Int) < (i : Int) := by omega
 obtain ⟨ad, A5, c5, A6, c6, e, x0, x1, x2, x3, x4, x5, x6, l5, g5, l6, g6⟩ := at_T41 (Kd.C_below HC.out Y.out) (j : Int) (by omega) (by omega)
 simp only [Int.toNat_natCast] at x0 x1 x2 x3 x4 x5 x6
 obtain ⟨x, hx⟩ : ∃ x, x = q81 l (j : Int) := ⟨_, rfl⟩
 have hxl : x = l[j] := by rw [hx]; simp [q81, List.getD_eq_getElem?_getD, List.getElem?_eq_getElem hjl]
 rw [← hx] at x0 x1 x2 x3 x4 x5 x6 g5 g6
 have hwx := HW.out x (by rw [hxl]; exact List.getElem_mem hjl)
 have hms : sentsN l (j + 1) = sentsN l j + (x.f5 ++ x.f6).length := by rw [hxl]; exact sentsN_succ l j hjl
 have hmj := sentsN_le HW.out (by have := HN.out; omega) j (by omega)
 have hll : x.f5.length + x.f6.length ≤ 1000 := by have := hwx.1; rw [List.length_append] at this; omega
 obtain ⟨W2, hW2⟩ : ∃ W2, W2 = wO.alloc (.cells #[.string x.f0, .int .i64 x.f1, .string x.f2, .bool x.f3, .int .i64 x.f4, .slice A5 x.f5.length c5, .slice A6 x.f6.length c6] 41) := ⟨_, rfl⟩
 have hb2 : Below wO.heap.size wO W2 := by rw [hW2]; exact q57 (Below.refl _ _) _
 have hse := sentries_call x A5 c5 A6 c6 W2 (Kd.C_below g5 hb2) (Kd.C_below g6 hb2) hll
 cases e
 have hm6 := hwx.1
 obtain ⟨ss, hss⟩ : ∃ ss, ss = x.f5 ++ x.f6 := ⟨_, rfl⟩
 rw [← hss] at hse hms hm6
 obtain ⟨m, hm⟩ : ∃ m, m = ss.length := ⟨_, rfl⟩
 rw [← hm] at hm6 hse hms
 obtain ⟨mj, hmjj⟩ : ∃ mj : Int, mj = la + 6 * (n : Int) + ((sentsN l j : Nat) : Int) := ⟨_, rfl⟩
 have HMS : Hid (la + 6 * (n : Int) + ((sentsN l (j + 1) : Nat) : Int) = mj + (m : Int)) := Lib.hid (by rw [hms, hmjj]; omega)
 have hb0 : 0 ≤ mj + (m : Int) ∧ mj + (m : Int) ≤ 200000 := by rw [hmjj]; omega
 rw [← hmjj]
 obtain ⟨n5, hn5⟩ : ∃ n5, n5 = x.f5.length := ⟨_, rfl⟩
 obtain ⟨n6, hn6⟩ : ∃ n6, n6 = x.f6.length := ⟨_, rfl⟩
 rw [← hn5] at x5 hW2 hse
 rw [← hn6] at x6 hW2 hse
 have HW2 := Lib.hid hW2
 have HB2 := Lib.hid (q60 Y.out Y.out.size hb2)
 clear Y hx hxl hwx hll hW2 hb2 hss hm hmjj hn5 hn6 l5 l6 g5 g6 hms hmj
 go_wp2_with fail
 rw [← HW2.out]
 refine hse.mono ?_
 rintro e w3 ⟨A7, c7, rfl, -, -, -, hb3⟩
 have HB3 := Lib.hid (q60 HB2.out HB2.out.size hb3)
 clear hse hb3 x0 x1 x2 x3 x4 x5 x6
 have hwr : wrap64 (mj + (m : Int)) = mj + (m : Int) := by unfold wrap64; omega
 go_wp2
 go_roundg (i - (j + 1))
 case measure => omega
 case rel => exact ⟨j + 1, by go_num, by rw [HMS.out], by omega, Nat.le_refl _, HB3⟩
def flagF (i s : Int) : Int := 4 * i + s - 1
theorem flag_call (i s : Int) (w : World) (hi : 0 ≤ i ∧ i ≤ 1000) (hs : 0 ≤ s ∧ s ≤ 10) : Calls Try.prog 23 #[.int .i64 i, .int .i64 s] w fun e w' => e = .returned (.int .i64 (flagF i s)) ∧ Below w.heap.size w w' :=
 (q44.calls i s (flagF i s) w (by unfold q44.f flagF wrap64; congr 1; omega)).mono fun e w' h => ⟨h.1, h.2.below⟩
theorem up_call (f : Int) (w : World) : Calls Try.prog 67 #[.int .i64 f] w fun e w' => e = .returned (.agg #[.int .i64 f, .bool false]) ∧ Below w.heap.size w w' := q54.calls f f false w rfl
theorem down_call (f : Int) (w : World) : Calls Try.prog 73 #[.int .i64 f] w fun e w' => e = .returned (.agg #[.int .i64 f, .bool true]) ∧ Below w.heap.size w w' := q48.calls f f true w rfl
theorem ints1_row (W : World) (n : Int) : Kd.C (Kd.int .i64) (W.alloc (.cells #[.int .i64 n] 3)) (some ⟨W.heap.size, 0, none⟩) 1 [n] := by
 have h : Kd.R (Kd.int .i64) 3 (W.alloc (.cells #[.int .i64 n] 3)) W.heap.size (fun _ => True) (.slice (some ⟨W.heap.size, 0, none⟩) 1 1) [n] := Kd.R_of_own (by simpa [encs] using World.ownsRow_lit (base := W.heap.size) (e := 3) (size := 1) W #[.int .i64 n] 1 (Nat.le_refl _) (by decide) (by simp)) (fun _ _ => trivial)
 exact (Kd.R_reads' h).2.2
theorem puts1_call (n : Int) (W : World) : Calls Try.prog 66 #[.slice (some ⟨W.heap.size, 0, none⟩) 1 1] (W.alloc (.cells #[.int .i64 n] 3)) fun e w' => ∃ A c, e = .returned (.slice A 1 c) ∧ Kd.R k111 111 w' (W.heap.size + 1) (fun _ => True) (.slice A 1 c) [⟨n, true⟩] ∧ Below W.heap.size W w' := by
 refine (q43.calls 2 (some ⟨W.heap.size, 0, none⟩) 1 [n] [⟨n, true⟩] (W.alloc (.cells #[.int .i64 n] 3)) (ints1_row W n) (Nat.le_refl _) (by simp [q43.f, q43.l0, rd, wrap64])).mono ?_
 rintro e w' ⟨v, rfl, hR, hb⟩
 obtain ⟨A, c, rfl⟩ := Kd.R_slice hR
 have hb0 := q57 (Below.refl W.heap.size W) (.cells #[.int .i64 n] 3)
 exact ⟨A, c, rfl, by simpa using hR, q60 hb0 hb0.size hb⟩
def litCells : List (S93) → List Value
 | [] => []
 | x :: l => .int .i64 x.f0 :: .bool x.f1 :: litCells l
theorem litCells_len (ls : List (S93)) : (litCells ls).length = ls.length * 2 := by
 induction ls with
 | nil => rfl
 | cons x l ih => simp only [litCells, List.length_cons, ih]; omega
theorem lits_reps (W : World) (base : Nat) (ok : Nat → Prop) (ls : List (S93)) : Reps (Kd.M k93 W base ok) 2 ls (litCells ls) := by
 induction ls with
 | nil => exact Reps.none _ _
 | cons x l ih => exact Reps.c2 (k93_mkM _ _ _ x) ih
theorem lits_row (W : World) (ls : List (S93)) (hn : ls.length ≤ 1000) : Kd.R k93 93 (W.alloc (.cells (litCells ls).toArray 93)) W.heap.size (fun _ => True) (.slice (some ⟨W.heap.size, 0, none⟩) ls.length ls.length) ls := by
 refine ⟨fun _ _ => trivial, litCells ls, ?_, lits_reps _ _ _ ls⟩
 have h2 := World.ownsRow_lit (base := W.heap.size) (e := 93) (size := 2) W (litCells ls).toArray ls.length (Nat.le_refl _) (by simp [maxLen]; omega) (by simp [litCells_len])
 show World.ownsRow _ _ _ 2 _ _ _
 simpa using h2
theorem Mr.rule {c : Mc} {w0 w : World} {g : Nat} {vr : Value} {rs : List (S72)} (hM : Mr c w0 w g vr rs) (st : Int) {A2 : Option Addr} {c2 n2 b2 : Nat} {th : List (S111)} {W : World} {A3 : Option Addr} {c3 n3 b3 : Nat} {ls : List (S93)}
 (hb : Below w.heap.size w W) (h2 : Kd.R k111 111 W b2 (fun _ => True) (.slice A2 n2 c2) th) (hb2 : w.heap.size ≤ b2) (h3 : Kd.R k93 93 W b3 (fun _ => True) (.slice A3 n3 c3) ls) (hb3 : w.heap.size ≤ b3) (hn2 : n2 = th.length) (hn3 : n3 = ls.length) (hlim : rs.length ≤ 100000) :
 Calls Try.prog 69 #[.pointer (some ⟨g, 0, none⟩), .int .i64 st, .slice A2 n2 c2, .slice A3 n3 c3] W (RulePost c w0 w g vr (rs ++ [⟨st, ls, [], th⟩])) := by
 subst hn2 hn3
 have hlt := hM.lt
 have ho : ∀ k, vr.ownBlock = some k → k < w.heap.size := fun k e => Kd.R_lt hM.2.2.2 k e
 refine (rule_any c w0 W g vr rs st A2 c2 th A3 c3 ls (hM.below hb) (Kd.R_lower (Kd.R_mono (Kd.R_bound h2) (fun k hk e => by have := ho k e.symm; have := hk.2.1; omega)) (by omega)) (Kd.R_lower (Kd.R_mono (Kd.R_bound h3) (fun k hk e => by have := ho k e.symm; have := hk.2.1; omega)) (by omega)) hlim).mono ?_
 rintro e w' ⟨rfl, vr', h4, h5⟩
 exact ⟨rfl, vr', h4, (Go_.below Go_.refl hb).then_ h5⟩
def fifthL (c : Mc) (i : Nat) : List (S72) := if (q81 c.l (i : Int)).f1 = 1 then [⟨5, [⟨flagF i 2, false⟩, ⟨passF c.la i 0, true⟩, ⟨passF c.la i 5, true⟩], [], [⟨passF c.la i 3, true⟩]⟩] else []
set_option maxHeartbeats 8000000 in
set_option maxRecDepth 100000 in
theorem fifth_any (c : Mc) (w0 w : World) (g : Nat) (vr : Value) (rs : List (S72)) (i : Nat) (hM : Mr c w0 w g vr rs) (hm : Mm c w0) (hi : i < c.l.length) (hlim : rs.length ≤ 100000) :
 Calls Try.prog 32 #[.pointer (some ⟨g, 0, none⟩), .int .i64 i] w (RulePost c w0 w g vr (rs ++ fifthL c i)) := by
 have hu25 := Try.underlying25
 have hu58 := Try.underlying58
 have hu41 := Try.underlying41
 have hml := hm.2.2.2.2.1
 have hla := hm.2.2.2.2.2.1
 have hcz1 : w.cell? ⟨g, 1, none⟩ = some (.slice c.A1 c.l.length c.c1) := (q63 hM.2.2.1 1).trans rfl
 obtain ⟨ad, A5, c5, A6, c6, e, x0, x1, -⟩ := at_T41 (hm.at hM.1).2 (i : Int) (by omega) (by omega)
 simp only [Int.toNat_natCast] at x1
 rw [e] at hcz1
 obtain ⟨n, hn⟩ : ∃ n, n = c.l.length := ⟨_, rfl⟩
 rw [← hn] at hcz1 hi hml
 have hlt : (i : Int) < (n : Int) := by omega
 have hi3 : 0 ≤ (i : Int) ∧ (i : Int) ≤ 1000 := by omega
 obtain ⟨R, hR⟩ : ∃ R, R = fifthL c i := ⟨_, rfl⟩
 rw [← hR]
 unfold fifthL at hR
 obtain ⟨kd, hk⟩ : ∃ kd, kd = (q81 c.l (i : Int)).f1 := ⟨_, rfl⟩
 rw [← hk] at x1 hR
 have HM := Lib.hid hM
 have HR := Lib.hid hR
 clear hM hm e x0 hn hR hk
 by_cases hk1 : kd = 1
 case neg =>
  have hkb : (kd == 1) = false := beq_eq_false_iff_ne.mpr hk1
  have HN : Hid (R = []) := Lib.hid (by rw [HR.out, if_neg hk1])
  go_enter Try.func32, Try.ntmps32
  go_wp2
  refine bodyPost_end (results_none rfl _ _ _) rfl ?_
  rw [HN.out, List.append_nil]
  exact ⟨rfl, vr, HM.out, Go_.refl⟩
 have HP : Hid (R = [⟨5, [⟨flagF i 2, false⟩, ⟨passF c.la i 0, true⟩, ⟨passF c.la i 5, true⟩], [], [⟨passF c.la i 3, true⟩]⟩]) := Lib.hid (by rw [HR.out, if_pos hk1])
 subst hk1
 have hp := pass_any c w g i 3 HM.out.mg hla hi3 (by decide)
 go_enter Try.func32, Try.ntmps32
 go_wp2_with fail
 refine hp.mono ?_
 rintro e w1 ⟨rfl, rfl⟩
 clear hp x1 hcz1
 go_wp2_with fail
 refine (puts1_call (passF c.la i 3) w1).mono ?_
 rintro e w2 ⟨A2, c2, rfl, hR2, hb2⟩
 have HR2 := Lib.hid hR2
 have HB2 := Lib.hid hb2
 clear hR2 hb2
 go_wp2_with fail
 refine (flag_call i 2 w2 hi3 (by decide)).mono ?_
 rintro e w3 ⟨rfl, hb⟩
 have HR2 := Lib.hid (Kd.R_below HR2.out hb)
 have HB2 := Lib.hid (q60 HB2.out HB2.out.size hb)
 clear hb
 go_wp2_with fail
 refine (up_call (flagF i 2) w3).mono ?_
 rintro e w4 ⟨rfl, hb⟩
 have HR2 := Lib.hid (Kd.R_below HR2.out hb)
 have HB2 := Lib.hid (q60 HB2.out HB2.out.size hb)
 clear hb
 have hp := pass_any c w4 g i 0 (HM.out.below HB2.out).mg hla hi3 (by decide)
 go_wp2_with fail
 refine hp.mono ?_
 rintro e w5 ⟨rfl, rfl⟩
 clear hp
 go_wp2_with fail
 refine (down_call (passF c.la i 0) w5).mono ?_
 rintro e w6 ⟨rfl, hb⟩
 have HR2 := Lib.hid (Kd.R_below HR2.out hb)
 have HB2 := Lib.hid (q60 HB2.out HB2.out.size hb)
 clear hb
 have hp := pass_any c w6 g i 5 (HM.out.below HB2.out).mg hla hi3 (by decide)
 go_wp2_with fail
 refine hp.mono ?_
 rintro e w7 ⟨rfl, rfl⟩
 clear hp
 go_wp2_with fail
 refine (down_call (passF c.la i 5) w7).mono ?_
 rintro e w8 ⟨rfl, hb⟩
 have HR2 := Lib.hid (Kd.R_below HR2.out hb)
 have HB2 := Lib.hid (q60 HB2.out HB2.out.size hb)
 clear hb
 have hlit := lits_row w8 [⟨flagF i 2, false⟩, ⟨passF c.la i 0, true⟩, ⟨passF c.la i 5, true⟩] (by simp)
 have hb8 := q57 HB2.out (.cells (litCells [⟨flagF i 2, false⟩, ⟨passF c.la i 0, true⟩, ⟨passF c.la i 5, true⟩]).toArray 93)
 have hru := HM.out.rule 5 hb8 (Kd.R_alloc HR2.out _) (Nat.le_succ _) hlit HB2.out.size rfl rfl hlim
 go_wp2_with fail
 refine hru.mono ?_
 rintro e w9 ⟨rfl, vr', h1, h2⟩
 have HF := Lib.hid (And.intro h1 h2)
 clear hlit hb8 hru h1 h2
 go_wp2
 refine bodyPost_end (results_none rfl _ _ _) rfl ?_
 rw [HP.out]
 exact ⟨rfl, vr', HF.out.1, HF.out.2⟩
def q50.l0 : Nat → ByteArray → List Int → List (S41) → Int → Int → Option (List Int)
 | 0, _, _, _, _, _ => none
 | k + 1, x1, x5, x9, x10, x11 => if x11 < x10 then (if 0 ≤ x11 then (if x11 < (x9.length : Int) then (if ((q81 x9 x11).f2).toList = x1.toList then (if x5.length < 17592186044416 then (q50.l0 k x1 (x5 ++ [x11]) x9 x10 (wrap64 (x11 + 1))) else (none)) else (q50.l0 k x1 x5 x9 x10 (wrap64 (x11 + 1)))) else (none)) else (none)) else (some x5)
def q50.f (k : Nat) (l0_0 : List ByteArray) (l0_1 : List (S41)) (a1 : ByteArray) : Option (List Int) := q50.l0 k a1 ([] : List Int) l0_1 (l0_1.length : Int) 0
theorem q50.mono_l : ∀ k, (∀ y0 y1 y2 y3 y4, LeO (q50.l0 k y0 y1 y2 y3 y4) (q50.l0 (k + 1) y0 y1 y2 y3 y4))
 | 0 => fun _ _ _ _ _ r h => by simp [q50.l0] at h
 | k + 1 => by
  have ih0 := q50.mono_l k
  ·intro y0 y1 y2 y3 y4
   unfold q50.l0
   repeat' first
   | (with_reducible exact ih0 _ _ _ _ _)
   | (with_reducible exact LeO.refl _)
   | (with_reducible exact LeO.none _)
   | (with_reducible refine LeO.ite ?_ ?_)
   | (with_reducible refine LeO.bind ?_ (fun _ => ?_))
   | exact ih0 _ _ _ _ _
   | exact LeO.none _
   | refine LeO.ite ?_ ?_
   | refine LeO.bind ?_ (fun _ => ?_)
theorem q50.mono : ∀ a0 a1 a2 k, LeO (q50.f k a0 a1 a2) (q50.f (k + 1) a0 a1 a2) := by
 intro a0 a1 a2 k
 have ih0 := q50.mono_l k
 unfold q50.f
 repeat' first
  | (with_reducible exact ih0 _ _ _ _ _)
  | (with_reducible exact LeO.refl _)
  | (with_reducible exact LeO.none _)
  | (with_reducible refine LeO.ite ?_ ?_)
  | (with_reducible refine LeO.bind ?_ (fun _ => ?_))
  | exact ih0 _ _ _ _ _
  | exact LeO.none _
  | refine LeO.ite ?_ ?_
  | refine LeO.bind ?_ (fun _ => ?_)
set_option maxHeartbeats 8000000 in
set_option maxRecDepth 100000 in
theorem q50.calls (k : Nat) (A0_0 : Option Addr) (c0_0 : Nat) (l0_0 : List ByteArray) (A0_1 : Option Addr) (c0_1 : Nat) (l0_1 : List (S41)) (a1 : ByteArray) (r : List Int) (w : World) (hr0_0 : Kd.C Kd.string w A0_0 l0_0.length l0_0) (hc0_0 : l0_0.length ≤ c0_0) (hr0_1 : Kd.C k41 w A0_1 l0_1.length l0_1) (hc0_1 : l0_1.length ≤ c0_1) (h : q50.f k l0_0 l0_1 a1 = some r) :
 Calls Try.prog 71 #[.agg #[.slice A0_0 l0_0.length c0_0, .slice A0_1 l0_1.length c0_1], .string a1] w fun e w' => ∃ v0_ : Value, e = .returned (v0_) ∧ Kd.R (Kd.int .i64) 3 w' w.heap.size (fun _ => True) v0_ r ∧ Below w.heap.size w w' := by
 have hu25 := Try.underlying25
 have hu41 := Try.underlying41
 have HR0_0 := q56.mk hr0_0
 have HC0_0 := q56.mk hc0_0
 clear hr0_0 hc0_0
 have HR0_1 := q56.mk hr0_1
 have HC0_1 := q56.mk hc0_1
 clear hr0_1 hc0_1
 have HB := q56.mk (Below.refl w.heap.size w)
 have H : (q50.l0 k a1 ([] : List Int) l0_1 (l0_1.length : Int) 0) = some r := h
 clear h
 have H' := q56.mk H
 clear H
 go_enter Try.func71, Try.ntmps71
 go_wp2_with (first | ((with_reducible refine q71 (N := 2) rfl ?_); refine bx_ 2 #[.slice A0_0 l0_0.length c0_0, .slice A0_1 l0_1.length c0_1] 25 ?_; intro gb302 hg w3 hbox hb; have BK302 := q56.mk (hbox); have GW302 := zz_ (w := w) hg; have GE302 := zz_ (w := w) hg; replace HB := hb_ HB hb;  clear hb hbox hg; obtain ⟨hcz4_0, hcz4_1, hfz4_0, hfz4_1⟩ := bs2_ BK302))
 go_loopg [5, 11] k (fun kq v5 v11 w' => ∃ (x5_1 : List Int) (x11_1 : Int), v11 = .int .i64 x11_1 ∧ q56 (q50.l0 kq a1 x5_1 l0_1 (l0_1.length : Int) x11_1 = some r) ∧ q56 (kq ≤ k) ∧ q56 (Kd.R (Kd.int .i64) 3 w' w.heap.size (fun _ => True) v5 x5_1) ∧ q56 (w'.heap[gb302]? = some (.cells #[(.slice A0_0 l0_0.length c0_0), (.slice A0_1 l0_1.length c0_1)] 25 (0, 0))) ∧ q56 (Below w.heap.size w w'))
 case atStart => exact ⟨(([] : List Int)), (0), rf_, H', ⟨Nat.le_refl _⟩, ⟨by first | exact Kd.R_nil _ _ _ _ _ | exact Kd.N_nil _ _ _ _ _ | exact Kd.V_nil _ _ _ _ _ | exact Kd.Q_nil _ _ _ _ _ | exact Kd.S_nil _ _ _ _ _⟩, ⟨gx_ BK302⟩, ⟨hf_⟩⟩
 case round =>
 clear H'
 (try clear hcz4_0); (try clear hcz4_1); (try clear hfz4_0); (try clear hfz4_1)
 obtain ⟨x5_1, x11_1, rfl, HA, HK1, HO_5, BK302, HB⟩ := hrel
 cases gk with
 | zero => exact absurd HA.out (by simp [q50.l0])
 | succ k1 =>
 have H := HA.out
 clear HA
 simp only [q50.l0] at H
 by_cases c5 : x11_1 < (l0_1.length : Int)
 rotate_left
 ·rw [if_neg c5] at H
  replace c5 := decide_eq_false c5
  obtain rfl := Option.some.inj H
  go_wp2
  go_ret
  exact ⟨_, by first | rfl | (simp [errW_none, errW_some] <;> rfl) | (simp [*, errW_none, errW_some] <;> rfl), by (with_reducible repeat (first | apply Kd.R_alloc | apply Kd.R_drewN | apply Kd.R_drew)); exact HO_5.out, by repeat (first | (with_reducible first | exact HB.out | apply q57 | apply q75 | apply q58 | refine below_set ?_ GE302.out) | exact HB.out)⟩
 rw [if_pos c5] at H
 replace c5 := decide_eq_true c5
 by_cases c6 : 0 ≤ x11_1
 rotate_left
 ·rw [if_neg c6] at H
  exact absurd H (by simp)
 rw [if_pos c6] at H
 replace c6 := decide_eq_true c6
 by_cases c7 : x11_1 < (l0_1.length : Int)
 rotate_left
 ·rw [if_neg c7] at H
  exact absurd H (by simp)
 rw [if_pos c7] at H
 replace c7 := decide_eq_true c7
 by_cases c8 : ((q81 l0_1 x11_1).f2).toList = a1.toList
 ·rw [if_pos c8] at H
  have c8b0 : (((q81 l0_1 x11_1).f2).toList == a1.toList) = true := beq_iff_eq.mpr c8
  have c8b1 : (((q81 l0_1 x11_1).f2).toList != a1.toList) = false := bne_eq_false_iff_eq.mpr c8
  clear c8
  by_cases c9 : x5_1.length < 17592186044416
  rotate_left
  ·rw [if_neg c9] at H
   exact absurd H (by simp)
  rw [if_pos c9] at H
  have LMc9 := q56.mk c9
  clear c9
  obtain ⟨y305, hy305⟩ : ∃ y_ : List Int, y_ = (x5_1 ++ [x11_1]) := ⟨_, rfl⟩
  rw [← hy305] at H
  have Ny305 := q56.mk hy305
  clear hy305
  have H' := q56.mk H
  clear H
  obtain ⟨ad303, A303_5, c303_5, A303_6, c303_6, e303, hx303_0, hx303_1, hx303_2, hx303_3, hx303_4, hx303_5, hx303_6, HC303_5, HR303_5, HC303_6, HR303_6, p303, q303⟩ := au_T41 HR0_1 HB (x11_1)
  cases e303
  go_wp2_with (first | ((with_reducible refine q71 (N := 7) rfl ?_); refine bx_ 7 #[.string (⟨#[]⟩ : ByteArray), .int .i64 0, .string (⟨#[]⟩ : ByteArray), .bool false, .int .i64 0, .slice none 0 0, .slice none 0 0] 41 ?_; intro gb304 hg w10 hbox hb; replace HO_5 := q56.mk (Kd.R_below (ra_ HO_5.out) hb); have BK304 := q56.mk (hbox); have GW304 := zz_ (w := w) hg; have GE304 := zz_ (w := w) hg; replace HB := hb_ HB hb; have NB302_304 := ne1_ hg BK302; have NB304_302 := ne2_ hg BK302; replace BK302 := bb_ BK302 hb;  clear hb hbox hg; have hnb11 := NB304_302.out; have hnc11 := NB302_304.out; obtain ⟨hcz12_0, hcz12_1, hcz12_2, hcz12_3, hcz12_4, hcz12_5, hcz12_6, hfz12_0, hfz12_1, hfz12_2, hfz12_3, hfz12_4, hfz12_5, hfz12_6⟩ := bs7_ BK304) | ((with_reducible refine q69 (b := .append) (xs := #[.tmp 20, .tmp 22]) rfl ?_); at_builtin; refine Kd.R_append (Kd.int .i64) (w0 := w) w.heap.size rfl (.tmp 20) (.tmp 22) 27 3 (.int .i64 0) 8 rfl Try.underlying27 info3 rfl (by decide) (by omega) u5 x5_1 x11_1 [.int .i64 x11_1] (fun _ => True) (fun _ => False) rfl (by first | (go_simp; done) | (go_simp; rfl)) ?aP (fun _ hk => hk.elim) ?aF ?aO ?aB ?aS ?aL ?_; (case aP => exact rfl); (case aB => exact hf_); (case aF => exact (fun _ _ => trivial)); (case aO => exact (ra_ (Kd.R_mono (Kd.R_far (p := ⟨gb304, 6, none⟩) (Kd.R_far (p := ⟨gb304, 5, none⟩) (Kd.R_far (p := ⟨gb304, 4, none⟩) (Kd.R_far (p := ⟨gb304, 3, none⟩) (Kd.R_far (p := ⟨gb304, 2, none⟩) (Kd.R_far (p := ⟨gb304, 1, none⟩) (Kd.R_far (p := ⟨gb304, 0, none⟩) (Kd.R_types HO_5.out BK304.out (by decide)) (fun _ hk => hk.2) (.string ((q81 l0_1 x11_1).f0))) (fun _ hk => hk.2) (.int .i64 ((q81 l0_1 x11_1).f1))) (fun _ hk => hk.2) (.string ((q81 l0_1 x11_1).f2))) (fun _ hk => hk.2) (.bool ((q81 l0_1 x11_1).f3))) (fun _ hk => hk.2) (.int .i64 ((q81 l0_1 x11_1).f4))) (fun _ hk => hk.2) (.slice A303_5 ((q81 l0_1 x11_1).f5).length c303_5)) (fun _ hk => hk.2) (.slice A303_6 ((q81 l0_1 x11_1).f6).length c303_6)) (fun _ hk => trivial)))); (case aS => exact (q59 hf_)); (case aL => have := LMc9.out; omega); intro v306 w13 ho hb hg hat; rw [← Ny305.out] at ho; have n0_ := q56.mk (blk_grown (g := gb302) (o := .cells #[.slice A0_0 l0_0.length c0_0, .slice (some ad303) l0_1.length c0_1] 25 (0, 0)) (by (with_reducible repeat (first | refine q65 ?_ _ | refine q64 ?_ | refine q61 ?_ _ | refine q66 ?_ NB302_304.out _)); exact BK302.out) hg (Kd.R_ne HO_5.out BK302.out (by decide))); have n1_ := q56.mk (blk_grown (g := gb304) (o := .cells #[.string ((q81 l0_1 x11_1).f0), .int .i64 ((q81 l0_1 x11_1).f1), .string ((q81 l0_1 x11_1).f2), .bool ((q81 l0_1 x11_1).f3), .int .i64 ((q81 l0_1 x11_1).f4), .slice A303_5 ((q81 l0_1 x11_1).f5).length c303_5, .slice A303_6 ((q81 l0_1 x11_1).f6).length c303_6] 41 (0, 0)) (by (with_reducible repeat (first | refine q65 ?_ _ | refine q64 ?_ | refine q61 ?_ _)); apply put7_; (with_reducible repeat (first | refine q65 ?_ _ | refine q64 ?_ | refine q61 ?_ _)); exact BK304.out) hg (Kd.R_ne HO_5.out BK304.out (by decide))); have n2_ := q56.mk (hb); have n3_ := q56.mk (ho); clear BK302; clear BK304; clear HB; clear HO_5; have BK302 := n0_; have BK304 := n1_; have HB := n2_; have HO307 := n3_; clear n0_ n1_ n2_ n3_; clear ho hb hg hat))
  go_roundg k1
  case measure => have := HK1.out; omega
  case rel => exact ⟨(y305), (wrap64 (x11_1 + 1)), rf_, H', ⟨by have := HK1.out; omega⟩, ⟨ra_ HO307.out⟩, ⟨gx_ BK302⟩, ⟨hf_⟩⟩
 rw [if_neg c8] at H
 have c8b0 : (((q81 l0_1 x11_1).f2).toList == a1.toList) = false := beq_eq_false_iff_ne.mpr c8
 have c8b1 : (((q81 l0_1 x11_1).f2).toList != a1.toList) = true := bne_iff_ne.mpr c8
 have H' := q56.mk H
 clear H
 obtain ⟨ad303, A303_5, c303_5, A303_6, c303_6, e303, hx303_0, hx303_1, hx303_2, hx303_3, hx303_4, hx303_5, hx303_6, HC303_5, HR303_5, HC303_6, HR303_6, p303, q303⟩ := au_T41 HR0_1 HB (x11_1)
 cases e303
 go_wp2_with (first | ((with_reducible refine q71 (N := 7) rfl ?_); refine bx_ 7 #[.string (⟨#[]⟩ : ByteArray), .int .i64 0, .string (⟨#[]⟩ : ByteArray), .bool false, .int .i64 0, .slice none 0 0, .slice none 0 0] 41 ?_; intro gb304 hg w14 hbox hb; replace HO_5 := q56.mk (Kd.R_below (ra_ HO_5.out) hb); have BK304 := q56.mk (hbox); have GW304 := zz_ (w := w) hg; have GE304 := zz_ (w := w) hg; replace HB := hb_ HB hb; have NB302_304 := ne1_ hg BK302; have NB304_302 := ne2_ hg BK302; replace BK302 := bb_ BK302 hb;  clear hb hbox hg; have hnb15 := NB304_302.out; have hnc15 := NB302_304.out; obtain ⟨hcz16_0, hcz16_1, hcz16_2, hcz16_3, hcz16_4, hcz16_5, hcz16_6, hfz16_0, hfz16_1, hfz16_2, hfz16_3, hfz16_4, hfz16_5, hfz16_6⟩ := bs7_ BK304))
 go_roundg k1
 case measure => have := HK1.out; omega
 case rel => exact ⟨(x5_1), (wrap64 (x11_1 + 1)), rf_, H', ⟨by have := HK1.out; omega⟩, ⟨ra_ (Kd.R_mono (Kd.R_far (p := ⟨gb304, 6, none⟩) (Kd.R_far (p := ⟨gb304, 5, none⟩) (Kd.R_far (p := ⟨gb304, 4, none⟩) (Kd.R_far (p := ⟨gb304, 3, none⟩) (Kd.R_far (p := ⟨gb304, 2, none⟩) (Kd.R_far (p := ⟨gb304, 1, none⟩) (Kd.R_far (p := ⟨gb304, 0, none⟩) (Kd.R_types HO_5.out BK304.out (by decide)) (fun _ hk => hk.2) (.string ((q81 l0_1 x11_1).f0))) (fun _ hk => hk.2) (.int .i64 ((q81 l0_1 x11_1).f1))) (fun _ hk => hk.2) (.string ((q81 l0_1 x11_1).f2))) (fun _ hk => hk.2) (.bool ((q81 l0_1 x11_1).f3))) (fun _ hk => hk.2) (.int .i64 ((q81 l0_1 x11_1).f4))) (fun _ hk => hk.2) (.slice A303_5 ((q81 l0_1 x11_1).f5).length c303_5)) (fun _ hk => hk.2) (.slice A303_6 ((q81 l0_1 x11_1).f6).length c303_6)) (fun _ hk => trivial))⟩, ⟨by (with_reducible repeat (first | refine q65 ?_ _ | refine q64 ?_ | refine q61 ?_ _ | refine q66 ?_ NB302_304.out _)); exact BK302.out⟩, ⟨hf_⟩⟩
def kidsX (l : List (S41)) (id : ByteArray) : Nat → List Int
 | 0 => []
 | i + 1 => kidsX l id i ++ (if ((q81 l (i : Int)).f2).toList = id.toList then [(i : Int)] else [])
theorem kidsX_len (l : List (S41)) (id : ByteArray) (i : Nat) : (kidsX l id i).length ≤ i := by
 induction i with
 | zero => simp [kidsX]
 | succ i ih => simp only [kidsX, List.length_append]; split <;> simp <;> omega
theorem kidsX_mem (l : List (S41)) (id : ByteArray) (i : Nat) : ∀ k ∈ kidsX l id i, 0 ≤ k ∧ k < i := by
  induction i with
  | zero => intro k hk; simp [kidsX] at hk
  | succ i ih =>
    intro k hk
    simp only [kidsX, List.mem_append] at hk
    rcases hk with hk | hk
    · have := ih k hk; omega
    · split at hk
      · rw [List.mem_singleton.1 hk]; omega
      · cases hk
theorem kids_go (l : List (S41)) (id : ByteArray) (hl : l.length ≤ 1000) (d : Nat) : ∀ (i k : Nat), i + d = l.length → d < k → q50.l0 k id (kidsX l id i) l (l.length : Int) (i : Int) = some (kidsX l id l.length) := by
  induction d with
  | zero =>
    intro i k hi hk
    obtain ⟨k, rfl⟩ : ∃ m, k = m + 1 := ⟨k - 1, by omega⟩
    obtain rfl : i = l.length := by omega
    simp only [q50.l0]
    rw [if_neg (by omega)]
  | succ d ih =>
    intro i k hi hk
    obtain ⟨k, rfl⟩ : ∃ m, k = m + 1 := ⟨k - 1, by omega⟩
    have hlen := kidsX_len l id i
    simp only [q50.l0]
    rw [if_pos (by omega), if_pos (by omega), if_pos (by omega)]
    have hw : wrap64 ((i : Int) + 1) = ((i + 1 : Nat) : Int) := by unfold wrap64; omega
    by_cases h : ((q81 l (i : Int)).f2).toList = id.toList
    · rw [if_pos h, if_pos (by omega), hw]
      have e : kidsX l id i ++ [(i : Int)] = kidsX l id (i + 1) := by simp only [kidsX]; rw [if_pos h]
      rw [e]
      exact ih (i + 1) k (by omega) (by omega)
    · rw [if_neg h, hw]
      have e : kidsX l id i = kidsX l id (i + 1) := by simp only [kidsX]; rw [if_neg h, List.append_nil]
      rw [e]
      exact ih (i + 1) k (by omega) (by omega)
theorem kids_call (c : Mc) (w0 w W : World) (id : ByteArray) (hm : Mm c w0) (hb : Below w0.heap.size w0 W) : Calls Try.prog 71 #[.agg #[.slice c.A0 c.fs.length c.c0, .slice c.A1 c.l.length c.c1], .string id] W fun e w' => ∃ A cc, e = .returned (.slice A (kidsX c.l id c.l.length).length cc) ∧ (kidsX c.l id c.l.length).length ≤ cc ∧ Kd.C (Kd.int .i64) w' A (kidsX c.l id c.l.length).length (kidsX c.l id c.l.length) ∧ (∀ ad, A = some ad → W.heap.size ≤ ad.block ∧ ad.block < w'.heap.size) ∧ Below W.heap.size W w' := by
 refine (q50.calls (c.l.length + 1) c.A0 c.c0 c.fs c.A1 c.c1 c.l id (kidsX c.l id c.l.length) W (hm.at hb).1 hm.2.1 (hm.at hb).2 hm.2.2.2.1 (kids_go c.l id hm.2.2.2.2.1 c.l.length 0 (c.l.length + 1) (by omega) (by omega))).mono ?_
 rintro e w' ⟨v, rfl, hR, hb'⟩
 obtain ⟨A, cc, rfl⟩ := Kd.R_slice hR
 have hrd := Kd.R_reads' hR
 exact ⟨A, cc, rfl, hrd.2.1, hrd.2.2, fun ad e => by subst e; exact ⟨Kd.R_base hR ad.block (by simp [Value.ownBlock]), Kd.R_lt hR ad.block (by simp [Value.ownBlock])⟩, hb'⟩
theorem C_stayX {α : Type} {enc : α → Value} {h1 : ∀ x, (enc x).oneCell' = true} {w w' : World} {A : Option Addr} {n : Nat} {xs : List α} (h : Kd.C (Kd.scalar enc h1) w A n xs) (hb : ∀ ad, A = some ad → w'.heap[ad.block]? = w.heap[ad.block]?) : Kd.C (Kd.scalar enc h1) w' A n xs := by
 obtain ⟨h1, h2, h3⟩ := h
 refine ⟨h1, h2, fun hp => ?_⟩
 obtain ⟨ad, rfl, hc⟩ := h3 hp
 refine ⟨ad, rfl, fun j p hj => ?_⟩
 obtain ⟨c, hl, hK, hcc⟩ := hc j p hj
 refine ⟨c, hl, hK, fun i u hu => ?_⟩
 have := hcc i u hu
 have hblk : ∀ m, (ad.add m).block = ad.block := fun m => by unfold Addr.add; split <;> rfl
 unfold World.cell? at this ⊢
 rw [hblk] at this ⊢
 rw [hb ad rfl]
 exact this
theorem Go_.C_int {g : Nat} {vr vr' : Value} {w w' : World} {A : Option Addr} {n : Nat} {xs : List Int} (h : Go_ g vr vr' w w') (hC : Kd.C (Kd.int .i64) w A n xs) (hA : ∀ ad, A = some ad → ad.block < w.heap.size ∧ ad.block ≠ g ∧ vr.ownBlock ≠ some ad.block) : Kd.C (Kd.int .i64) w' A n xs :=
 C_stayX hC (fun ad e => h.1.2 _ (hA ad e).1 (fun hh => hh.elim (hA ad e).2.1 (hA ad e).2.2))
def fourthR (c : Mc) (i : Nat) (k : Int) : S72 := ⟨4, [⟨flagF i 2, false⟩, ⟨passF c.la k 1, false⟩], [], [⟨passF c.la i 5, true⟩]⟩
def fourthL (c : Mc) (i : Nat) : List (S72) := if (q81 c.l (i : Int)).f1 = 1 then (kidsX c.l (q81 c.l (i : Int)).f0 c.l.length).map (fourthR c i) else []
set_option maxHeartbeats 8000000 in
set_option maxRecDepth 100000 in
theorem fourth_any (c : Mc) (w0 w : World) (g : Nat) (vr : Value) (rs : List (S72)) (i : Nat) (hM : Mr c w0 w g vr rs) (hm : Mm c w0) (hi : i < c.l.length) (hlim : rs.length ≤ 90000) :
 Calls Try.prog 31 #[.pointer (some ⟨g, 0, none⟩), .int .i64 i] w (RulePost c w0 w g vr (rs ++ fourthL c i)) := by
 have hu25 := Try.underlying25
 have hu58 := Try.underlying58
 have hu41 := Try.underlying41
 have hml := hm.2.2.2.2.1
 have hla := hm.2.2.2.2.2.1
 have HMM := Lib.hid hm
 have hcz0 : w.cell? ⟨g, 0, none⟩ = some (.slice c.A0 c.fs.length c.c0) := (q63 hM.2.2.1 0).trans rfl
 have hcz1 : w.cell? ⟨g, 1, none⟩ = some (.slice c.A1 c.l.length c.c1) := (q63 hM.2.2.1 1).trans rfl
 obtain ⟨ad, A5, c5, A6, c6, e, x0, x1, -⟩ := at_T41 (hm.at hM.1).2 (i : Int) (by omega) (by omega)
 simp only [Int.toNat_natCast] at x0 x1
 have hK : ∀ W, Below w.heap.size w W → _ := fun W hb => kids_call c w0 w W (q81 c.l (i : Int)).f0 hm (q60 hM.1 hM.1.size hb)
 obtain ⟨A1, hA1⟩ : ∃ A1, A1 = c.A1 := ⟨_, rfl⟩
 rw [← hA1] at hcz1 hK e
 cases e
 obtain ⟨n, hn⟩ : ∃ n, n = c.l.length := ⟨_, rfl⟩
 obtain ⟨nf, hnf⟩ : ∃ nf, nf = c.fs.length := ⟨_, rfl⟩
 rw [← hnf] at hcz0 hK
 obtain ⟨ks, hks⟩ : ∃ ks, ks = kidsX c.l (q81 c.l (i : Int)).f0 c.l.length := ⟨_, rfl⟩
 have hkl : ks.length ≤ 1000 := by rw [hks]; have := kidsX_len c.l (q81 c.l (i : Int)).f0 c.l.length; omega
 have hkm : ∀ k ∈ ks, 0 ≤ k ∧ k ≤ 1000 := by rw [hks]; intro k hk; have := kidsX_mem _ _ _ k hk; omega
 rw [← hks] at hK
 rw [← hn] at hcz1 hi hml hK
 have hlt : (i : Int) < (n : Int) := by omega
 obtain ⟨R, hR⟩ : ∃ R, R = fourthL c i := ⟨_, rfl⟩
 rw [← hR]
 unfold fourthL at hR
 rw [← hks] at hR
 obtain ⟨kd, hk⟩ : ∃ kd, kd = (q81 c.l (i : Int)).f1 := ⟨_, rfl⟩
 rw [← hk] at x1 hR
 obtain ⟨id, hid⟩ : ∃ id, id = (q81 c.l (i : Int)).f0 := ⟨_, rfl⟩
 rw [← hid] at x0 hK
 have HM := Lib.hid hM
 have HR := Lib.hid hR
 have HK := Lib.hid hK
 have HKM := Lib.hid hkm
 clear hM hm hn hnf hks hR hk hA1 hid hkm hK
 by_cases hk1 : kd = 1
 case neg =>
  have hkb : (kd == 1) = false := beq_eq_false_iff_ne.mpr hk1
  have HN : Hid (R = []) := Lib.hid (by rw [HR.out, if_neg hk1])
  go_enter Try.func31, Try.ntmps31
  go_wp2
  refine bodyPost_ret (results_none rfl _ _ _) rfl ?_
  rw [HN.out, List.append_nil]
  exact ⟨rfl, vr, HM.out, Go_.refl⟩
 have HP : Hid (R = ks.map (fourthR c i)) := Lib.hid (by rw [HR.out, if_pos hk1])
 subst hk1
 have hgw := HM.out.lt
 have howr : ∀ k, vr.ownBlock = some k → k < w.heap.size := fun k e => Kd.R_lt HM.out.2.2.2 k e
 have HOW := Lib.hid howr
 go_enter Try.func31, Try.ntmps31
 go_wp2
 have hS : (w.cell? ⟨g, 0, none⟩ = some (.slice c.A0 nf c.c0) ∧ w.cell? ⟨g, 1, none⟩ = some (.slice (some ad) n c.c1) ∧ w.cell? (ad.add (i * 7)) = some (.string id)) ∧ Below w.heap.size w w.drew := ⟨⟨hcz0, hcz1, x0⟩, q58 (Below.refl _ _)⟩
 refine st_ (fun w' => (w'.cell? ⟨g, 0, none⟩ = some (.slice c.A0 nf c.c0) ∧ w'.cell? ⟨g, 1, none⟩ = some (.slice (some ad) n c.c1) ∧ w'.cell? (ad.add (i * 7)) = some (.string id)) ∧ Below w.heap.size w w') 16 hS (fun hHeld => ?_)
 clear hS hcz0 hcz1 x0 x1 howr
 refine pu_ 0 (some 16) ?_
 refine pu_ 1 (some 17) ?_
 refine pu_ 2 (some 18) ?_
 refine tk_ 3 (some 19) hHeld ?_ (hy := by rintro w' ⟨⟨s0, s1, s2⟩, -⟩; go_simp; with_reducible rfl)
 refine pu_ 4 (some 20) ?_
 refine pu_ 5 (some 21) ?_
 refine pu_ 6 (some 22) ?_
 refine pu_ 7 (some 23) ?_
 refine tk_ 8 (some 24) hHeld ?_ (hy := by rintro w' ⟨⟨s0, s1, s2⟩, -⟩; go_simp; with_reducible rfl)
 refine pu_ 9 (some 25) ?_
 refine pu_ 10 (some 26) ?_
 refine pu_ 11 (some 27) ?_
 refine tk_ 12 (some 28) hHeld ?_ (hy := by rintro w' ⟨⟨s0, s1, s2⟩, -⟩; go_simp; with_reducible rfl)
 refine pu_ 15 (some 31) ?_
 refine ca_ 13 (some 29) Try.func71 #[.agg #[.slice c.A0 nf c.c0, .slice (some ad) n c.c1], .string id] ?_
 refine (HK.out _ hHeld.2).mono ?_
 rintro e w1 ⟨Ak, ck, rfl, hck, hCk, hAk, hb1⟩
 refine ⟨_, rfl, ⟨⟨q73 hb1 hHeld.1.1, q73 hb1 hHeld.1.2.1, q73 hb1 hHeld.1.2.2⟩, q72 hb1 hHeld.2⟩, fun hHeld2 => ⟨_, rfl, nz_ (some 29) ?_⟩⟩
 refine pu_ 14 (some 30) ?_
 refine dn_ ?_
 have HB1 := Lib.hid hHeld2.2
 have HCK := Lib.hid hCk
 have HAK : Hid (∀ ad, Ak = some ad → ad.block < w1.heap.size ∧ ad.block ≠ g ∧ vr.ownBlock ≠ some ad.block) := Lib.hid (fun ad e => by
  have h1 := hAk ad e
  have h2 : w.heap.size ≤ w.drew.heap.size := Nat.le_refl _
  have h3 : w.drew.heap.size = w.heap.size := rfl
  exact ⟨h1.2, by omega, fun e2 => by have := HOW.out _ e2; omega⟩)
 obtain ⟨nk, hnk⟩ : ∃ nk, nk = ks.length := ⟨_, rfl⟩
 have HNK := Lib.hid hnk
 rw [← hnk] at hkl ⊢
 clear hHeld hHeld2 hb1 hAk hCk hck hnk HK
 go_wp2
 go_loopg [31] nk (fun gg s31 wr => ∃ (q : Nat) (vr' : Value), s31 = .int .i64 q ∧ q ≤ nk ∧ nk - q ≤ gg ∧ Hid (Mr c w0 wr g vr' (rs ++ (ks.take q).map (fourthR c i)) ∧ Go_ g vr vr' w wr ∧ Go_ g vr vr' w1 wr))
 case atStart => exact ⟨0, vr, rfl, Nat.zero_le _, by omega, Lib.hid ⟨by simpa using HM.out.below HB1.out, Go_.below Go_.refl HB1.out, Go_.refl⟩⟩
 case round =>
 obtain ⟨q, vq, rfl, hqk, hqg, Y⟩ := hrel
 obtain ⟨wO, rfl⟩ : ∃ wO, wO = wr := ⟨_, rfl⟩
 by_cases hlq : q < nk
 case neg =>
  obtain rfl : q = nk := by omega
  have hlz : ¬ (q : Int) < (q : Int) := by omega
  have HE : Hid ((ks.take q).map (fourthR c i) = R) := Lib.hid (by rw [HP.out, List.take_of_length_le (by have := HNK.out; omega)])
  go_wp2
  refine bodyPost_end (results_none rfl _ _ _) rfl ?_
  exact ⟨rfl, vq, HE.out ▸ Y.out.1, Y.out.2.1⟩
 have hlz : (q : Int) < (nk : Int) := by omega
 have hqs : q < ks.length := by have := HNK.out; omega
 obtain ⟨adk, e, y0⟩ := Kd.at_int (Y.out.2.2.C_int HCK.out HAK.out) (q : Int) (by omega) (by omega)
 cases e
 simp only [Int.toNat_natCast] at y0
 obtain ⟨kv, hkv⟩ : ∃ kv, kv = rd ks (q : Int) := ⟨_, rfl⟩
 have hkq : kv = ks[q] := by rw [hkv]; simp [rd, List.getD_eq_getElem?_getD, List.getElem?_eq_getElem hqs]
 rw [← hkv] at y0
 have hkb := HKM.out kv (by rw [hkq]; exact List.getElem_mem hqs)
 have HTS : Hid ((ks.take (q + 1)).map (fourthR c i) = (ks.take q).map (fourthR c i) ++ [fourthR c i kv]) := Lib.hid (by rw [List.take_succ_eq_append_getElem hqs, List.map_append, hkq]; rfl)
 have HM := Lib.hid Y.out.1
 have HY := Lib.hid Y.out.2
 have HB := Lib.hid (Below.refl wO.heap.size wO)
 have hlim : (rs ++ (ks.take q).map (fourthR c i)).length ≤ 100000 := by rw [List.length_append, List.length_map, List.length_take]; omega
 clear Y hkv hkq
 have hp := pass_any c wO g i 5 (HM.out.below HB.out).mg hla (by omega) (by omega)
 go_wp2_with fail
 refine hp.mono ?_
 rintro e v1_ ⟨rfl, rfl⟩
 clear hp
 go_wp2_with fail
 refine (puts1_call (passF c.la i 5) v1_).mono ?_
 rintro e v2_ ⟨A2, c2, rfl, hR2, hb⟩
 have HR2 := Lib.hid hR2
 have HS2 := Lib.hid (Nat.le_succ_of_le HB.out.size)
 clear hR2
 have HB := Lib.hid (q60 HB.out HB.out.size hb)
 clear hb
 have hp := flag_call i 2 v2_ (by omega) (by omega)
 go_wp2_with fail
 refine hp.mono ?_
 rintro e v3_ ⟨rfl, hb⟩
 clear hp
 have HB := Lib.hid (q60 HB.out HB.out.size hb)
 have HR2 := Lib.hid (Kd.R_below HR2.out hb)
 clear hb
 have hp := up_call (flagF i 2) v3_
 go_wp2_with fail
 refine hp.mono ?_
 rintro e v4_ ⟨rfl, hb⟩
 clear hp
 have HB := Lib.hid (q60 HB.out HB.out.size hb)
 have HR2 := Lib.hid (Kd.R_below HR2.out hb)
 clear hb
 have hp := pass_any c v4_ g kv 1 (HM.out.below HB.out).mg hla (by omega) (by omega)
 go_wp2_with fail
 refine hp.mono ?_
 rintro e v5_ ⟨rfl, rfl⟩
 clear hp
 have hp := up_call (passF c.la kv 1) v5_
 go_wp2_with fail
 refine hp.mono ?_
 rintro e v6_ ⟨rfl, hb⟩
 clear hp
 have HB := Lib.hid (q60 HB.out HB.out.size hb)
 have HR2 := Lib.hid (Kd.R_below HR2.out hb)
 clear hb
 have hlit := lits_row v6_ [⟨flagF i 2, false⟩, ⟨passF c.la kv 1, false⟩] (by simp)
 have hb8 := q57 HB.out (.cells (litCells [⟨flagF i 2, false⟩, ⟨passF c.la kv 1, false⟩]).toArray 93)
 have hru := HM.out.rule 4 hb8 (Kd.R_alloc HR2.out _) HS2.out hlit HB.out.size rfl rfl hlim
 go_wp2_with fail
 refine hru.mono ?_
 rintro e v7_ ⟨rfl, vr', h1, h2⟩
 have HM := Lib.hid h1
 have HG := Lib.hid h2
 have HB := Lib.hid (Below.refl v7_.heap.size v7_)
 clear hlit hb8 hru h1 h2 HR2 HS2
 go_wp2
 go_roundg (nk - (q + 1))
 case measure => omega
 case rel => exact ⟨q + 1, vr', by go_num, by omega, Nat.le_refl _, Lib.hid ⟨by rw [HTS.out, ← List.append_assoc]; exact HM.out, HY.out.1.then_ HG.out, HY.out.2.then_ HG.out⟩⟩
theorem ints_row (W : World) (xs : List Int) (hx : xs.length ≤ 1000) : Kd.R (Kd.int .i64) 3 (W.alloc (.cells (xs.map (Value.int .i64)).toArray 3)) W.heap.size (fun _ => True) (.slice (some ⟨W.heap.size, 0, none⟩) xs.length xs.length) xs :=
 Kd.R_of_own (by simpa [encs] using World.ownsRow_lit (base := W.heap.size) (e := 3) (size := 1) W (xs.map (Value.int .i64)).toArray xs.length (Nat.le_refl _) (by simp [maxLen]; omega) (by simp)) (fun _ _ => trivial)
def whysL (d : Int) : List Int := if d > 1 then [0, 3, 4] else [0, 3]
def closingR (c : Mc) (d : Int) (i : Nat) (st wh : Int) : S72 := ⟨5 + d, [⟨flagF i st, false⟩, ⟨passF c.la (parI c.l i) wh, false⟩], [], [⟨passF c.la i 4, true⟩]⟩
def closingL (c : Mc) (dl : List Int) (d : Int) (i : Nat) : List (S72) := if rd dl (i : Int) = d then (whysL d).map (closingR c d i 1) ++ (whysL d).map (closingR c d i 2) else []
def closPre (c : Mc) (d : Int) (i : Nat) (ws : List Int) : Nat → List (S72)
 | 0 => []
 | q + 1 => closPre c d i ws q ++ ws.map (closingR c d i (if q = 0 then 1 else 2))
set_option maxHeartbeats 8000000 in
set_option maxRecDepth 100000 in
theorem closing_any (c : Mc) (w0 w : World) (g : Nat) (vr : Value) (rs : List (S72)) (Ad : Option Addr) (cd : Nat) (dl : List Int) (d : Int) (i : Nat) (hM : Mr c w0 w g vr rs) (hm : Mm c w0) (hvd : c.vd = .slice Ad dl.length cd) (hD : Kd.C (Kd.int .i64) w Ad dl.length dl) (hdl : dl.length = c.l.length) (hd : 0 ≤ d ∧ d ≤ 1000) (hi : i < c.l.length) (hlim : rs.length ≤ 90000)
 (hpar : rd dl (i : Int) = d → 0 ≤ parI c.l i ∧ parI c.l i ≤ 1000) :
 Calls Try.prog 35 #[.pointer (some ⟨g, 0, none⟩), .int .i64 d, .int .i64 i] w (RulePost c w0 w g vr (rs ++ closingL c dl d i)) := by
 have hu58 := Try.underlying58
 have hml := hm.2.2.2.2.1
 have hla := hm.2.2.2.2.2.1
 have HMM := Lib.hid hm
 have hcz : w.cell? ⟨g, 12, none⟩ = some (.slice Ad dl.length cd) := hvd ▸ (q63 hM.2.2.1 12).trans rfl
 obtain ⟨ad, e, x0⟩ := Kd.at_int hD (i : Int) (by omega) (by omega)
 cases e
 simp only [Int.toNat_natCast] at x0
 obtain ⟨n, hn⟩ : ∃ n, n = dl.length := ⟨_, rfl⟩
 rw [← hn] at hcz hdl
 have hlt : (i : Int) < (n : Int) := by omega
 have hiL := Lib.hid hi
 obtain ⟨R, hR⟩ : ∃ R, R = closingL c dl d i := ⟨_, rfl⟩
 rw [← hR]
 unfold closingL at hR
 obtain ⟨di, hdi⟩ : ∃ di, di = rd dl (i : Int) := ⟨_, rfl⟩
 rw [← hdi] at x0 hR hpar
 have HM := Lib.hid hM
 have HR := Lib.hid hR
 have HPAR := Lib.hid hpar
 have hi1 : (i : Int) ≤ 1000 := by omega
 clear hM hm hn hR hdi hvd hD hdl hpar
 by_cases hk1 : di = d
 case neg =>
  have hkb : (di == d) = false := beq_eq_false_iff_ne.mpr hk1
  have HN : Hid (R = []) := Lib.hid (by rw [HR.out, if_neg hk1])
  go_enter Try.func35, Try.ntmps35
  go_wp2
  refine bodyPost_ret (results_none rfl _ _ _) rfl ?_
  rw [HN.out, List.append_nil]
  exact ⟨rfl, vr, HM.out, Go_.refl⟩
 have HP : Hid (R = (whysL d).map (closingR c d i 1) ++ (whysL d).map (closingR c d i 2)) := Lib.hid (by rw [HR.out, if_pos hk1])
 have hpr := HPAR.out hk1
 obtain ⟨pi, hpi⟩ : ∃ pi, pi = parI c.l i := ⟨_, rfl⟩
 rw [← hpi] at hpr
 have HPI := Lib.hid hpi
 subst hk1
 have hgw := HM.out.lt
 have HOW : Hid (∀ k, vr.ownBlock = some k → k < w.heap.size) := Lib.hid (fun k e => Kd.R_lt HM.out.2.2.2 k e)
 clear hpi
 go_enter Try.func35, Try.ntmps35
 go_upto_if 22 with (fail)
 have hw1 := ints_row w [0, 3] (by simp)
 have hb1 := q57 (Below.refl w.heap.size w) (.cells (([0, 3] : List Int).map (Value.int .i64)).toArray 3)
 obtain ⟨wA, hwA⟩ : ∃ wA, wA = w.alloc (.cells #[.int .i64 0, .int .i64 3] 3) := ⟨_, rfl⟩
 have hr1 : Kd.R (Kd.int .i64) 3 wA w.heap.size (fun _ => True) (.slice (some ⟨w.heap.size, 0, none⟩) 2 2) [0, 3] := by rw [hwA]; exact hw1
 have hb1 : Below w.heap.size w wA := by rw [hwA]; exact hb1
 rw [← hwA]
 have HR1 := Lib.hid hr1
 have HB1 := Lib.hid hb1
 clear hw1 hr1 hwA hb1 x0 hcz
 go_cut [6] (fun s6 wc => ∃ Aw cw, s6 = .slice Aw (whysL di).length cw ∧ Hid (Kd.R (Kd.int .i64) 3 wc w.heap.size (fun _ => True) (.slice Aw (whysL di).length cw) (whysL di) ∧ Below w.heap.size w wc))
 case first =>
  by_cases hd1 : di > 1
  case neg =>
   have HW : Hid (whysL di = [0, 3]) := Lib.hid (if_neg hd1)
   go_wp2
   go_meet
   case rel => exact ⟨_, _, by rw [HW.out]; rfl, Lib.hid (by rw [HW.out]; exact ⟨HR1.out, HB1.out⟩)⟩
  have HW : Hid (whysL di = [0, 3, 4]) := Lib.hid (if_pos hd1)
  have hAl := HB1.out.size
  go_wp2_with (first | ((with_reducible refine q69 (b := .append) (xs := #[.tmp 23, .tmp 24]) rfl ?_); at_builtin; refine Kd.R_append (Kd.int .i64) (w0 := wA) w.heap.size rfl (.tmp 23) (.tmp 24) 27 3 (.int .i64 0) 8 rfl Try.underlying27 info3 rfl (by decide) (by omega) (.slice (some ⟨w.heap.size, 0, none⟩) 2 2) [0, 3] 4 [.int .i64 4] (fun _ => True) (fun _ => False) rfl rfl rfl (fun _ h => h.elim) (fun _ _ => trivial) HR1.out (Below.refl _ _) hAl (by decide) ?_; intro v2 w2 hR2 hB2 hgr hat; obtain ⟨A2, c2, rfl⟩ := Kd.R_slice hR2; have HB2 := Lib.hid (HB1.out.grown hgr hAl (fun kk ek => Kd.R_base HR1.out kk ek)); have HR2 := Lib.hid hR2; clear hgr hat hB2 hR2))
  go_meet
  case rel => exact ⟨_, _, by rw [HW.out]; rfl, Lib.hid (by rw [HW.out]; exact ⟨HR2.out, HB2.out⟩)⟩
 case rest =>
 obtain ⟨Aw, cw, rfl, X⟩ := hcut
 obtain ⟨wW, rfl⟩ : ∃ wW, wW = wc := ⟨_, rfl⟩
 have hrw := Kd.R_reads' X.out.1
 obtain ⟨ws, hws⟩ : ∃ ws, ws = whysL di := ⟨_, rfl⟩
 have hwl : ws.length ≤ 3 ∧ ∀ k ∈ ws, 0 ≤ k ∧ k ≤ 4 := by
  rw [hws]; unfold whysL; split <;> simp
 rw [← hws] at hrw X ⊢
 have HWS := Lib.hid hws
 have hst := (Kd.R_reads' (ints_row wW [1, 2] (by simp))).2.2
 obtain ⟨w2, hw2⟩ : ∃ w2, w2 = wW.alloc (.cells #[.int .i64 1, .int .i64 2] 3) := ⟨_, rfl⟩
 have hst2 : Kd.C (Kd.int .i64) w2 (some ⟨wW.heap.size, 0, none⟩) 2 [1, 2] := by rw [hw2]; exact hst
 have hb2 : Below wW.heap.size wW w2 := by rw [hw2]; exact q57 (Below.refl _ _) _
 have hz2 : w2.heap.size = wW.heap.size + 1 := by rw [hw2]; simp
 have HST := Lib.hid hst2
 have HCW := Lib.hid (Kd.C_below hrw.2.2 hb2)
 have HB2 := Lib.hid (q60 X.out.2 X.out.2.size hb2)
 have HAW : Hid (∀ ad, Aw = some ad → ad.block < w2.heap.size ∧ ad.block ≠ g ∧ vr.ownBlock ≠ some ad.block) := Lib.hid (fun ad e => by
  subst e
  have h1 := Kd.R_base X.out.1 ad.block (by simp [Value.ownBlock])
  have h2 := Kd.R_lt X.out.1 ad.block (by simp [Value.ownBlock])
  exact ⟨by omega, by omega, fun e2 => by have := HOW.out _ e2; omega⟩)
 have HAS : Hid (∀ ad, (some ⟨wW.heap.size, 0, none⟩ : Option Addr) = some ad → ad.block < w2.heap.size ∧ ad.block ≠ g ∧ vr.ownBlock ≠ some ad.block) := Lib.hid (fun ad e => by
  cases e
  have := X.out.2.size
  exact ⟨by show wW.heap.size < _; omega, by show wW.heap.size ≠ g; omega, fun e2 => by have := HOW.out _ e2; simp only at this; omega⟩)
 have HW2 := Lib.hid hw2
 obtain ⟨nw, hnw⟩ : ∃ nw, nw = ws.length := ⟨_, rfl⟩
 have HNW := Lib.hid hnw
 have HWM := Lib.hid hwl.2
 have hnw3 : nw ≤ 3 := by rw [hnw]; exact hwl.1
 rw [← hnw]
 clear X hrw hws hwl hst hw2 hst2 hb2 hz2 hnw
 go_upto_block 0 with (fail)
 rw [← HW2.out]
 go_wp2_with fail
 go_loopg [28] 2 (fun gg s28 wr => ∃ (q : Nat) (vq : Value), s28 = .int .i64 q ∧ q ≤ 2 ∧ 2 - q ≤ gg ∧ Hid (Mr c w0 wr g vq (rs ++ closPre c di i ws q) ∧ Go_ g vr vq w wr ∧ Go_ g vr vq w2 wr))
 case atStart => exact ⟨0, vr, rfl, by omega, by omega, Lib.hid ⟨by simpa [closPre] using HM.out.below HB2.out, Go_.below Go_.refl HB2.out, Go_.refl⟩⟩
 case round =>
 obtain ⟨q, vq, rfl, hq2, hqg, Y⟩ := hrel
 obtain ⟨wO, rfl⟩ : ∃ wO, wO = wr := ⟨_, rfl⟩
 by_cases hlq : q < 2
 case neg =>
  obtain rfl : q = 2 := by omega
  have HE : Hid (closPre c di i ws 2 = R) := Lib.hid (by rw [HP.out, ← HWS.out]; simp [closPre])
  go_wp2
  refine bodyPost_end (results_none rfl _ _ _) rfl ?_
  exact ⟨rfl, vq, HE.out ▸ Y.out.1, Y.out.2.1⟩
 have hlz : (q : Int) < 2 := by omega
 obtain ⟨ads, e, y0⟩ := Kd.at_int (Y.out.2.2.C_int HST.out HAS.out) (q : Int) (by omega) (by omega)
 cases e
 simp only [Int.toNat_natCast] at y0
 obtain ⟨sv, hsv⟩ : ∃ sv, sv = rd ([1, 2] : List Int) (q : Int) := ⟨_, rfl⟩
 have hsb : sv = (if q = 0 then 1 else 2) := by
  rw [hsv]
  have : q = 0 ∨ q = 1 := by omega
  rcases this with rfl | rfl <;> rfl
 rw [← hsv] at y0
 have y0 : wO.cell? ⟨wW.heap.size, q, none⟩ = some (.int .i64 sv) := by rcases (show q = 0 ∨ q = 1 by omega) with rfl | rfl <;> simpa [Addr.add] using y0
 have HSV := Lib.hid hsb
 have hs01 : 0 ≤ sv ∧ sv ≤ 10 := by rw [hsb]; split <;> omega
 have HY := Lib.hid Y.out
 clear Y hsv hsb
 go_wp2
 go_loopg [34] nw (fun gg s34 wr => ∃ (t : Nat) (vt : Value), s34 = .int .i64 t ∧ t ≤ nw ∧ nw - t ≤ gg ∧ Hid (Mr c w0 wr g vt (rs ++ closPre c di i ws q ++ (ws.take t).map (closingR c di i sv)) ∧ Go_ g vr vt w wr ∧ Go_ g vr vt w2 wr))
 case atStart => exact ⟨0, vq, rfl, by omega, by omega, Lib.hid ⟨by simpa using HY.out.1, HY.out.2.1, HY.out.2.2⟩⟩
 case round =>
 obtain ⟨t, vt, rfl, htn, htg, Z⟩ := hrel
 obtain ⟨wI, rfl⟩ : ∃ wI, wI = wr := ⟨_, rfl⟩
 by_cases hlt2 : t < nw
 case neg =>
  obtain rfl : t = nw := by omega
  have hltz2 : ¬ (t : Int) < (t : Int) := by omega
  have HE : Hid (rs ++ closPre c di i ws q ++ (ws.take t).map (closingR c di i sv) = rs ++ closPre c di i ws (q + 1)) := Lib.hid (by rw [List.take_of_length_le (by have := HNW.out; omega), List.append_assoc, HSV.out]; rfl)
  have HZ : Hid (Mr c w0 wI g vt (rs ++ closPre c di i ws (q + 1)) ∧ Go_ g vr vt w wI ∧ Go_ g vr vt w2 wI) := Lib.hid (HE.out ▸ Z.out)
  clear Z
  go_wp2
  go_roundg (2 - (q + 1))
  case measure => omega
  case rel => exact ⟨q + 1, vt, by go_num, by omega, Nat.le_refl _, HZ⟩
 have hltz2 : (t : Int) < (nw : Int) := by omega
 have htl : t < ws.length := by have := HNW.out; omega
 obtain ⟨adw, e, z0⟩ := Kd.at_int (Z.out.2.2.C_int HCW.out HAW.out) (t : Int) (by omega) (by have := HNW.out; omega)
 cases e
 simp only [Int.toNat_natCast] at z0
 obtain ⟨wv, hwv⟩ : ∃ wv, wv = rd ws (t : Int) := ⟨_, rfl⟩
 have hwt : wv = ws[t] := by rw [hwv]; simp [rd, List.getD_eq_getElem?_getD, List.getElem?_eq_getElem htl]
 rw [← hwv] at z0
 have hwb := HWM.out wv (by rw [hwt]; exact List.getElem_mem htl)
 have HTS : Hid ((ws.take (t + 1)).map (closingR c di i sv) = (ws.take t).map (closingR c di i sv) ++ [closingR c di i sv wv]) := Lib.hid (by rw [List.take_succ_eq_append_getElem htl, List.map_append, hwt]; rfl)
 have HM := Lib.hid Z.out.1
 have HZ := Lib.hid Z.out.2
 have HB := Lib.hid (Below.refl wI.heap.size wI)
 have hlim : (rs ++ closPre c di i ws q ++ (ws.take t).map (closingR c di i sv)).length ≤ 100000 := by
  have hcp : (closPre c di i ws q).length ≤ 6 := by
   have := HNW.out
   have : q = 0 ∨ q = 1 := by omega
   rcases this with rfl | rfl <;> simp [closPre] <;> omega
  rw [List.length_append, List.length_append, List.length_map, List.length_take]
  omega
 have h5d : wrap64 (5 + di) = 5 + di := by unfold wrap64; omega
 clear Z hwv hwt
 have hp := pass_any c wI g i 4 (HM.out.below HB.out).mg hla (by omega) (by omega)
 go_wp2_with fail
 refine hp.mono ?_
 rintro e v1_ ⟨rfl, rfl⟩
 clear hp
 go_wp2_with fail
 refine (puts1_call (passF c.la i 4) v1_).mono ?_
 rintro e v2_ ⟨A2, c2, rfl, hR2, hb⟩
 have HR2 := Lib.hid hR2
 have HS2 := Lib.hid (Nat.le_succ_of_le HB.out.size)
 clear hR2
 have HB := Lib.hid (q60 HB.out HB.out.size hb)
 clear hb
 have hp := flag_call i sv v2_ (by omega) (by omega)
 go_wp2_with fail
 refine hp.mono ?_
 rintro e v3_ ⟨rfl, hb⟩
 clear hp
 have HB := Lib.hid (q60 HB.out HB.out.size hb)
 have HR2 := Lib.hid (Kd.R_below HR2.out hb)
 clear hb
 have hp := up_call (flagF i sv) v3_
 go_wp2_with fail
 refine hp.mono ?_
 rintro e v4_ ⟨rfl, hb⟩
 clear hp
 have HB := Lib.hid (q60 HB.out HB.out.size hb)
 have HR2 := Lib.hid (Kd.R_below HR2.out hb)
 clear hb
 have hp := parent_any c w0 v4_ g i (HM.out.below HB.out).mg HMM.out (HM.out.below HB.out).1 hiL.out
 go_wp2_with fail
 refine hp.mono ?_
 rintro e v5_ ⟨rfl, hb⟩
 clear hp
 have HB := Lib.hid (q60 HB.out HB.out.size hb)
 have HR2 := Lib.hid (Kd.R_below HR2.out hb)
 clear hb
 rw [← HPI.out]
 have hp := pass_any c v5_ g pi wv (HM.out.below HB.out).mg hla (by omega) (by omega)
 go_wp2_with fail
 refine hp.mono ?_
 rintro e v6_ ⟨rfl, rfl⟩
 clear hp
 have hp := up_call (passF c.la pi wv) v6_
 go_wp2_with fail
 refine hp.mono ?_
 rintro e v7_ ⟨rfl, hb⟩
 clear hp
 have HB := Lib.hid (q60 HB.out HB.out.size hb)
 have HR2 := Lib.hid (Kd.R_below HR2.out hb)
 clear hb
 have hlit := lits_row v7_ [⟨flagF i sv, false⟩, ⟨passF c.la pi wv, false⟩] (by simp)
 have hb8 := q57 HB.out (.cells (litCells [⟨flagF i sv, false⟩, ⟨passF c.la pi wv, false⟩]).toArray 93)
 have hru := HM.out.rule (5 + di) hb8 (Kd.R_alloc HR2.out _) HS2.out hlit HB.out.size rfl rfl hlim
 go_wp2_with fail
 refine hru.mono ?_
 rintro e v8_ ⟨rfl, vr', h1, h2⟩
 have HM := Lib.hid h1
 have HG := Lib.hid h2
 have HB := Lib.hid (Below.refl v8_.heap.size v8_)
 clear hlit hb8 hru h1 h2 HR2 HS2
 go_wp2
 go_roundg (nw - (t + 1))
 case measure => omega
 case rel => exact ⟨t + 1, vr', by go_num, by omega, Nat.le_refl _, Lib.hid ⟨by rw [HTS.out, ← List.append_assoc, closingR, ← HPI.out]; exact HM.out, HZ.out.1.then_ HG.out, HZ.out.2.then_ HG.out⟩⟩
def q40.f (a0 : Int) : Option ((List (S93))) := (q44.f a0 1).bind fun t257 => ((q48.f t257).bind fun bt258 => ((q44.f a0 2).bind fun t260 => ((q48.f t260).bind fun bt261 => ((q44.f a0 3).bind fun t263 => ((q48.f t263).bind fun bt264 => ((q44.f a0 4).bind fun t266 => ((q48.f t266).bind fun bt267 => (some (([(⟨bt258.1, bt258.2⟩ : S93), (⟨bt261.1, bt261.2⟩ : S93), (⟨bt264.1, bt264.2⟩ : S93), (⟨bt267.1, bt267.2⟩ : S93)] : List (S93)))))))))))
set_option maxHeartbeats 8000000 in
set_option maxRecDepth 100000 in
theorem q40.calls (a0 : Int) (r : List (S93)) (w : World) (h : q40.f a0 = some r) :
 Calls Try.prog 72 #[.int .i64 a0] w fun e w' => ∃ v0_ : Value, e = .returned (v0_) ∧ Kd.R k93 93 w' w.heap.size (fun _ => True) v0_ r ∧ Below w.heap.size w w' := by
 have HB := q56.mk (Below.refl w.heap.size w)
 unfold q40.f at h
 have H := h
 clear h
 replace H := bd_ H
 obtain ⟨t257, A2, H⟩ := H
 replace H := Option.bind_eq_some_iff.mp H
 obtain ⟨⟨t258, t259⟩, A30, H⟩ := H
 replace H : ((q44.f a0 2).bind fun t260 => ((q48.f t260).bind fun bt261 => ((q44.f a0 3).bind fun t263 => ((q48.f t263).bind fun bt264 => ((q44.f a0 4).bind fun t266 => ((q48.f t266).bind fun bt267 => (some (([(⟨t258, t259⟩ : S93), (⟨bt261.1, bt261.2⟩ : S93), (⟨bt264.1, bt264.2⟩ : S93), (⟨bt267.1, bt267.2⟩ : S93)] : List (S93)))))))))) = some r := H
 have A3 := q56.mk A30
 clear A30
 replace H := bd_ H
 obtain ⟨t260, A4, H⟩ := H
 replace H := Option.bind_eq_some_iff.mp H
 obtain ⟨⟨t261, t262⟩, A50, H⟩ := H
 replace H : ((q44.f a0 3).bind fun t263 => ((q48.f t263).bind fun bt264 => ((q44.f a0 4).bind fun t266 => ((q48.f t266).bind fun bt267 => (some (([(⟨t258, t259⟩ : S93), (⟨t261, t262⟩ : S93), (⟨bt264.1, bt264.2⟩ : S93), (⟨bt267.1, bt267.2⟩ : S93)] : List (S93)))))))) = some r := H
 have A5 := q56.mk A50
 clear A50
 replace H := bd_ H
 obtain ⟨t263, A6, H⟩ := H
 replace H := Option.bind_eq_some_iff.mp H
 obtain ⟨⟨t264, t265⟩, A70, H⟩ := H
 replace H : ((q44.f a0 4).bind fun t266 => ((q48.f t266).bind fun bt267 => (some (([(⟨t258, t259⟩ : S93), (⟨t261, t262⟩ : S93), (⟨t264, t265⟩ : S93), (⟨bt267.1, bt267.2⟩ : S93)] : List (S93)))))) = some r := H
 have A7 := q56.mk A70
 clear A70
 replace H := bd_ H
 obtain ⟨t266, A8, H⟩ := H
 replace H := Option.bind_eq_some_iff.mp H
 obtain ⟨⟨t267, t268⟩, A90, H⟩ := H
 replace H : (some (([(⟨t258, t259⟩ : S93), (⟨t261, t262⟩ : S93), (⟨t264, t265⟩ : S93), (⟨t267, t268⟩ : S93)] : List (S93)))) = some r := H
 have A9 := q56.mk A90
 clear A90
 obtain ⟨y269, hy269⟩ : ∃ y_ : List (S93), y_ = (([(⟨t258, t259⟩ : S93), (⟨t261, t262⟩ : S93), (⟨t264, t265⟩ : S93), (⟨t267, t268⟩ : S93)] : List (S93))) := ⟨_, rfl⟩
 rw [← hy269] at H
 have Ny269 := q56.mk hy269
 clear hy269
 obtain rfl := Option.some.inj H
 go_enter Try.func72, Try.ntmps72
 go_wp2_with (first | ((with_reducible refine q70 (f := 23) rfl ?_); refine gl_ (some 4) Try.func23 #[.int .i64 a0, .int .i64 1] ?_; (with_reducible refine (q44.calls a0 1 t257 _ A2.out).mono ?_); rintro e w' ⟨rfl, ⟨nd, rfl⟩⟩; refine ⟨_, rfl, ?_⟩) | ((with_reducible refine q70 (f := 73) rfl ?_); refine gl_ (some 5) Try.func73 #[.int .i64 t257] ?_; (with_reducible refine (q48.calls t257 t258 t259 _ A3.out).mono ?_); rintro e w10 ⟨rfl, hb⟩; refine ⟨_, rfl, ?_⟩; replace HB := hb_ HB hb;  (try clear hb)) | ((with_reducible refine q70 (f := 23) rfl ?_); refine gl_ (some 7) Try.func23 #[.int .i64 a0, .int .i64 2] ?_; (with_reducible refine (q44.calls a0 2 t260 _ A4.out).mono ?_); rintro e w' ⟨rfl, ⟨nd, rfl⟩⟩; refine ⟨_, rfl, ?_⟩) | ((with_reducible refine q70 (f := 73) rfl ?_); refine gl_ (some 8) Try.func73 #[.int .i64 t260] ?_; (with_reducible refine (q48.calls t260 t261 t262 _ A5.out).mono ?_); rintro e w11 ⟨rfl, hb⟩; refine ⟨_, rfl, ?_⟩; replace HB := hb_ HB hb;  (try clear hb)) | ((with_reducible refine q70 (f := 23) rfl ?_); refine gl_ (some 10) Try.func23 #[.int .i64 a0, .int .i64 3] ?_; (with_reducible refine (q44.calls a0 3 t263 _ A6.out).mono ?_); rintro e w' ⟨rfl, ⟨nd, rfl⟩⟩; refine ⟨_, rfl, ?_⟩) | ((with_reducible refine q70 (f := 73) rfl ?_); refine gl_ (some 11) Try.func73 #[.int .i64 t263] ?_; (with_reducible refine (q48.calls t263 t264 t265 _ A7.out).mono ?_); rintro e w12 ⟨rfl, hb⟩; refine ⟨_, rfl, ?_⟩; replace HB := hb_ HB hb;  (try clear hb)) | ((with_reducible refine q70 (f := 23) rfl ?_); refine gl_ (some 13) Try.func23 #[.int .i64 a0, .int .i64 4] ?_; (with_reducible refine (q44.calls a0 4 t266 _ A8.out).mono ?_); rintro e w' ⟨rfl, ⟨nd, rfl⟩⟩; refine ⟨_, rfl, ?_⟩) | ((with_reducible refine q70 (f := 73) rfl ?_); refine gl_ (some 14) Try.func73 #[.int .i64 t266] ?_; (with_reducible refine (q48.calls t266 t267 t268 _ A9.out).mono ?_); rintro e w13 ⟨rfl, hb⟩; refine ⟨_, rfl, ?_⟩; replace HB := hb_ HB hb;  (try clear hb)) | ((with_reducible refine q71 (N := 15) rfl ?_); refine Kd.R_lit k93 _ 93 ?hg (N := 15) ?hd (xs := ([(⟨t258, t259⟩ : S93), (⟨t261, t262⟩ : S93), (⟨t264, t265⟩ : S93), (⟨t267, t268⟩ : S93)] : List (S93))) (inner := [.int .i64 t258, .bool t259, .int .i64 t261, .bool t262, .int .i64 t264, .bool t265, .int .i64 t267, .bool t268]) (ok := fun _ => True) (okp := fun _ => True) ?hr ?hp (fun _ hk => hk) trivial (Below.refl _ _) (Nat.le_refl _) (by simp) ?_; (case hd => rfl); (case hg => rfl); (case hr => first | (go_simp; done) | (go_simp; rfl)); (case hp => exact (Reps.c2 (show Kd.M k93 _ _ _ (⟨t258, t259⟩ : S93) [.int .i64 t258, .bool t259] from (k93_mkM _ _ _ (⟨t258, t259⟩ : S93) )) (Reps.c2 (show Kd.M k93 _ _ _ (⟨t261, t262⟩ : S93) [.int .i64 t261, .bool t262] from (k93_mkM _ _ _ (⟨t261, t262⟩ : S93) )) (Reps.c2 (show Kd.M k93 _ _ _ (⟨t264, t265⟩ : S93) [.int .i64 t264, .bool t265] from (k93_mkM _ _ _ (⟨t264, t265⟩ : S93) )) (Reps.c2 (show Kd.M k93 _ _ _ (⟨t267, t268⟩ : S93) [.int .i64 t267, .bool t268] from (k93_mkM _ _ _ (⟨t267, t268⟩ : S93) )) (Reps.none _ _)))))); intro v270 w14 ho15 hb hg_ hnew_; clear hg_ hnew_; (first | rw [← Ny269.out] at ho15 | (simp only [Int.reduceToNat] at ho15; rw [← Ny269.out] at ho15)); have HO271 := q56.mk (Kd.R_lower ho15 (q59 hf_)); replace HB := hb_ HB hb;  clear hb ho15))
 go_ret
 exact ⟨_, by first | rfl | (simp [errW_none, errW_some] <;> rfl) | (simp [*, errW_none, errW_some] <;> rfl), by (with_reducible repeat (first | apply Kd.R_alloc | apply Kd.R_drewN | apply Kd.R_drew)); exact HO271.out, by repeat (first | (with_reducible first | exact HB.out | apply q57 | apply q75 | apply q58) | exact HB.out)⟩
def LitsPost (w : World) (ls : List (S93)) (e : Ending) (w' : World) : Prop := ∃ A n cc, e = .returned (.slice A n cc) ∧ n = ls.length ∧ Kd.R k93 93 w' w.heap.size (fun _ => True) (.slice A n cc) ls ∧ Below w.heap.size w w'
theorem iLit_ : (Try.prog.info? 93).map (fun i => (i.zero, i.size, i.bytes)) = some (some (.agg #[.int .i64 0, .bool false]), 2, 16) := by kernel_rfl
theorem lit_KM {w : World} {base : Nat} {okp : Nat → Prop} : ∀ (x : S93) (cs : List Value), (k93).K w x cs → (k93).M w base okp x cs := fun x cs h => by
 rw [k93_open h]
 exact k93_mkM _ _ _ x
def waitsL (i : Int) : List (S93) := [⟨flagF i 1, true⟩, ⟨flagF i 2, true⟩, ⟨flagF i 3, true⟩, ⟨flagF i 4, true⟩]
theorem flag_f (i s : Int) (hi : 0 ≤ i ∧ i ≤ 1000) (hs : 0 ≤ s ∧ s ≤ 10) : q44.f i s = some (flagF i s) := by unfold q44.f flagF wrap64; congr 1; omega
theorem waits_call (i : Int) (w : World) (hi : 0 ≤ i ∧ i ≤ 1000) : Calls Try.prog 72 #[.int .i64 i] w (LitsPost w (waitsL i)) := by
 refine (q40.calls i (waitsL i) w ?_).mono ?_
 ·unfold q40.f
  simp only [flag_f i 1 hi (by decide), flag_f i 2 hi (by decide), flag_f i 3 hi (by decide), flag_f i 4 hi (by decide), q48.f, Option.bind_some]
  rfl
 rintro e w' ⟨v, rfl, hR, hb⟩
 obtain ⟨A, cc, rfl⟩ := Kd.R_slice hR
 exact ⟨A, _, cc, rfl, rfl, hR, hb⟩
theorem putsn_call (xs : List Int) (ys : List (S111)) (m : Nat) (W : World) (hx : xs.length = m) (hm : m ≤ 1000) (h : q43.f (m + 1) xs = some ys) : Calls Try.prog 66 #[.slice (some ⟨W.heap.size, 0, none⟩) m m] (W.alloc (.cells (xs.map (Value.int .i64)).toArray 3)) fun e w' => ∃ A c, e = .returned (.slice A ys.length c) ∧ Kd.R k111 111 w' W.heap.size (fun _ => True) (.slice A ys.length c) ys ∧ Below W.heap.size W w' := by
 subst hx
 have hC := (Kd.R_reads' (ints_row W xs hm)).2.2
 refine (q43.calls (xs.length + 1) (some ⟨W.heap.size, 0, none⟩) xs.length xs ys (W.alloc (.cells (xs.map (Value.int .i64)).toArray 3)) hC (Nat.le_refl _) h).mono ?_
 rintro e w' ⟨v, rfl, hR, hb⟩
 obtain ⟨A, c, rfl⟩ := Kd.R_slice hR
 have hb0 := q57 (Below.refl W.heap.size W) (.cells (xs.map (Value.int .i64)).toArray 3)
 exact ⟨A, c, rfl, Kd.R_lower hR (by simp), q60 hb0 hb0.size hb⟩
def endedL (la : Int) (i what : Int) : List (S93) := [⟨passF la i what, false⟩] ++ if i > 0 then [⟨passF la i 4, true⟩] else []
set_option maxHeartbeats 8000000 in
set_option maxRecDepth 100000 in
theorem ended_any (c : Mc) (w0 w : World) (g : Nat) (vr : Value) (rs : List (S72)) (i what : Int) (hM : Mr c w0 w g vr rs) (hla : 0 ≤ c.la ∧ c.la ≤ 100000) (hi : 0 ≤ i ∧ i ≤ 1000) (hw : 0 ≤ what ∧ what ≤ 10) :
 Calls Try.prog 74 #[.pointer (some ⟨g, 0, none⟩), .int .i64 i, .int .i64 what] w (LitsPost w (endedL c.la i what)) := by
 have HM := Lib.hid hM
 have HB := Lib.hid (Below.refl w.heap.size w)
 obtain ⟨R, hR⟩ : ∃ R, R = endedL c.la i what := ⟨_, rfl⟩
 rw [← hR]
 have HR := Lib.hid hR
 clear hM hR
 go_enter Try.func74, Try.ntmps74
 by_cases h0 : i > 0
 case neg =>
  have HE : Hid (R = [⟨passF c.la i what, false⟩]) := Lib.hid (by rw [HR.out, endedL, if_neg h0]; rfl)
  have hp := pass_any c w g i what (HM.out.below HB.out).mg hla (by omega) (by omega)
  go_wp2_with fail
  refine hp.mono ?_
  rintro e v1_ ⟨rfl, rfl⟩
  clear hp
  have hp := up_call (passF c.la i what) v1_
  go_wp2_with fail
  refine hp.mono ?_
  rintro e v2_ ⟨rfl, hb⟩
  clear hp
  have HB := Lib.hid (q60 HB.out HB.out.size hb)
  clear hb
  have hlit := lits_row v2_ [⟨passF c.la i what, false⟩] (by simp)
  have hbx := q57 HB.out (.cells (litCells [⟨passF c.la i what, false⟩]).toArray 93)
  have HL := Lib.hid (And.intro hlit hbx)
  have HLE := Lib.hid HB.out.size
  clear hlit hbx
  go_wp2
  go_ret
  exact ⟨_, _, _, rfl, by rw [HE.out]; rfl, by rw [HE.out]; exact Kd.R_lower HL.out.1 HLE.out, HL.out.2⟩
 have HE : Hid (R = [⟨passF c.la i what, false⟩] ++ [⟨passF c.la i 4, true⟩]) := Lib.hid (by rw [HR.out, endedL, if_pos h0])
 have hp := pass_any c w g i what (HM.out.below HB.out).mg hla (by omega) (by omega)
 go_wp2_with fail
 refine hp.mono ?_
 rintro e v3_ ⟨rfl, rfl⟩
 clear hp
 have hp := up_call (passF c.la i what) v3_
 go_wp2_with fail
 refine hp.mono ?_
 rintro e v4_ ⟨rfl, hb⟩
 clear hp
 have HB := Lib.hid (q60 HB.out HB.out.size hb)
 clear hb
 have hlit := lits_row v4_ [⟨passF c.la i what, false⟩] (by simp)
 have hbx := q57 HB.out (.cells (litCells [⟨passF c.la i what, false⟩]).toArray 93)
 obtain ⟨wA, hwA⟩ : ∃ wA, wA = v4_.alloc (.cells (litCells [⟨passF c.la i what, false⟩]).toArray 93) := ⟨_, rfl⟩
 rw [← hwA] at hlit hbx
 have HL := Lib.hid (Kd.R_lower hlit HB.out.size)
 have HB := Lib.hid hbx
 have HWA := Lib.hid hwA
 clear hlit hbx hwA
 have hp := pass_any c wA g i 4 (HM.out.below HB.out).mg hla (by omega) (by omega)
 rw [HWA.out] at hp
 go_wp2_with fail
 refine hp.mono ?_
 rintro e wz ⟨rfl, rfl⟩
 rw [← show wA = _ from HWA.out]
 clear hp
 have hp := down_call (passF c.la i 4) wA
 go_wp2_with fail
 refine hp.mono ?_
 rintro e wB ⟨rfl, hb⟩
 have HL := Lib.hid (Kd.R_below HL.out hb)
 have HB := Lib.hid (q60 HB.out HB.out.size hb)
 clear hp hb
 have hly := lits_row wB [⟨passF c.la i 4, true⟩] (by simp)
 have hbx := q57 HB.out (.cells (litCells [⟨passF c.la i 4, true⟩]).toArray 93)
 have hcy := (Kd.R_reads' hly).2.2
 have hxr := Kd.R_alloc HL.out (.cells (litCells [⟨passF c.la i 4, true⟩]).toArray 93)
 go_wp2_with (first | ((with_reducible refine q69 (b := .append) (xs := #[.tmp 16, .tmp 21]) rfl ?_); at_builtin; refine Kd.R_append_rows k93 (w0 := v3_) v3_.heap.size rfl (.tmp 16) (.tmp 21) 69 93 (.agg #[.int .i64 0, .bool false]) 16 rfl Try.underlying69 iLit_ rfl (by decide) (by omega) _ [⟨passF c.la i what, false⟩] [⟨passF c.la i 4, true⟩] _ _ _ (fun _ => True) (fun _ => False) rfl rfl hxr hcy lit_KM (fun _ h => h.elim) (fun _ _ => trivial) hbx hbx.size (by simp only [List.length_cons, List.length_nil]; omega) ?_; intro v2 v5_ hR3 hb hg1 hg2; clear hg1 hg2; obtain ⟨A3, c3, rfl⟩ := Kd.R_slice hR3; obtain ⟨n3, hn3⟩ : ∃ n3, n3 = (([⟨passF c.la i what, false⟩] ++ [⟨passF c.la i 4, true⟩] : List (S93))).length := ⟨_, rfl⟩; rw [← hn3] at hR3 ⊢; have HR3 := Lib.hid hR3; have HN3 := Lib.hid hn3; have HB := Lib.hid hb; clear hR3 hn3 hb hly hbx hcy hxr))
 go_ret
 exact ⟨_, _, _, rfl, by rw [HN3.out, HE.out], by rw [HE.out]; exact HR3.out, HB.out⟩
def createdL (la : Int) (i p : Int) : List (S93) := [⟨passF la i 2, false⟩, ⟨passF la p 0, true⟩] ++ if p > 0 then [⟨passF la p 4, true⟩] else []
set_option maxHeartbeats 8000000 in
set_option maxRecDepth 100000 in
theorem created_any (c : Mc) (w0 w : World) (g : Nat) (vr : Value) (rs : List (S72)) (i : Nat) (hM : Mr c w0 w g vr rs) (hm : Mm c w0) (hi : i < c.l.length) (hpar : 0 ≤ parI c.l i ∧ parI c.l i ≤ 1000) :
 Calls Try.prog 75 #[.pointer (some ⟨g, 0, none⟩), .int .i64 i] w (LitsPost w (createdL c.la i (parI c.l i))) := by
 have HM := Lib.hid hM
 have HMM := Lib.hid hm
 have hla := hm.2.2.2.2.2.1
 have hi1 : (i : Int) ≤ 1000 := by have := hm.2.2.2.2.1; omega
 have HB := Lib.hid (Below.refl w.heap.size w)
 obtain ⟨p, hp⟩ : ∃ p, p = parI c.l i := ⟨_, rfl⟩
 rw [← hp] at hpar ⊢
 have HP := Lib.hid hp
 obtain ⟨R, hR⟩ : ∃ R, R = createdL c.la i p := ⟨_, rfl⟩
 rw [← hR]
 have HR := Lib.hid hR
 have hiL := Lib.hid hi
 clear hM hm hR hp hi
 go_enter Try.func75, Try.ntmps75
 have hp := parent_any c w0 w g i (HM.out.below HB.out).mg HMM.out (HM.out.below HB.out).1 hiL.out
 go_wp2_with fail
 refine hp.mono ?_
 rintro e v6_ ⟨rfl, hb⟩
 clear hp
 have HB := Lib.hid (q60 HB.out HB.out.size hb)
 clear hb
 rw [← HP.out]
 have hp := pass_any c v6_ g i 2 (HM.out.below HB.out).mg hla (by omega) (by omega)
 go_wp2_with fail
 refine hp.mono ?_
 rintro e v7_ ⟨rfl, rfl⟩
 clear hp
 have hp := up_call (passF c.la i 2) v7_
 go_wp2_with fail
 refine hp.mono ?_
 rintro e v8_ ⟨rfl, hb⟩
 clear hp
 have HB := Lib.hid (q60 HB.out HB.out.size hb)
 clear hb
 have hp := pass_any c v8_ g p 0 (HM.out.below HB.out).mg hla (by omega) (by omega)
 go_wp2_with fail
 refine hp.mono ?_
 rintro e v9_ ⟨rfl, rfl⟩
 clear hp
 have hp := down_call (passF c.la p 0) v9_
 go_wp2_with fail
 refine hp.mono ?_
 rintro e v10_ ⟨rfl, hb⟩
 clear hp
 have HB := Lib.hid (q60 HB.out HB.out.size hb)
 clear hb
 by_cases h0 : p > 0
 case neg =>
  have HE : Hid (R = [⟨passF c.la i 2, false⟩, ⟨passF c.la p 0, true⟩]) := Lib.hid (by rw [HR.out, createdL, if_neg h0]; rfl)
  have hlit := lits_row v10_ [⟨passF c.la i 2, false⟩, ⟨passF c.la p 0, true⟩] (by simp)
  have hbx := q57 HB.out (.cells (litCells [⟨passF c.la i 2, false⟩, ⟨passF c.la p 0, true⟩]).toArray 93)
  have HL := Lib.hid (And.intro hlit hbx)
  have HLE := Lib.hid HB.out.size
  clear hlit hbx
  go_wp2
  go_ret
  exact ⟨_, _, _, rfl, by rw [HE.out]; rfl, by rw [HE.out]; exact Kd.R_lower HL.out.1 HLE.out, HL.out.2⟩
 have HE : Hid (R = [⟨passF c.la i 2, false⟩, ⟨passF c.la p 0, true⟩] ++ [⟨passF c.la p 4, true⟩]) := Lib.hid (by rw [HR.out, createdL, if_pos h0])
 have hlit := lits_row v10_ [⟨passF c.la i 2, false⟩, ⟨passF c.la p 0, true⟩] (by simp)
 have hbx := q57 HB.out (.cells (litCells [⟨passF c.la i 2, false⟩, ⟨passF c.la p 0, true⟩]).toArray 93)
 obtain ⟨wA, hwA⟩ : ∃ wA, wA = v10_.alloc (.cells (litCells [⟨passF c.la i 2, false⟩, ⟨passF c.la p 0, true⟩]).toArray 93) := ⟨_, rfl⟩
 rw [← hwA] at hlit hbx
 have HL := Lib.hid (Kd.R_lower hlit HB.out.size)
 have HB := Lib.hid hbx
 have HWA := Lib.hid hwA
 clear hlit hbx hwA
 have hp := pass_any c wA g p 4 (HM.out.below HB.out).mg hla (by omega) (by omega)
 rw [HWA.out] at hp
 go_wp2_with fail
 refine hp.mono ?_
 rintro e wz ⟨rfl, rfl⟩
 rw [← show wA = _ from HWA.out]
 clear hp
 have hp := down_call (passF c.la p 4) wA
 go_wp2_with fail
 refine hp.mono ?_
 rintro e wB ⟨rfl, hb⟩
 have HL := Lib.hid (Kd.R_below HL.out hb)
 have HB := Lib.hid (q60 HB.out HB.out.size hb)
 clear hp hb
 have hly := lits_row wB [⟨passF c.la p 4, true⟩] (by simp)
 have hbx := q57 HB.out (.cells (litCells [⟨passF c.la p 4, true⟩]).toArray 93)
 have hcy := (Kd.R_reads' hly).2.2
 have hxr := Kd.R_alloc HL.out (.cells (litCells [⟨passF c.la p 4, true⟩]).toArray 93)
 go_wp2_with (first | ((with_reducible refine q69 (b := .append) (xs := #[.tmp 21, .tmp 26]) rfl ?_); at_builtin; refine Kd.R_append_rows k93 (w0 := w) w.heap.size rfl (.tmp 21) (.tmp 26) 69 93 (.agg #[.int .i64 0, .bool false]) 16 rfl Try.underlying69 iLit_ rfl (by decide) (by omega) _ [⟨passF c.la i 2, false⟩, ⟨passF c.la p 0, true⟩] [⟨passF c.la p 4, true⟩] _ _ _ (fun _ => True) (fun _ => False) rfl rfl hxr hcy lit_KM (fun _ h => h.elim) (fun _ _ => trivial) hbx hbx.size (by simp only [List.length_cons, List.length_nil]; omega) ?_; intro v2 v11_ hR3 hb hg1 hg2; clear hg1 hg2; obtain ⟨A3, c3, rfl⟩ := Kd.R_slice hR3; obtain ⟨n3, hn3⟩ : ∃ n3, n3 = (([⟨passF c.la i 2, false⟩, ⟨passF c.la p 0, true⟩] ++ [⟨passF c.la p 4, true⟩] : List (S93))).length := ⟨_, rfl⟩; rw [← hn3] at hR3 ⊢; have HR3 := Lib.hid hR3; have HN3 := Lib.hid hn3; have HB := Lib.hid hb; clear hR3 hn3 hb hly hbx hcy hxr))
 go_ret
 exact ⟨_, _, _, rfl, by rw [HN3.out, HE.out], by rw [HE.out]; exact HR3.out, HB.out⟩
def goneS (i : Int) : List (S111) := [⟨flagF i 4, true⟩, ⟨flagF i 1, false⟩, ⟨flagF i 2, false⟩]
def turnsL (la last : Int) (i : Nat) (p kd : Int) : List (S72) :=
 (if (i : Int) > 0 then [⟨last, [⟨passF la i 4, false⟩], [], goneS i⟩] else []) ++ [⟨last, [⟨passF la i 0, false⟩], [], goneS i⟩] ++
  (if (i : Int) > 0 then (if kd ≤ 2 then [⟨last, endedL la i 1, [], [⟨flagF i 2, true⟩, ⟨flagF i 1, false⟩]⟩] else [⟨last, endedL la i 1, [], [⟨flagF i 3, true⟩, ⟨flagF i 1, false⟩]⟩]) else []) ++
  (if kd ≤ 2 then [⟨last, endedL la i 3, [], [⟨flagF i 3, true⟩, ⟨flagF i 2, false⟩]⟩] else []) ++ (if (i : Int) > 0 then [⟨last, createdL la i p, [], [⟨flagF i 1, true⟩]⟩] else [])
set_option maxHeartbeats 16000000 in
set_option maxRecDepth 100000 in
theorem turns_any (c : Mc) (w0 w : World) (g : Nat) (vr : Value) (rs : List (S72)) (last : Int) (i : Nat) (hM : Mr c w0 w g vr rs) (hm : Mm c w0) (hi : i < c.l.length) (hlim : rs.length ≤ 90000) (hpar : (i : Int) > 0 → 0 ≤ parI c.l i ∧ parI c.l i ≤ 1000) :
 Calls Try.prog 37 #[.pointer (some ⟨g, 0, none⟩), .int .i64 last, .int .i64 i] w (RulePost c w0 w g vr (rs ++ turnsL c.la last i (parI c.l i) (q81 c.l (i : Int)).f1)) := by
 have hu25 := Try.underlying25
 have hu58 := Try.underlying58
 have hu41 := Try.underlying41
 have hml := hm.2.2.2.2.1
 have hla := hm.2.2.2.2.2.1
 have HM := Lib.hid hM
 have HMM := Lib.hid hm
 have HPAR := Lib.hid hpar
 have HB := Lib.hid (Below.refl w.heap.size w)
 have HGA := Lib.hid (Go_.refl : Go_ g vr vr w w)
 have hiL := Lib.hid hi
 have hi1 : (i : Int) ≤ 1000 := by omega
 obtain ⟨kd, hk⟩ : ∃ kd, kd = (q81 c.l (i : Int)).f1 := ⟨_, rfl⟩
 have HK := Lib.hid hk
 obtain ⟨p, hp⟩ : ∃ p, p = parI c.l i := ⟨_, rfl⟩
 have HP := Lib.hid hp
 rw [← hk, ← hp]
 obtain ⟨R, hR⟩ : ∃ R, R = turnsL c.la last i p kd := ⟨_, rfl⟩
 rw [← hR]
 have HR := Lib.hid hR
 obtain ⟨n, hn⟩ : ∃ n, n = c.l.length := ⟨_, rfl⟩
 have HN := Lib.hid hn
 clear hM hm hi hk hp hR hpar
 rw [← hn] at hml
 clear hn
 go_enter Try.func37, Try.ntmps37
 have hp := flag_call i 1 w (by omega) (by omega)
 go_wp2_with fail
 refine hp.mono ?_
 rintro e v1_ ⟨rfl, hb⟩
 clear hp
 have HB := Lib.hid (q60 HB.out HB.out.size hb)
 clear hb
 have hp := flag_call i 2 v1_ (by omega) (by omega)
 go_wp2_with fail
 refine hp.mono ?_
 rintro e v2_ ⟨rfl, hb⟩
 clear hp
 have HB := Lib.hid (q60 HB.out HB.out.size hb)
 clear hb
 have hp := flag_call i 3 v2_ (by omega) (by omega)
 go_wp2_with fail
 refine hp.mono ?_
 rintro e v3_ ⟨rfl, hb⟩
 clear hp
 have HB := Lib.hid (q60 HB.out HB.out.size hb)
 clear hb
 have hp := flag_call i 4 v3_ (by omega) (by omega)
 go_wp2_with fail
 refine hp.mono ?_
 rintro e v4_ ⟨rfl, hb⟩
 clear hp
 have HB := Lib.hid (q60 HB.out HB.out.size hb)
 clear hb
 have HAT := Lib.hid (And.intro (HM.out.below HB.out) HMM.out)
 have hcz1 : v4_.cell? ⟨g, 1, none⟩ = some (.slice c.A1 n c.c1) := by rw [HN.out]; exact (q63 HAT.out.1.2.2.1 1).trans rfl
 obtain ⟨ad, A5, c5, A6, c6, e, x0, x1, -⟩ := at_T41 (HMM.out.at HAT.out.1.1).2 (i : Int) (by omega) (by have := hiL.out; omega)
 simp only [Int.toNat_natCast] at x1
 rw [e] at hcz1
 rw [← HK.out] at x1
 have hlt : (i : Int) < (n : Int) := by have := hiL.out; have := HN.out; omega
 clear e x0
 by_cases h0 : (i : Int) > 0
 rotate_left
 ·by_cases hk1 : kd ≤ 2
  rotate_left
  ·have HE : Hid (R = [⟨last, [⟨passF c.la i 0, false⟩], [], goneS i⟩]) := Lib.hid (by rw [HR.out, turnsL]; simp only [if_neg h0, if_neg hk1, List.nil_append, List.append_nil])
   go_wp2_with fail
   refine (putsn_call [flagF i 4, flagF i 1, flagF i 2] [⟨flagF i 4, true⟩, ⟨flagF i 1, false⟩, ⟨flagF i 2, false⟩] 3 v4_ (by simp) (by decide) (by simp [q43.f, q43.l0, rd, wrap64])).mono ?_
   rintro e v43_ ⟨A2, c2, rfl, hR2, hb⟩
   have HR2 := Lib.hid hR2
   have HS2 := Lib.hid HB.out.size
   clear hR2
   have HB := Lib.hid (q60 HB.out HB.out.size hb)
   clear hb
   have hp := pass_any c v43_ g i 0 (HM.out.below HB.out).mg hla (by omega) (by omega)
   go_wp2_with fail
   refine hp.mono ?_
   rintro e v44_ ⟨rfl, rfl⟩
   clear hp
   have hp := up_call (passF c.la i 0) v44_
   go_wp2_with fail
   refine hp.mono ?_
   rintro e v45_ ⟨rfl, hb⟩
   clear hp
   have HB := Lib.hid (q60 HB.out HB.out.size hb)
   have HR2 := Lib.hid (Kd.R_below HR2.out hb)
   clear hb
   have hlit := lits_row v45_ [⟨passF c.la i 0, false⟩] (by simp)
   have hb8 := q57 HB.out (.cells (litCells [⟨passF c.la i 0, false⟩]).toArray 93)
   have hru := HM.out.rule last hb8 (Kd.R_alloc HR2.out _) HS2.out hlit HB.out.size rfl rfl (by (try simp only [List.length_append, List.length_cons, List.length_nil]); omega)
   go_wp2_with fail
   refine hru.mono ?_
   rintro e v46_ ⟨rfl, vr', h1, h2⟩
   have HM := Lib.hid h1
   have HG := Lib.hid h2
   have HB := Lib.hid (Below.refl v46_.heap.size v46_)
   clear hlit hb8 hru h1 h2 HR2 HS2
   have HGA := Lib.hid (HGA.out.then_ HG.out)
   clear HG
   go_wp2
   refine bodyPost_end (results_none rfl _ _ _) rfl ?_
   refine ⟨rfl, _, ?_, HGA.out⟩
   rw [HE.out]
   unfold goneS
   try simp only [← List.append_assoc]
   exact HM.out
  have HE : Hid (R = [⟨last, [⟨passF c.la i 0, false⟩], [], goneS i⟩] ++ [⟨last, endedL c.la i 3, [], [⟨flagF i 3, true⟩, ⟨flagF i 2, false⟩]⟩]) := Lib.hid (by rw [HR.out, turnsL]; simp only [if_neg h0, if_pos hk1, List.nil_append, List.append_nil])
  go_wp2_with fail
  refine (putsn_call [flagF i 4, flagF i 1, flagF i 2] [⟨flagF i 4, true⟩, ⟨flagF i 1, false⟩, ⟨flagF i 2, false⟩] 3 v4_ (by simp) (by decide) (by simp [q43.f, q43.l0, rd, wrap64])).mono ?_
  rintro e v36_ ⟨A2, c2, rfl, hR2, hb⟩
  have HR2 := Lib.hid hR2
  have HS2 := Lib.hid HB.out.size
  clear hR2
  have HB := Lib.hid (q60 HB.out HB.out.size hb)
  clear hb
  have hp := pass_any c v36_ g i 0 (HM.out.below HB.out).mg hla (by omega) (by omega)
  go_wp2_with fail
  refine hp.mono ?_
  rintro e v37_ ⟨rfl, rfl⟩
  clear hp
  have hp := up_call (passF c.la i 0) v37_
  go_wp2_with fail
  refine hp.mono ?_
  rintro e v38_ ⟨rfl, hb⟩
  clear hp
  have HB := Lib.hid (q60 HB.out HB.out.size hb)
  have HR2 := Lib.hid (Kd.R_below HR2.out hb)
  clear hb
  have hlit := lits_row v38_ [⟨passF c.la i 0, false⟩] (by simp)
  have hb8 := q57 HB.out (.cells (litCells [⟨passF c.la i 0, false⟩]).toArray 93)
  have hru := HM.out.rule last hb8 (Kd.R_alloc HR2.out _) HS2.out hlit HB.out.size rfl rfl (by (try simp only [List.length_append, List.length_cons, List.length_nil]); omega)
  go_wp2_with fail
  refine hru.mono ?_
  rintro e v39_ ⟨rfl, vr', h1, h2⟩
  have HM := Lib.hid h1
  have HG := Lib.hid h2
  have HB := Lib.hid (Below.refl v39_.heap.size v39_)
  clear hlit hb8 hru h1 h2 HR2 HS2
  have HGA := Lib.hid (HGA.out.then_ HG.out)
  clear HG
  go_wp2_with fail
  refine (putsn_call [flagF i 3, flagF i 2] [⟨flagF i 3, true⟩, ⟨flagF i 2, false⟩] 2 v39_ (by simp) (by decide) (by simp [q43.f, q43.l0, rd, wrap64])).mono ?_
  rintro e v40_ ⟨A2, c2, rfl, hR2, hb⟩
  have HR2 := Lib.hid hR2
  have HS2 := Lib.hid HB.out.size
  clear hR2
  have HB := Lib.hid (q60 HB.out HB.out.size hb)
  clear hb
  have hp := ended_any c w0 v40_ g _ _ i 3 (HM.out.below HB.out) hla (by omega) (by omega)
  go_wp2_with fail
  refine hp.mono ?_
  rintro e v41_ ⟨A3, n3, c3, rfl, hn3, hR3, hb⟩
  have HR3 := Lib.hid hR3
  have HN3 := Lib.hid hn3
  have HS3 := Lib.hid HB.out.size
  clear hp hR3 hn3
  have HB := Lib.hid (q60 HB.out HB.out.size hb)
  have HR2 := Lib.hid (Kd.R_below HR2.out hb)
  clear hb
  have hru := HM.out.rule last HB.out HR2.out HS2.out HR3.out HS3.out rfl HN3.out (by (try simp only [List.length_append, List.length_cons, List.length_nil]); omega)
  go_wp2_with fail
  refine hru.mono ?_
  rintro e v42_ ⟨rfl, vr', h1, h2⟩
  have HM := Lib.hid h1
  have HG := Lib.hid h2
  have HB := Lib.hid (Below.refl v42_.heap.size v42_)
  clear hru h1 h2 HR2 HS2 HR3 HS3 HN3
  have HGA := Lib.hid (HGA.out.then_ HG.out)
  clear HG
  go_wp2
  refine bodyPost_end (results_none rfl _ _ _) rfl ?_
  refine ⟨rfl, _, ?_, HGA.out⟩
  rw [HE.out]
  unfold goneS
  try simp only [← List.append_assoc]
  exact HM.out
 by_cases hk1 : kd ≤ 2
 rotate_left
 ·have HE : Hid (R = [⟨last, [⟨passF c.la i 4, false⟩], [], goneS i⟩] ++ [⟨last, [⟨passF c.la i 0, false⟩], [], goneS i⟩] ++ [⟨last, endedL c.la i 1, [], [⟨flagF i 3, true⟩, ⟨flagF i 1, false⟩]⟩] ++ [⟨last, createdL c.la i p, [], [⟨flagF i 1, true⟩]⟩]) := Lib.hid (by rw [HR.out, turnsL]; simp only [if_pos h0, if_neg hk1, List.nil_append, List.append_nil])
  go_wp2_with fail
  refine (putsn_call [flagF i 4, flagF i 1, flagF i 2] [⟨flagF i 4, true⟩, ⟨flagF i 1, false⟩, ⟨flagF i 2, false⟩] 3 v4_ (by simp) (by decide) (by simp [q43.f, q43.l0, rd, wrap64])).mono ?_
  rintro e v22_ ⟨A2, c2, rfl, hR2, hb⟩
  have HR2 := Lib.hid hR2
  have HS2 := Lib.hid HB.out.size
  clear hR2
  have HB := Lib.hid (q60 HB.out HB.out.size hb)
  clear hb
  have hp := pass_any c v22_ g i 4 (HM.out.below HB.out).mg hla (by omega) (by omega)
  go_wp2_with fail
  refine hp.mono ?_
  rintro e v23_ ⟨rfl, rfl⟩
  clear hp
  have hp := up_call (passF c.la i 4) v23_
  go_wp2_with fail
  refine hp.mono ?_
  rintro e v24_ ⟨rfl, hb⟩
  clear hp
  have HB := Lib.hid (q60 HB.out HB.out.size hb)
  have HR2 := Lib.hid (Kd.R_below HR2.out hb)
  clear hb
  have hlit := lits_row v24_ [⟨passF c.la i 4, false⟩] (by simp)
  have hb8 := q57 HB.out (.cells (litCells [⟨passF c.la i 4, false⟩]).toArray 93)
  have hru := HM.out.rule last hb8 (Kd.R_alloc HR2.out _) HS2.out hlit HB.out.size rfl rfl (by (try simp only [List.length_append, List.length_cons, List.length_nil]); omega)
  go_wp2_with fail
  refine hru.mono ?_
  rintro e v25_ ⟨rfl, vr', h1, h2⟩
  have HM := Lib.hid h1
  have HG := Lib.hid h2
  have HB := Lib.hid (Below.refl v25_.heap.size v25_)
  clear hlit hb8 hru h1 h2 HR2 HS2
  have HGA := Lib.hid (HGA.out.then_ HG.out)
  clear HG
  go_wp2_with fail
  refine (putsn_call [flagF i 4, flagF i 1, flagF i 2] [⟨flagF i 4, true⟩, ⟨flagF i 1, false⟩, ⟨flagF i 2, false⟩] 3 v25_ (by simp) (by decide) (by simp [q43.f, q43.l0, rd, wrap64])).mono ?_
  rintro e v26_ ⟨A2, c2, rfl, hR2, hb⟩
  have HR2 := Lib.hid hR2
  have HS2 := Lib.hid HB.out.size
  clear hR2
  have HB := Lib.hid (q60 HB.out HB.out.size hb)
  clear hb
  have hp := pass_any c v26_ g i 0 (HM.out.below HB.out).mg hla (by omega) (by omega)
  go_wp2_with fail
  refine hp.mono ?_
  rintro e v27_ ⟨rfl, rfl⟩
  clear hp
  have hp := up_call (passF c.la i 0) v27_
  go_wp2_with fail
  refine hp.mono ?_
  rintro e v28_ ⟨rfl, hb⟩
  clear hp
  have HB := Lib.hid (q60 HB.out HB.out.size hb)
  have HR2 := Lib.hid (Kd.R_below HR2.out hb)
  clear hb
  have hlit := lits_row v28_ [⟨passF c.la i 0, false⟩] (by simp)
  have hb8 := q57 HB.out (.cells (litCells [⟨passF c.la i 0, false⟩]).toArray 93)
  have hru := HM.out.rule last hb8 (Kd.R_alloc HR2.out _) HS2.out hlit HB.out.size rfl rfl (by (try simp only [List.length_append, List.length_cons, List.length_nil]); omega)
  go_wp2_with fail
  refine hru.mono ?_
  rintro e v29_ ⟨rfl, vr', h1, h2⟩
  have HM := Lib.hid h1
  have HG := Lib.hid h2
  have HB := Lib.hid (Below.refl v29_.heap.size v29_)
  clear hlit hb8 hru h1 h2 HR2 HS2
  have HGA := Lib.hid (HGA.out.then_ HG.out)
  clear HG
  go_wp2_with fail
  refine (putsn_call [flagF i 3, flagF i 1] [⟨flagF i 3, true⟩, ⟨flagF i 1, false⟩] 2 v29_ (by simp) (by decide) (by simp [q43.f, q43.l0, rd, wrap64])).mono ?_
  rintro e v30_ ⟨A2, c2, rfl, hR2, hb⟩
  have HR2 := Lib.hid hR2
  have HS2 := Lib.hid HB.out.size
  clear hR2
  have HB := Lib.hid (q60 HB.out HB.out.size hb)
  clear hb
  have hp := ended_any c w0 v30_ g _ _ i 1 (HM.out.below HB.out) hla (by omega) (by omega)
  go_wp2_with fail
  refine hp.mono ?_
  rintro e v31_ ⟨A3, n3, c3, rfl, hn3, hR3, hb⟩
  have HR3 := Lib.hid hR3
  have HN3 := Lib.hid hn3
  have HS3 := Lib.hid HB.out.size
  clear hp hR3 hn3
  have HB := Lib.hid (q60 HB.out HB.out.size hb)
  have HR2 := Lib.hid (Kd.R_below HR2.out hb)
  clear hb
  have hru := HM.out.rule last HB.out HR2.out HS2.out HR3.out HS3.out rfl HN3.out (by (try simp only [List.length_append, List.length_cons, List.length_nil]); omega)
  go_wp2_with fail
  refine hru.mono ?_
  rintro e v32_ ⟨rfl, vr', h1, h2⟩
  have HM := Lib.hid h1
  have HG := Lib.hid h2
  have HB := Lib.hid (Below.refl v32_.heap.size v32_)
  clear hru h1 h2 HR2 HS2 HR3 HS3 HN3
  have HGA := Lib.hid (HGA.out.then_ HG.out)
  clear HG
  go_wp2_with fail
  refine (putsn_call [flagF i 1] [⟨flagF i 1, true⟩] 1 v32_ (by simp) (by decide) (by simp [q43.f, q43.l0, rd, wrap64])).mono ?_
  rintro e v33_ ⟨A2, c2, rfl, hR2, hb⟩
  have HR2 := Lib.hid hR2
  have HS2 := Lib.hid HB.out.size
  clear hR2
  have HB := Lib.hid (q60 HB.out HB.out.size hb)
  clear hb
  have hp := created_any c w0 v33_ g _ _ i (HM.out.below HB.out) HMM.out hiL.out (HP.out ▸ HPAR.out h0)
  go_wp2_with fail
  refine hp.mono ?_
  rintro e v34_ ⟨A3, n3, c3, rfl, hn3, hR3, hb⟩
  have HR3 := Lib.hid hR3
  have HN3 := Lib.hid hn3
  have HS3 := Lib.hid HB.out.size
  clear hp hR3 hn3
  have HB := Lib.hid (q60 HB.out HB.out.size hb)
  have HR2 := Lib.hid (Kd.R_below HR2.out hb)
  clear hb
  rw [← HP.out] at HR3 HN3
  have hru := HM.out.rule last HB.out HR2.out HS2.out HR3.out HS3.out rfl HN3.out (by (try simp only [List.length_append, List.length_cons, List.length_nil]); omega)
  go_wp2_with fail
  refine hru.mono ?_
  rintro e v35_ ⟨rfl, vr', h1, h2⟩
  have HM := Lib.hid h1
  have HG := Lib.hid h2
  have HB := Lib.hid (Below.refl v35_.heap.size v35_)
  clear hru h1 h2 HR2 HS2 HR3 HS3 HN3
  have HGA := Lib.hid (HGA.out.then_ HG.out)
  clear HG
  go_wp2
  refine bodyPost_end (results_none rfl _ _ _) rfl ?_
  refine ⟨rfl, _, ?_, HGA.out⟩
  rw [HE.out]
  unfold goneS
  try simp only [← List.append_assoc]
  exact HM.out
 have HE : Hid (R = [⟨last, [⟨passF c.la i 4, false⟩], [], goneS i⟩] ++ [⟨last, [⟨passF c.la i 0, false⟩], [], goneS i⟩] ++ [⟨last, endedL c.la i 1, [], [⟨flagF i 2, true⟩, ⟨flagF i 1, false⟩]⟩] ++ [⟨last, endedL c.la i 3, [], [⟨flagF i 3, true⟩, ⟨flagF i 2, false⟩]⟩] ++ [⟨last, createdL c.la i p, [], [⟨flagF i 1, true⟩]⟩]) := Lib.hid (by rw [HR.out, turnsL]; simp only [if_pos h0, if_pos hk1, List.nil_append, List.append_nil])
 go_wp2_with fail
 refine (putsn_call [flagF i 4, flagF i 1, flagF i 2] [⟨flagF i 4, true⟩, ⟨flagF i 1, false⟩, ⟨flagF i 2, false⟩] 3 v4_ (by simp) (by decide) (by simp [q43.f, q43.l0, rd, wrap64])).mono ?_
 rintro e v5_ ⟨A2, c2, rfl, hR2, hb⟩
 have HR2 := Lib.hid hR2
 have HS2 := Lib.hid HB.out.size
 clear hR2
 have HB := Lib.hid (q60 HB.out HB.out.size hb)
 clear hb
 have hp := pass_any c v5_ g i 4 (HM.out.below HB.out).mg hla (by omega) (by omega)
 go_wp2_with fail
 refine hp.mono ?_
 rintro e v6_ ⟨rfl, rfl⟩
 clear hp
 have hp := up_call (passF c.la i 4) v6_
 go_wp2_with fail
 refine hp.mono ?_
 rintro e v7_ ⟨rfl, hb⟩
 clear hp
 have HB := Lib.hid (q60 HB.out HB.out.size hb)
 have HR2 := Lib.hid (Kd.R_below HR2.out hb)
 clear hb
 have hlit := lits_row v7_ [⟨passF c.la i 4, false⟩] (by simp)
 have hb8 := q57 HB.out (.cells (litCells [⟨passF c.la i 4, false⟩]).toArray 93)
 have hru := HM.out.rule last hb8 (Kd.R_alloc HR2.out _) HS2.out hlit HB.out.size rfl rfl (by (try simp only [List.length_append, List.length_cons, List.length_nil]); omega)
 go_wp2_with fail
 refine hru.mono ?_
 rintro e v8_ ⟨rfl, vr', h1, h2⟩
 have HM := Lib.hid h1
 have HG := Lib.hid h2
 have HB := Lib.hid (Below.refl v8_.heap.size v8_)
 clear hlit hb8 hru h1 h2 HR2 HS2
 have HGA := Lib.hid (HGA.out.then_ HG.out)
 clear HG
 go_wp2_with fail
 refine (putsn_call [flagF i 4, flagF i 1, flagF i 2] [⟨flagF i 4, true⟩, ⟨flagF i 1, false⟩, ⟨flagF i 2, false⟩] 3 v8_ (by simp) (by decide) (by simp [q43.f, q43.l0, rd, wrap64])).mono ?_
 rintro e v9_ ⟨A2, c2, rfl, hR2, hb⟩
 have HR2 := Lib.hid hR2
 have HS2 := Lib.hid HB.out.size
 clear hR2
 have HB := Lib.hid (q60 HB.out HB.out.size hb)
 clear hb
 have hp := pass_any c v9_ g i 0 (HM.out.below HB.out).mg hla (by omega) (by omega)
 go_wp2_with fail
 refine hp.mono ?_
 rintro e v10_ ⟨rfl, rfl⟩
 clear hp
 have hp := up_call (passF c.la i 0) v10_
 go_wp2_with fail
 refine hp.mono ?_
 rintro e v11_ ⟨rfl, hb⟩
 clear hp
 have HB := Lib.hid (q60 HB.out HB.out.size hb)
 have HR2 := Lib.hid (Kd.R_below HR2.out hb)
 clear hb
 have hlit := lits_row v11_ [⟨passF c.la i 0, false⟩] (by simp)
 have hb8 := q57 HB.out (.cells (litCells [⟨passF c.la i 0, false⟩]).toArray 93)
 have hru := HM.out.rule last hb8 (Kd.R_alloc HR2.out _) HS2.out hlit HB.out.size rfl rfl (by (try simp only [List.length_append, List.length_cons, List.length_nil]); omega)
 go_wp2_with fail
 refine hru.mono ?_
 rintro e v12_ ⟨rfl, vr', h1, h2⟩
 have HM := Lib.hid h1
 have HG := Lib.hid h2
 have HB := Lib.hid (Below.refl v12_.heap.size v12_)
 clear hlit hb8 hru h1 h2 HR2 HS2
 have HGA := Lib.hid (HGA.out.then_ HG.out)
 clear HG
 go_wp2_with fail
 refine (putsn_call [flagF i 2, flagF i 1] [⟨flagF i 2, true⟩, ⟨flagF i 1, false⟩] 2 v12_ (by simp) (by decide) (by simp [q43.f, q43.l0, rd, wrap64])).mono ?_
 rintro e v13_ ⟨A2, c2, rfl, hR2, hb⟩
 have HR2 := Lib.hid hR2
 have HS2 := Lib.hid HB.out.size
 clear hR2
 have HB := Lib.hid (q60 HB.out HB.out.size hb)
 clear hb
 have hp := ended_any c w0 v13_ g _ _ i 1 (HM.out.below HB.out) hla (by omega) (by omega)
 go_wp2_with fail
 refine hp.mono ?_
 rintro e v14_ ⟨A3, n3, c3, rfl, hn3, hR3, hb⟩
 have HR3 := Lib.hid hR3
 have HN3 := Lib.hid hn3
 have HS3 := Lib.hid HB.out.size
 clear hp hR3 hn3
 have HB := Lib.hid (q60 HB.out HB.out.size hb)
 have HR2 := Lib.hid (Kd.R_below HR2.out hb)
 clear hb
 have hru := HM.out.rule last HB.out HR2.out HS2.out HR3.out HS3.out rfl HN3.out (by (try simp only [List.length_append, List.length_cons, List.length_nil]); omega)
 go_wp2_with fail
 refine hru.mono ?_
 rintro e v15_ ⟨rfl, vr', h1, h2⟩
 have HM := Lib.hid h1
 have HG := Lib.hid h2
 have HB := Lib.hid (Below.refl v15_.heap.size v15_)
 clear hru h1 h2 HR2 HS2 HR3 HS3 HN3
 have HGA := Lib.hid (HGA.out.then_ HG.out)
 clear HG
 go_wp2_with fail
 refine (putsn_call [flagF i 3, flagF i 2] [⟨flagF i 3, true⟩, ⟨flagF i 2, false⟩] 2 v15_ (by simp) (by decide) (by simp [q43.f, q43.l0, rd, wrap64])).mono ?_
 rintro e v16_ ⟨A2, c2, rfl, hR2, hb⟩
 have HR2 := Lib.hid hR2
 have HS2 := Lib.hid HB.out.size
 clear hR2
 have HB := Lib.hid (q60 HB.out HB.out.size hb)
 clear hb
 have hp := ended_any c w0 v16_ g _ _ i 3 (HM.out.below HB.out) hla (by omega) (by omega)
 go_wp2_with fail
 refine hp.mono ?_
 rintro e v17_ ⟨A3, n3, c3, rfl, hn3, hR3, hb⟩
 have HR3 := Lib.hid hR3
 have HN3 := Lib.hid hn3
 have HS3 := Lib.hid HB.out.size
 clear hp hR3 hn3
 have HB := Lib.hid (q60 HB.out HB.out.size hb)
 have HR2 := Lib.hid (Kd.R_below HR2.out hb)
 clear hb
 have hru := HM.out.rule last HB.out HR2.out HS2.out HR3.out HS3.out rfl HN3.out (by (try simp only [List.length_append, List.length_cons, List.length_nil]); omega)
 go_wp2_with fail
 refine hru.mono ?_
 rintro e v18_ ⟨rfl, vr', h1, h2⟩
 have HM := Lib.hid h1
 have HG := Lib.hid h2
 have HB := Lib.hid (Below.refl v18_.heap.size v18_)
 clear hru h1 h2 HR2 HS2 HR3 HS3 HN3
 have HGA := Lib.hid (HGA.out.then_ HG.out)
 clear HG
 go_wp2_with fail
 refine (putsn_call [flagF i 1] [⟨flagF i 1, true⟩] 1 v18_ (by simp) (by decide) (by simp [q43.f, q43.l0, rd, wrap64])).mono ?_
 rintro e v19_ ⟨A2, c2, rfl, hR2, hb⟩
 have HR2 := Lib.hid hR2
 have HS2 := Lib.hid HB.out.size
 clear hR2
 have HB := Lib.hid (q60 HB.out HB.out.size hb)
 clear hb
 have hp := created_any c w0 v19_ g _ _ i (HM.out.below HB.out) HMM.out hiL.out (HP.out ▸ HPAR.out h0)
 go_wp2_with fail
 refine hp.mono ?_
 rintro e v20_ ⟨A3, n3, c3, rfl, hn3, hR3, hb⟩
 have HR3 := Lib.hid hR3
 have HN3 := Lib.hid hn3
 have HS3 := Lib.hid HB.out.size
 clear hp hR3 hn3
 have HB := Lib.hid (q60 HB.out HB.out.size hb)
 have HR2 := Lib.hid (Kd.R_below HR2.out hb)
 clear hb
 rw [← HP.out] at HR3 HN3
 have hru := HM.out.rule last HB.out HR2.out HS2.out HR3.out HS3.out rfl HN3.out (by (try simp only [List.length_append, List.length_cons, List.length_nil]); omega)
 go_wp2_with fail
 refine hru.mono ?_
 rintro e v21_ ⟨rfl, vr', h1, h2⟩
 have HM := Lib.hid h1
 have HG := Lib.hid h2
 have HB := Lib.hid (Below.refl v21_.heap.size v21_)
 clear hru h1 h2 HR2 HS2 HR3 HS3 HN3
 have HGA := Lib.hid (HGA.out.then_ HG.out)
 clear HG
 go_wp2
 refine bodyPost_end (results_none rfl _ _ _) rfl ?_
 refine ⟨rfl, _, ?_, HGA.out⟩
 rw [HE.out]
 unfold goneS
 try simp only [← List.append_assoc]
 exact HM.out
theorem Go_.row {α : Type} {d : Kd α} {e : Nat} {v : Value} {xs : List α} {g : Nat} {vr vr' : Value} {w w' : World} (hG : Go_ g vr vr' w w') (h : d.R e w (g + 1) (fun k => some k ≠ vr.ownBlock) v xs) : d.R e w' (g + 1) (fun k => some k ≠ vr'.ownBlock) v xs := by
 have h1 := Kd.R_keptB (Kd.R_mono (Kd.R_bound h) (fun k hk => (⟨hk.1, hk.2.1⟩ : some k ≠ vr.ownBlock ∧ g + 1 ≤ k))) hG.1 (fun k hk e => e.elim (fun e => by have := hk.2; omega) (fun e => hk.1 e.symm))
 exact Kd.R_mono h1 (fun k hk e => (hG.2 k e.symm).elim (fun e => hk.1.1 e.symm) (fun e => by have := hk.2.2; omega))
theorem Mr.apart {α : Type} {d : Kd α} {e : Nat} {c : Mc} {w0 w W : World} {g : Nat} {vr : Value} {rs : List (S72)} {v : Value} {th : List α} {b2 : Nat} (hM : Mr c w0 w g vr rs) (hb : Below w.heap.size w W) (h2 : d.R e W b2 (fun _ => True) v th) (hb2 : w.heap.size ≤ b2) : d.R e W (g + 1) (fun k => some k ≠ vr.ownBlock) v th := by
 have hlt := hM.lt
 have ho : ∀ k, vr.ownBlock = some k → k < w.heap.size := fun k e => Kd.R_lt hM.2.2.2 k e
 exact Kd.R_lower (Kd.R_mono (Kd.R_bound h2) (fun k hk e => by have := ho k e.symm; have := hk.2.1; omega)) (by omega)
theorem Mr.rule2 {c : Mc} {w0 w : World} {g : Nat} {vr : Value} {rs : List (S72)} (hM : Mr c w0 w g vr rs) (st : Int) {A2 : Option Addr} {c2 n2 : Nat} {th : List (S111)} {W : World} {A3 : Option Addr} {c3 n3 b3 : Nat} {ls : List (S93)}
 (hb : Below w.heap.size w W) (h2 : Kd.R k111 111 W (g + 1) (fun k => some k ≠ vr.ownBlock) (.slice A2 n2 c2) th) (h3 : Kd.R k93 93 W b3 (fun _ => True) (.slice A3 n3 c3) ls) (hb3 : w.heap.size ≤ b3) (hn2 : n2 = th.length) (hn3 : n3 = ls.length) (hlim : rs.length ≤ 100000) :
 Calls Try.prog 69 #[.pointer (some ⟨g, 0, none⟩), .int .i64 st, .slice A2 n2 c2, .slice A3 n3 c3] W (RulePost c w0 w g vr (rs ++ [⟨st, ls, [], th⟩])) := by
 subst hn2 hn3
 refine (rule_any c w0 W g vr rs st A2 c2 th A3 c3 ls (hM.below hb) h2 (hM.apart hb h3 hb3) hlim).mono ?_
 rintro e w' ⟨rfl, vr', h4, h5⟩
 exact ⟨rfl, vr', h4, (Go_.below Go_.refl hb).then_ h5⟩
def happensL (la last at_ : Int) (j : Nat) (p ev : Int) : List (S72) :=
 if ev = 3 then [⟨last, endedL la j 3, [], [⟨at_, true⟩]⟩]
 else if ev = 5 then [⟨last, [⟨passF la j 0, false⟩], [], [⟨at_, true⟩]⟩] ++ (if (j : Int) > 0 then [⟨last, [⟨passF la j 4, false⟩], [], [⟨at_, true⟩]⟩] else [])
 else if (j : Int) = 0 then []
 else if ev = 1 then [⟨last, createdL la j p, [], [⟨at_, true⟩]⟩]
 else [⟨last, endedL la j 1, [], [⟨at_, true⟩]⟩]
set_option maxHeartbeats 16000000 in
set_option maxRecDepth 100000 in
theorem happens_any (c : Mc) (w0 w : World) (g : Nat) (vr : Value) (rs : List (S72)) (last at_ : Int) (id : ByteArray) (ev : Int) (j : Nat) (hM : Mr c w0 w g vr rs) (hm : Mm c w0) (hj : fidx (q39.p id) c.l = (j : Int)) (hjl : j < c.l.length) (hlim : rs.length ≤ 95000) (hpar : (j : Int) > 0 → 0 ≤ parI c.l j ∧ parI c.l j ≤ 1000) :
 Calls Try.prog 76 #[.pointer (some ⟨g, 0, none⟩), .int .i64 last, .int .i64 at_, .agg #[.string id, .int .i64 ev]] w (RulePost c w0 w g vr (rs ++ happensL c.la last at_ j (parI c.l j) ev)) := by
 have hu25 := Try.underlying25
 have hu58 := Try.underlying58
 have hu101 := Try.underlying101
 have hla := hm.2.2.2.2.2.1
 have hj1 : (j : Int) ≤ 1000 := by have := hm.2.2.2.2.1; omega
 have HM := Lib.hid hM
 have HMM := Lib.hid hm
 have HPAR := Lib.hid hpar
 have hiL := Lib.hid hjl
 have HGA := Lib.hid (Go_.refl : Go_ g vr vr w w)
 have hP : ∀ W, Below w.heap.size w W → Calls Try.prog 45 #[.agg #[.slice c.A0 c.fs.length c.c0, .slice c.A1 c.l.length c.c1], .string id] W fun e w' => e = .returned (.int .i64 (j : Int)) ∧ Below W.heap.size W w' := fun W hbw => by
  obtain ⟨hC0, hC1⟩ := hm.at (q60 hM.1 hM.1.size hbw)
  exact q39.calls c.A0 c.c0 c.fs c.A1 c.c1 c.l id (j : Int) W hC0 hm.2.1 hC1 hm.2.2.2.1 (by rw [← hj]; rfl)
 have HP := Lib.hid hP
 obtain ⟨nf, hnf⟩ : ∃ nf, nf = c.fs.length := ⟨_, rfl⟩
 obtain ⟨n, hn⟩ : ∃ n, n = c.l.length := ⟨_, rfl⟩
 have hcz0 : w.cell? ⟨g, 0, none⟩ = some (.slice c.A0 nf c.c0) := by rw [hnf]; exact (q63 hM.2.2.1 0).trans rfl
 have hcz1 : w.cell? ⟨g, 1, none⟩ = some (.slice c.A1 n c.c1) := by rw [hn]; exact (q63 hM.2.2.1 1).trans rfl
 rw [← hn, ← hnf] at HP
 obtain ⟨p, hp⟩ : ∃ p, p = parI c.l j := ⟨_, rfl⟩
 have HPI := Lib.hid hp
 rw [← hp]
 obtain ⟨R, hR⟩ : ∃ R, R = happensL c.la last at_ j p ev := ⟨_, rfl⟩
 rw [← hR]
 have HR := Lib.hid hR
 have hgl := hM.lt
 clear hM hm hj hjl hp hR hpar hP hn hnf
 have hbb := q57 (Below.refl w.heap.size w) (.cells #[.string id, .int .i64 ev] 101)
 obtain ⟨wb, hwb⟩ : ∃ wb, wb = w.alloc (.cells #[.string id, .int .i64 ev] 101) := ⟨_, rfl⟩
 have hgb : wb.heap[w.heap.size]? = some (.cells #[.string id, .int .i64 ev] 101 (0, 0)) := by rw [hwb]; exact heap_alloc_new _ _
 rw [← hwb] at hbb
 obtain ⟨b, hbn⟩ : ∃ b, b = w.heap.size := ⟨_, rfl⟩
 rw [← hbn] at hgb
 have hS : (wb.cell? ⟨g, 0, none⟩ = some (.slice c.A0 nf c.c0) ∧ wb.cell? ⟨g, 1, none⟩ = some (.slice c.A1 n c.c1) ∧ wb.cell? ⟨b, 0, none⟩ = some (.string id) ∧ wb.cell? ⟨b, 1, none⟩ = some (.int .i64 ev)) ∧ Below wb.heap.size wb wb.drew := ⟨⟨q73 hbb hcz0, q73 hbb hcz1, (q63 hgb 0).trans rfl, (q63 hgb 1).trans rfl⟩, q58 (Below.refl _ _)⟩
 have HBB := Lib.hid hbb
 clear hcz0 hcz1 hgb hbb hgl
 go_enter Try.func76, Try.ntmps76
 go_wp2
 rw [← hwb, ← hbn]
 clear hwb hbn
 refine st_ (fun w' => (w'.cell? ⟨g, 0, none⟩ = some (.slice c.A0 nf c.c0) ∧ w'.cell? ⟨g, 1, none⟩ = some (.slice c.A1 n c.c1) ∧ w'.cell? ⟨b, 0, none⟩ = some (.string id) ∧ w'.cell? ⟨b, 1, none⟩ = some (.int .i64 ev)) ∧ Below wb.heap.size wb w') 8 hS (fun hHeld => ?_)
 clear hS
 refine pu_ 0 (some 10) ?_
 refine pu_ 1 (some 11) ?_
 refine pu_ 2 (some 12) ?_
 refine tk_ 3 (some 13) hHeld ?_ (hy := by rintro w' ⟨⟨s0, s1, s2, s3⟩, -⟩; go_simp; with_reducible rfl)
 refine pu_ 4 (some 14) ?_
 refine tk_ 5 (some 15) hHeld ?_ (hy := by rintro w' ⟨⟨s0, s1, s2, s3⟩, -⟩; go_simp; with_reducible rfl)
 refine ca_ 6 (some 16) Try.func45 #[.agg #[.slice c.A0 nf c.c0, .slice c.A1 n c.c1], .string id] ?_
 refine (HP.out _ (q60 HBB.out HBB.out.size hHeld.2)).mono ?_
 rintro e w1 ⟨rfl, hbw⟩
 refine ⟨_, rfl, ⟨⟨q73 hbw hHeld.1.1, q73 hbw hHeld.1.2.1, q73 hbw hHeld.1.2.2.1, q73 hbw hHeld.1.2.2.2⟩, q72 hbw hHeld.2⟩, fun hHeld2 => ⟨_, rfl, nz_ (some 16) ?_⟩⟩
 refine pu_ 7 (some 8) ?_
 refine dn_ ?_
 have HB1 := Lib.hid (q60 HBB.out HBB.out.size hHeld2.2)
 have HM := Lib.hid (HM.out.below HB1.out)
 have HGA := Lib.hid (Go_.below HGA.out HB1.out)
 have HB := Lib.hid (Below.refl w1.heap.size w1)
 have x1 := hHeld2.1.2.2.2
 clear hHeld hHeld2 hbw HP
 go_wp2_with fail
 refine (putsn_call [at_] [⟨at_, true⟩] 1 w1 (by simp) (by decide) (by simp [q43.f, q43.l0, rd, wrap64])).mono ?_
 rintro e v1_ ⟨A2, c2, rfl, hR2, hb⟩
 have HR2 := Lib.hid hR2
 have HS2 := Lib.hid HB.out.size
 clear hR2
 have HB := Lib.hid (q60 HB.out HB.out.size hb)
 clear hb
 have HT := Lib.hid (HM.out.apart HB.out HR2.out HS2.out)
 have x1 := q73 HB.out x1
 clear HR2 HS2
 have HM := Lib.hid (HM.out.below HB.out)
 have HGA := Lib.hid (Go_.below HGA.out HB.out)
 have HB := Lib.hid (Below.refl v1_.heap.size v1_)
 by_cases h3 : ev = 3
 ·subst h3
  have HE : Hid (R = [⟨last, endedL c.la j 3, [], [⟨at_, true⟩]⟩]) := Lib.hid (by rw [HR.out, happensL]; simp only [if_true, List.append_nil])
  have hp := ended_any c w0 v1_ g _ _ j 3 (HM.out.below HB.out) hla (by omega) (by omega)
  go_wp2_with fail
  refine hp.mono ?_
  rintro e v2_ ⟨A3, n3, c3, rfl, hn3, hR3, hb⟩
  have HR3 := Lib.hid hR3
  have HN3 := Lib.hid hn3
  have HS3 := Lib.hid HB.out.size
  clear hp hR3 hn3
  have HB := Lib.hid (q60 HB.out HB.out.size hb)
  clear hb
  have hru := HM.out.rule2 last HB.out (Kd.R_below HT.out HB.out) HR3.out HS3.out rfl HN3.out (by (try simp only [List.length_append, List.length_cons, List.length_nil]); omega)
  go_wp2_with fail
  refine hru.mono ?_
  rintro e v3_ ⟨rfl, vr', h1, h2⟩
  have HM := Lib.hid h1
  have HG := Lib.hid h2
  have HT := Lib.hid (h2.row HT.out)
  have HB := Lib.hid (Below.refl v3_.heap.size v3_)
  clear hru h1 h2
  have HGA := Lib.hid (HGA.out.then_ HG.out)
  clear HG
  go_wp2
  refine bodyPost_end (results_none rfl _ _ _) rfl ?_
  refine ⟨rfl, _, ?_, HGA.out⟩
  rw [HE.out]
  try simp only [← List.append_assoc, List.append_nil]
  exact HM.out
 have hk3 : (ev == 3) = false := beq_eq_false_iff_ne.mpr h3
 by_cases h5 : ev = 5
 ·subst h5
  by_cases h0 : (j : Int) > 0
  rotate_left
  ·skip
   have HE : Hid (R = [⟨last, [⟨passF c.la j 0, false⟩], [], [⟨at_, true⟩]⟩]) := Lib.hid (by rw [HR.out, happensL]; simp only [if_neg h3, if_true, if_neg h0, List.append_nil])
   have hp := pass_any c v1_ g j 0 (HM.out.below HB.out).mg hla (by omega) (by omega)
   go_wp2_with fail
   refine hp.mono ?_
   rintro e v10_ ⟨rfl, rfl⟩
   clear hp
   have hp := up_call (passF c.la j 0) v10_
   go_wp2_with fail
   refine hp.mono ?_
   rintro e v11_ ⟨rfl, hb⟩
   clear hp
   have HB := Lib.hid (q60 HB.out HB.out.size hb)
   clear hb
   have hlit := lits_row v11_ [⟨passF c.la j 0, false⟩] (by simp)
   have hb8 := q57 HB.out (.cells (litCells [⟨passF c.la j 0, false⟩]).toArray 93)
   have hru := HM.out.rule2 last hb8 (Kd.R_below HT.out hb8) hlit HB.out.size rfl rfl (by (try simp only [List.length_append, List.length_cons, List.length_nil]); omega)
   go_wp2_with fail
   refine hru.mono ?_
   rintro e v12_ ⟨rfl, vr', h1, h2⟩
   have HM := Lib.hid h1
   have HG := Lib.hid h2
   have HT := Lib.hid (h2.row HT.out)
   have HB := Lib.hid (Below.refl v12_.heap.size v12_)
   clear hru h1 h2
   clear hlit hb8
   have HGA := Lib.hid (HGA.out.then_ HG.out)
   clear HG
   go_wp2
   refine bodyPost_end (results_none rfl _ _ _) rfl ?_
   refine ⟨rfl, _, ?_, HGA.out⟩
   rw [HE.out]
   try simp only [← List.append_assoc, List.append_nil]
   exact HM.out
  skip
  have HE : Hid (R = [⟨last, [⟨passF c.la j 0, false⟩], [], [⟨at_, true⟩]⟩] ++ [⟨last, [⟨passF c.la j 4, false⟩], [], [⟨at_, true⟩]⟩]) := Lib.hid (by rw [HR.out, happensL]; simp only [if_neg h3, if_true, if_pos h0, List.append_nil])
  have hp := pass_any c v1_ g j 0 (HM.out.below HB.out).mg hla (by omega) (by omega)
  go_wp2_with fail
  refine hp.mono ?_
  rintro e v4_ ⟨rfl, rfl⟩
  clear hp
  have hp := up_call (passF c.la j 0) v4_
  go_wp2_with fail
  refine hp.mono ?_
  rintro e v5_ ⟨rfl, hb⟩
  clear hp
  have HB := Lib.hid (q60 HB.out HB.out.size hb)
  clear hb
  have hlit := lits_row v5_ [⟨passF c.la j 0, false⟩] (by simp)
  have hb8 := q57 HB.out (.cells (litCells [⟨passF c.la j 0, false⟩]).toArray 93)
  have hru := HM.out.rule2 last hb8 (Kd.R_below HT.out hb8) hlit HB.out.size rfl rfl (by (try simp only [List.length_append, List.length_cons, List.length_nil]); omega)
  go_wp2_with fail
  refine hru.mono ?_
  rintro e v6_ ⟨rfl, vr', h1, h2⟩
  have HM := Lib.hid h1
  have HG := Lib.hid h2
  have HT := Lib.hid (h2.row HT.out)
  have HB := Lib.hid (Below.refl v6_.heap.size v6_)
  clear hru h1 h2
  clear hlit hb8
  have HGA := Lib.hid (HGA.out.then_ HG.out)
  clear HG
  have hp := pass_any c v6_ g j 4 (HM.out.below HB.out).mg hla (by omega) (by omega)
  go_wp2_with fail
  refine hp.mono ?_
  rintro e v7_ ⟨rfl, rfl⟩
  clear hp
  have hp := up_call (passF c.la j 4) v7_
  go_wp2_with fail
  refine hp.mono ?_
  rintro e v8_ ⟨rfl, hb⟩
  clear hp
  have HB := Lib.hid (q60 HB.out HB.out.size hb)
  clear hb
  have hlit := lits_row v8_ [⟨passF c.la j 4, false⟩] (by simp)
  have hb8 := q57 HB.out (.cells (litCells [⟨passF c.la j 4, false⟩]).toArray 93)
  have hru := HM.out.rule2 last hb8 (Kd.R_below HT.out hb8) hlit HB.out.size rfl rfl (by (try simp only [List.length_append, List.length_cons, List.length_nil]); omega)
  go_wp2_with fail
  refine hru.mono ?_
  rintro e v9_ ⟨rfl, vr', h1, h2⟩
  have HM := Lib.hid h1
  have HG := Lib.hid h2
  have HT := Lib.hid (h2.row HT.out)
  have HB := Lib.hid (Below.refl v9_.heap.size v9_)
  clear hru h1 h2
  clear hlit hb8
  have HGA := Lib.hid (HGA.out.then_ HG.out)
  clear HG
  go_wp2
  refine bodyPost_end (results_none rfl _ _ _) rfl ?_
  refine ⟨rfl, _, ?_, HGA.out⟩
  rw [HE.out]
  try simp only [← List.append_assoc, List.append_nil]
  exact HM.out
 have hk5 : (ev == 5) = false := beq_eq_false_iff_ne.mpr h5
 by_cases h0 : (j : Int) = 0
 ·have hj0 : j = 0 := by omega
  subst hj0
  have HE : Hid (R = []) := Lib.hid (by rw [HR.out, happensL]; simp only [if_neg h3, if_neg h5, if_pos h0, List.append_nil])
  go_wp2
  refine bodyPost_end (results_none rfl _ _ _) rfl ?_
  refine ⟨rfl, _, ?_, HGA.out⟩
  rw [HE.out]
  try simp only [← List.append_assoc, List.append_nil]
  exact HM.out
 have hkj : ((j : Int) == 0) = false := beq_eq_false_iff_ne.mpr h0
 have hj0 : (j : Int) > 0 := by omega
 by_cases h1 : ev = 1
 ·subst h1
  have HE : Hid (R = [⟨last, createdL c.la j p, [], [⟨at_, true⟩]⟩]) := Lib.hid (by rw [HR.out, happensL]; simp only [if_neg h3, if_neg h5, if_neg h0, if_true, List.append_nil])
  have hp := created_any c w0 v1_ g _ _ j (HM.out.below HB.out) HMM.out hiL.out (HPAR.out hj0)
  go_wp2_with fail
  refine hp.mono ?_
  rintro e v13_ ⟨A3, n3, c3, rfl, hn3, hR3, hb⟩
  have HR3 := Lib.hid hR3
  have HN3 := Lib.hid hn3
  have HS3 := Lib.hid HB.out.size
  clear hp hR3 hn3
  have HB := Lib.hid (q60 HB.out HB.out.size hb)
  clear hb
  rw [← HPI.out] at HR3 HN3
  have hru := HM.out.rule2 last HB.out (Kd.R_below HT.out HB.out) HR3.out HS3.out rfl HN3.out (by (try simp only [List.length_append, List.length_cons, List.length_nil]); omega)
  go_wp2_with fail
  refine hru.mono ?_
  rintro e v14_ ⟨rfl, vr', h1, h2⟩
  have HM := Lib.hid h1
  have HG := Lib.hid h2
  have HT := Lib.hid (h2.row HT.out)
  have HB := Lib.hid (Below.refl v14_.heap.size v14_)
  clear hru h1 h2
  have HGA := Lib.hid (HGA.out.then_ HG.out)
  clear HG
  go_wp2
  refine bodyPost_end (results_none rfl _ _ _) rfl ?_
  refine ⟨rfl, _, ?_, HGA.out⟩
  rw [HE.out]
  try simp only [← List.append_assoc, List.append_nil]
  exact HM.out
 have hk1 : (ev == 1) = false := beq_eq_false_iff_ne.mpr h1
 have HE : Hid (R = [⟨last, endedL c.la j 1, [], [⟨at_, true⟩]⟩]) := Lib.hid (by rw [HR.out, happensL]; simp only [if_neg h3, if_neg h5, if_neg h0, if_neg h1, List.append_nil])
 have hp := ended_any c w0 v1_ g _ _ j 1 (HM.out.below HB.out) hla (by omega) (by omega)
 go_wp2_with fail
 refine hp.mono ?_
 rintro e v15_ ⟨A3, n3, c3, rfl, hn3, hR3, hb⟩
 have HR3 := Lib.hid hR3
 have HN3 := Lib.hid hn3
 have HS3 := Lib.hid HB.out.size
 clear hp hR3 hn3
 have HB := Lib.hid (q60 HB.out HB.out.size hb)
 clear hb
 have hru := HM.out.rule2 last HB.out (Kd.R_below HT.out HB.out) HR3.out HS3.out rfl HN3.out (by (try simp only [List.length_append, List.length_cons, List.length_nil]); omega)
 go_wp2_with fail
 refine hru.mono ?_
 rintro e v16_ ⟨rfl, vr', h1, h2⟩
 have HM := Lib.hid h1
 have HG := Lib.hid h2
 have HT := Lib.hid (h2.row HT.out)
 have HB := Lib.hid (Below.refl v16_.heap.size v16_)
 clear hru h1 h2
 have HGA := Lib.hid (HGA.out.then_ HG.out)
 clear HG
 go_wp2
 refine bodyPost_end (results_none rfl _ _ _) rfl ?_
 refine ⟨rfl, _, ?_, HGA.out⟩
 rw [HE.out]
 try simp only [← List.append_assoc, List.append_nil]
 exact HM.out
set_option maxHeartbeats 4000000 in
set_option maxRecDepth 100000 in
theorem sents0_call (x : S41) (A5 : Option Addr) (c5 : Nat) (A6 : Option Addr) (c6 : Nat) (w0 w : World) (hb0 : Below w0.heap.size w0 w) (h5 : Kd.C k45 w0 A5 x.f5.length x.f5) (h6 : Kd.C k45 w0 A6 x.f6.length x.f6) (hl : x.f5.length + x.f6.length ≤ 1000) :
 Calls Try.prog 64 #[.agg #[.string x.f0, .int .i64 x.f1, .string x.f2, .bool x.f3, .int .i64 x.f4, .slice A5 x.f5.length c5, .slice A6 x.f6.length c6]] w fun e w' => ∃ A c rows, e = .returned (.slice A (x.f5 ++ x.f6).length c) ∧ rows.length = (x.f5 ++ x.f6).length ∧ Kd.R (kRaw 2) 45 w' w.heap.size (fun _ => True) (.slice A (x.f5 ++ x.f6).length c) rows ∧ (∀ (j : Nat) (p : S45), (x.f5 ++ x.f6)[j]? = some p → ∃ cs, rows[j]? = some cs ∧ (k45).K w0 p cs) ∧ Below w.heap.size w w' := by
 have hu41 := Try.underlying41
 obtain ⟨r5, hr5, hC5, hK5⟩ := C_raw h5
 obtain ⟨r6, hr6, hC6, hK6⟩ := C_raw h6
 obtain ⟨W2, hW2⟩ : ∃ W2, W2 = (w.alloc (.cells #[.string x.f0, .int .i64 x.f1, .string x.f2, .bool x.f3, .int .i64 x.f4, .slice A5 x.f5.length c5, .slice A6 x.f6.length c6] 41)).alloc (.cells #[.slice A5 x.f5.length c5, .slice A6 x.f6.length c6] 39) := ⟨_, rfl⟩
 have hb2 : Below w.heap.size w W2 := by rw [hW2]; exact q57 (q57 (Below.refl _ _) _) _
 have hg2 : W2.heap[w.heap.size + 1]? = some (.cells #[.slice A5 x.f5.length c5, .slice A6 x.f6.length c6] 39 (0, 0)) := by
  rw [hW2, show w.heap.size + 1 = (w.alloc (.cells #[.string x.f0, .int .i64 x.f1, .string x.f2, .bool x.f3, .int .i64 x.f4, .slice A5 x.f5.length c5, .slice A6 x.f6.length c6] 41)).heap.size by simp]
  exact heap_alloc_new _ _
 have hcat : catS (fun i => if i = 0 then r5 else r6) 2 = r5 ++ r6 := by simp [catS]
 have htot : totS (fun k => ((fun i => if i = 0 then r5 else r6) k).length) 2 ≤ 1000000 := by simp [totS]; omega
 have hcc := concatS_call W2 ⟨w.heap.size + 1, 0, none⟩ 2 (fun i => if i = 0 then A5 else A6) (fun i => if i = 0 then c5 else c6) (fun i => if i = 0 then r5 else r6) (by
  intro i hi
  have : i = 0 ∨ i = 1 := by omega
  rcases this with rfl | rfl
  ·show W2.cell? ⟨w.heap.size + 1, 0, none⟩ = some (.slice A5 r5.length c5)
   rw [hr5]; exact (q63 hg2 0).trans rfl
  ·show W2.cell? ⟨w.heap.size + 1, 1, none⟩ = some (.slice A6 r6.length c6)
   rw [hr6]; exact (q63 hg2 1).trans rfl) (by
  intro i hi
  have : i = 0 ∨ i = 1 := by omega
  rcases this with rfl | rfl
  ·show Kd.C (kRaw 2) W2 A5 r5.length r5
   rw [hr5]; exact Kd.C_below hC5 (q60 hb0 hb0.size hb2)
  ·show Kd.C (kRaw 2) W2 A6 r6.length r6
   rw [hr6]; exact Kd.C_below hC6 (q60 hb0 hb0.size hb2)) (by omega) htot
 rw [hcat] at hcc
 have HFIN : Hid (∀ (e : Ending) (w' : World) (v : Value), e = .returned v → Kd.R (kRaw 2) 45 w' W2.heap.size (fun _ => True) v (r5 ++ r6) → Below W2.heap.size W2 w' → ∃ A c rows, e = .returned (.slice A (x.f5 ++ x.f6).length c) ∧ rows.length = (x.f5 ++ x.f6).length ∧ Kd.R (kRaw 2) 45 w' w.heap.size (fun _ => True) (.slice A (x.f5 ++ x.f6).length c) rows ∧ (∀ (j : Nat) (p : S45), (x.f5 ++ x.f6)[j]? = some p → ∃ cs, rows[j]? = some cs ∧ (k45).K w0 p cs) ∧ Below w.heap.size w w') := Lib.hid (by
  intro e w' v he hR hb
  obtain ⟨A, c, rfl⟩ := Kd.R_slice hR
  have hlen : (r5 ++ r6).length = (x.f5 ++ x.f6).length := by rw [List.length_append, List.length_append, hr5, hr6]
  have hbw := q60 hb2 hb2.size hb
  rw [hlen] at he
  rw [hlen] at hR
  refine ⟨A, c, r5 ++ r6, he, hlen, Kd.R_lower hR hb2.size, ?_, hbw⟩
  intro j p hj
  rw [List.getElem?_append] at hj
  rw [List.getElem?_append, hr5]
  split at hj
  ·rename_i hlt
   rw [if_pos hlt]
   exact hK5 j p hj
  rename_i hlt
  rw [if_neg hlt]
  exact hK6 (j - x.f5.length) p hj)
 have HW2 := Lib.hid hW2
 obtain ⟨n5, hn5⟩ : ∃ n5, n5 = x.f5.length := ⟨_, rfl⟩
 obtain ⟨n6, hn6⟩ : ∃ n6, n6 = x.f6.length := ⟨_, rfl⟩
 rw [← hn5, ← hn6] at HW2 ⊢
 clear hb0 h5 h6 hl hr5 hC5 hK5 hr6 hC6 hK6 hW2 hb2 hg2 hcat htot hn5 hn6
 go_enter Try.func64, Try.ntmps64
 go_wp2_with fail
 rw [← HW2.out]
 refine hcc.mono ?_
 rintro e w' ⟨v, rfl, hR, hb⟩
 have HF := Lib.hid (HFIN.out _ w' v rfl hR hb)
 clear hcc hR hb
 go_wp2
 go_ret
 exact HF.out
theorem sent_at {w0 w : World} {A : Option Addr} {m : Nat} {rows : List (List Value)} {ss : List (S45)} (h : Kd.C (kRaw 2) w A m rows) (hK : ∀ (j : Nat) (p : S45), ss[j]? = some p → ∃ cs, rows[j]? = some cs ∧ (k45).K w0 p cs) (k : Nat) (hk : k < ss.length) (hm : m = ss.length) : ∃ ad A0 c0 A1 c1, A = some ad ∧ w.cell? (ad.add (k * 2)) = some (.slice A0 ss[k].f0.length c0) ∧ w.cell? ⟨(ad.add (k * 2)).block, (ad.add (k * 2)).off + 1, none⟩ = some (.slice A1 ss[k].f1.length c1) ∧ ss[k].f0.length ≤ c0 ∧ Kd.C k101 w0 A0 ss[k].f0.length ss[k].f0 ∧ ss[k].f1.length ≤ c1 ∧ Kd.C k90 w0 A1 ss[k].f1.length ss[k].f1 := by
 obtain ⟨h1, h2, h3⟩ := h
 obtain ⟨ad, e, hc⟩ := h3 (by omega)
 obtain ⟨cs, hr, hKp⟩ := hK k ss[k] (List.getElem?_eq_getElem hk)
 obtain ⟨c, hl, hK', hcc⟩ := hc k cs hr
 obtain ⟨rfl, -⟩ := hK'
 have hc : ∀ j u, c[j]? = some u → w.cell? (ad.add (k * 2 + j)) = some u := hcc
 obtain ⟨A0, c0, A1, c1, rfl, l0, g0, l1, g1⟩ := k45_open hKp
 exact ⟨ad, A0, c0, A1, c1, e, hc 0 _ rfl, by rw [← add_field _ _ 1 (by omega)]; exact hc 1 _ rfl, l0, g0, l1, g1⟩
def Lg (c : Mc) : Prop := (∀ j : Nat, 0 < j → j < c.l.length → 0 ≤ parI c.l j ∧ parI c.l j < j) ∧ ∀ x ∈ c.l, ∀ s ∈ x.f5 ++ x.f6, ∀ o ∈ s.f0, ∃ j : Nat, j < c.l.length ∧ fidx (q39.p o.f0) c.l = (j : Int)
def hap (c : Mc) (last : Int) (at_ : Nat) (x : S101) : List (S72) := happensL c.la last at_ (fidx (q39.p x.f0) c.l).toNat (parI c.l (fidx (q39.p x.f0) c.l).toNat) x.f1
def onsP (c : Mc) (last : Int) (at_ : Nat) (xs : List (S101)) : Nat → List (S72)
 | 0 => []
 | q + 1 => onsP c last at_ xs q ++ hap c last (at_ + q) (q76 xs (q : Int))
def marksP (c : Mc) (last : Int) (at_ : Nat) (ss : List (S45)) : Nat → List (S72)
 | 0 => []
 | k + 1 => marksP c last at_ ss k ++ onsP c last (at_ + onsN (ss.take k)) (q82 ss (k : Int)).f0 (q82 ss (k : Int)).f0.length
theorem hap_len (c : Mc) (last : Int) (at_ : Nat) (x : S101) : (hap c last at_ x).length ≤ 2 := by
 unfold hap happensL
 split
 ·simp
 split
 ·split <;> simp
 split
 ·simp
 ·split <;> simp
theorem onsP_len (c : Mc) (last : Int) (at_ : Nat) (xs : List (S101)) (q : Nat) : (onsP c last at_ xs q).length ≤ 2 * q := by
  induction q with
  | zero => simp [onsP]
  | succ q ih =>
    have := hap_len c last (at_ + q) (q76 xs (q : Int))
    simp only [onsP, List.length_append]
    omega
theorem marksP_len (c : Mc) (last : Int) (at_ : Nat) (ss : List (S45)) (h : ∀ s ∈ ss, s.f0.length ≤ 3) (k : Nat) (hk : k ≤ ss.length) : (marksP c last at_ ss k).length ≤ 6 * k := by
  induction k with
  | zero => simp [marksP]
  | succ k ih =>
    have hks : k < ss.length := by omega
    have hsq : q82 ss (k : Int) = ss[k] := by simp [q82, List.getD_eq_getElem?_getD, List.getElem?_eq_getElem hks]
    have h3 := h ss[k] (List.getElem_mem hks)
    have := onsP_len c last (at_ + onsN (ss.take k)) (q82 ss (k : Int)).f0 (q82 ss (k : Int)).f0.length
    rw [hsq] at this
    have := ih (by omega)
    simp only [marksP, List.length_append, hsq]
    omega
set_option maxHeartbeats 16000000 in
set_option maxRecDepth 100000 in
theorem marks_any (c : Mc) (w0 w : World) (g : Nat) (vr : Value) (rs : List (S72)) (last : Int) (i : Nat) (x : S41) (ss : List (S45)) (hM : Mr c w0 w g vr rs) (hm : Mm c w0) (hg : Lg c) (hi : i < c.l.length) (hlim : rs.length ≤ 90000) (hx : x = q81 c.l (i : Int)) (hss : ss = x.f5 ++ x.f6) :
 Calls Try.prog 39 #[.pointer (some ⟨g, 0, none⟩), .int .i64 last, .int .i64 i] w (RulePost c w0 w g vr (rs ++ marksP c last (marksN c.l i) ss ss.length)) := by
 have hu25 := Try.underlying25
 have hu58 := Try.underlying58
 have hu41 := Try.underlying41
 have hu45 := Try.underlying45
 have hu101 := Try.underlying101
 have hml := hm.2.2.2.2.1
 have hla := hm.2.2.2.2.2.1
 have hw := hm.2.2.2.2.2.2
 have hxl : x = c.l[i] := by rw [hx]; simp [q81, List.getD_eq_getElem?_getD, List.getElem?_eq_getElem hi]
 have hxm : x ∈ c.l := by rw [hxl]; exact List.getElem_mem hi
 have hmn := marksN_le hw hml i (by omega)
 have hon := onsN_le hw x hxm
 have hw6 := hw x hxm
 have hga := hg.2 x hxm
 rw [← hss] at hon hw6 hga
 have hcz1 : w.cell? ⟨g, 1, none⟩ = some (.slice c.A1 c.l.length c.c1) := (q63 hM.2.2.1 1).trans rfl
 obtain ⟨ad, A5, c5, A6, c6, e, x0, x1, x2, x3, x4, x5, x6, l5, g5, l6, g6⟩ := at_T41 hm.2.2.1 (i : Int) (by omega) (by omega)
 simp only [Int.toNat_natCast] at x0 x1 x2 x3 x4 x5 x6
 rw [← hx] at x0 x1 x2 x3 x4 x5 x6 l5 g5 l6 g6
 rw [e] at hcz1
 have hmk := mark_any c w0 w g i hM.mg hm hM.1 (by omega)
 have hSE : ∀ W, Below w0.heap.size w0 W → Calls Try.prog 64 #[.agg #[.string x.f0, .int .i64 x.f1, .string x.f2, .bool x.f3, .int .i64 x.f4, .slice A5 x.f5.length c5, .slice A6 x.f6.length c6]] W fun e w' => ∃ A cc rows, e = .returned (.slice A ss.length cc) ∧ rows.length = ss.length ∧ Kd.R (kRaw 2) 45 w' W.heap.size (fun _ => True) (.slice A ss.length cc) rows ∧ (∀ (j : Nat) (p : S45), ss[j]? = some p → ∃ cs, rows[j]? = some cs ∧ (k45).K w0 p cs) ∧ Below W.heap.size W w' := fun W hb => by
  rw [hss]
  exact sents0_call x A5 c5 A6 c6 w0 W hb g5 g6 (by have := hw6.1; rw [hss, List.length_append] at this; omega)
 obtain ⟨n5, hn5⟩ : ∃ n5, n5 = x.f5.length := ⟨_, rfl⟩
 obtain ⟨n6, hn6⟩ : ∃ n6, n6 = x.f6.length := ⟨_, rfl⟩
 obtain ⟨m, hmm⟩ : ∃ m, m = ss.length := ⟨_, rfl⟩
 obtain ⟨n, hn⟩ : ∃ n, n = c.l.length := ⟨_, rfl⟩
 rw [← hn5] at x5 hSE
 rw [← hn6] at x6 hSE
 rw [← hmm] at hSE hw6 ⊢
 rw [← hn] at hcz1
 have hlt : (i : Int) < (n : Int) := by omega
 obtain ⟨mk, hmke⟩ : ∃ mk, mk = marksN c.l i := ⟨_, rfl⟩
 rw [← hmke] at hmk hmn ⊢
 have HM := Lib.hid hM
 have HMM := Lib.hid hm
 have HGG := Lib.hid hg.1
 have HGO := Lib.hid hga
 have HON := Lib.hid hon
 have HW6 := Lib.hid hw6.2
 have hm6 := hw6.1
 have HSE := Lib.hid hSE
 have HMM2 := Lib.hid hmm
 have HN := Lib.hid hn
 have HXX := Lib.hid (And.intro x0 (And.intro x1 (And.intro x2 (And.intro x3 (And.intro x4 (And.intro x5 x6))))))
 have hi1 : (i : Int) ≤ 1000 := by omega
 clear hM hm hg hga hon hw6 hw hSE hmm hn e x0 x1 x2 x3 x4 x5 x6 l5 g5 l6 g6 hn5 hn6 hx hss hxl hxm hmke hi hml
 go_enter Try.func39, Try.ntmps39
 go_wp2_with fail
 refine hmk.mono ?_
 rintro e w1 ⟨rfl, hb⟩
 have HB1 := Lib.hid hb
 have hcz1 := q73 hb hcz1
 have hb01 := q60 HM.out.1 HM.out.1.size hb
 have x0 := q73 hb01 HXX.out.1
 have x1 := q73 hb01 HXX.out.2.1
 have x2 := q73 hb01 HXX.out.2.2.1
 have x3 := q73 hb01 HXX.out.2.2.2.1
 have x4 := q73 hb01 HXX.out.2.2.2.2.1
 have x5 := q73 hb01 HXX.out.2.2.2.2.2.1
 have x6 := q73 hb01 HXX.out.2.2.2.2.2.2
 have hse := HSE.out w1 hb01
 clear hmk hb hb01
 go_wp2_with fail
 refine hse.mono ?_
 rintro e w3 ⟨A7, c7, rows, rfl, hrl, hR7, hK7, hb3⟩
 have HB3 := Lib.hid (q60 HB1.out HB1.out.size hb3)
 have HT := Lib.hid (HM.out.apart HB3.out hR7 HB1.out.size)
 have HK7 := Lib.hid hK7
 have HRL := Lib.hid hrl
 clear hse hb3 hR7 hK7 hrl x0 x1 x2 x3 x4 x5 x6 hcz1 HB1 HSE HXX
 go_wp2
 go_loopg [6, 24] m (fun gg s6 s24 wr => ∃ (k : Nat) (vq : Value), s24 = .int .i64 k ∧ s6 = .int .i64 ((mk + onsN (ss.take k) : Nat) : Int) ∧ k ≤ m ∧ m - k ≤ gg ∧ Hid (Mr c w0 wr g vq (rs ++ marksP c last mk ss k) ∧ Go_ g vr vq w wr ∧ Kd.R (kRaw 2) 45 wr (g + 1) (fun k => some k ≠ vq.ownBlock) (.slice A7 m c7) rows))
 case atStart => exact ⟨0, vr, rfl, by simp [onsN], Nat.zero_le _, by omega, Lib.hid ⟨by simpa [marksP] using HM.out.below HB3.out, Go_.below Go_.refl HB3.out, HT.out⟩⟩
 case round =>
 obtain ⟨k, vq, rfl, rfl, hkm, hkg, Y⟩ := hrel
 obtain ⟨wO, rfl⟩ : ∃ wO, wO = wr := ⟨_, rfl⟩
 by_cases hlk : k < m
 case neg =>
  obtain rfl : k = m := by omega
  have hlz : ¬ (k : Int) < (k : Int) := by omega
  go_wp2
  refine bodyPost_end (results_none rfl _ _ _) rfl ?_
  exact ⟨rfl, vq, Y.out.1, Y.out.2.1⟩
 have hlz : (k : Int) < (m : Int) := by omega
 have hks : k < ss.length := by have := HMM2.out; omega
 obtain ⟨ad2, A8, c8, A9, c9, e2, y0, y1, l8, g8, -⟩ := sent_at (Kd.R_reads' Y.out.2.2).2.2 HK7.out k hks (HRL.out.trans HMM2.out)
 cases e2
 have hsq : q82 ss (k : Int) = ss[k] := by simp [q82, List.getD_eq_getElem?_getD, List.getElem?_eq_getElem hks]
 obtain ⟨xs, hxs⟩ : ∃ xs, xs = ss[k].f0 := ⟨_, rfl⟩
 have hq3 := (HW6.out ss[k] (List.getElem_mem hks)).1
 have hgo := HGO.out ss[k] (List.getElem_mem hks)
 have hts := onsN_take ss k hks
 have ho1 := HON.out k
 rw [← hxs] at y0 l8 g8 hq3 hgo hts
 obtain ⟨a0, ha0⟩ : ∃ a0, a0 = mk + onsN (ss.take k) := ⟨_, rfl⟩
 have HMP : Hid (marksP c last mk ss (k + 1) = marksP c last mk ss k ++ onsP c last a0 xs xs.length) := Lib.hid (by simp only [marksP]; rw [hsq, ← hxs, ← ha0])
 have hml2 := marksP_len c last mk ss (fun s hs => (HW6.out s hs).1) k (by omega)
 obtain ⟨nq, hnq⟩ : ∃ nq, nq = xs.length := ⟨_, rfl⟩
 have HA1 : Hid (mk + onsN (ss.take (k + 1)) = a0 + nq) := Lib.hid (by rw [hts, ha0, hnq]; omega)
 obtain ⟨nr, hnr⟩ : ∃ nr, nr = ss[k].f1.length := ⟨_, rfl⟩
 rw [← hnq] at y0 l8 g8 hq3
 rw [← hnr] at y1
 rw [← ha0]
 have ha1 : a0 ≤ 23000 := by omega
 have HNQ := Lib.hid hnq
 have HG8 := Lib.hid g8
 have HGX := Lib.hid hgo
 have HY := Lib.hid Y.out
 clear Y hxs hsq hts ho1 ha0 hnq hnr g8 hgo l8
 have hbA := q57 (Below.refl wO.heap.size wO) (.cells #[.slice A8 nq c8, .slice A9 nr c9] 45)
 obtain ⟨wA, hwA⟩ : ∃ wA, wA = wO.alloc (.cells #[.slice A8 nq c8, .slice A9 nr c9] 45) := ⟨_, rfl⟩
 rw [← hwA] at hbA
 have HBA := Lib.hid hbA
 have HWA := Lib.hid hwA
 clear hbA hwA
 go_upto_block 2 with (fail)
 rw [← HWA.out]
 go_wp2_with fail
 go_loopg [6, 31] nq (fun gg s6 s31 wr => ∃ (q : Nat) (vt : Value), s31 = .int .i64 q ∧ s6 = .int .i64 ((a0 + q : Nat) : Int) ∧ q ≤ nq ∧ nq - q ≤ gg ∧ Hid (Mr c w0 wr g vt (rs ++ marksP c last mk ss k ++ onsP c last a0 xs q) ∧ Go_ g vr vt w wr ∧ Kd.R (kRaw 2) 45 wr (g + 1) (fun k => some k ≠ vt.ownBlock) (.slice (some ad2) m c7) rows))
 case atStart => exact ⟨0, vq, rfl, by simp, Nat.zero_le _, by omega, Lib.hid ⟨by simpa [onsP] using HY.out.1.below HBA.out, Go_.below HY.out.2.1 HBA.out, Kd.R_below HY.out.2.2 HBA.out⟩⟩
 case round =>
 obtain ⟨q, vt, rfl, rfl, hqn, hqg, Z⟩ := hrel
 obtain ⟨wI, rfl⟩ : ∃ wI, wI = wr := ⟨_, rfl⟩
 by_cases hlq : q < nq
 case neg =>
  obtain rfl : q = nq := by omega
  have hlz2 : ¬ (q : Int) < (q : Int) := by omega
  have HE : Hid (rs ++ marksP c last mk ss k ++ onsP c last a0 xs q = rs ++ marksP c last mk ss (k + 1)) := Lib.hid (by rw [HMP.out, HNQ.out, List.append_assoc])
  have HZ : Hid (Mr c w0 wI g vt (rs ++ marksP c last mk ss (k + 1)) ∧ Go_ g vr vt w wI ∧ Kd.R (kRaw 2) 45 wI (g + 1) (fun k => some k ≠ vt.ownBlock) (.slice (some ad2) m c7) rows) := Lib.hid (HE.out ▸ Z.out)
  clear Z
  go_wp2
  go_roundg (m - (k + 1))
  case measure => omega
  case rel => exact ⟨k + 1, vt, by go_num, by rw [HA1.out, Int.natCast_add], by omega, Nat.le_refl _, HZ⟩
 have hlz2 : (q : Int) < (nq : Int) := by omega
 have hqs : q < xs.length := by have := HNQ.out; omega
 obtain ⟨ad3, e3, z0, z1⟩ := at_T101 (Kd.C_below HG8.out Z.out.1.1) (q : Int) (by omega) (by omega)
 cases e3
 simp only [Int.toNat_natCast] at z0 z1
 obtain ⟨o, ho⟩ : ∃ o, o = q76 xs (q : Int) := ⟨_, rfl⟩
 have hoq : o = xs[q] := by rw [ho]; simp [q76, List.getD_eq_getElem?_getD, List.getElem?_eq_getElem hqs]
 rw [← ho] at z0 z1
 obtain ⟨j, hj, hjf⟩ := HGX.out o (by rw [hoq]; exact List.getElem_mem hqs)
 have HOS : Hid (rs ++ marksP c last mk ss k ++ onsP c last a0 xs (q + 1) = (rs ++ marksP c last mk ss k ++ onsP c last a0 xs q) ++ happensL c.la last ((a0 + q : Nat) : Int) j (parI c.l j) o.f1) := Lib.hid (by simp only [onsP]; rw [← ho, hap, hjf, Int.toNat_natCast, ← List.append_assoc])
 have hol := onsP_len c last a0 xs q
 obtain ⟨rq, hrq⟩ : ∃ rq, rq = rs ++ marksP c last mk ss k ++ onsP c last a0 xs q := ⟨_, rfl⟩
 have hrl : rq.length ≤ 95000 := by rw [hrq, List.length_append, List.length_append]; omega
 rw [← hrq] at HOS
 obtain ⟨id, hid⟩ : ∃ id, id = o.f0 := ⟨_, rfl⟩
 obtain ⟨ev, hev⟩ : ∃ ev, ev = o.f1 := ⟨_, rfl⟩
 rw [← hid] at z0 hjf
 rw [← hev] at z1 HOS
 have hbZ := q57 (Below.refl wI.heap.size wI) (.cells #[.string id, .int .i64 ev] 101)
 obtain ⟨wZ, hwZ⟩ : ∃ wZ, wZ = wI.alloc (.cells #[.string id, .int .i64 ev] 101) := ⟨_, rfl⟩
 rw [← hwZ] at hbZ
 have hp := happens_any c w0 wZ g vt rq last ((a0 + q : Nat) : Int) id ev j ((hrq ▸ Z.out.1).below hbZ) HMM.out hjf hj hrl (fun h => by have h1 := HGG.out j (by omega) hj; have := HMM.out.2.2.2.2.1; omega)
 have HZ1 := Lib.hid (Go_.below Z.out.2.1 hbZ)
 have HZ2 := Lib.hid (Kd.R_below Z.out.2.2 hbZ)
 have HWZ := Lib.hid hwZ
 clear Z ho hoq hj hjf hol hrq hrl hid hev hbZ hwZ
 go_wp2_with fail
 rw [← HWZ.out]
 refine hp.mono ?_
 rintro e wN ⟨rfl, vn, h1, h2⟩
 have HMN := Lib.hid h1
 have HGN := Lib.hid h2
 clear hp h1 h2 z0 z1
 go_wp2
 go_roundg (nq - (q + 1))
 case measure => omega
 case rel => exact ⟨q + 1, vn, by go_num, by go_num, by omega, Nat.le_refl _, Lib.hid ⟨HOS.out ▸ HMN.out, HZ1.out.then_ HGN.out, HGN.out.row HZ2.out⟩⟩
theorem Go_.cell {g : Nat} {vr vr' : Value} {w w' : World} (h : Go_ g vr vr' w w') {p : Addr} {v : Value} (hc : w.cell? p = some v) (h1 : p.block < w.heap.size) (h2 : p.block ≠ g) (h3 : vr.ownBlock ≠ some p.block) : w'.cell? p = some v := by
 unfold World.cell? at hc ⊢
 rw [h.1.2 _ h1 (fun e => e.elim h2 h3)]
 exact hc
theorem Mr.rule3 {c : Mc} {w0 w : World} {g : Nat} {vr : Value} {rs : List (S72)} (hM : Mr c w0 w g vr rs) (st : Int) {A2 : Option Addr} {c2 n2 b2 : Nat} {th : List (S111)} {W : World} {A3 : Option Addr} {c3 n3 : Nat} {ls : List (S93)}
 (hb : Below w.heap.size w W) (h2 : Kd.R k111 111 W b2 (fun _ => True) (.slice A2 n2 c2) th) (hb2 : w.heap.size ≤ b2) (h3 : Kd.R k93 93 W (g + 1) (fun k => some k ≠ vr.ownBlock) (.slice A3 n3 c3) ls) (hn2 : n2 = th.length) (hn3 : n3 = ls.length) (hlim : rs.length ≤ 100000) :
 Calls Try.prog 69 #[.pointer (some ⟨g, 0, none⟩), .int .i64 st, .slice A2 n2 c2, .slice A3 n3 c3] W (RulePost c w0 w g vr (rs ++ [⟨st, ls, [], th⟩])) := by
 subst hn2 hn3
 refine (rule_any c w0 W g vr rs st A2 c2 th A3 c3 ls (hM.below hb) (hM.apart hb h2 hb2) h3 hlim).mono ?_
 rintro e w' ⟨rfl, vr', h4, h5⟩
 exact ⟨rfl, vr', h4, (Go_.below Go_.refl hb).then_ h5⟩
def sentI (c : Mc) (i : Nat) : Int := c.la + 6 * (c.l.length : Int) + (sentsN c.l i : Nat)
def thirdE (c : Mc) (i ne : Nat) : List (S72) := if ne = 0 then [⟨3, [⟨flagF i 1, false⟩, ⟨passF c.la i 0, true⟩], [], [⟨passF c.la i 1, true⟩]⟩] else []
def thirdF (c : Mc) (i q : Nat) : S72 := ⟨3, [⟨sentI c i + q, false⟩] ++ [⟨flagF i 1, false⟩, ⟨passF c.la i 0, true⟩], [], [⟨passF c.la i 1, true⟩]⟩
def thirdP (c : Mc) (i : Nat) (kd : Int) (ne : Nat) : List (S72) := if kd ≤ 3 then thirdE c i ne ++ (List.range ne).map (thirdF c i) else []
def thirdL (c : Mc) (i : Nat) (kd : Int) (ne : Nat) : List (S72) := if (i : Int) = 0 then [] else thirdP c i kd ne ++ [⟨3, [⟨flagF (parI c.l i) 2, false⟩] ++ waitsL i, [], [⟨passF c.la i 2, true⟩]⟩]
set_option maxHeartbeats 16000000 in
set_option maxRecDepth 100000 in
theorem third_any (c : Mc) (w0 w : World) (g : Nat) (vr : Value) (rs : List (S72)) (i : Nat) (hM : Mr c w0 w g vr rs) (hm : Mm c w0) (hi : i < c.l.length) (hlim : rs.length ≤ 90000) (hpar : (i : Int) > 0 → 0 ≤ parI c.l i ∧ parI c.l i ≤ 1000) :
 Calls Try.prog 30 #[.pointer (some ⟨g, 0, none⟩), .int .i64 i] w (RulePost c w0 w g vr (rs ++ thirdL c i (q81 c.l (i : Int)).f1 (q81 c.l (i : Int)).f5.length)) := by
 have hu25 := Try.underlying25
 have hu58 := Try.underlying58
 have hu41 := Try.underlying41
 have hml := hm.2.2.2.2.1
 have hla := hm.2.2.2.2.2.1
 have hw := hm.2.2.2.2.2.2
 have hsn := sentsN_le hw hml i (by omega)
 have hcz1 : w.cell? ⟨g, 1, none⟩ = some (.slice c.A1 c.l.length c.c1) := (q63 hM.2.2.1 1).trans rfl
 obtain ⟨ad, A5, c5, A6, c6, e, x0, x1, x2, x3, x4, x5, x6, l5, g5, l6, g6⟩ := at_T41 (hm.at hM.1).2 (i : Int) (by omega) (by omega)
 simp only [Int.toNat_natCast] at x0 x1 x2 x3 x4 x5 x6
 obtain ⟨x, hx⟩ : ∃ x, x = q81 c.l (i : Int) := ⟨_, rfl⟩
 have hxm : x ∈ c.l := by rw [hx]; simp [q81, List.getD_eq_getElem?_getD, List.getElem?_eq_getElem hi]
 rw [← hx] at x0 x1 x2 x3 x4 x5 x6 ⊢
 have hn5 : x.f5.length ≤ 6 := by have := (hw x hxm).1; rw [List.length_append] at this; omega
 rw [e] at hcz1
 obtain ⟨n5, hn5e⟩ : ∃ n5, n5 = x.f5.length := ⟨_, rfl⟩
 obtain ⟨n6, hn6⟩ : ∃ n6, n6 = x.f6.length := ⟨_, rfl⟩
 rw [← hn5e] at hn5 x5 ⊢
 rw [← hn6] at x6
 obtain ⟨n, hn⟩ : ∃ n, n = c.l.length := ⟨_, rfl⟩
 rw [← hn] at hcz1
 have hlt : (i : Int) < (n : Int) := by omega
 obtain ⟨kd, hk⟩ : ∃ kd, kd = x.f1 := ⟨_, rfl⟩
 rw [← hk] at x1 ⊢
 obtain ⟨f0, hf0⟩ : ∃ f0, f0 = x.f0 := ⟨_, rfl⟩
 rw [← hf0] at x0
 obtain ⟨f2, hf2⟩ : ∃ f2, f2 = x.f2 := ⟨_, rfl⟩
 rw [← hf2] at x2
 obtain ⟨f3, hf3⟩ : ∃ f3, f3 = x.f3 := ⟨_, rfl⟩
 rw [← hf3] at x3
 obtain ⟨f4, hf4⟩ : ∃ f4, f4 = x.f4 := ⟨_, rfl⟩
 rw [← hf4] at x4
 obtain ⟨pi, hpi⟩ : ∃ pi, pi = parI c.l i := ⟨_, rfl⟩
 rw [← hpi] at hpar
 obtain ⟨sv, hsv⟩ : ∃ sv, sv = c.la + 6 * (c.l.length : Int) + (sentsN c.l i : Nat) := ⟨_, rfl⟩
 have hsvb : 0 ≤ sv ∧ sv ≤ 200000 := by rw [hsv]; omega
 obtain ⟨R, hR⟩ : ∃ R, R = thirdL c i kd n5 := ⟨_, rfl⟩
 rw [← hR]
 have HM := Lib.hid hM
 have HMM := Lib.hid hm
 have HPI := Lib.hid hpi
 have HSV := Lib.hid hsv
 have HR := Lib.hid hR
 have HPAR := Lib.hid hpar
 have hiL := Lib.hid hi
 have hi1 : (i : Int) ≤ 1000 := by omega
 have hgl := hM.lt
 have howr : ∀ k, vr.ownBlock = some k → k < w.heap.size := fun k e => Kd.R_lt hM.2.2.2 k e
 have HOW := Lib.hid howr
 clear hM hm hw hsn e l5 g5 l6 g6 hx hxm hn5e hn6 hn hk hf0 hf2 hf3 hf4 hpi hsv hR hpar hi hml howr
 by_cases h0 : (i : Int) = 0
 ·have HN : Hid (R = []) := Lib.hid (by rw [HR.out, thirdL, if_pos h0])
  have h0b : ((i : Int) == 0) = true := beq_iff_eq.mpr h0
  have H0 := Lib.hid h0
  clear h0
  go_enter Try.func30, Try.ntmps30
  go_wp2
  refine bodyPost_ret (results_none rfl _ _ _) rfl ?_
  rw [HN.out, List.append_nil]
  exact ⟨rfl, vr, HM.out.below (q57 (Below.refl _ _) _), Go_.below Go_.refl (q57 (Below.refl _ _) _)⟩
 have h0b : ((i : Int) == 0) = false := beq_eq_false_iff_ne.mpr h0
 have hpr := HPAR.out (by omega)
 have HE : Hid (R = thirdP c i kd n5 ++ [⟨3, [⟨flagF pi 2, false⟩] ++ waitsL i, [], [⟨passF c.la i 2, true⟩]⟩]) := Lib.hid (by rw [HR.out, thirdL, if_neg h0, ← HPI.out])
 obtain ⟨wB, hwB⟩ : ∃ wB, wB = w.alloc (.cells #[.string f0, .int .i64 kd, .string f2, .bool f3, .int .i64 f4, .slice A5 n5 c5, .slice A6 n6 c6] 41) := ⟨_, rfl⟩
 have hbB : Below w.heap.size w wB := by rw [hwB]; exact q57 (Below.refl _ _) _
 have hgB : wB.heap[w.heap.size]? = some (.cells #[.string f0, .int .i64 kd, .string f2, .bool f3, .int .i64 f4, .slice A5 n5 c5, .slice A6 n6 c6] 41 (0, 0)) := by rw [hwB]; exact heap_alloc_new _ _
 obtain ⟨b, hb_⟩ : ∃ b, b = w.heap.size := ⟨_, rfl⟩
 rw [← hb_] at hgB
 have hc5 : wB.cell? ⟨b, 5, none⟩ = some (.slice A5 n5 c5) := (q63 hgB 5).trans rfl
 have hblt : b < wB.heap.size := blk_lt hgB
 have hbg : b ≠ g := by omega
 have HOB : Hid (vr.ownBlock ≠ some b) := Lib.hid (fun e => by have := HOW.out _ e; omega)
 have HBB := Lib.hid hbB
 have HWB := Lib.hid hwB
 have HBN := Lib.hid hb_
 have HC5 := Lib.hid hc5
 clear hbB hwB hb_ hgB hc5
 go_enter Try.func30, Try.ntmps30
 go_upto_if 19 with (fail)
 rw [← HWB.out, ← HBN.out]
 have HM := Lib.hid (HM.out.below HBB.out)
 have HGA := Lib.hid (Go_.refl : Go_ g vr vr wB wB)
 have HB := Lib.hid (Below.refl wB.heap.size wB)
 clear x0 x1 x2 x3 x4 x5 x6 hcz1 HWB HR
 go_cut [] (fun wc => ∃ vq, Hid (Mr c w0 wc g vq (rs ++ thirdP c i kd n5) ∧ Go_ g vr vq wB wc))
 case first =>
  by_cases hk3 : kd ≤ 3
  case neg =>
   have HN : Hid (thirdP c i kd n5 = []) := Lib.hid (by rw [thirdP, if_neg hk3])
   go_wp2
   go_meet
   case rel => exact ⟨vr, Lib.hid ⟨by rw [HN.out, List.append_nil]; exact HM.out, HGA.out⟩⟩
  have HP : Hid (thirdP c i kd n5 = thirdE c i n5 ++ (List.range n5).map (thirdF c i)) := Lib.hid (by rw [thirdP, if_pos hk3])
  have hp := flag_call i 1 wB (by omega) (by omega)
  go_wp2_with fail
  refine hp.mono ?_
  rintro e v1_ ⟨rfl, hb⟩
  clear hp
  have HB := Lib.hid (q60 HB.out HB.out.size hb)
  clear hb
  have hp := up_call (flagF i 1) v1_
  go_wp2_with fail
  refine hp.mono ?_
  rintro e v2_ ⟨rfl, hb⟩
  clear hp
  have HB := Lib.hid (q60 HB.out HB.out.size hb)
  clear hb
  have hp := pass_any c v2_ g i 0 (HM.out.below HB.out).mg hla (by omega) (by omega)
  go_wp2_with fail
  refine hp.mono ?_
  rintro e v3_ ⟨rfl, rfl⟩
  clear hp
  have hp := down_call (passF c.la i 0) v3_
  go_wp2_with fail
  refine hp.mono ?_
  rintro e v4_ ⟨rfl, hb⟩
  clear hp
  have HB := Lib.hid (q60 HB.out HB.out.size hb)
  clear hb
  have hlit := lits_row v4_ [⟨flagF i 1, false⟩, ⟨passF c.la i 0, true⟩] (by simp)
  have hbx := q57 HB.out (.cells (litCells [⟨flagF i 1, false⟩, ⟨passF c.la i 0, true⟩]).toArray 93)
  have hc5 : (v4_.alloc (.cells #[.int .i64 (flagF i 1), .bool false, .int .i64 (passF c.la i 0), .bool true] 93)).cell? ⟨b, 5, none⟩ = some (.slice A5 n5 c5) := q73 hbx HC5.out
  obtain ⟨wL, hwL⟩ : ∃ wL, wL = v4_.alloc (.cells #[.int .i64 (flagF i 1), .bool false, .int .i64 (passF c.la i 0), .bool true] 93) := ⟨_, rfl⟩
  have HL : Hid (Kd.R k93 93 wL (g + 1) (fun k => some k ≠ vr.ownBlock) (.slice (some ⟨v4_.heap.size, 0, none⟩) 2 2) [⟨flagF i 1, false⟩, ⟨passF c.la i 0, true⟩]) := Lib.hid (by rw [hwL]; exact HM.out.apart hbx hlit HB.out.size)
  have HGA : Hid (Go_ g vr vr wB wL) := Lib.hid (by rw [hwL]; exact Go_.below HGA.out hbx)
  have HM : Hid (Mr c w0 wL g vr rs) := Lib.hid (by rw [hwL]; exact HM.out.below hbx)
  have HWL := Lib.hid hwL
  clear hlit hbx hwL HB
  obtain ⟨bl, hbl⟩ : ∃ bl, bl = v4_.heap.size := ⟨_, rfl⟩
  rw [← hbl] at HL
  have HBL := Lib.hid hbl
  clear hbl
  go_upto_if 31 with (fail)
  rw [← show wL = _ from HWL.out, ← HBL.out]
  clear hc5
  go_cut [] (fun wc => ∃ vq, Hid (Mr c w0 wc g vq (rs ++ thirdE c i n5) ∧ Go_ g vr vq wB wc ∧ Kd.R k93 93 wc (g + 1) (fun k => some k ≠ vq.ownBlock) (.slice (some ⟨bl, 0, none⟩) 2 2) [⟨flagF i 1, false⟩, ⟨passF c.la i 0, true⟩]))
  case first =>
   by_cases hn0 : n5 = 0
   case neg =>
    have hn0b : ((n5 : Int) == 0) = false := by simp; omega
    have hn0c : ¬ (n5 : Int) = 0 := by omega
    have HN : Hid (thirdE c i n5 = []) := Lib.hid (by rw [thirdE, if_neg hn0])
    go_wp2
    go_meet
    case rel => exact ⟨vr, Lib.hid ⟨by rw [HN.out, List.append_nil]; exact HM.out, HGA.out, HL.out⟩⟩
   have HN : Hid (thirdE c i n5 = [⟨3, [⟨flagF i 1, false⟩, ⟨passF c.la i 0, true⟩], [], [⟨passF c.la i 1, true⟩]⟩]) := Lib.hid (by rw [thirdE, if_pos hn0])
   have hn0c : (n5 : Int) = 0 := by omega
   have HB := Lib.hid (Below.refl wL.heap.size wL)
   have hp := pass_any c wL g i 1 (HM.out.below HB.out).mg hla (by omega) (by omega)
   go_wp2_with fail
   refine hp.mono ?_
   rintro e v5_ ⟨rfl, rfl⟩
   clear hp
   go_wp2_with fail
   refine (puts1_call (passF c.la i 1) v5_).mono ?_
   rintro e v6_ ⟨A2, c2, rfl, hR2, hb⟩
   have HR2 := Lib.hid hR2
   have HS2 := Lib.hid (Nat.le_succ_of_le HB.out.size)
   clear hR2
   have HB := Lib.hid (q60 HB.out HB.out.size hb)
   clear hb
   have hru := HM.out.rule3 3 HB.out HR2.out HS2.out (Kd.R_below HL.out HB.out) rfl rfl (by omega)
   go_wp2_with fail
   refine hru.mono ?_
   rintro e wN ⟨rfl, vn, h1, h2⟩
   have HM := Lib.hid h1
   have HG := Lib.hid h2
   clear hru h1 h2
   go_wp2
   go_meet
   case rel => exact ⟨vn, Lib.hid ⟨by rw [HN.out]; exact HM.out, HGA.out.then_ HG.out, HG.out.row HL.out⟩⟩
  case rest =>
  obtain ⟨vd, X⟩ := hcut
  obtain ⟨wD, rfl⟩ : ∃ wD, wD = wc := ⟨_, rfl⟩
  have hc5 := X.out.2.1.cell HC5.out hblt hbg HOB.out
  clear HM HL HGA
  go_wp2
  clear hc5
  go_loopg [43] n5 (fun gg s43 wr => ∃ (q : Nat) (vq : Value), s43 = .int .i64 q ∧ q ≤ n5 ∧ n5 - q ≤ gg ∧ Hid (Mr c w0 wr g vq (rs ++ thirdE c i n5 ++ (List.range q).map (thirdF c i)) ∧ Go_ g vr vq wB wr ∧ Kd.R k93 93 wr (g + 1) (fun k => some k ≠ vq.ownBlock) (.slice (some ⟨bl, 0, none⟩) 2 2) [⟨flagF i 1, false⟩, ⟨passF c.la i 0, true⟩]))
  case atStart => exact ⟨0, vd, rfl, Nat.zero_le _, by omega, Lib.hid ⟨by simpa using X.out.1, X.out.2.1, X.out.2.2⟩⟩
  case round =>
  obtain ⟨q, vq, rfl, hqn, hqg, Y⟩ := hrel
  obtain ⟨wO, rfl⟩ : ∃ wO, wO = wr := ⟨_, rfl⟩
  by_cases hlq : q < n5
  case neg =>
   obtain rfl : q = n5 := by omega
   have hlz : ¬ (q : Int) < (q : Int) := by omega
   go_wp2
   go_meet
   case rel => exact ⟨vq, Lib.hid ⟨by rw [HP.out, ← List.append_assoc]; exact Y.out.1, Y.out.2.1⟩⟩
  have hlz : (q : Int) < (n5 : Int) := by omega
  have HM := Lib.hid Y.out.1
  have HGA := Lib.hid Y.out.2.1
  have HL := Lib.hid Y.out.2.2
  have HB := Lib.hid (Below.refl wO.heap.size wO)
  have hel : (thirdE c i n5).length ≤ 1 := by unfold thirdE; split <;> simp
  have hlim2 : (rs ++ thirdE c i n5 ++ (List.range q).map (thirdF c i)).length ≤ 100000 := by rw [List.length_append, List.length_append, List.length_map, List.length_range]; omega
  have hwr : wrap64 (sv + (q : Int)) = sv + (q : Int) := by unfold wrap64; omega
  have HTS : Hid (thirdF c i q = ⟨3, [⟨sv + q, false⟩] ++ [⟨flagF i 1, false⟩, ⟨passF c.la i 0, true⟩], [], [⟨passF c.la i 1, true⟩]⟩) := Lib.hid (by rw [thirdF, sentI, ← HSV.out])
  clear Y hel
  have hp := pass_any c wO g i 1 (HM.out.below HB.out).mg hla (by omega) (by omega)
  go_wp2_with fail
  refine hp.mono ?_
  rintro e v7_ ⟨rfl, rfl⟩
  clear hp
  go_wp2_with fail
  refine (puts1_call (passF c.la i 1) v7_).mono ?_
  rintro e v8_ ⟨A2, c2, rfl, hR2, hb⟩
  have HR2 := Lib.hid hR2
  have HS2 := Lib.hid (Nat.le_succ_of_le HB.out.size)
  clear hR2
  have HB := Lib.hid (q60 HB.out HB.out.size hb)
  clear hb
  have hp := sent_any c w0 v8_ g i (HM.out.below HB.out).mg HMM.out (HM.out.below HB.out).1 (Nat.le_of_lt hiL.out)
  go_wp2_with fail
  refine hp.mono ?_
  rintro e v9_ ⟨rfl, hb⟩
  clear hp
  have HB := Lib.hid (q60 HB.out HB.out.size hb)
  have HR2 := Lib.hid (Kd.R_below HR2.out hb)
  clear hb
  rw [← HSV.out]
  have hp := up_call (sv + q) v9_
  go_wp2_with fail
  refine hp.mono ?_
  rintro e v10_ ⟨rfl, hb⟩
  clear hp
  have HB := Lib.hid (q60 HB.out HB.out.size hb)
  have HR2 := Lib.hid (Kd.R_below HR2.out hb)
  clear hb
  have hlx := lits_row v10_ [⟨sv + q, false⟩] (by simp)
  have hbx := q57 (Below.refl v10_.heap.size v10_) (.cells (litCells [⟨sv + q, false⟩]).toArray 93)
  have hcy := Kd.C_below (Kd.R_reads' (Kd.R_below HL.out HB.out)).2.2 hbx
  have HS3 := Lib.hid HB.out.size
  go_wp2_with (first | ((with_reducible refine q69 (b := .append) (xs := #[.tmp 58, .tmp 59]) rfl ?_); at_builtin; refine Kd.R_append_rows k93 (w0 := v10_) v10_.heap.size rfl (.tmp 58) (.tmp 59) 69 93 (.agg #[.int .i64 0, .bool false]) 16 rfl Try.underlying69 iLit_ rfl (by decide) (by omega) _ [⟨sv + q, false⟩] [⟨flagF i 1, false⟩, ⟨passF c.la i 0, true⟩] _ _ _ (fun _ => True) (fun _ => False) rfl rfl hlx hcy lit_KM (fun _ h => h.elim) (fun _ _ => trivial) hbx hbx.size (by simp only [List.length_cons, List.length_nil]; omega) ?_; intro v2 v11_ hR3 hb hg1 hg2; clear hg1 hg2; obtain ⟨A3, c3, rfl⟩ := Kd.R_slice hR3; obtain ⟨n3, hn3⟩ : ∃ n3, n3 = (([⟨sv + q, false⟩] ++ [⟨flagF i 1, false⟩, ⟨passF c.la i 0, true⟩] : List (S93))).length := ⟨_, rfl⟩; rw [← hn3] at hR3 ⊢; have HR3 := Lib.hid hR3; have HN3 := Lib.hid hn3; clear hR3 hn3 hlx hbx hcy))
  have HB := Lib.hid (q60 HB.out HB.out.size hb)
  have HR2 := Lib.hid (Kd.R_below HR2.out hb)
  clear hb
  have hru := HM.out.rule 3 HB.out HR2.out HS2.out HR3.out HS3.out rfl HN3.out hlim2
  go_wp2_with fail
  refine hru.mono ?_
  rintro e v12_ ⟨rfl, vr', h1, h2⟩
  have HM := Lib.hid h1
  have HG := Lib.hid h2
  have HB := Lib.hid (Below.refl v12_.heap.size v12_)
  clear hru h1 h2 HR2 HS2 HR3 HS3 HN3
  have HL := Lib.hid (HG.out.row HL.out)
  go_wp2
  go_roundg (n5 - (q + 1))
  case measure => omega
  case rel => exact ⟨q + 1, vr', by go_num, by omega, Nat.le_refl _, Lib.hid ⟨by rw [List.range_succ, List.map_append, ← List.append_assoc, List.map_singleton, HTS.out]; exact HM.out, HGA.out.then_ HG.out, HL.out⟩⟩
 case rest =>
 obtain ⟨vd, X⟩ := hcut
 obtain ⟨wD, rfl⟩ : ∃ wD, wD = wc := ⟨_, rfl⟩
 have HM := Lib.hid X.out.1
 have HGA := Lib.hid X.out.2
 have HB := Lib.hid (Below.refl wD.heap.size wD)
 have hpl : (thirdP c i kd n5).length ≤ 7 := by
  unfold thirdP thirdE
  split
  ·rw [List.length_append, List.length_map, List.length_range]; split <;> simp <;> omega
  ·simp
 have hlim2 : (rs ++ thirdP c i kd n5).length ≤ 100000 := by rw [List.length_append]; omega
 clear X hpl
 have hp := pass_any c wD g i 2 (HM.out.below HB.out).mg hla (by omega) (by omega)
 go_wp2_with fail
 refine hp.mono ?_
 rintro e v13_ ⟨rfl, rfl⟩
 clear hp
 go_wp2_with fail
 refine (puts1_call (passF c.la i 2) v13_).mono ?_
 rintro e v14_ ⟨A2, c2, rfl, hR2, hb⟩
 have HR2 := Lib.hid hR2
 have HS2 := Lib.hid (Nat.le_succ_of_le HB.out.size)
 clear hR2
 have HB := Lib.hid (q60 HB.out HB.out.size hb)
 clear hb
 have hp := parent_any c w0 v14_ g i (HM.out.below HB.out).mg HMM.out (HM.out.below HB.out).1 hiL.out
 go_wp2_with fail
 refine hp.mono ?_
 rintro e v15_ ⟨rfl, hb⟩
 clear hp
 have HB := Lib.hid (q60 HB.out HB.out.size hb)
 have HR2 := Lib.hid (Kd.R_below HR2.out hb)
 clear hb
 rw [← HPI.out]
 have hp := flag_call pi 2 v15_ (by omega) (by omega)
 go_wp2_with fail
 refine hp.mono ?_
 rintro e v16_ ⟨rfl, hb⟩
 clear hp
 have HB := Lib.hid (q60 HB.out HB.out.size hb)
 have HR2 := Lib.hid (Kd.R_below HR2.out hb)
 clear hb
 have hp := up_call (flagF pi 2) v16_
 go_wp2_with fail
 refine hp.mono ?_
 rintro e v17_ ⟨rfl, hb⟩
 clear hp
 have HB := Lib.hid (q60 HB.out HB.out.size hb)
 have HR2 := Lib.hid (Kd.R_below HR2.out hb)
 clear hb
 have hlit := lits_row v17_ [⟨flagF pi 2, false⟩] (by simp)
 have hbx := q57 (Below.refl v17_.heap.size v17_) (.cells (litCells [⟨flagF pi 2, false⟩]).toArray 93)
 obtain ⟨wA, hwA⟩ : ∃ wA, wA = v17_.alloc (.cells (litCells [⟨flagF pi 2, false⟩]).toArray 93) := ⟨_, rfl⟩
 rw [← hwA] at hlit hbx
 have HL := Lib.hid hlit
 have HBX := Lib.hid hbx
 have HWA := Lib.hid hwA
 clear hlit hbx hwA
 have hp := waits_call i wA (by omega)
 rw [HWA.out] at hp
 go_wp2_with fail
 refine hp.mono ?_
 rintro e w3 ⟨A3, n3, c3, rfl, hn3, hR3, hb⟩
 rw [← show wA = _ from HWA.out] at hR3 hb
 have hcy := (Kd.R_reads' hR3).2.2
 have HCY := Lib.hid hcy
 have hxr := Kd.R_below HL.out hb
 have hbx := q60 HBX.out HBX.out.size hb
 have HXR := Lib.hid hxr
 have HBX := Lib.hid hbx
 subst hn3
 clear hp hR3 hb hcy hxr hbx HL HWA
 go_wp2_with (first | ((with_reducible refine q69 (b := .append) (xs := #[.tmp 74, .tmp 76]) rfl ?_); at_builtin; refine Kd.R_append_rows k93 (w0 := v17_) v17_.heap.size rfl (.tmp 74) (.tmp 76) 69 93 (.agg #[.int .i64 0, .bool false]) 16 rfl Try.underlying69 iLit_ rfl (by decide) (by omega) _ [⟨flagF pi 2, false⟩] (waitsL i) _ _ _ (fun _ => True) (fun _ => False) rfl rfl HXR.out HCY.out lit_KM (fun _ h => h.elim) (fun _ _ => trivial) HBX.out HBX.out.size (by simp only [waitsL, List.length_cons, List.length_nil]; omega) ?_; intro v2 wF hR3 hb hg1 hg2; clear hg1 hg2; obtain ⟨A4, c4, rfl⟩ := Kd.R_slice hR3; obtain ⟨n3, hn3⟩ : ∃ n3, n3 = (([⟨flagF pi 2, false⟩] ++ waitsL i : List (S93))).length := ⟨_, rfl⟩; rw [← hn3] at hR3 ⊢; have HR3 := Lib.hid hR3; have HN3 := Lib.hid hn3; have HS3 := Lib.hid HB.out.size; have HR2 := Lib.hid (Kd.R_below HR2.out hb); have HB := Lib.hid (q60 HB.out HB.out.size hb); clear hR3 hn3 hb))
 have hru := HM.out.rule 3 HB.out HR2.out HS2.out HR3.out HS3.out rfl HN3.out hlim2
 go_wp2_with fail
 refine hru.mono ?_
 rintro e v18_ ⟨rfl, vr', h1, h2⟩
 have HM := Lib.hid h1
 have HG := Lib.hid h2
 have HB := Lib.hid (Below.refl v18_.heap.size v18_)
 clear hru h1 h2 HR2 HS2 HR3 HS3 HN3
 go_wp2
 refine bodyPost_end (results_none rfl _ _ _) rfl ?_
 refine ⟨rfl, _, ?_, (Go_.below Go_.refl HBB.out).then_ (HGA.out.then_ HG.out)⟩
 rw [HE.out, ← List.append_assoc]
 exact HM.out
theorem pass_below (c : Mc) (w : World) (g : Nat) (i f : Int) (hG : Mg c w g) (hla : 0 ≤ c.la ∧ c.la ≤ 100000) (hi : 0 ≤ i ∧ i ≤ 1000) (hf : 0 ≤ f ∧ f ≤ 10) :
 Calls Try.prog 70 #[.pointer (some ⟨g, 0, none⟩), .int .i64 i, .int .i64 f] w fun e w' => e = .returned (.int .i64 (passF c.la i f)) ∧ Below w.heap.size w w' :=
 (pass_any c w g i f hG hla hi hf).mono fun e w' h => ⟨h.1, h.2 ▸ Below.refl _ _⟩
theorem puts1_any (n : Int) (A : Option Addr) (w : World) (h : Kd.C (Kd.int .i64) w A 1 [n]) : Calls Try.prog 66 #[.slice A 1 1] w fun e w' => ∃ A2 c, e = .returned (.slice A2 1 c) ∧ Kd.R k111 111 w' w.heap.size (fun _ => True) (.slice A2 1 c) [⟨n, true⟩] ∧ Below w.heap.size w w' := by
 refine (q43.calls 2 A 1 [n] [⟨n, true⟩] w h (Nat.le_refl _) (by simp [q43.f, q43.l0, rd, wrap64])).mono ?_
 rintro e w' ⟨v, rfl, hR, hb⟩
 obtain ⟨A2, c, rfl⟩ := Kd.R_slice hR
 exact ⟨A2, c, rfl, hR, hb⟩
def secondF (c : Mc) (i ne q : Nat) (s : Int) : S72 := ⟨2, [⟨sentI c i + ne + q, false⟩, ⟨flagF i s, false⟩], [], [⟨passF c.la i 0, true⟩]⟩
def secondP (c : Mc) (i ne : Nat) : Nat → List (S72)
 | 0 => []
 | q + 1 => secondP c i ne q ++ [secondF c i ne q 1, secondF c i ne q 2]
theorem secondP_len (c : Mc) (i ne q : Nat) : (secondP c i ne q).length = 2 * q := by
 induction q with
 | zero => rfl
 | succ q ih => simp only [secondP, List.length_append, ih, List.length_cons, List.length_nil]; omega
set_option maxHeartbeats 16000000 in
set_option maxRecDepth 100000 in
theorem second_any (c : Mc) (w0 w : World) (g : Nat) (vr : Value) (rs : List (S72)) (i : Nat) (hM : Mr c w0 w g vr rs) (hm : Mm c w0) (hi : i < c.l.length) (hlim : rs.length ≤ 90000) :
 Calls Try.prog 29 #[.pointer (some ⟨g, 0, none⟩), .int .i64 i] w (RulePost c w0 w g vr (rs ++ secondP c i (q81 c.l (i : Int)).f5.length (q81 c.l (i : Int)).f6.length)) := by
 have hu25 := Try.underlying25
 have hu58 := Try.underlying58
 have hu41 := Try.underlying41
 have hml := hm.2.2.2.2.1
 have hla := hm.2.2.2.2.2.1
 have hw := hm.2.2.2.2.2.2
 have hsn := sentsN_le hw hml i (by omega)
 have hcz1 : w.cell? ⟨g, 1, none⟩ = some (.slice c.A1 c.l.length c.c1) := (q63 hM.2.2.1 1).trans rfl
 obtain ⟨ad, A5, c5, A6, c6, e, x0, x1, x2, x3, x4, x5, x6, l5, g5, l6, g6⟩ := at_T41 (hm.at hM.1).2 (i : Int) (by omega) (by omega)
 simp only [Int.toNat_natCast] at x0 x1 x2 x3 x4 x5 x6
 obtain ⟨x, hx⟩ : ∃ x, x = q81 c.l (i : Int) := ⟨_, rfl⟩
 have hxm : x ∈ c.l := by rw [hx]; simp [q81, List.getD_eq_getElem?_getD, List.getElem?_eq_getElem hi]
 rw [← hx] at x0 x1 x2 x3 x4 x5 x6 ⊢
 have hn56 : x.f5.length + x.f6.length ≤ 6 := by have := (hw x hxm).1; rwa [List.length_append] at this
 rw [e] at hcz1
 obtain ⟨n5, hn5e⟩ : ∃ n5, n5 = x.f5.length := ⟨_, rfl⟩
 obtain ⟨n6, hn6⟩ : ∃ n6, n6 = x.f6.length := ⟨_, rfl⟩
 rw [← hn5e] at hn56 x5 ⊢
 rw [← hn6] at hn56 x6 ⊢
 obtain ⟨n, hn⟩ : ∃ n, n = c.l.length := ⟨_, rfl⟩
 rw [← hn] at hcz1
 have hlt : (i : Int) < (n : Int) := by omega
 obtain ⟨kd, hk⟩ : ∃ kd, kd = x.f1 := ⟨_, rfl⟩
 rw [← hk] at x1
 obtain ⟨f0, hf0⟩ : ∃ f0, f0 = x.f0 := ⟨_, rfl⟩
 rw [← hf0] at x0
 obtain ⟨f2, hf2⟩ : ∃ f2, f2 = x.f2 := ⟨_, rfl⟩
 rw [← hf2] at x2
 obtain ⟨f3, hf3⟩ : ∃ f3, f3 = x.f3 := ⟨_, rfl⟩
 rw [← hf3] at x3
 obtain ⟨f4, hf4⟩ : ∃ f4, f4 = x.f4 := ⟨_, rfl⟩
 rw [← hf4] at x4
 obtain ⟨sv, hsv⟩ : ∃ sv, sv = c.la + 6 * (c.l.length : Int) + (sentsN c.l i : Nat) := ⟨_, rfl⟩
 have hsvb : 0 ≤ sv ∧ sv ≤ 200000 := by rw [hsv]; omega
 have HM := Lib.hid hM
 have HMM := Lib.hid hm
 have HSV := Lib.hid hsv
 have hiL := Lib.hid hi
 have hi1 : (i : Int) ≤ 1000 := by omega
 have hgl := hM.lt
 have howr : ∀ k, vr.ownBlock = some k → k < w.heap.size := fun k e => Kd.R_lt hM.2.2.2 k e
 have HOW := Lib.hid howr
 clear hM hm hw hsn e l5 g5 l6 g6 hx hxm hn5e hn6 hn hk hf0 hf2 hf3 hf4 hsv hi hml howr
 obtain ⟨wB, hwB⟩ : ∃ wB, wB = w.alloc (.cells #[.string f0, .int .i64 kd, .string f2, .bool f3, .int .i64 f4, .slice A5 n5 c5, .slice A6 n6 c6] 41) := ⟨_, rfl⟩
 have hbB : Below w.heap.size w wB := by rw [hwB]; exact q57 (Below.refl _ _) _
 have hgB : wB.heap[w.heap.size]? = some (.cells #[.string f0, .int .i64 kd, .string f2, .bool f3, .int .i64 f4, .slice A5 n5 c5, .slice A6 n6 c6] 41 (0, 0)) := by rw [hwB]; exact heap_alloc_new _ _
 obtain ⟨b, hb_⟩ : ∃ b, b = w.heap.size := ⟨_, rfl⟩
 rw [← hb_] at hgB
 have hc5 : wB.cell? ⟨b, 5, none⟩ = some (.slice A5 n5 c5) := (q63 hgB 5).trans rfl
 have hblt : b < wB.heap.size := blk_lt hgB
 have hbg : b ≠ g := by omega
 have HOB : Hid (vr.ownBlock ≠ some b) := Lib.hid (fun e => by have := HOW.out _ e; omega)
 have HBB := Lib.hid hbB
 have HWB := Lib.hid hwB
 have HBN := Lib.hid hb_
 have HC5 := Lib.hid hc5
 clear hbB hwB hb_ hgB hc5
 go_enter Try.func29, Try.ntmps29
 go_upto_block 0 with (fail)
 rw [← HWB.out, ← HBN.out]
 have HM := Lib.hid (HM.out.below HBB.out)
 clear x0 x1 x2 x3 x4 x5 x6 hcz1 HWB
 go_wp2_with fail
 go_loopg [18] n6 (fun gg s18 wr => ∃ (q : Nat) (vq : Value), s18 = .int .i64 q ∧ q ≤ n6 ∧ n6 - q ≤ gg ∧ Hid (Mr c w0 wr g vq (rs ++ secondP c i n5 q) ∧ Go_ g vr vq wB wr))
 case atStart => exact ⟨0, vr, rfl, Nat.zero_le _, by omega, Lib.hid ⟨by simpa [secondP] using HM.out, Go_.refl⟩⟩
 case round =>
 obtain ⟨q, vq, rfl, hqn, hqg, Y⟩ := hrel
 obtain ⟨wO, rfl⟩ : ∃ wO, wO = wr := ⟨_, rfl⟩
 by_cases hlq : q < n6
 case neg =>
  obtain rfl : q = n6 := by omega
  have hlz : ¬ (q : Int) < (q : Int) := by omega
  go_wp2
  refine bodyPost_end (results_none rfl _ _ _) rfl ?_
  exact ⟨rfl, vq, Y.out.1, (Go_.below Go_.refl HBB.out).then_ Y.out.2⟩
 have hlz : (q : Int) < (n6 : Int) := by omega
 have HM := Lib.hid Y.out.1
 have HGA := Lib.hid Y.out.2
 have hc5 := HGA.out.cell HC5.out hblt hbg HOB.out
 have hsl := secondP_len c i n5 q
 have hlimA : (rs ++ secondP c i n5 q).length ≤ 99998 := by rw [List.length_append, hsl]; omega
 have hlimB : (rs ++ secondP c i n5 q ++ [secondF c i n5 q 1]).length ≤ 100000 := by simp only [List.length_append, List.length_cons, List.length_nil] at hlimA ⊢; omega
 have HLA := Lib.hid (Nat.le_trans hlimA (by decide : 99998 ≤ 100000))
 have HLB := Lib.hid hlimB
 have HF1 : Hid (secondF c i n5 q 1 = ⟨2, [⟨sv + n5 + q, false⟩, ⟨flagF i 1, false⟩], [], [⟨passF c.la i 0, true⟩]⟩) := Lib.hid (by rw [secondF, sentI, ← HSV.out])
 have HF2 : Hid (secondF c i n5 q 2 = ⟨2, [⟨sv + n5 + q, false⟩, ⟨flagF i 2, false⟩], [], [⟨passF c.la i 0, true⟩]⟩) := Lib.hid (by rw [secondF, sentI, ← HSV.out])
 have hwr1 : wrap64 (sv + (n5 : Int)) = sv + (n5 : Int) := by unfold wrap64; omega
 have hwr2 : wrap64 (sv + (n5 : Int) + (q : Int)) = sv + (n5 : Int) + (q : Int) := by unfold wrap64; omega
 have HSE : Hid (∀ W, Below wO.heap.size wO W → Calls Try.prog 26 #[.pointer (some ⟨g, 0, none⟩), .int .i64 i] W fun e w' => e = .returned (.int .i64 sv) ∧ Below W.heap.size W w') := Lib.hid (fun W hb => by
  rw [HSV.out]
  exact sent_any c w0 W g i (HM.out.below hb).mg HMM.out (HM.out.below hb).1 (Nat.le_of_lt hiL.out))
 have hogl := HM.out.lt
 have HOQ : Hid (∀ k, vq.ownBlock = some k → k < wO.heap.size) := Lib.hid (fun k e => Kd.R_lt HM.out.2.2.2 k e)
 clear Y hsl hlimA hlimB
 go_wp2_with fail
 have hS : (((wO.drew).cell? ⟨b, 5, none⟩ = some (.slice A5 n5 c5))) ∧ Below wO.heap.size wO wO.drew := ⟨hc5, q58 (Below.refl _ _)⟩
 refine sD_ [11] (fun w' => ((w'.cell? ⟨b, 5, none⟩ = some (.slice A5 n5 c5))) ∧ Below wO.heap.size wO w') 12 hS (fun hHeld => ?_)
 clear hS
 obtain ⟨wD, hwD⟩ : ∃ wD, wD = wO.drew := ⟨_, rfl⟩
 rw [← hwD] at hHeld ⊢
 clear hwD
 refine pu_ 0 (some 21) ?_
 refine pu_ 1 (some 22) ?_
 refine pu_ 3 (some 24) ?_
 refine pu_ 7 (some 28) ?_
 refine tc_ 4 (some 25) hHeld ?_
 refine pu_ 5 (some 26) ?_
 refine join_ (σ := Nat) 0 (bits 12 4095) (fun (bx) => [(23, .int .i64 sv), (27, .int .i64 (sv + (n5 : Int))), (29, .int .i64 (sv + (n5 : Int) + (q : Int))), (30, .agg #[.int .i64 (sv + (n5 : Int) + (q : Int)), .bool false]), (6, .pointer (some ⟨bx, 0, none⟩))]) (fun (bx) w' => w'.heap[bx]? = some (.cells #[.int .i64 (sv + (n5 : Int) + (q : Int)), .bool false] 93 (0, 0)) ∧ wO.heap.size ≤ bx ∧ Below wO.heap.size wO w') ?_ ?_
 rotate_left
 ·intro hCont
  have HCT := Lib.hid hCont
  clear hCont
  refine tW_ 2 10 (some 23) (some 6) (fun K hK => ?_) (fun K hK => ?_)
  ·skip
   refine go_s_ Try.func26 #[.pointer (some ⟨g, 0, none⟩), .int .i64 i] ?_
   refine (HSE.out wD hHeld.2).mono ?_
   rintro e d34_ ⟨rfl, hb⟩
   refine ⟨_, rfl, ?_⟩
   refine hK.out _ _ (kp1 hHeld hb) (fun hHeld => ?_)
   clear hK K
   refine nz_ (some 23) ?_
   clear hb
   refine pu_ 6 (some 27) ?_
   refine pu_ 8 (some 29) ?_
   rw [hwr1, hwr2]
   refine tW_ 9 10 (some 30) (some 6) (fun K hK => ?_) (fun K hK => ?_)
   ·skip
    refine go_s_ Try.func67 #[.int .i64 (sv + (n5 : Int) + (q : Int))] ?_
    refine (up_call (sv + (n5 : Int) + (q : Int)) d34_).mono ?_
    rintro e d35_ ⟨rfl, hb⟩
    refine ⟨_, rfl, ?_⟩
    refine hK.out _ _ (kp1 hHeld hb) (fun hHeld => ?_)
    clear hK K
    refine nz_ (some 30) ?_
    clear hb
    have HLE := Lib.hid hHeld.2.size
    have HHB := Lib.hid hHeld.2
    refine oN_ 10 (some 6) (fun K hK => ?_)
    go_simp
    have hb : Below d35_.heap.size d35_ (d35_.alloc (.cells #[.int .i64 0, .bool false] 93)) := q57 (Below.refl _ _) _
    refine hK.out _ _ (kp1 hHeld hb) (fun _ => ?_)
    clear hK K hb
    refine lA_ 11 none (fun K hK => ?_)
    go_simp
    refine hK.out _ _ ?_
    refine norm_ ?_ (HCT.out (d35_.heap.size) _ ⟨heap_alloc_new _ _, HLE.out, q72 (q57 (Below.refl _ _) _) HHB.out⟩)
    simp only [putAll, Act.put, List.setIfInBounds_toArray, List.set_cons_zero, List.set_cons_succ]
   skip
   go_simp
   have hb : Below d34_.heap.size d34_ (d34_.alloc (.cells #[.int .i64 0, .bool false] 93)) := q57 (Below.refl _ _) _
   have hNB : (d34_.alloc (.cells #[.int .i64 0, .bool false] 93)).heap[d34_.heap.size]? = some (.cells #[.int .i64 0, .bool false] 93 (0, 0)) := heap_alloc_new _ _
   have HLE := Lib.hid hHeld.2.size
   refine hK.out _ _ (kp1 hHeld hb) (fun hHeld => ?_)
   clear hK K
   obtain ⟨d36_, hwn⟩ : ∃ wn, wn = d34_.alloc (.cells #[.int .i64 0, .bool false] 93) := ⟨_, rfl⟩
   rw [← hwn] at hb hNB hHeld ⊢
   have HNB := Lib.hid hNB
   clear hNB hwn
   clear hb
   refine ca_ 9 (some 30) Try.func67 #[.int .i64 (sv + (n5 : Int) + (q : Int))] ?_
   refine (up_call (sv + (n5 : Int) + (q : Int)) d36_).mono ?_
   rintro e d37_ ⟨rfl, hb⟩
   refine ⟨_, rfl, (kp1 hHeld hb), fun hHeld => ⟨_, rfl, nz_ (some 30) ?_⟩⟩
   have HNB := Lib.hid (q62 HNB.out hb)
   clear hb
   have HHB := Lib.hid hHeld.2
   clear hHeld
   have hz0 := (q63 HNB.out 0).trans rfl
   have hq0 := q67 HNB.out 0
   have hz1 := (q63 HNB.out 1).trans rfl
   have hq1 := q67 HNB.out 1
   refine lA_ 11 none (fun K hK => ?_)
   go_simp
   refine hK.out _ _ ?_
   refine norm_ ?_ (HCT.out (d34_.heap.size) _ ⟨(q68 ((q68 (HNB.out) 0 (.int .i64 (sv + (n5 : Int) + (q : Int))) rfl)) 1 (.bool false) rfl), HLE.out, ((HHB.out).setCell HLE.out (p := ⟨_, 0, none⟩) _).setCell HLE.out (p := ⟨_, 1, none⟩) _⟩)
   simp only [putAll, Act.put, List.setIfInBounds_toArray, List.set_cons_zero, List.set_cons_succ]
  skip
  go_simp
  have hb : Below wD.heap.size wD (wD.alloc (.cells #[.int .i64 0, .bool false] 93)) := q57 (Below.refl _ _) _
  have hNB : (wD.alloc (.cells #[.int .i64 0, .bool false] 93)).heap[wD.heap.size]? = some (.cells #[.int .i64 0, .bool false] 93 (0, 0)) := heap_alloc_new _ _
  have HLE := Lib.hid hHeld.2.size
  refine hK.out _ _ (kp1 hHeld hb) (fun hHeld => ?_)
  clear hK K
  obtain ⟨d38_, hwn⟩ : ∃ wn, wn = wD.alloc (.cells #[.int .i64 0, .bool false] 93) := ⟨_, rfl⟩
  rw [← hwn] at hb hNB hHeld ⊢
  have HNB := Lib.hid hNB
  clear hNB hwn
  clear hb
  refine ca_ 2 (some 23) Try.func26 #[.pointer (some ⟨g, 0, none⟩), .int .i64 i] ?_
  refine (HSE.out d38_ hHeld.2).mono ?_
  rintro e d39_ ⟨rfl, hb⟩
  refine ⟨_, rfl, (kp1 hHeld hb), fun hHeld => ⟨_, rfl, nz_ (some 23) ?_⟩⟩
  have HNB := Lib.hid (q62 HNB.out hb)
  clear hb
  refine pu_ 6 (some 27) ?_
  refine pu_ 8 (some 29) ?_
  rw [hwr1, hwr2]
  refine ca_ 9 (some 30) Try.func67 #[.int .i64 (sv + (n5 : Int) + (q : Int))] ?_
  refine (up_call (sv + (n5 : Int) + (q : Int)) d39_).mono ?_
  rintro e d40_ ⟨rfl, hb⟩
  refine ⟨_, rfl, (kp1 hHeld hb), fun hHeld => ⟨_, rfl, nz_ (some 30) ?_⟩⟩
  have HNB := Lib.hid (q62 HNB.out hb)
  clear hb
  have HHB := Lib.hid hHeld.2
  clear hHeld
  have hz0 := (q63 HNB.out 0).trans rfl
  have hq0 := q67 HNB.out 0
  have hz1 := (q63 HNB.out 1).trans rfl
  have hq1 := q67 HNB.out 1
  refine lA_ 11 none (fun K hK => ?_)
  go_simp
  refine hK.out _ _ ?_
  refine norm_ ?_ (HCT.out (wD.heap.size) _ ⟨(q68 ((q68 (HNB.out) 0 (.int .i64 (sv + (n5 : Int) + (q : Int))) rfl)) 1 (.bool false) rfl), HLE.out, ((HHB.out).setCell HLE.out (p := ⟨_, 0, none⟩) _).setCell HLE.out (p := ⟨_, 1, none⟩) _⟩)
  simp only [putAll, Act.put, List.setIfInBounds_toArray, List.set_cons_zero, List.set_cons_succ]
 rintro bx wJ ⟨hNJ, hleJ, hbJ⟩
 refine norm_ (a' := ?_) ?_ ?_
 rotate_left
 ·simp only [putAll, Act.put, List.setIfInBounds_toArray, List.set_cons_zero, List.set_cons_succ]
  rfl
 refine dn_ ?_
 clear hHeld
 obtain ⟨f, hf⟩ : ∃ f, f = sv + (n5 : Int) + (q : Int) := ⟨_, rfl⟩
 rw [← hf] at hNJ HF1 HF2 ⊢
 have hz0 := (q63 hNJ 0).trans rfl
 have hz1 := (q63 hNJ 1).trans rfl
 have HZ := Lib.hid (And.intro hz0 hz1)
 have hbxl := blk_lt hNJ
 have hbxg : bx ≠ g := by omega
 have HOX : Hid (vq.ownBlock ≠ some bx) := Lib.hid (fun e => by have := HOQ.out _ e; omega)
 have HM := Lib.hid (HM.out.below hbJ)
 have HGA := Lib.hid (Go_.below HGA.out hbJ)
 clear hNJ hbJ HSE HOQ hf hwr1 hwr2 hc5 hogl
 go_wp2_with fail
 have hS : (((wJ.drew).cell? ⟨bx, 0, none⟩ = some (.int .i64 f)) ∧ ((wJ.drew).cell? ⟨bx, 1, none⟩ = some (.bool false))) ∧ Below wJ.heap.size wJ wJ.drew := ⟨⟨hz0, hz1⟩, q58 (Below.refl _ _)⟩
 refine sD_ [11] (fun w' => ((w'.cell? ⟨bx, 0, none⟩ = some (.int .i64 f)) ∧ (w'.cell? ⟨bx, 1, none⟩ = some (.bool false))) ∧ Below wJ.heap.size wJ w') 12 hS (fun hHeld => ?_)
 clear hS
 obtain ⟨wD, hwD⟩ : ∃ wD, wD = wJ.drew := ⟨_, rfl⟩
 rw [← hwD] at hHeld ⊢
 clear hwD
 refine pu_ 0 (some 31) ?_
 refine pu_ 1 (some 32) ?_
 refine pu_ 2 (some 33) ?_
 refine pu_ 7 (some 38) ?_
 refine tc_ 6 (some 37) hHeld ?_
 refine ca_ 3 (some 34) Try.func70 #[.pointer (some ⟨g, 0, none⟩), .int .i64 i, .int .i64 0] ?_
 refine (pass_below c wD g i 0 (HM.out.below hHeld.2).mg hla (by omega) (by omega)).mono ?_
 rintro e d41_ ⟨rfl, hb⟩
 refine ⟨_, rfl, (kp2 hHeld hb), fun hHeld => ⟨_, rfl, nz_ (some 34) ?_⟩⟩
 clear hb
 have HSHC2 := Lib.hid hHeld.2.size
 refine oN_ 4 (some 35) (fun K hK => ?_)
 go_simp
 have hb : Below d41_.heap.size d41_ (d41_.alloc (.cells #[.int .i64 (passF c.la i 0)] 3)) := q57 (Below.refl _ _) _
 have hrow : Kd.R (Kd.int .i64) 3 (d41_.alloc (.cells #[.int .i64 (passF c.la i 0)] 3)) d41_.heap.size (fun _ => True) (.slice (some ⟨d41_.heap.size, 0, none⟩) 1 1) [passF c.la i 0] := ints_row d41_ [passF c.la i 0] (by simp)
 refine hK.out _ _ (kp2 hHeld hb) (fun hHeld => ?_)
 clear hK K
 obtain ⟨d42_, hwn⟩ : ∃ wn, wn = d41_.alloc (.cells #[.int .i64 (passF c.la i 0)] 3) := ⟨_, rfl⟩
 rw [← hwn] at hb hrow hHeld ⊢
 have HC2 := Lib.hid hrow
 clear hrow hwn
 clear hb
 have HS2 := Lib.hid hHeld.2.size
 have HSHR2 := Lib.hid hHeld.2.size
 refine ca_ 5 (some 36) Try.func66 #[.slice (some ⟨d41_.heap.size, 0, none⟩) 1 1] ?_
 refine (puts1_any (passF c.la i 0) _ d42_ (Kd.R_reads' HC2.out).2.2).mono ?_
 rintro e d43_ ⟨A2, c2, rfl, hR2, hb⟩
 refine ⟨_, rfl, (kp2 hHeld hb), fun hHeld => ⟨_, rfl, nz_ (some 36) ?_⟩⟩
 have HR2 := Lib.hid hR2
 clear hR2
 have HC2 := Lib.hid (Kd.R_below HC2.out hb)
 clear hb
 refine ca_ 8 (some 39) Try.func23 #[.int .i64 i, .int .i64 1] ?_
 refine (flag_call i 1 d43_ (by omega) (by omega)).mono ?_
 rintro e d44_ ⟨rfl, hb⟩
 refine ⟨_, rfl, (kp2 hHeld hb), fun hHeld => ⟨_, rfl, nz_ (some 39) ?_⟩⟩
 have HC2 := Lib.hid (Kd.R_below HC2.out hb)
 have HR2 := Lib.hid (Kd.R_below HR2.out hb)
 clear hb
 refine ca_ 9 (some 40) Try.func67 #[.int .i64 (flagF i 1)] ?_
 refine (up_call (flagF i 1) d44_).mono ?_
 rintro e d45_ ⟨rfl, hb⟩
 refine ⟨_, rfl, (kp2 hHeld hb), fun hHeld => ⟨_, rfl, nz_ (some 40) ?_⟩⟩
 have HC2 := Lib.hid (Kd.R_below HC2.out hb)
 have HR2 := Lib.hid (Kd.R_below HR2.out hb)
 clear hb
 have HSHL := Lib.hid hHeld.2.size
 refine oN_ 10 (some 41) (fun K hK => ?_)
 go_simp
 have hb : Below d45_.heap.size d45_ (d45_.alloc (.cells #[.int .i64 (f), .bool false, .int .i64 (flagF i 1), .bool false] 93)) := q57 (Below.refl _ _) _
 have hrow : Kd.R k93 93 (d45_.alloc (.cells #[.int .i64 (f), .bool false, .int .i64 (flagF i 1), .bool false] 93)) d45_.heap.size (fun _ => True) (.slice (some ⟨d45_.heap.size, 0, none⟩) 2 2) [⟨f, false⟩, ⟨flagF i 1, false⟩] := lits_row d45_ [⟨f, false⟩, ⟨flagF i 1, false⟩] (by simp)
 refine hK.out _ _ (kp2 hHeld hb) (fun hHeld => ?_)
 clear hK K
 obtain ⟨d46_, hwn⟩ : ∃ wn, wn = d45_.alloc (.cells #[.int .i64 (f), .bool false, .int .i64 (flagF i 1), .bool false] 93) := ⟨_, rfl⟩
 rw [← hwn] at hb hrow hHeld ⊢
 have HL := Lib.hid hrow
 clear hrow hwn
 have HC2 := Lib.hid (Kd.R_below HC2.out hb)
 have HR2 := Lib.hid (Kd.R_below HR2.out hb)
 clear hb
 have hru := HM.out.rule 2 hHeld.2 HR2.out HS2.out HL.out HSHL.out rfl rfl HLA.out
 refine lA_ 11 (some 42) (fun K hK => ?_)
 refine go_s_ Try.func69 #[.pointer (some ⟨g, 0, none⟩), .int .i64 2, .slice A2 1 c2, .slice (some ⟨d45_.heap.size, 0, none⟩) 2 2] ?_
 refine hru.mono ?_
 rintro e d47_ ⟨rfl, vr', h1, h2⟩
 refine ⟨_, rfl, ?_⟩
 refine hK.out _ _ ?_
 clear hK K hHeld hru
 have HM := Lib.hid h1
 have HG := Lib.hid h2
 clear h1 h2 HR2 HS2
 refine nz_ (some 42) ?_
 refine dn_ ?_
 have HGA := Lib.hid (HGA.out.then_ HG.out)
 have HM : Hid (Mr c w0 d47_ g vr' (rs ++ secondP c i n5 q ++ [secondF c i n5 q 1])) := Lib.hid (HF1.out ▸ HM.out)
 have hz0 := HG.out.cell HZ.out.1 hbxl hbxg HOX.out
 have hz1 := HG.out.cell HZ.out.2 hbxl hbxg HOX.out
 clear HG HZ
 go_wp2_with fail
 have hS : (((d47_.drew).cell? ⟨bx, 0, none⟩ = some (.int .i64 f)) ∧ ((d47_.drew).cell? ⟨bx, 1, none⟩ = some (.bool false))) ∧ Below d47_.heap.size d47_ d47_.drew := ⟨⟨hz0, hz1⟩, q58 (Below.refl _ _)⟩
 refine sD_ [11] (fun w' => ((w'.cell? ⟨bx, 0, none⟩ = some (.int .i64 f)) ∧ (w'.cell? ⟨bx, 1, none⟩ = some (.bool false))) ∧ Below d47_.heap.size d47_ w') 12 hS (fun hHeld => ?_)
 clear hS
 obtain ⟨wD, hwD⟩ : ∃ wD, wD = d47_.drew := ⟨_, rfl⟩
 rw [← hwD] at hHeld ⊢
 clear hwD
 refine pu_ 0 (some 43) ?_
 refine pu_ 1 (some 44) ?_
 refine pu_ 2 (some 45) ?_
 refine pu_ 7 (some 50) ?_
 refine tc_ 6 (some 49) hHeld ?_
 refine ca_ 3 (some 46) Try.func70 #[.pointer (some ⟨g, 0, none⟩), .int .i64 i, .int .i64 0] ?_
 refine (pass_below c wD g i 0 (HM.out.below hHeld.2).mg hla (by omega) (by omega)).mono ?_
 rintro e d48_ ⟨rfl, hb⟩
 refine ⟨_, rfl, (kp2 hHeld hb), fun hHeld => ⟨_, rfl, nz_ (some 46) ?_⟩⟩
 clear hb
 have HSHC2 := Lib.hid hHeld.2.size
 refine oN_ 4 (some 47) (fun K hK => ?_)
 go_simp
 have hb : Below d48_.heap.size d48_ (d48_.alloc (.cells #[.int .i64 (passF c.la i 0)] 3)) := q57 (Below.refl _ _) _
 have hrow : Kd.R (Kd.int .i64) 3 (d48_.alloc (.cells #[.int .i64 (passF c.la i 0)] 3)) d48_.heap.size (fun _ => True) (.slice (some ⟨d48_.heap.size, 0, none⟩) 1 1) [passF c.la i 0] := ints_row d48_ [passF c.la i 0] (by simp)
 refine hK.out _ _ (kp2 hHeld hb) (fun hHeld => ?_)
 clear hK K
 obtain ⟨d49_, hwn⟩ : ∃ wn, wn = d48_.alloc (.cells #[.int .i64 (passF c.la i 0)] 3) := ⟨_, rfl⟩
 rw [← hwn] at hb hrow hHeld ⊢
 have HC2 := Lib.hid hrow
 clear hrow hwn
 clear hb
 have HS2 := Lib.hid hHeld.2.size
 have HSHR2 := Lib.hid hHeld.2.size
 refine ca_ 5 (some 48) Try.func66 #[.slice (some ⟨d48_.heap.size, 0, none⟩) 1 1] ?_
 refine (puts1_any (passF c.la i 0) _ d49_ (Kd.R_reads' HC2.out).2.2).mono ?_
 rintro e d50_ ⟨A2, c2, rfl, hR2, hb⟩
 refine ⟨_, rfl, (kp2 hHeld hb), fun hHeld => ⟨_, rfl, nz_ (some 48) ?_⟩⟩
 have HR2 := Lib.hid hR2
 clear hR2
 have HC2 := Lib.hid (Kd.R_below HC2.out hb)
 clear hb
 refine ca_ 8 (some 51) Try.func23 #[.int .i64 i, .int .i64 2] ?_
 refine (flag_call i 2 d50_ (by omega) (by omega)).mono ?_
 rintro e d51_ ⟨rfl, hb⟩
 refine ⟨_, rfl, (kp2 hHeld hb), fun hHeld => ⟨_, rfl, nz_ (some 51) ?_⟩⟩
 have HC2 := Lib.hid (Kd.R_below HC2.out hb)
 have HR2 := Lib.hid (Kd.R_below HR2.out hb)
 clear hb
 refine ca_ 9 (some 52) Try.func67 #[.int .i64 (flagF i 2)] ?_
 refine (up_call (flagF i 2) d51_).mono ?_
 rintro e d52_ ⟨rfl, hb⟩
 refine ⟨_, rfl, (kp2 hHeld hb), fun hHeld => ⟨_, rfl, nz_ (some 52) ?_⟩⟩
 have HC2 := Lib.hid (Kd.R_below HC2.out hb)
 have HR2 := Lib.hid (Kd.R_below HR2.out hb)
 clear hb
 have HSHL := Lib.hid hHeld.2.size
 refine oN_ 10 (some 53) (fun K hK => ?_)
 go_simp
 have hb : Below d52_.heap.size d52_ (d52_.alloc (.cells #[.int .i64 (f), .bool false, .int .i64 (flagF i 2), .bool false] 93)) := q57 (Below.refl _ _) _
 have hrow : Kd.R k93 93 (d52_.alloc (.cells #[.int .i64 (f), .bool false, .int .i64 (flagF i 2), .bool false] 93)) d52_.heap.size (fun _ => True) (.slice (some ⟨d52_.heap.size, 0, none⟩) 2 2) [⟨f, false⟩, ⟨flagF i 2, false⟩] := lits_row d52_ [⟨f, false⟩, ⟨flagF i 2, false⟩] (by simp)
 refine hK.out _ _ (kp2 hHeld hb) (fun hHeld => ?_)
 clear hK K
 obtain ⟨d53_, hwn⟩ : ∃ wn, wn = d52_.alloc (.cells #[.int .i64 (f), .bool false, .int .i64 (flagF i 2), .bool false] 93) := ⟨_, rfl⟩
 rw [← hwn] at hb hrow hHeld ⊢
 have HL := Lib.hid hrow
 clear hrow hwn
 have HC2 := Lib.hid (Kd.R_below HC2.out hb)
 have HR2 := Lib.hid (Kd.R_below HR2.out hb)
 clear hb
 have hru := HM.out.rule 2 hHeld.2 HR2.out HS2.out HL.out HSHL.out rfl rfl HLB.out
 refine lA_ 11 (some 54) (fun K hK => ?_)
 refine go_s_ Try.func69 #[.pointer (some ⟨g, 0, none⟩), .int .i64 2, .slice A2 1 c2, .slice (some ⟨d52_.heap.size, 0, none⟩) 2 2] ?_
 refine hru.mono ?_
 rintro e d54_ ⟨rfl, vr', h1, h2⟩
 refine ⟨_, rfl, ?_⟩
 refine hK.out _ _ ?_
 clear hK K hHeld hru
 have HM := Lib.hid h1
 have HG := Lib.hid h2
 clear h1 h2 HR2 HS2
 refine nz_ (some 54) ?_
 refine dn_ ?_
 have HM : Hid (Mr c w0 d54_ g vr' (rs ++ secondP c i n5 q ++ [secondF c i n5 q 1] ++ [secondF c i n5 q 2])) := Lib.hid (HF2.out ▸ HM.out)
 go_wp2
 go_roundg (n6 - (q + 1))
 case measure => omega
 case rel => exact ⟨q + 1, vr', by go_num, by omega, Nat.le_refl _, Lib.hid ⟨by simpa [secondP, List.append_assoc] using HM.out, HGA.out.then_ HG.out⟩⟩
theorem Go_.row2 {α : Type} {d : Kd α} {e : Nat} {v : Value} {xs : List α} {g : Nat} {vr vr' : Value} {w w' : World} {ok : Nat → Prop} (hG : Go_ g vr vr' w w') (h : d.R e w (g + 1) (fun k => some k ≠ vr.ownBlock ∧ ok k) v xs) : d.R e w' (g + 1) (fun k => some k ≠ vr'.ownBlock ∧ ok k) v xs := by
 have h1 := Kd.R_keptB (Kd.R_mono (Kd.R_bound h) (fun k hk => (⟨⟨hk.1.1, hk.2.1⟩, hk.1.2⟩ : (some k ≠ vr.ownBlock ∧ g + 1 ≤ k) ∧ ok k))) hG.1 (fun k hk e => e.elim (fun e => by have := hk.1.2; omega) (fun e => hk.1.1 e.symm))
 exact Kd.R_mono h1 (fun k hk => ⟨fun e => (hG.2 k e.symm).elim (fun e => hk.1.1.1 e.symm) (fun e => by have := hk.2; omega), hk.1.2⟩)
def Mu (c : Mc) (w0 w : World) (g : Nat) (vr vc vu : Value) (rs : List (S72)) (cs : List (S104)) (us : List (S108)) : Prop :=
 Below w0.heap.size w0 w ∧ w0.heap.size ≤ g ∧ w.heap[g]? = some (.cells (Mcells c vr vc vu) 58 (0, 0)) ∧ Kd.R k72 72 w (g + 1) (fun k => some k ≠ vu.ownBlock ∧ some k ≠ vc.ownBlock) vr rs ∧ Kd.R k104 104 w (g + 1) (fun k => some k ≠ vu.ownBlock) vc cs ∧ Kd.R k108 108 w (g + 1) (fun k => some k ≠ vc.ownBlock) vu us
section
variable {c : Mc} {w0 w w1 : World} {g : Nat} {vr vc vu : Value} {rs : List (S72)} {cs : List (S104)} {us : List (S108)}
theorem Mu.lt (h : Mu c w0 w g vr vc vu rs cs us) : g < w.heap.size := blk_lt h.2.2.1
theorem Mu.mg (h : Mu c w0 w g vr vc vu rs cs us) : Mg c w g := ⟨_, _, _, h.2.2.1⟩
theorem Mu.below (h : Mu c w0 w g vr vc vu rs cs us) (hb : Below w.heap.size w w1) : Mu c w0 w1 g vr vc vu rs cs us := ⟨q60 h.1 h.1.size hb, h.2.1, q62 h.2.2.1 hb, Kd.R_below h.2.2.2.1 hb, Kd.R_below h.2.2.2.2.1 hb, Kd.R_below h.2.2.2.2.2 hb⟩
end
def userU (c : Mc) (i : Nat) (ev st what : Int) : S108 := ⟨(q81 c.l (i : Int)).f0, ev, [⟨flagF i st, false⟩], passF c.la i what⟩
def G2 (g : Nat) (vc vc' vu vu' : Value) (w w' : World) : Prop := Kept w w' (fun k => k = g ∨ vc.ownBlock = some k ∨ vu.ownBlock = some k) ∧ (∀ k, vc'.ownBlock = some k → vc.ownBlock = some k ∨ w.heap.size ≤ k) ∧ ∀ k, vu'.ownBlock = some k → vu.ownBlock = some k ∨ w.heap.size ≤ k
theorem G2.refl {g : Nat} {vc vu : Value} {w : World} : G2 g vc vc vu vu w w := ⟨Kept.refl _ _, fun _ h => .inl h, fun _ h => .inl h⟩
theorem G2.then_ {g : Nat} {vc vc' vc'' vu vu' vu'' : Value} {w w1 w2 : World} (h : G2 g vc vc' vu vu' w w1) (k : G2 g vc' vc'' vu' vu'' w1 w2) : G2 g vc vc'' vu vu'' w w2 :=
 ⟨h.1.then_ k.1 (fun j e => by
  rcases e with e | e | e
  ·exact .inl (.inl e)
  ·exact (h.2.1 j e).elim (fun e => .inl (.inr (.inl e))) .inr
  ·exact (h.2.2 j e).elim (fun e => .inl (.inr (.inr e))) .inr),
  fun j e => (k.2.1 j e).elim (fun e => h.2.1 j e) (fun e => .inr (Nat.le_trans h.1.1 e)),
  fun j e => (k.2.2 j e).elim (fun e => h.2.2 j e) (fun e => .inr (Nat.le_trans h.1.1 e))⟩
theorem G2.below {g : Nat} {vc vu : Value} {w w' : World} (hb : Below w.heap.size w w') : G2 g vc vc vu vu w w' := ⟨Kept.below (Kept.refl _ _) hb, fun _ h => .inl h, fun _ h => .inl h⟩
theorem G2.ofU {g : Nat} {vc vu vu' : Value} {w w' : World} (h : Go_ g vu vu' w w') : G2 g vc vc vu vu' w w' := ⟨⟨h.1.1, fun i hi hn => h.1.2 i hi (fun e => hn (e.elim .inl (fun e => .inr (.inr e))))⟩, fun _ h => .inl h, h.2⟩
theorem G2.ofC {g : Nat} {vc vc' vu : Value} {w w' : World} (h : Go_ g vc vc' w w') : G2 g vc vc' vu vu w w' := ⟨⟨h.1.1, fun i hi hn => h.1.2 i hi (fun e => hn (e.elim .inl (fun e => .inr (.inl e))))⟩, h.2, fun _ h => .inl h⟩
def UserPost (c : Mc) (w0 w : World) (g : Nat) (vr vc vu : Value) (rs : List (S72)) (cs : List (S104)) (us : List (S108)) (e : Ending) (w' : World) : Prop := e = .returned (.tuple #[]) ∧ ∃ vu', Mu c w0 w' g vr vc vu' rs cs us ∧ G2 g vc vc vu vu' w w'
theorem iUser_ : (Try.prog.info? 108).map (fun i => (i.zero, i.size, i.bytes)) = some (some (.agg #[.string ⟨#[]⟩, .int .i64 0, .slice none 0 0, .int .i64 0]), 4, 56) := by kernel_rfl
set_option maxHeartbeats 16000000 in
set_option maxRecDepth 100000 in
theorem user_any (c : Mc) (w0 w : World) (g : Nat) (vr vc vu : Value) (rs : List (S72)) (cs : List (S104)) (us : List (S108)) (i : Nat) (ev st what : Int) (hM : Mu c w0 w g vr vc vu rs cs us) (hm : Mm c w0) (hi : i < c.l.length) (hst : 0 ≤ st ∧ st ≤ 10) (hwh : 0 ≤ what ∧ what ≤ 10) (hlim : us.length ≤ 100000) :
 Calls Try.prog 77 #[.pointer (some ⟨g, 0, none⟩), .int .i64 i, .int .i64 ev, .int .i64 st, .int .i64 what] w (UserPost c w0 w g vr vc vu rs cs (us ++ [userU c i ev st what])) := by
 have hu25 := Try.underlying25
 have hu32 := Try.underlying32
 have hu58 := Try.underlying58
 have hu41 := Try.underlying41
 have hml := hm.2.2.2.2.1
 have hla := hm.2.2.2.2.2.1
 obtain ⟨Au, cu, rfl⟩ := Kd.R_slice hM.2.2.2.2.2
 have hcz1 : w.cell? ⟨g, 1, none⟩ = some (.slice c.A1 c.l.length c.c1) := (q63 hM.2.2.1 1).trans rfl
 have hczu : w.cell? ⟨g, 10, none⟩ = some (.slice Au us.length cu) := (q63 hM.2.2.1 10).trans rfl
 obtain ⟨ad, A5, c5, A6, c6, e, x0, -⟩ := at_T41 (hm.at hM.1).2 (i : Int) (by omega) (by omega)
 simp only [Int.toNat_natCast] at x0
 rw [e] at hcz1
 obtain ⟨id, hid⟩ : ∃ id, id = (q81 c.l (i : Int)).f0 := ⟨_, rfl⟩
 have HU : Hid (userU c i ev st what = ⟨id, ev, [⟨flagF i st, false⟩], passF c.la i what⟩) := Lib.hid (by rw [userU, ← hid])
 rw [← hid] at x0
 obtain ⟨n, hn⟩ : ∃ n, n = c.l.length := ⟨_, rfl⟩
 rw [← hn] at hcz1
 have hlt : (i : Int) < (n : Int) := by omega
 obtain ⟨m, hmu⟩ : ∃ m, m = us.length := ⟨_, rfl⟩
 rw [← hmu] at hczu hM
 rw [show (Value.slice Au us.length cu) = .slice Au m cu by rw [hmu]]
 have HMU := Lib.hid hmu
 have HM := Lib.hid hM
 have hi1 : (i : Int) ≤ 1000 := by omega
 have hgl := hM.lt
 have HLIM : Hid ((us.length + 1) * 56 ≤ 140737488355328) := Lib.hid (by omega)
 clear hM hm hi hml e hid hn hmu
 go_enter Try.func77, Try.ntmps77
 have hS : (((w.drew).cell? ⟨g, 1, none⟩ = some (.slice (some ad) n c.c1)) ∧ ((w.drew).cell? ⟨g, 10, none⟩ = some (.slice Au m cu)) ∧ ((w.drew).cell? (ad.add (i * 7)) = some (.string id))) ∧ Below w.heap.size w w.drew := ⟨⟨hcz1, hczu, x0⟩, q58 (Below.refl _ _)⟩
 refine sD_ [27, 31] (fun w' => ((w'.cell? ⟨g, 1, none⟩ = some (.slice (some ad) n c.c1)) ∧ (w'.cell? ⟨g, 10, none⟩ = some (.slice Au m cu)) ∧ (w'.cell? (ad.add (i * 7)) = some (.string id))) ∧ Below w.heap.size w w') 32 hS (fun hHeld => ?_)
 clear hS
 obtain ⟨wD, hwD⟩ : ∃ wD, wD = w.drew := ⟨_, rfl⟩
 rw [← hwD] at hHeld ⊢
 clear hwD
 refine pu_ 0 (some 10) ?_
 refine pu_ 1 (some 11) ?_
 refine pu_ 2 (some 12) ?_
 refine pu_ 3 (some 13) ?_
 refine pu_ 4 (some 14) ?_
 refine pu_ 6 (some 16) ?_
 refine pu_ 7 (some 17) ?_
 refine pu_ 8 (some 18) ?_
 refine pu_ 9 (some 19) ?_
 refine pu_ 11 (some 21) ?_
 refine pu_ 15 (some 25) ?_
 refine pu_ 16 (some 26) ?_
 refine pu_ 17 (some 27) ?_
 refine pu_ 21 (some 31) ?_
 refine pu_ 22 (some 32) ?_
 refine pu_ 23 (some 33) ?_
 refine tc_ 5 (some 15) hHeld ?_
 refine tc_ 10 (some 20) hHeld ?_
 refine pu_ 12 (some 22) ?_
 refine pu_ 13 (some 23) ?_
 refine tc_ 14 (some 24) hHeld ?_
 refine ca_ 18 (some 28) Try.func23 #[.int .i64 i, .int .i64 st] ?_
 refine (flag_call i st wD (by omega) (by omega)).mono ?_
 rintro e d116_ ⟨rfl, hb⟩
 refine ⟨_, rfl, (kp3 hHeld hb), fun hHeld => ⟨_, rfl, nz_ (some 28) ?_⟩⟩
 clear hb
 refine ca_ 19 (some 29) Try.func67 #[.int .i64 (flagF i st)] ?_
 refine (up_call (flagF i st) d116_).mono ?_
 rintro e d117_ ⟨rfl, hb⟩
 refine ⟨_, rfl, (kp3 hHeld hb), fun hHeld => ⟨_, rfl, nz_ (some 29) ?_⟩⟩
 clear hb
 have hrow := lits_row d117_ [⟨flagF i st, false⟩] (by simp)
 have HS := Lib.hid hHeld.2.size
 have hbz : Below d117_.heap.size d117_ (d117_.alloc (.cells #[.int .i64 (flagF i st), .bool false] 93)) := q57 (Below.refl _ _) _
 obtain ⟨o, ho⟩ : ∃ o, o = d117_.heap.size := ⟨_, rfl⟩
 obtain ⟨wz, hwz⟩ : ∃ wz, wz = d117_.alloc (.cells #[.int .i64 (flagF i st), .bool false] 93) := ⟨_, rfl⟩
 have hrow : Kd.R k93 93 wz o (fun _ => True) (.slice (some ⟨o, 0, none⟩) 1 1) [⟨flagF i st, false⟩] := by rw [hwz, ho]; exact hrow
 have hHz : (wz.cell? ⟨g, 1, none⟩ = some (.slice (some ad) n c.c1) ∧ wz.cell? ⟨g, 10, none⟩ = some (.slice Au m cu) ∧ wz.cell? (ad.add (i * 7)) = some (.string id)) ∧ Below w.heap.size w wz := by
  rw [hwz]
  exact ⟨⟨q73 hbz hHeld.1.1, q73 hbz hHeld.1.2.1, q73 hbz hHeld.1.2.2⟩, q72 hbz hHeld.2⟩
 have HROW := Lib.hid hrow
 have HS : Hid (w.heap.size ≤ o) := Lib.hid (by rw [ho]; exact HS.out)
 have HHZ := Lib.hid hHz
 have HWZ := Lib.hid hwz
 have HO := Lib.hid ho
 have HH := Lib.hid hHeld
 clear hrow hHz hwz ho hbz hHeld
 have hpz := pass_any c wz g i what (HM.out.below HHZ.out.2).mg hla (by omega) (by omega)
 have hpy := pass_any c d117_ g i what (HM.out.below HH.out.2).mg hla (by omega) (by omega)
 refine join_ (σ := Unit) 7 (bits 32 33554431) (fun _ => [(30, .slice (some ⟨o, 0, none⟩) 1 1), (34, .int .i64 (passF c.la i what))]) (fun _ w' => w' = wz) ?_ ?_
 rotate_left
 ·intro hCont
  have HCT := Lib.hid hCont
  clear hCont
  refine tW_ 20 24 (some 30) (some 34) (fun K hK => ?_) (fun K hK => ?_)
  ·go_simp
   rw [← show wz = _ from HWZ.out, ← show o = _ from HO.out]
   refine hK.out _ _ HHZ.out (fun hHeld => ?_)
   clear hK K
   refine ca_ 24 (some 34) Try.func70 #[.pointer (some ⟨g, 0, none⟩), .int .i64 i, .int .i64 what] ?_
   refine hpz.mono ?_
   rintro e wy ⟨rfl, hwy⟩
   rw [hwy]
   refine ⟨_, rfl, HHZ.out, fun _ => ⟨_, rfl, nz_ (some 34) ?_⟩⟩
   exact HCT.out () _ rfl
  refine go_s_ Try.func70 #[.pointer (some ⟨g, 0, none⟩), .int .i64 i, .int .i64 what] ?_
  refine hpy.mono ?_
  rintro e wy ⟨rfl, hwy⟩
  rw [hwy]
  refine ⟨_, rfl, ?_⟩
  refine hK.out _ _ HH.out (fun _ => ?_)
  clear hK K
  refine nz_ (some 34) ?_
  refine oN_ 20 (some 30) (fun K hK => ?_)
  go_simp
  rw [← show wz = _ from HWZ.out, ← show o = _ from HO.out]
  refine hK.out _ _ HHZ.out (fun _ => ?_)
  exact HCT.out () _ rfl
 rintro ⟨⟩ wy hwy
 rw [hwy]
 refine norm_ (a' := ?_) ?_ ?_
 rotate_left
 ·simp only [putAll, Act.put, List.setIfInBounds_toArray, List.set_cons_zero, List.set_cons_succ]
  rfl
 clear hpz hpy hwy wy HWZ HO HH hcz1 hczu x0
 refine pu_ 25 (some 35) ?_
 refine oN_ 26 (some 36) (fun K hK => ?_)
 go_simp
 have hbz : Below wz.heap.size wz (wz.alloc (.cells #[.string id, .int .i64 ev, .slice (some ⟨o, 0, none⟩) 1 1, .int .i64 (passF c.la i what)] 108)) := q57 (Below.refl _ _) _
 refine hK.out _ _ ⟨⟨q73 hbz HHZ.out.1.1, q73 hbz HHZ.out.1.2.1, q73 hbz HHZ.out.1.2.2⟩, q72 hbz HHZ.out.2⟩ (fun _ => ?_)
 clear hK K hbz
 have HG0 : Hid (Go_ g (.slice Au m cu) (.slice Au m cu) w wz) := Lib.hid (Go_.below Go_.refl HHZ.out.2)
 have HMZ := Lib.hid (HM.out.below HHZ.out.2)
 have howu : ∀ k, (Value.slice Au m cu).ownBlock = some k → k < w.heap.size := fun k e => Kd.R_lt HM.out.2.2.2.2.2 k e
 have howc : ∀ k, vc.ownBlock = some k → k < w.heap.size := fun k e => Kd.R_lt HM.out.2.2.2.2.1 k e
 have hwzl : w.heap.size ≤ wz.heap.size := HHZ.out.2.size
 have hM1 : Kd.M k108 wz (g + 1) (fun k => some k ≠ vc.ownBlock ∧ some k ≠ (Value.slice Au m cu).ownBlock) ⟨id, ev, [⟨flagF i st, false⟩], passF c.la i what⟩ [.string id, .int .i64 ev, .slice (some ⟨o, 0, none⟩) 1 1, .int .i64 (passF c.la i what)] := k108_mkM _ _ _ _ (Kd.R_lower (Kd.R_mono (Kd.R_bound HROW.out) (fun k hk => ⟨fun e => by have := howc k e.symm; have := hk.2.1; have := HS.out; omega, fun e => by have := howu k e.symm; have := hk.2.1; have := HS.out; omega⟩)) (by have := HS.out; omega))
 have HM1 := Lib.hid hM1
 have HOC : Hid (∀ k, wz.heap.size ≤ k → some k ≠ vc.ownBlock) := Lib.hid (fun k hk e => by have := howc k e.symm; omega)
 have HRU := Lib.hid HMZ.out.2.2.2.2.2
 clear hM1 howc HHZ HROW
 refine lA_ 27 (some 37) (fun K hK => ?_)
 refine Kd.R_append_step k108 (w0 := wz) (g + 1) rfl (.tmp 15) (.tmp 36) 30 108 (.agg #[.string ⟨#[]⟩, .int .i64 0, .slice none 0 0, .int .i64 0]) 56 rfl Try.underlying30 iUser_ rfl (by decide) (by omega) (.slice Au m cu) us ⟨id, ev, [⟨flagF i st, false⟩], passF c.la i what⟩ [.string id, .int .i64 ev, .slice (some ⟨o, 0, none⟩) 1 1, .int .i64 (passF c.la i what)] (fun k => some k ≠ vc.ownBlock) (fun k => some k ≠ vc.ownBlock ∧ some k ≠ (Value.slice Au m cu).ownBlock) rfl rfl HM1.out (fun _ hk => hk) HOC.out HRU.out (Below.refl _ _) (by omega) HLIM.out ?_
 intro v1 w1 hR1 hB1 hgr hat
 have hown : ∀ kk, (Value.slice Au m cu).ownBlock = some kk → g + 1 ≤ kk := Kd.R_base HRU.out
 have hg1 := (hgr.block _ (by omega) (fun ek => by have := hown _ ek.symm; omega)).trans HMZ.out.2.2.1
 have hkp : Kept w w1 (fun k => k = g ∨ (Value.slice Au m cu).ownBlock = some k) := Kept.of_grown hgr HG0.out.1 (fun kk ek => .inl (.inr ek))
 have hb1 : Below w0.heap.size w0 w1 := HMZ.out.1.grown hgr HMZ.out.1.size (fun kk ek => by have := hown kk ek; have := HMZ.out.2.1; omega)
 refine hK.out _ _ ?_
 clear hK K
 obtain ⟨A9, c9, rfl⟩ := Kd.R_slice hR1
 rw [List.length_append, List.length_singleton] at hR1 hat
 have hc8 : w1.cell? ⟨g, 10, none⟩ = some (.slice Au m cu) := (q63 hg1 10).trans rfl
 have hf8 := q67 hg1 10
 have HG1 := Lib.hid hg1
 have HB1 := Lib.hid hb1
 have HKP := Lib.hid hkp
 have HR1 := Lib.hid hR1
 have HAT := Lib.hid hat
 have HOW := Lib.hid howu
 clear hgr hB1 hg1 hb1 hkp hR1 hat hown howu HM1 HOC HRU
 refine nz_ (some 37) ?_
 refine pu_ 28 (some 38) ?_
 refine pu_ 29 (some 39) ?_
 refine pu_ 30 (some 40) ?_
 refine lA_ 31 none (fun K hK => ?_)
 go_simp
 refine hK.out _ _ ?_
 clear hK K
 refine dn_ ?_
 refine bodyPost_end (results_none rfl _ _ _) rfl ?_
 have hgo : Go_ g (.slice Au m cu) (.slice A9 (us.length + 1) c9) w (w1.setCell ⟨g, 10, none⟩ (.slice A9 (us.length + 1) c9)) := ⟨HKP.out.setCell (p := ⟨g, 10, none⟩) (.inl (.inl rfl)) _, fun k ek => by
  rcases HAT.out with e | ⟨b, e, hb⟩
  ·exact .inl (e ▸ ek)
  rw [ek] at e
  cases e
  exact .inr (Nat.le_trans hwzl hb)⟩
 refine ⟨rfl, .slice A9 _ c9, ⟨HB1.out.setCell HM.out.2.1 _, HM.out.2.1, q68 HG1.out 10 _ rfl, hgo.row2 HM.out.2.2.2.1, hgo.row HM.out.2.2.2.2.1, ?_⟩, .ofU hgo⟩
 rw [HU.out]
 exact R_set2x HR1.out _ _ (Nat.lt_succ_self g)
end Go.Proofs.Yteddgedacjdjgaa.Pm
end
