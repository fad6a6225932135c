/- Walks and plain laws on the way to the law PackSealedOne: several texts of this workplace and of the kit's printer, merged; what is not used is struck, by a program. No condition. -/
import Derived.Test.YtaiglhfmmdajdaaMPackSealedOne2
import Derived.Test.YtaiglhfmmdajdaaMPackSealedOne0
import Derived.Deep.RegionHeld3
import Derived.Lib.Hide
import Derived.Outline
import Derived.Lib.UnsafeStr
import Derived.Test.YtaiglhfmmdajdaaMPackSealedOne1
import Derived.Lib.EndianBits
import Derived.Lib.RabinKarpLaws
section
namespace Go.Proofs.Ytaiglhfmmdajdaa.Pm
open Go.RowKit Go.Proofs.YtaiglhfmmdajdaaW.PrintWords Go.Proofs.YtaiglhfmmdajdaaW.PrintLast Go.Proofs.YtaiglhfmmdajdaaW.PrintMore
attribute [local go_sem] max2_int min2_int max_two min_two max_three min_three max_four min_four   -- for this text's walks alone
set_option linter.unusedVariables false
set_option linter.unusedSimpArgs false
def q50.f (k : Nat) (l0_0 : List ByteArray) (l0_1 : List (S48)) (a1_0 : ByteArray) (a1_1 : Int) : Option (Bool) := (q48.f l0_0 l0_1 a1_0).bind fun t324 => (if t324 ≥ 0 then (if 0 ≤ t324 then (if t324 < (l0_1.length : Int) then ((q45.f k ((q89 l0_1 t324).f1) a1_1).bind fun t326 => (some t326)) else (none)) else (none)) else (some false))
theorem q50.mono : ∀ a0 a1 a2 a3 k, LeO (q50.f k a0 a1 a2 a3) (q50.f (k + 1) a0 a1 a2 a3) := by
 intro a0 a1 a2 a3 k
 unfold q50.f
 repeat' first
  | (with_reducible exact q45.mono _ _ _)
  | (with_reducible exact LeO.refl _)
  | (with_reducible exact LeO.none _)
  | (with_reducible refine LeO.ite ?_ ?_)
  | (with_reducible refine LeO.bind ?_ (fun _ => ?_))
  | exact q45.mono _ _ _
  | exact LeO.none _
  | refine LeO.ite ?_ ?_
  | refine LeO.bind ?_ (fun _ => ?_)
set_option maxHeartbeats 8000000 in
set_option maxRecDepth 100000 in
theorem q50.calls (k : Nat) (A0_0 : Option Addr) (c0_0 : Nat) (l0_0 : List ByteArray) (A0_1 : Option Addr) (c0_1 : Nat) (l0_1 : List (S48)) (a1_0 : ByteArray) (a1_1 : Int) (r : Bool) (w : World) (hr0_0 : Kd.C Kd.string w A0_0 l0_0.length l0_0) (hc0_0 : l0_0.length ≤ c0_0) (hr0_1 : Kd.C k48 w A0_1 l0_1.length l0_1) (hc0_1 : l0_1.length ≤ c0_1) (h : q50.f k l0_0 l0_1 a1_0 a1_1 = some r) :
 Calls Try.prog 88 #[.agg #[.slice A0_0 l0_0.length c0_0, .slice A0_1 l0_1.length c0_1], .agg #[.string a1_0, .int .i64 a1_1]] w fun e w' => e = .returned (.bool r) ∧ Below w.heap.size w w' := by
 have hu25 := Try.underlying25
 have hu103 := Try.underlying103
 have HR0_0 := q66.mk hr0_0
 have HC0_0 := q66.mk hc0_0
 clear hr0_0 hc0_0
 have HR0_1 := q66.mk hr0_1
 have HC0_1 := q66.mk hc0_1
 clear hr0_1 hc0_1
 have HB := q66.mk (Below.refl w.heap.size w)
 unfold q50.f at h
 have H := h
 clear h
 replace H := Option.bind_eq_some_iff.mp H
 obtain ⟨t324, A30, H⟩ := H
 have A3 := q66.mk A30
 clear A30
 by_cases c4 : t324 ≥ 0
 ·rw [if_pos c4] at H
  replace c4 := decide_eq_true c4
  by_cases c5 : 0 ≤ t324
  ·rw [if_pos c5] at H
   replace c5 := decide_eq_true c5
   by_cases c6 : t324 < (l0_1.length : Int)
   ·rw [if_pos c6] at H
    replace c6 := decide_eq_true c6
    replace H := Option.bind_eq_some_iff.mp H
    obtain ⟨t326, A70, H⟩ := H
    have A7 := q66.mk A70
    clear A70
    obtain rfl := Option.some.inj H
    go_enter Try.func88, Try.ntmps88
    go_wp2_with (first | ((with_reducible refine q81 (N := 2) rfl ?_); refine bx_ 2 #[.slice A0_0 l0_0.length c0_0, .slice A0_1 l0_1.length c0_1] 25 ?_; intro gb322 hg w8 hbox hb; have BK322 := q66.mk (hbox); have GW322 := zz_ (w := w) hg; have GE322 := zz_ (w := w) hg; replace HB := hb_ HB hb;  clear hb hbox hg) | ((with_reducible refine q81 (N := 3) rfl ?_); refine bx_ 3 #[.string a1_0, .int .i64 a1_1] 103 ?_; intro gb323 hg w9 hbox hb; have BK323 := q66.mk (hbox); have GW323 := zz_ (w := w) hg; have GE323 := zz_ (w := w) hg; replace HB := hb_ HB hb; have NB322_323 := ne1_ hg BK322; have NB323_322 := ne2_ hg BK322; replace BK322 := bb_ BK322 hb;  clear hb hbox hg; have hnb10 := NB322_323.out; have hnc10 := NB323_322.out; obtain ⟨hcz11_0, hcz11_1, hfz11_0, hfz11_1⟩ := bs2_ BK322; obtain ⟨hcz12_0, hcz12_1, hfz12_0, hfz12_1⟩ := bs2_ BK323) | (go_at_call 48; (with_reducible refine (q48.calls _ _ l0_0 _ _ l0_1 a1_0 t324 _ ?side1 ?side2 ?side3 ?side4 A3.out).mono ?_); (case side1 => exact kc_ HR0_0 HB); (case side2 => exact HC0_0.out); (case side3 => exact kc_ HR0_1 HB); (case side4 => exact HC0_1.out); rintro e w13 ⟨rfl, hb⟩; replace BK322 := bb_ BK322 hb; replace BK323 := bb_ BK323 hb; replace HB := hb_ HB hb;  (try clear hb); obtain ⟨hcz14_0, hcz14_1, hfz14_0, hfz14_1⟩ := bs2_ BK322; have p325 : 0 ≤ (t324 : Int) := od_; have q325 : t324 < (l0_1.length : Int) := od_; obtain ⟨ad325, A325_5, c325_5, A325_6, c325_6, e325, hx325_0, hx325_1, hx325_2, hx325_3, hx325_4, hx325_5, hx325_6, hl325_5, hi325_5, hl325_6, hi325_6⟩ := at_T48 HR0_1.out t324 p325 q325; cases e325; replace hx325_0 := rr_ HB hx325_0; replace hx325_1 := rr_ HB hx325_1; replace hx325_2 := rr_ HB hx325_2; replace hx325_3 := rr_ HB hx325_3; replace hx325_4 := rr_ HB hx325_4; replace hx325_5 := rr_ HB hx325_5; replace hx325_6 := rr_ HB hx325_6; have HR325_5 := q66.mk hi325_5; have HC325_5 := q66.mk hl325_5; clear hi325_5 hl325_5; have HR325_6 := q66.mk hi325_6; have HC325_6 := q66.mk hl325_6; clear hi325_6 hl325_6; replace p325 := eq_true p325; replace q325 := eq_true q325; obtain ⟨hcz15_0, hcz15_1, hfz15_0, hfz15_1⟩ := bs2_ BK323) | (go_at_call 93; (with_reducible refine (q45.calls k ((q89 l0_1 t324).f1) a1_1 t326 _ A7.out).mono ?_); rintro e w' ⟨rfl, ⟨nd, rfl⟩⟩; (try first | exact ⟨rfl, _, World.drewN_drewN _ _ _⟩ | exact ⟨rfl, _, Eq.trans (World.drewN_drewN _ _ _) (congrArg (World.drewN _) (Nat.add_assoc _ _ _))⟩)))
    repeat (go_quiet (first | ((with_reducible refine q81 (N := 2) rfl ?_); refine bx_ 2 #[.slice A0_0 l0_0.length c0_0, .slice A0_1 l0_1.length c0_1] 25 ?_; intro gb322 hg w8 hbox hb; have BK322 := q66.mk (hbox); have GW322 := zz_ (w := w) hg; have GE322 := zz_ (w := w) hg; replace HB := hb_ HB hb;  clear hb hbox hg) | ((with_reducible refine q81 (N := 3) rfl ?_); refine bx_ 3 #[.string a1_0, .int .i64 a1_1] 103 ?_; intro gb323 hg w9 hbox hb; have BK323 := q66.mk (hbox); have GW323 := zz_ (w := w) hg; have GE323 := zz_ (w := w) hg; replace HB := hb_ HB hb; have NB322_323 := ne1_ hg BK322; have NB323_322 := ne2_ hg BK322; replace BK322 := bb_ BK322 hb;  clear hb hbox hg; have hnb10 := NB322_323.out; have hnc10 := NB323_322.out; obtain ⟨hcz11_0, hcz11_1, hfz11_0, hfz11_1⟩ := bs2_ BK322; obtain ⟨hcz12_0, hcz12_1, hfz12_0, hfz12_1⟩ := bs2_ BK323) | (go_at_call 48; (with_reducible refine (q48.calls _ _ l0_0 _ _ l0_1 a1_0 t324 _ ?side1 ?side2 ?side3 ?side4 A3.out).mono ?_); (case side1 => exact kc_ HR0_0 HB); (case side2 => exact HC0_0.out); (case side3 => exact kc_ HR0_1 HB); (case side4 => exact HC0_1.out); rintro e w13 ⟨rfl, hb⟩; replace BK322 := bb_ BK322 hb; replace BK323 := bb_ BK323 hb; replace HB := hb_ HB hb;  (try clear hb); obtain ⟨hcz14_0, hcz14_1, hfz14_0, hfz14_1⟩ := bs2_ BK322; have p325 : 0 ≤ (t324 : Int) := od_; have q325 : t324 < (l0_1.length : Int) := od_; obtain ⟨ad325, A325_5, c325_5, A325_6, c325_6, e325, hx325_0, hx325_1, hx325_2, hx325_3, hx325_4, hx325_5, hx325_6, hl325_5, hi325_5, hl325_6, hi325_6⟩ := at_T48 HR0_1.out t324 p325 q325; cases e325; replace hx325_0 := rr_ HB hx325_0; replace hx325_1 := rr_ HB hx325_1; replace hx325_2 := rr_ HB hx325_2; replace hx325_3 := rr_ HB hx325_3; replace hx325_4 := rr_ HB hx325_4; replace hx325_5 := rr_ HB hx325_5; replace hx325_6 := rr_ HB hx325_6; have HR325_5 := q66.mk hi325_5; have HC325_5 := q66.mk hl325_5; clear hi325_5 hl325_5; have HR325_6 := q66.mk hi325_6; have HC325_6 := q66.mk hl325_6; clear hi325_6 hl325_6; replace p325 := eq_true p325; replace q325 := eq_true q325; obtain ⟨hcz15_0, hcz15_1, hfz15_0, hfz15_1⟩ := bs2_ BK323) | (go_at_call 93; (with_reducible refine (q45.calls k ((q89 l0_1 t324).f1) a1_1 t326 _ A7.out).mono ?_); rintro e w' ⟨rfl, ⟨nd, rfl⟩⟩; (try first | exact ⟨rfl, _, World.drewN_drewN _ _ _⟩ | exact ⟨rfl, _, Eq.trans (World.drewN_drewN _ _ _) (congrArg (World.drewN _) (Nat.add_assoc _ _ _))⟩))); try go_wp2_with (first | ((with_reducible refine q81 (N := 2) rfl ?_); refine bx_ 2 #[.slice A0_0 l0_0.length c0_0, .slice A0_1 l0_1.length c0_1] 25 ?_; intro gb322 hg w8 hbox hb; have BK322 := q66.mk (hbox); have GW322 := zz_ (w := w) hg; have GE322 := zz_ (w := w) hg; replace HB := hb_ HB hb;  clear hb hbox hg) | ((with_reducible refine q81 (N := 3) rfl ?_); refine bx_ 3 #[.string a1_0, .int .i64 a1_1] 103 ?_; intro gb323 hg w9 hbox hb; have BK323 := q66.mk (hbox); have GW323 := zz_ (w := w) hg; have GE323 := zz_ (w := w) hg; replace HB := hb_ HB hb; have NB322_323 := ne1_ hg BK322; have NB323_322 := ne2_ hg BK322; replace BK322 := bb_ BK322 hb;  clear hb hbox hg; have hnb10 := NB322_323.out; have hnc10 := NB323_322.out; obtain ⟨hcz11_0, hcz11_1, hfz11_0, hfz11_1⟩ := bs2_ BK322; obtain ⟨hcz12_0, hcz12_1, hfz12_0, hfz12_1⟩ := bs2_ BK323) | (go_at_call 48; (with_reducible refine (q48.calls _ _ l0_0 _ _ l0_1 a1_0 t324 _ ?side1 ?side2 ?side3 ?side4 A3.out).mono ?_); (case side1 => exact kc_ HR0_0 HB); (case side2 => exact HC0_0.out); (case side3 => exact kc_ HR0_1 HB); (case side4 => exact HC0_1.out); rintro e w13 ⟨rfl, hb⟩; replace BK322 := bb_ BK322 hb; replace BK323 := bb_ BK323 hb; replace HB := hb_ HB hb;  (try clear hb); obtain ⟨hcz14_0, hcz14_1, hfz14_0, hfz14_1⟩ := bs2_ BK322; have p325 : 0 ≤ (t324 : Int) := od_; have q325 : t324 < (l0_1.length : Int) := od_; obtain ⟨ad325, A325_5, c325_5, A325_6, c325_6, e325, hx325_0, hx325_1, hx325_2, hx325_3, hx325_4, hx325_5, hx325_6, hl325_5, hi325_5, hl325_6, hi325_6⟩ := at_T48 HR0_1.out t324 p325 q325; cases e325; replace hx325_0 := rr_ HB hx325_0; replace hx325_1 := rr_ HB hx325_1; replace hx325_2 := rr_ HB hx325_2; replace hx325_3 := rr_ HB hx325_3; replace hx325_4 := rr_ HB hx325_4; replace hx325_5 := rr_ HB hx325_5; replace hx325_6 := rr_ HB hx325_6; have HR325_5 := q66.mk hi325_5; have HC325_5 := q66.mk hl325_5; clear hi325_5 hl325_5; have HR325_6 := q66.mk hi325_6; have HC325_6 := q66.mk hl325_6; clear hi325_6 hl325_6; replace p325 := eq_true p325; replace q325 := eq_true q325; obtain ⟨hcz15_0, hcz15_1, hfz15_0, hfz15_1⟩ := bs2_ BK323) | (go_at_call 93; (with_reducible refine (q45.calls k ((q89 l0_1 t324).f1) a1_1 t326 _ A7.out).mono ?_); rintro e w' ⟨rfl, ⟨nd, rfl⟩⟩; (try first | exact ⟨rfl, _, World.drewN_drewN _ _ _⟩ | exact ⟨rfl, _, Eq.trans (World.drewN_drewN _ _ _) (congrArg (World.drewN _) (Nat.add_assoc _ _ _))⟩))))
    go_ret
    exact ⟨er_, hf_⟩
   ·rw [if_neg c6] at H
    exact absurd H (by simp)
  ·rw [if_neg c5] at H
   exact absurd H (by simp)
 ·rw [if_neg c4] at H
  replace c4 := decide_eq_false c4
  obtain rfl := Option.some.inj H
  go_enter Try.func88, Try.ntmps88
  go_wp2_with (first | ((with_reducible refine q81 (N := 2) rfl ?_); refine bx_ 2 #[.slice A0_0 l0_0.length c0_0, .slice A0_1 l0_1.length c0_1] 25 ?_; intro gb322 hg w16 hbox hb; have BK322 := q66.mk (hbox); have GW322 := zz_ (w := w) hg; have GE322 := zz_ (w := w) hg; replace HB := hb_ HB hb;  clear hb hbox hg) | ((with_reducible refine q81 (N := 3) rfl ?_); refine bx_ 3 #[.string a1_0, .int .i64 a1_1] 103 ?_; intro gb323 hg w17 hbox hb; have BK323 := q66.mk (hbox); have GW323 := zz_ (w := w) hg; have GE323 := zz_ (w := w) hg; replace HB := hb_ HB hb; have NB322_323 := ne1_ hg BK322; have NB323_322 := ne2_ hg BK322; replace BK322 := bb_ BK322 hb;  clear hb hbox hg; have hnb18 := NB322_323.out; have hnc18 := NB323_322.out; obtain ⟨hcz19_0, hcz19_1, hfz19_0, hfz19_1⟩ := bs2_ BK322; obtain ⟨hcz20_0, hcz20_1, hfz20_0, hfz20_1⟩ := bs2_ BK323) | (go_at_call 48; (with_reducible refine (q48.calls _ _ l0_0 _ _ l0_1 a1_0 t324 _ ?side1 ?side2 ?side3 ?side4 A3.out).mono ?_); (case side1 => exact kc_ HR0_0 HB); (case side2 => exact HC0_0.out); (case side3 => exact kc_ HR0_1 HB); (case side4 => exact HC0_1.out); rintro e w21 ⟨rfl, hb⟩; replace BK322 := bb_ BK322 hb; replace BK323 := bb_ BK323 hb; replace HB := hb_ HB hb;  (try clear hb)))
  repeat (go_quiet (first | ((with_reducible refine q81 (N := 2) rfl ?_); refine bx_ 2 #[.slice A0_0 l0_0.length c0_0, .slice A0_1 l0_1.length c0_1] 25 ?_; intro gb322 hg w16 hbox hb; have BK322 := q66.mk (hbox); have GW322 := zz_ (w := w) hg; have GE322 := zz_ (w := w) hg; replace HB := hb_ HB hb;  clear hb hbox hg) | ((with_reducible refine q81 (N := 3) rfl ?_); refine bx_ 3 #[.string a1_0, .int .i64 a1_1] 103 ?_; intro gb323 hg w17 hbox hb; have BK323 := q66.mk (hbox); have GW323 := zz_ (w := w) hg; have GE323 := zz_ (w := w) hg; replace HB := hb_ HB hb; have NB322_323 := ne1_ hg BK322; have NB323_322 := ne2_ hg BK322; replace BK322 := bb_ BK322 hb;  clear hb hbox hg; have hnb18 := NB322_323.out; have hnc18 := NB323_322.out; obtain ⟨hcz19_0, hcz19_1, hfz19_0, hfz19_1⟩ := bs2_ BK322; obtain ⟨hcz20_0, hcz20_1, hfz20_0, hfz20_1⟩ := bs2_ BK323) | (go_at_call 48; (with_reducible refine (q48.calls _ _ l0_0 _ _ l0_1 a1_0 t324 _ ?side1 ?side2 ?side3 ?side4 A3.out).mono ?_); (case side1 => exact kc_ HR0_0 HB); (case side2 => exact HC0_0.out); (case side3 => exact kc_ HR0_1 HB); (case side4 => exact HC0_1.out); rintro e w21 ⟨rfl, hb⟩; replace BK322 := bb_ BK322 hb; replace BK323 := bb_ BK323 hb; replace HB := hb_ HB hb;  (try clear hb))); try go_wp2_with (first | ((with_reducible refine q81 (N := 2) rfl ?_); refine bx_ 2 #[.slice A0_0 l0_0.length c0_0, .slice A0_1 l0_1.length c0_1] 25 ?_; intro gb322 hg w16 hbox hb; have BK322 := q66.mk (hbox); have GW322 := zz_ (w := w) hg; have GE322 := zz_ (w := w) hg; replace HB := hb_ HB hb;  clear hb hbox hg) | ((with_reducible refine q81 (N := 3) rfl ?_); refine bx_ 3 #[.string a1_0, .int .i64 a1_1] 103 ?_; intro gb323 hg w17 hbox hb; have BK323 := q66.mk (hbox); have GW323 := zz_ (w := w) hg; have GE323 := zz_ (w := w) hg; replace HB := hb_ HB hb; have NB322_323 := ne1_ hg BK322; have NB323_322 := ne2_ hg BK322; replace BK322 := bb_ BK322 hb;  clear hb hbox hg; have hnb18 := NB322_323.out; have hnc18 := NB323_322.out; obtain ⟨hcz19_0, hcz19_1, hfz19_0, hfz19_1⟩ := bs2_ BK322; obtain ⟨hcz20_0, hcz20_1, hfz20_0, hfz20_1⟩ := bs2_ BK323) | (go_at_call 48; (with_reducible refine (q48.calls _ _ l0_0 _ _ l0_1 a1_0 t324 _ ?side1 ?side2 ?side3 ?side4 A3.out).mono ?_); (case side1 => exact kc_ HR0_0 HB); (case side2 => exact HC0_0.out); (case side3 => exact kc_ HR0_1 HB); (case side4 => exact HC0_1.out); rintro e w21 ⟨rfl, hb⟩; replace BK322 := bb_ BK322 hb; replace BK323 := bb_ BK323 hb; replace HB := hb_ HB hb;  (try clear hb))))
  go_ret
  exact ⟨er_, hf_⟩
def legalB (kind event : Int) : Bool :=
 if event = 1 ∨ event = 5 then decide (1 ≤ kind ∧ kind ≤ 5) else if event = 2 ∨ event = 3 then decide (kind = 1 ∨ kind = 2) else if event = 4 then decide (3 ≤ kind ∧ kind ≤ 5) else false
theorem legal_eq (a b : Int) : q45.f 2 a b = some (legalB a b) := by
 unfold q45.f legalB
 by_cases h1 : b = 1
 ·subst h1; simp only [q45.j0]; by_cases h2 : a ≥ 1 <;> by_cases h3 : a ≤ 5 <;> simp [h2, h3]
 by_cases h5 : b = 5
 ·subst h5; simp only [q45.j0]; by_cases h2 : a ≥ 1 <;> by_cases h3 : a ≤ 5 <;> simp [h2, h3]
 rw [if_neg h1, show (b == 5) = false by simpa using h5]
 simp only [q45.j0, Bool.false_eq_true, if_false]
 have h15 : ¬ (b = 1 ∨ b = 5) := by omega
 rw [if_neg h15]
 by_cases h2 : b = 2
 ·subst h2; simp only [q45.j1]; by_cases h3 : a = 1 <;> by_cases h4 : a = 2 <;> simp [h3, h4]
 by_cases h3 : b = 3
 ·subst h3; simp only [q45.j1]; by_cases h3 : a = 1 <;> by_cases h4 : a = 2 <;> simp [h3, h4]
 rw [if_neg h2, show (b == 3) = false by simpa using h3]
 simp only [q45.j1, Bool.false_eq_true, if_false]
 have h23 : ¬ (b = 2 ∨ b = 3) := by omega
 rw [if_neg h23]
 by_cases h4 : b = 4
 ·subst h4; by_cases h2 : a ≥ 3 <;> by_cases h3 : a ≤ 5 <;> simp [h2, h3]
 ·simp [h4]
theorem wrap_lt {i n : Int} (h0 : 0 ≤ i) (h : i < n) (hn : n ≤ 9223372036854775807) : wrap64 (i + 1) = i + 1 := by
 unfold wrap64
 omega
def memB (l : List ByteArray) (s : ByteArray) : Bool := l.any (fun x => s.toList == x.toList)
theorem rdOf_get {α : Type} (z : α) (l : List α) (i : Nat) (h : i < l.length) : rdOf z l (i : Int) = l[i] := by
 simp [rdOf, List.getD_eq_getElem?_getD, List.getElem?_eq_getElem h]
theorem index_any (l : List ByteArray) (s : ByteArray) (hn : l.length ≤ 9223372036854775807) (d : Nat) : ∀ (i k : Nat), i + d = l.length → d < k → ∃ r, q7.l0 k l s l.length i = some r ∧ decide (r ≥ 0) = (l.drop i).any (fun x => s.toList == x.toList) := by
  induction d with
  | zero =>
    intro i k hi hk
    obtain ⟨k, rfl⟩ : ∃ m, k = m + 1 := ⟨k - 1, by omega⟩
    refine ⟨-1, ?_, ?_⟩
    · simp only [q7.l0]
      rw [if_neg (by omega)]
    · rw [List.drop_of_length_le (by omega)]
      rfl
  | succ d ih =>
    intro i k hi hk
    obtain ⟨k, rfl⟩ : ∃ m, k = m + 1 := ⟨k - 1, by omega⟩
    have hlt : i < l.length := by omega
    simp only [q7.l0]
    rw [if_pos (by omega), if_pos (by omega), if_pos (by omega), rdOf_get _ _ _ hlt, List.drop_eq_getElem_cons hlt, List.any_cons]
    by_cases he : s.toList = l[i].toList
    · rw [if_pos he]
      refine ⟨i, rfl, ?_⟩
      rw [show (s.toList == l[i].toList) = true by simpa using he]
      simp
    · rw [if_neg he, show (s.toList == l[i].toList) = false by simpa using he, Bool.false_or, wrap_lt (n := (l.length : Int)) (by omega) (by omega) (by omega)]
      exact ih (i + 1) k (by omega) (by omega)
theorem contains_eq (l : List ByteArray) (s : ByteArray) (hn : l.length ≤ 9223372036854775807) (k : Nat) (hk : l.length < k) : q5.f k l s = some (memB l s) := by
 obtain ⟨r, hr, hd⟩ := index_any l s hn l.length 0 k (by omega) hk
 unfold q5.f q7.f
 have hr' : _ = some r := hr
 simp only [Int.natCast_zero, Int.ofNat_eq_natCast, Int.cast_ofNat_Int] at hr'
 rw [hr', Option.bind_some, hd]
 rfl
abbrev hasOn_p (a : ByteArray) (b : Int) (x : S103) : Bool := a.toList == x.f0.toList && (b == x.f1)
def hasOn (l : List (S103)) (a : ByteArray) (b : Int) : Bool := l.any (hasOn_p a b)
theorem hasOn_any (l : List (S103)) (a : ByteArray) (b : Int) (hn : l.length ≤ 9223372036854775807) (d : Nat) : ∀ (i k : Nat), i + d = l.length → d < k → ∃ r, q59.l0 k l l.length i a b = some r ∧ decide (r ≥ 0) = (l.drop i).any (hasOn_p a b) := by
  induction d with
  | zero =>
    intro i k hi hk
    obtain ⟨k, rfl⟩ : ∃ m, k = m + 1 := ⟨k - 1, by omega⟩
    refine ⟨-1, ?_, ?_⟩
    · simp only [q59.l0]
      rw [if_neg (by omega)]
    · rw [List.drop_of_length_le (by omega)]
      rfl
  | succ d ih =>
    intro i k hi hk
    obtain ⟨k, rfl⟩ : ∃ m, k = m + 1 := ⟨k - 1, by omega⟩
    have hlt : i < l.length := by omega
    have hrd : q87 l (i : Int) = l[i] := by simp [q87, List.getD_eq_getElem?_getD, List.getElem?_eq_getElem hlt]
    simp only [q59.l0]
    rw [if_pos (by omega), if_pos (by omega), if_pos (by omega), hrd, List.drop_eq_getElem_cons hlt, List.any_cons]
    cases he : hasOn_p a b l[i] with
    | true =>
      rw [if_pos he]
      exact ⟨i, rfl, by simp⟩
    | false =>
      rw [if_neg (show ¬ (hasOn_p a b l[i]) = true by rw [he]; simp), Bool.false_or, wrap_lt (n := (l.length : Int)) (by omega) (by omega) (by omega)]
      exact ih (i + 1) k (by omega) (by omega)
theorem hasOn_eq (l : List (S103)) (a : ByteArray) (b : Int) (hn : l.length ≤ 9223372036854775807) (k : Nat) (hk : l.length < k) : q55.f k l a b = some (hasOn l a b) := by
 obtain ⟨r, hr, hd⟩ := hasOn_any l a b hn l.length 0 k (by omega) hk
 unfold q55.f q59.f
 have hr' : _ = some r := hr
 simp only [Int.natCast_zero, Int.ofNat_eq_natCast, Int.cast_ofNat_Int] at hr'
 rw [hr', Option.bind_some, hd]
 rfl
def q85 (l : List (S48)) (id : ByteArray) : Int := fidx (q48.p id) l
theorem fidx_lt {α : Type} (p : α → Bool) (l : List α) : fidx p l < l.length := by
  unfold fidx
  cases h : l.findIdx? p with
  | none => show (-1 : Int) < _; omega
  | some i =>
    obtain ⟨hi, _⟩ := List.findIdx?_eq_some_iff_getElem.1 h
    show (i : Int) < _
    omega
theorem placeI_lt (l : List (S48)) (id : ByteArray) : q85 l id < l.length := fidx_lt _ _
def onB (l : List (S48)) (a : ByteArray) (b : Int) : Bool := if 0 ≤ q85 l a then legalB (q89 l (q85 l a)).f1 b else false
theorem isOn_eq (fs : List ByteArray) (l : List (S48)) (a : ByteArray) (b : Int) : q50.f 2 fs l a b = some (onB l a b) := by
 unfold q50.f onB q48.f
 rw [show fidx (q48.p a) l = q85 l a from rfl, Option.bind_some]
 by_cases h : 0 ≤ q85 l a
 ·rw [if_pos h, if_pos h, if_pos (placeI_lt l a), legal_eq, if_pos h]
  rfl
 ·rw [if_neg h, if_neg h]
def opsL : List ByteArray := [(⟨#[60]⟩ : ByteArray), (⟨#[60, 61]⟩ : ByteArray), (⟨#[61]⟩ : ByteArray), (⟨#[33, 61]⟩ : ByteArray), (⟨#[62, 61]⟩ : ByteArray), (⟨#[62]⟩ : ByteArray)]
def ifB (fs : List ByteArray) (file op : ByteArray) (n : Int) : Bool := memB opsL op && (memB fs file && decide (-1000000 ≤ n ∧ n ≤ 1000000))
theorem isIf_eq (fs : List ByteArray) (l : List (S48)) (a b : ByteArray) (c : Int) (hn : fs.length ≤ 9223372036854775807) (k : Nat) (hk : fs.length < k) (hk6 : 6 < k) : q49.f k fs l a b c = some (ifB fs a b c) := by
 unfold q49.f ifB
 rw [show ([(⟨#[60]⟩ : ByteArray), (⟨#[60, 61]⟩ : ByteArray), (⟨#[61]⟩ : ByteArray), (⟨#[33, 61]⟩ : ByteArray), (⟨#[62, 61]⟩ : ByteArray), (⟨#[62]⟩ : ByteArray)] : List ByteArray) = opsL by rfl, contains_eq opsL b (by decide) k hk6, contains_eq fs a hn k hk, Option.bind_some, Option.bind_some]
 cases memB opsL b <;> cases memB fs a <;> simp
 by_cases h : c ≥ -1000000 <;> by_cases h2 : c ≤ 1000000 <;> simp [h, h2] <;> omega
def bits (n m : Nat) : Array Bool := ((List.range n).map (fun i => m.testBit i)).toArray
section
variable {P : Program} {md : Region.Mode} {ops : Array Oper} {Q : Exit → Act → World → Prop} {S : World → Prop} {ds : List Nat}
theorem st_ {id : Nat} {a : Act} {w : World} (S : World → Prop) (n : Nat) (hS : S w.drew) (h : S w.drew → q92 P .any ops Q S [] n (bits n 0) a w.drew)
 (hm : P.follows .mixedOrders = true := by kernel_rfl) (hn : ops.size = n := by exact rfl) (hl : Array.replicate n false = bits n 0 := by kernel_rfl) : (Code.region id ops true).wp P Q a w :=
 start_ (bits n 0) hm hn hl hS h
theorem pu_ {n m fuel : Nat} {oi : Oper} {v : Value} {a a' : Act} {w : World} (i : Nat) (N : Option Tmp) (h : q92 P md ops Q S ds fuel (bits n (m ||| 1 <<< i)) a' w)
 (hi : ops[i]? = some oi := by exact rfl) (hN : oi.dst = N := by exact rfl) (hc : anyB md ops (bits n m) (bits n (m ||| 1 <<< i)) i = true := by kernel_rfl)
 (hw : Region.wanted oi (yielded ops a.tmps) = true := by exact rfl) (hy : ∀ w', (execOp a.eval oi).run P w' = .ok (.value v) w' := by (intro w'; go_simp; with_reducible rfl))
 (ha : a.put N v = a' := by (simp only [Act.put, List.setIfInBounds_toArray, List.set_cons_zero, List.set_cons_succ, i64_w, i32_w]; rfl))
 (hQ : ∀ c a w, Q (.panic c) (a.put oi.dst v) w → Q (.panic c) a w := by exact fun _ _ _ h => h) : q92 P md ops Q S ds (fuel + 1) (bits n m) a w :=
 pure_ _ hi hN hc hQ (Or.inl ⟨hw, hy⟩) ha h
theorem sk_ {n m fuel : Nat} {oi : Oper} {a a' : Act} {w : World} (i : Nat) (N : Option Tmp) (h : q92 P md ops Q S ds fuel (bits n (m ||| 1 <<< i)) a' w)
 (hi : ops[i]? = some oi := by exact rfl) (hN : oi.dst = N := by exact rfl) (hc : anyB md ops (bits n m) (bits n (m ||| 1 <<< i)) i = true := by kernel_rfl)
 (hw : Region.wanted oi (yielded ops a.tmps) = false := by exact rfl)
 (ha : a.put N undef = a' := by (simp only [Act.put, List.setIfInBounds_toArray, List.set_cons_zero, List.set_cons_succ, i64_w, i32_w]; rfl))
 (hQ : ∀ c a w, Q (.panic c) (a.put oi.dst undef) w → Q (.panic c) a w := by exact fun _ _ _ h => h) : q92 P md ops Q S ds (fuel + 1) (bits n m) a w :=
 pure_ _ hi hN hc hQ (Or.inr ⟨hw, rfl⟩) ha h
theorem tk_ {n m fuel : Nat} {oi : Oper} {v : Value} {a a' : Act} {w : World} (i : Nat) (N : Option Tmp) (hS : S w) (h : q92 P md ops Q S ds fuel (bits n (m ||| 1 <<< i)) a' w)
 (hi : ops[i]? = some oi := by exact rfl) (hN : oi.dst = N := by exact rfl) (hc : takeB md ops ds (bits n m) (bits n (m ||| 1 <<< i)) i = true := by kernel_rfl)
 (hw : Region.wanted oi (yielded ops a.tmps) = true := by exact rfl) (hy : ∀ w', S w' → (execOp a.eval oi).run P w' = .ok (.value v) w')
 (ha : a.put N v = a' := by (simp only [Act.put, List.setIfInBounds_toArray, List.set_cons_zero, List.set_cons_succ, i64_w, i32_w]; rfl))
 (hQ : ∀ c a w, Q (.panic c) (a.put oi.dst v) w → Q (.panic c) a w := by exact fun _ _ _ h => h) : q92 P md ops Q S ds (fuel + 1) (bits n m) a w :=
 take_ _ hi hN hc hQ (Or.inl ⟨hw, hy⟩) hS ha h
theorem ca_ {n m fuel : Nat} {oi : Oper} {a : Act} {w : World} {f : FuncId} {fn : Func} {os : Array Operand} {ts : Array TypeId} (i : Nat) (N : Option Tmp) (hf : P.funcs[f]? = some fn) (args : Array Value)
 (h : Calls P f args w fun e w' => ∃ v, e = .returned v ∧ S w' ∧ (S w' → ∃ a', a.put N v = a' ∧ q92 P md ops Q S ds fuel (bits n (m ||| 1 <<< i)) a' w'))
 (hi : ops[i]? = some oi := by exact rfl) (hN : oi.dst = N := by exact rfl) (hc : readyB md ops (bits n m) (bits n (m ||| 1 <<< i)) i = true := by kernel_rfl) (hd : i ∉ ds := by decide)
 (hop : oi.op = .call { callee := .value (.func f), args := os, argTypes := ts } := by exact rfl) (hargs : os.map a.eval = args := by ((try simp only [List.map_toArray, List.map_cons, List.map_nil]); first | done | rfl))
 (hw : Region.wanted oi (yielded ops a.tmps) = true := by exact rfl)
 (hname : (fn.name == "runtime.NumGoroutine") = false := by kernel_rfl) (hb : fn.body.isSome = true := by exact rfl) : q92 P md ops Q S ds (fuel + 1) (bits n m) a w :=
 one_ _ hi hN hc hd fun K hK => goes_ hf hname hb args hw hN hop hargs (h.mono fun e w' hh => by
  obtain ⟨v, rfl, hS, hW⟩ := hh
  refine ⟨v, rfl, hK.out _ _ hS fun hs => ?_⟩
  obtain ⟨a', rfl, h'⟩ := hW hs
  exact h')
theorem dn_ {n m : Nat} {a : Act} {w : World} {k : Nat} (h : Q .normal a w) (hr : (Region.ready md ops (bits n m) == []) = true := by kernel_rfl) : q92 P md ops Q S ds k (bits n m) a w := done_ hr h
end
section
variable {P : Program} {md : Region.Mode} {ops : Array Oper} {Q : Exit → Act → World → Prop} {S : World → Prop} {ds : List Nat}
theorem oN_ {n m fuel : Nat} {oi : Oper} {a : Act} {w : World} (i : Nat) (N : Option Tmp)
 (h : ∀ K : Act → World → Prop, Shut (∀ a' w', S w' → (S w' → q92 P md ops Q S ds fuel (bits n (m ||| 1 <<< i)) a' w') → K a' w') → if Region.wanted oi (yielded ops a.tmps) = true then Oper.wp P oi a w K Q else K (a.put N undef) w)
 (hi : ops[i]? = some oi := by exact rfl) (hN : oi.dst = N := by exact rfl) (hc : readyB md ops (bits n m) (bits n (m ||| 1 <<< i)) i = true := by kernel_rfl) (hd : i ∉ ds := by decide) : q92 P md ops Q S ds (fuel + 1) (bits n m) a w :=
 one_ _ hi hN hc hd h
theorem tW_ {n m fuel : Nat} {oi oj : Oper} {a : Act} {w : World} (i j : Nat) (Ni Nj : Option Tmp)
 (h1 : ∀ K : Act → World → Prop, Shut (∀ a' w', S w' → (S w' → q92 P md ops Q S ds fuel (bits n (m ||| 1 <<< i)) a' w') → K a' w') → if Region.wanted oi (yielded ops a.tmps) = true then Oper.wp P oi a w K Q else K (a.put Ni undef) w)
 (h2 : ∀ K : Act → World → Prop, Shut (∀ a' w', S w' → (S w' → q92 P md ops Q S ds fuel (bits n (m ||| 1 <<< j)) a' w') → K a' w') → if Region.wanted oj (yielded ops a.tmps) = true then Oper.wp P oj a w K Q else K (a.put Nj undef) w)
 (hi : ops[i]? = some oi := by exact rfl) (hj : ops[j]? = some oj := by exact rfl) (hNi : oi.dst = Ni := by exact rfl) (hNj : oj.dst = Nj := by exact rfl)
 (hc : (Region.ready md ops (bits n m) == [i, j] && (bits n m).setIfInBounds i true == bits n (m ||| 1 <<< i) && (bits n m).setIfInBounds j true == bits n (m ||| 1 <<< j)) = true := by kernel_rfl) (hdi : i ∉ ds := by decide) (hdj : j ∉ ds := by decide) : q92 P md ops Q S ds (fuel + 1) (bits n m) a w :=
 two_ _ _ hi hj hNi hNj hc hdi hdj h1 h2
theorem sD_ {id : Nat} {a : Act} {w : World} (ds : List Nat) (S : World → Prop) (n : Nat) (hS : S w.drew) (h : S w.drew → q92 P .any ops Q S ds n (bits n 0) a w.drew)
 (hm : P.follows .mixedOrders = true := by kernel_rfl) (hn : ops.size = n := by exact rfl) (hl : Array.replicate n false = bits n 0 := by kernel_rfl) : (Code.region id ops true).wp P Q a w :=
 start_ (bits n 0) hm hn hl hS h
theorem lA_ {n m fuel : Nat} {oi : Oper} {a : Act} {w : World} (i : Nat) (N : Option Tmp)
 (h : ∀ K : Act → World → Prop, Shut (∀ a' w', q92 P md ops Q S ds fuel (bits n (m ||| 1 <<< i)) a' w' → K a' w') → if Region.wanted oi (yielded ops a.tmps) = true then Oper.wp P oi a w K Q else K (a.put N undef) w)
 (hi : ops[i]? = some oi := by exact rfl) (hN : oi.dst = N := by exact rfl) (hc : readyB md ops (bits n m) (bits n (m ||| 1 <<< i)) i = true := by kernel_rfl) (hd : i ∈ ds := by decide) : q92 P md ops Q S ds (fuel + 1) (bits n m) a w :=
 last_ _ hi hN hc hd h
end
def onOk (l : List (S48)) (on : List (S103)) (i : Nat) : Bool := onB l (q87 on i).f0 (q87 on i).f1 && !hasOn (on.take i) (q87 on i).f0 (q87 on i).f1
def ifsOk (fs : List ByteArray) (l : List (S50)) : Bool := !l.any (fun c => !ifB fs c.f0 c.f1 c.f2)
def sentryB (fs : List ByteArray) (l : List (S48)) (on : List (S103)) (ifs : List (S50)) : Bool :=
 decide (on.length ≤ 3 ∧ ifs.length ≤ 2 ∧ on.length + ifs.length ≠ 0) && ((List.range on.length).all (onOk l on) && ifsOk fs ifs)
def q34.f (l0_0 : List ByteArray) (l0_1 : List (S48)) (l1_0 : List (S103)) (l1_1 : List (S50)) : Option Bool := some (sentryB l0_0 l0_1 l1_0 l1_1)
theorem q83 {w1 w' : World} {a : Addr} {v : Value} (hb : Below w1.heap.size w1 w') (hc : w1.cell? a = some v) : w'.cell? a = some v := (hb.cell (World.block_lt_of_cell? _ _ hc)).trans hc
theorem q82 {w w1 w' : World} (hb : Below w1.heap.size w1 w') (hB : Below w.heap.size w w1) : Below w.heap.size w w' := q70 hB hB.size hb
theorem q34.eg : ∀ args w, (callFunc 91 args).run Try.prog w = .ok (.enter 91 args) w := enters_of Try.func91 (by kernel_rfl) rfl
set_option maxHeartbeats 4000000 in
theorem q34.closure (b : Nat) (A0_0 : Option Addr) (c0_0 : Nat) (l0_0 : List ByteArray) (A0_1 : Option Addr) (c0_1 : Nat) (l0_1 : List (S48)) (W : World) (hm0 : W.cell? ⟨b, 0, none⟩ = some (.slice A0_0 l0_0.length c0_0)) (hm1 : W.cell? ⟨b, 1, none⟩ = some (.slice A0_1 l0_1.length c0_1))
 (hr0_0 : Kd.C Kd.string W A0_0 l0_0.length l0_0) (hc0_0 : l0_0.length ≤ c0_0) (hr0_1 : Kd.C k48 W A0_1 l0_1.length l0_1) (hc0_1 : l0_1.length ≤ c0_1) (x : S50) (cs : List Value) (hK : Kd.K k50 W x cs) :
 Calls Try.prog 91 (#[.agg cs.toArray] ++ #[.pointer (some ⟨b, 0, none⟩)]) W fun e w' => e = .returned (.bool (!ifB l0_0 x.f0 x.f1 x.f2)) ∧ Below W.heap.size W w' := by
 obtain rfl := k50_open hK
 have hb := World.block_lt_of_cell? W _ hm0
 simp only at hb
 have hW1 := q67 (Below.refl W.heap.size W) (.cells #[.string x.f0, .string x.f1, .int .i64 x.f2] 50)
 have hif := q49.calls (l0_0.length + 7) A0_0 c0_0 l0_0 A0_1 c0_1 l0_1 x.f0 x.f1 x.f2 _ _ (Kd.C_below hr0_0 hW1) hc0_0 (Kd.C_below hr0_1 hW1) hc0_1 (isIf_eq l0_0 l0_1 x.f0 x.f1 x.f2 hr0_0.2.1 (l0_0.length + 7) (by omega) (by omega))
 have HW := Lib.hid hW1
 clear hr0_0 hr0_1 hW1 hK
 obtain ⟨T, hT⟩ : ∃ T, T = ifB l0_0 x.f0 x.f1 x.f2 := ⟨_, rfl⟩
 rw [← hT] at hif ⊢
 clear hT
 have hu36 := Try.underlying25
 have hu25 := Try.underlying50
 go_enter Try.func91, Try.ntmps91
 go_wp2_with (go_at_call 92; refine hif.mono ?_; rintro e w' ⟨rfl, hb'⟩)
 go_ret
 exact ⟨rfl, q82 hb' HW.out⟩
set_option maxHeartbeats 8000000 in
set_option maxRecDepth 100000 in
theorem q34.calls (A0_0 : Option Addr) (c0_0 : Nat) (l0_0 : List ByteArray) (A0_1 : Option Addr) (c0_1 : Nat) (l0_1 : List (S48)) (A1_0 : Option Addr) (c1_0 : Nat) (l1_0 : List (S103)) (A1_1 : Option Addr) (c1_1 : Nat) (l1_1 : List (S50)) (r : Bool) (w : World) (hr0_0 : Kd.C Kd.string w A0_0 l0_0.length l0_0) (hc0_0 : l0_0.length ≤ c0_0) (hr0_1 : Kd.C k48 w A0_1 l0_1.length l0_1) (hc0_1 : l0_1.length ≤ c0_1) (hr1_0 : Kd.C k103 w A1_0 l1_0.length l1_0) (hc1_0 : l1_0.length ≤ c1_0) (hr1_1 : Kd.C k50 w A1_1 l1_1.length l1_1) (hc1_1 : l1_1.length ≤ c1_1) (h : q34.f l0_0 l0_1 l1_0 l1_1 = some r) :
    Calls Try.prog 85 #[.agg #[.slice A0_0 l0_0.length c0_0, .slice A0_1 l0_1.length c0_1], .agg #[.slice A1_0 l1_0.length c1_0, .slice A1_1 l1_1.length c1_1]] w fun e w' => e = .returned (.bool r) ∧ Below w.heap.size w w' := by
  obtain rfl := Option.some.inj h
  clear h
  have hu36 := Try.underlying25
  have hu29 := Try.underlying54
  have hu39 := Try.underlying103
  have hbound : l1_0.length ≤ 9223372036854775807 ∧ l1_1.length ≤ 9223372036854775807 := ⟨hr1_0.2.1, hr1_1.2.1⟩
  by_cases hA : 3 < l1_0.length
  · have e : sentryB l0_0 l0_1 l1_0 l1_1 = false := by simp [sentryB]; omega
    rw [e]
    have hA' : (3 : Int) < l1_0.length := by omega
    clear hr0_0 hr0_1 hr1_0 hr1_1 e hbound
    go_enter Try.func85, Try.ntmps85
    go_wp2
    go_ret
    exact ⟨rfl, q67 (q67 (Below.refl _ _) _) _⟩
  have hA' : ¬ (3 : Int) < l1_0.length := by omega
  by_cases hB : 2 < l1_1.length
  · have e : sentryB l0_0 l0_1 l1_0 l1_1 = false := by simp [sentryB]; omega
    rw [e]
    have hB' : (2 : Int) < l1_1.length := by omega
    clear hr0_0 hr0_1 hr1_0 hr1_1 e hbound
    go_enter Try.func85, Try.ntmps85
    go_wp2
    go_ret
    exact ⟨rfl, q67 (q67 (Below.refl _ _) _) _⟩
  have hB' : ¬ (2 : Int) < l1_1.length := by omega
  by_cases hC : l1_0.length + l1_1.length = 0
  · have h1 : l1_0 = [] := List.eq_nil_of_length_eq_zero (by omega)
    have h2 : l1_1 = [] := List.eq_nil_of_length_eq_zero (by omega)
    subst h1 h2
    have e : sentryB l0_0 l0_1 [] [] = false := by simp [sentryB]
    rw [e]
    clear hr0_0 hr0_1 hr1_0 hr1_1 e hbound hA hA' hB hB' hC
    go_enter Try.func85, Try.ntmps85
    go_wp2
    go_ret
    exact ⟨rfl, q67 (q67 (Below.refl _ _) _) _⟩
  have hC' : (((l1_0.length : Int) + (l1_1.length : Int)) == 0) = false := by
    have : ((l1_0.length : Int) + (l1_1.length : Int)) ≠ 0 := by omega
    simpa using this
  have HR := Lib.hid (And.intro hr0_0 (And.intro hr0_1 (And.intro hr1_0 hr1_1)))
  clear hr0_0 hr0_1 hr1_0 hr1_1
  obtain ⟨n, hn⟩ : ∃ n, n = l1_0.length := ⟨_, rfl⟩
  obtain ⟨m, hm⟩ : ∃ m, m = l1_1.length := ⟨_, rfl⟩
  have HN := Lib.hid (And.intro hn hm)
  rw [← hn] at hbound hA hA' hC hC' hc1_0 ⊢
  rw [← hm] at hbound hB hB' hC hC' hc1_1 ⊢
  clear hn hm
  have hn3 : (n : Int) ≤ 3 := by omega
  have hm2 : (m : Int) ≤ 2 := by omega
  go_enter Try.func85, Try.ntmps85
  go_wp2
  obtain ⟨W1, hW1⟩ : ∃ W1, W1 = (w.alloc (.cells #[.slice A0_0 l0_0.length c0_0, .slice A0_1 l0_1.length c0_1] 25)).alloc (.cells #[.slice A1_0 n c1_0, .slice A1_1 m c1_1] 54) := ⟨_, rfl⟩
  have hb1 : Below w.heap.size w W1 := by rw [hW1]; exact q67 (q67 (Below.refl _ _) _) _
  have hm0 : W1.cell? ⟨w.heap.size, 0, none⟩ = some (.slice A0_0 l0_0.length c0_0) := by rw [hW1]; simp
  have hm1 : W1.cell? ⟨w.heap.size, 1, none⟩ = some (.slice A0_1 l0_1.length c0_1) := by rw [hW1]; simp
  have hs0 : W1.cell? ⟨w.heap.size + 1, 0, none⟩ = some (.slice A1_0 n c1_0) := by rw [hW1]; simp
  have hs1 : W1.cell? ⟨w.heap.size + 1, 1, none⟩ = some (.slice A1_1 m c1_1) := by rw [hW1]; simp
  have hsz : W1.heap.size = w.heap.size + 2 := by rw [hW1]; simp
  rw [← hW1]
  have H1 := Lib.hid (And.intro hb1 (And.intro hm0 (And.intro hm1 (And.intro hs0 (And.intro hs1 hsz)))))
  clear hW1 hb1 hm0 hm1 hs0 hs1 hsz
  go_loopg [30] n (fun gg s30 wr => ∃ i : Nat, i ≤ n ∧ n - i ≤ gg ∧ s30 = .int .i64 i ∧ Hid (Below W1.heap.size W1 wr ∧ ∀ j, j < i → onOk l0_1 l1_0 j = true))
  case atStart => exact ⟨0, Nat.zero_le _, by omega, rfl, Lib.hid ⟨Below.refl _ _, fun j hj => absurd hj (Nat.not_lt_zero _)⟩⟩
  case round =>
    obtain ⟨i, hin, hig, rfl, X⟩ := hrel
    have hbw : Below w.heap.size w wr := q70 H1.out.1 H1.out.1.size X.out.1
    have HBW := Lib.hid hbw
    clear hbw
    by_cases hlt : i < n
    · have hltz : (i : Int) < (n : Int) := by omega
      obtain ⟨ad, e, hx0, hx1⟩ := at_T103 HR.out.2.2.1 (i : Int) (by omega) (by have := HN.out; omega)
      cases e
      simp only [Int.toNat_natCast] at hx0 hx1
      obtain ⟨x, hx⟩ : ∃ x, x = q87 l1_0 (i : Int) := ⟨_, rfl⟩
      rw [← hx] at hx0 hx1
      have HX := Lib.hid hx
      clear hx
      replace hx0 := (HBW.out.cell (World.block_lt_of_cell? w _ hx0)).trans hx0
      replace hx1 := (HBW.out.cell (World.block_lt_of_cell? w _ hx1)).trans hx1
      go_wp2
      clear hx0 hx1
      obtain ⟨W2, hW2⟩ : ∃ W2, W2 = wr.alloc (.cells #[.string x.f0, .int .i64 x.f1] 103) := ⟨_, rfl⟩
      have hb2 : Below wr.heap.size wr W2 := by rw [hW2]; exact q67 (Below.refl _ _) _
      have hx0 : W2.cell? ⟨wr.heap.size, 0, none⟩ = some (.string x.f0) := by rw [hW2]; simp
      have hx1 : W2.cell? ⟨wr.heap.size, 1, none⟩ = some (.int .i64 x.f1) := by rw [hW2]; simp
      rw [← hW2]
      clear hW2
      have hlo : w.heap.size + 2 ≤ wr.heap.size := by have := X.out.1.size; have := H1.out.2.2.2.2.2; omega
      have hm0 : W2.cell? ⟨w.heap.size, 0, none⟩ = some (.slice A0_0 l0_0.length c0_0) := (hb2.cell (p := ⟨_, _, none⟩) (by simp only; omega)).trans ((X.out.1.cell (p := ⟨_, _, none⟩) (by simp only; have := H1.out.2.2.2.2.2; omega)).trans H1.out.2.1)
      have hm1 : W2.cell? ⟨w.heap.size, 1, none⟩ = some (.slice A0_1 l0_1.length c0_1) := (hb2.cell (p := ⟨_, _, none⟩) (by simp only; omega)).trans ((X.out.1.cell (p := ⟨_, _, none⟩) (by simp only; have := H1.out.2.2.2.2.2; omega)).trans H1.out.2.2.1)
      have hs0 : W2.cell? ⟨w.heap.size + 1, 0, none⟩ = some (.slice (some ad) n c1_0) := (hb2.cell (p := ⟨_, _, none⟩) (by simp only; omega)).trans ((X.out.1.cell (p := ⟨_, _, none⟩) (by simp only; have := H1.out.2.2.2.2.2; omega)).trans H1.out.2.2.2.1)
      have hbw2 : Below w.heap.size w W2 := q70 HBW.out HBW.out.size hb2
      have hon := fun (W : World) (hb : Below w.heap.size w W) => q50.calls 2 _ c0_0 l0_0 _ c0_1 l0_1 x.f0 x.f1 _ W (Kd.C_below HR.out.1 hb) hc0_0 (Kd.C_below HR.out.2.1 hb) hc0_1 (isOn_eq l0_0 l0_1 x.f0 x.f1)
      have hin2 : i ≤ c1_0 := by omega
      have el : (l1_0.take i).length = i := by rw [List.length_take]; have := HN.out; omega
      have hhas : ∀ (W : World), Below w.heap.size w W → Calls Try.prog 89 #[.slice (some ad) i c1_0, .agg #[.string x.f0, .int .i64 x.f1]] W fun e w' => e = .returned (.bool (hasOn (l1_0.take i) x.f0 x.f1)) ∧ Below W.heap.size W w' := fun W hb => by
        have := q55.calls (n + 1) (some ad) c1_0 (l1_0.take i) x.f0 x.f1 _ W (Kd.C_below (Kd.C_take HR.out.2.2.1 (show i ≤ l1_0.length by have := HN.out; omega)) hb) (by rw [el]; omega) (hasOn_eq (l1_0.take i) x.f0 x.f1 (by rw [el]; omega) (n + 1) (by rw [el]; omega))
        rw [el] at this
        exact this
      have hxo : onOk l0_1 l1_0 i = (onB l0_1 x.f0 x.f1 && !hasOn (l1_0.take i) x.f0 x.f1) := by rw [HX.out]; rfl
      have HXO := Lib.hid hxo
      have HON := Lib.hid hon
      have HHAS := Lib.hid hhas
      clear hxo hon hhas el
      cases hq : onB l0_1 x.f0 x.f1 with
      | false =>
        have hon := HON.out
        rw [hq] at hon HXO
        clear hq HON HHAS
        refine st_ (fun w' => (w'.cell? ⟨w.heap.size, 0, none⟩ = some (.slice A0_0 l0_0.length c0_0) ∧ w'.cell? ⟨w.heap.size, 1, none⟩ = some (.slice A0_1 l0_1.length c0_1) ∧ w'.cell? ⟨w.heap.size + 1, 0, none⟩ = some (.slice (some ad) n c1_0) ∧ w'.cell? ⟨wr.heap.size, 0, none⟩ = some (.string x.f0) ∧ w'.cell? ⟨wr.heap.size, 1, none⟩ = some (.int .i64 x.f1)) ∧ Below W2.heap.size W2 w') 12 ⟨⟨hm0, hm1, hs0, hx0, hx1⟩, q68 (Below.refl _ _)⟩ (fun hHeld => ?_)
        generalize W2.drew = W3 at hHeld ⊢
        refine tk_ 0 (some 35) hHeld ?_ (hy := by rintro w' ⟨⟨s0, s1, s2, s3, s4⟩, _⟩; go_simp; with_reducible rfl)
        refine tk_ 1 (some 36) hHeld ?_ (hy := by rintro w' ⟨⟨s0, s1, s2, s3, s4⟩, _⟩; go_simp; with_reducible rfl)
        refine oN_ 2 (some 37) (fun K hK => ?_)
        refine goes_ Try.func88 (by kernel_rfl) rfl #[.agg #[.slice A0_0 l0_0.length c0_0, .slice A0_1 l0_1.length c0_1], .agg #[.string x.f0, .int .i64 x.f1]] (by rfl) rfl rfl (by (try simp only [List.map_toArray, List.map_cons, List.map_nil]); first | done | rfl) ?_
        with_reducible refine (hon _ (q82 hHeld.2 hbw2)).mono ?_
        rintro e w' ⟨rfl, hb'⟩
        refine ⟨_, rfl, ?_⟩
        refine hK.out _ _ ⟨⟨q83 hb' hHeld.1.1, q83 hb' hHeld.1.2.1, q83 hb' hHeld.1.2.2.1, q83 hb' hHeld.1.2.2.2.1, q83 hb' hHeld.1.2.2.2.2⟩, q82 hb' hHeld.2⟩ (fun hHeld => ?_)
        clear hK K
        refine nz_ (some 37) ?_
        refine pu_ 3 (some 38) ?_
        refine pu_ 4 (some 39) ?_
        refine sk_ 5 (some 40) ?_
        refine sk_ 6 (some 41) ?_
        refine sk_ 7 (some 42) ?_
        refine sk_ 8 (some 43) ?_
        refine sk_ 9 (some 44) ?_
        refine sk_ 10 (some 45) ?_
        refine pu_ 11 (some 46) ?_
        refine dn_ ?_
        have hbx := q82 hHeld.2 hbw2
        have he : sentryB l0_0 l0_1 l1_0 l1_1 = false := by
          have h1 : (List.range l1_0.length).all (onOk l0_1 l1_0) = false := List.all_eq_false.2 ⟨i, List.mem_range.2 (by have := HN.out; omega), by rw [HXO.out]; simp⟩
          simp [sentryB, h1]
        have HE := Lib.hid he
        clear hHeld he
        go_wp2
        go_ret
        exact ⟨by rw [HE.out]; rfl, hbx⟩
      | true =>
        have hon := HON.out
        have hhas := HHAS.out
        rw [hq] at hon HXO
        clear hq HON HHAS
        have p0 : (0 : Int) ≤ i := by omega
        have p1 : (i : Int) ≤ n := by omega
        have p2 : (i : Int) ≤ c1_0 := by omega
        refine st_ (fun w' => (w'.cell? ⟨w.heap.size, 0, none⟩ = some (.slice A0_0 l0_0.length c0_0) ∧ w'.cell? ⟨w.heap.size, 1, none⟩ = some (.slice A0_1 l0_1.length c0_1) ∧ w'.cell? ⟨w.heap.size + 1, 0, none⟩ = some (.slice (some ad) n c1_0) ∧ w'.cell? ⟨wr.heap.size, 0, none⟩ = some (.string x.f0) ∧ w'.cell? ⟨wr.heap.size, 1, none⟩ = some (.int .i64 x.f1)) ∧ Below W2.heap.size W2 w') 12 ⟨⟨hm0, hm1, hs0, hx0, hx1⟩, q68 (Below.refl _ _)⟩ (fun hHeld => ?_)
        generalize W2.drew = W3 at hHeld ⊢
        refine tk_ 0 (some 35) hHeld ?_ (hy := by rintro w' ⟨⟨s0, s1, s2, s3, s4⟩, _⟩; go_simp; with_reducible rfl)
        refine tk_ 1 (some 36) hHeld ?_ (hy := by rintro w' ⟨⟨s0, s1, s2, s3, s4⟩, _⟩; go_simp; with_reducible rfl)
        refine oN_ 2 (some 37) (fun K hK => ?_)
        refine goes_ Try.func88 (by kernel_rfl) rfl #[.agg #[.slice A0_0 l0_0.length c0_0, .slice A0_1 l0_1.length c0_1], .agg #[.string x.f0, .int .i64 x.f1]] (by rfl) rfl rfl (by (try simp only [List.map_toArray, List.map_cons, List.map_nil]); first | done | rfl) ?_
        with_reducible refine (hon _ (q82 hHeld.2 hbw2)).mono ?_
        rintro e w' ⟨rfl, hb'⟩
        refine ⟨_, rfl, ?_⟩
        refine hK.out _ _ ⟨⟨q83 hb' hHeld.1.1, q83 hb' hHeld.1.2.1, q83 hb' hHeld.1.2.2.1, q83 hb' hHeld.1.2.2.2.1, q83 hb' hHeld.1.2.2.2.2⟩, q82 hb' hHeld.2⟩ (fun hHeld => ?_)
        clear hK K
        refine nz_ (some 37) ?_
        refine pu_ 3 (some 38) ?_
        refine pu_ 4 (some 39) ?_
        refine pu_ 5 (some 40) ?_
        refine tk_ 6 (some 41) hHeld ?_ (hy := by rintro w' ⟨⟨s0, s1, s2, s3, s4⟩, _⟩; go_simp; with_reducible rfl)
        refine pu_ 7 (some 42) ?_
        refine pu_ 8 (some 43) ?_
        refine tk_ 9 (some 44) hHeld ?_ (hy := by rintro w' ⟨⟨s0, s1, s2, s3, s4⟩, _⟩; go_simp; with_reducible rfl)
        refine oN_ 10 (some 45) (fun K hK => ?_)
        refine goes_ Try.func89 (by kernel_rfl) rfl #[.slice (some ad) i c1_0, .agg #[.string x.f0, .int .i64 x.f1]] (by rfl) rfl rfl (by (try simp only [List.map_toArray, List.map_cons, List.map_nil]); first | done | rfl) ?_
        with_reducible refine (hhas _ (q82 hHeld.2 hbw2)).mono ?_
        rintro e w' ⟨rfl, hb'⟩
        refine ⟨_, rfl, ?_⟩
        refine hK.out _ _ ⟨⟨q83 hb' hHeld.1.1, q83 hb' hHeld.1.2.1, q83 hb' hHeld.1.2.2.1, q83 hb' hHeld.1.2.2.2.1, q83 hb' hHeld.1.2.2.2.2⟩, q82 hb' hHeld.2⟩ (fun hHeld => ?_)
        clear hK K
        refine nz_ (some 45) ?_
        refine pu_ 11 (some 46) ?_
        refine dn_ ?_
        have hbx := q82 hHeld.2 hbw2
        have HS := Lib.hid hHeld
        have HSB := Lib.hid hbx
        clear hHeld hbx p0 p1 p2 hhas hon
        cases hq2 : hasOn (l1_0.take i) x.f0 x.f1 with
        | true =>
          rw [hq2] at HXO
          have he : sentryB l0_0 l0_1 l1_0 l1_1 = false := by
            have h1 : (List.range l1_0.length).all (onOk l0_1 l1_0) = false := List.all_eq_false.2 ⟨i, List.mem_range.2 (by have := HN.out; omega), by rw [HXO.out]; simp⟩
            simp [sentryB, h1]
          have HE := Lib.hid he
          clear he hq2
          go_wp2
          go_ret
          exact ⟨by rw [HE.out]; rfl, HSB.out⟩
        | false =>
          rw [hq2] at HXO
          clear hq2
          go_wp2
          go_roundg (n - (i + 1))
          case measure => omega
          case rel =>
            refine ⟨i + 1, by omega, by omega, by go_num, Lib.hid ⟨?_, fun j hj => ?_⟩⟩
            · have hb3 := q70 X.out.1 X.out.1.size hb2
              exact q70 hb3 hb3.size HS.out.2
            · by_cases e : j = i
              · subst e; rw [HXO.out]; rfl
              · exact X.out.2 j (by omega)
    · have hltz : ¬ (i : Int) < (n : Int) := by omega
      obtain rfl : i = n := by omega
      have hsz := H1.out.2.2.2.2.2
      have hm0 : wr.cell? ⟨w.heap.size, 0, none⟩ = some (.slice A0_0 l0_0.length c0_0) := (X.out.1.cell (p := ⟨_, _, none⟩) (by simp only; omega)).trans H1.out.2.1
      have hm1 : wr.cell? ⟨w.heap.size, 1, none⟩ = some (.slice A0_1 l0_1.length c0_1) := (X.out.1.cell (p := ⟨_, _, none⟩) (by simp only; omega)).trans H1.out.2.2.1
      have hs1 : wr.cell? ⟨w.heap.size + 1, 1, none⟩ = some (.slice A1_1 m c1_1) := (X.out.1.cell (p := ⟨_, _, none⟩) (by simp only; omega)).trans H1.out.2.2.2.2.1
      clear hsz
      have hany := anyCond A1_1 c1_1 l1_1 wr (Kd.C_below HR.out.2.2.2 HBW.out) (by have := HN.out; omega) 91 #[.pointer (some ⟨w.heap.size, 0, none⟩)] q34.eg (fun c => !ifB l0_0 c.f0 c.f1 c.f2) (fun W x cs hx hb hK => q34.closure w.heap.size A0_0 c0_0 l0_0 A0_1 c0_1 l0_1 W (q83 hb hm0) (q83 hb hm1) (Kd.C_below (Kd.C_below HR.out.1 HBW.out) hb) hc0_0 (Kd.C_below (Kd.C_below HR.out.2.1 HBW.out) hb) hc0_1 x cs hK)
      rw [← HN.out.2] at hany
      have he : sentryB l0_0 l0_1 l1_0 l1_1 = !(l1_1.any (fun c => !ifB l0_0 c.f0 c.f1 c.f2)) := by
        have h1 : (List.range l1_0.length).all (onOk l0_1 l1_0) = true := List.all_eq_true.2 fun j hj => X.out.2 j (by have := List.mem_range.1 hj; have := HN.out; omega)
        have h2 : decide (l1_0.length ≤ 3 ∧ l1_1.length ≤ 2 ∧ l1_0.length + l1_1.length ≠ 0) = true := decide_eq_true (by have := HN.out; omega)
        unfold sentryB
        rw [h1, h2]
        rfl
      have HE := Lib.hid he
      clear he hm0 hm1
      obtain ⟨T, hT⟩ : ∃ T, T = l1_1.any (fun c => !ifB l0_0 c.f0 c.f1 c.f2) := ⟨_, rfl⟩
      rw [← hT] at hany HE
      clear hT
      go_wp2_with (go_at_call 90; refine hany.mono ?_; rintro e w' ⟨rfl, hb'⟩)
      go_ret
      exact ⟨by rw [HE.out]; rfl, q82 hb' HBW.out⟩
def sentsB (fs : List ByteArray) (l : List (S48)) (ss : List (S54)) : Bool := decide (ss.length ≤ 3) && !ss.any (fun s => !sentryB fs l s.f0 s.f1)
def q18.f (l0_0 : List ByteArray) (l0_1 : List (S48)) (l1 : List (S54)) : Option Bool := some (sentsB l0_0 l0_1 l1)
theorem q18.eg : ∀ args w, (callFunc 84 args).run Try.prog w = .ok (.enter 84 args) w := enters_of Try.func84 (by kernel_rfl) rfl
set_option maxHeartbeats 4000000 in
theorem q18.closure (b : Nat) (A0_0 : Option Addr) (c0_0 : Nat) (l0_0 : List ByteArray) (A0_1 : Option Addr) (c0_1 : Nat) (l0_1 : List (S48)) (W : World) (hm0 : W.cell? ⟨b, 0, none⟩ = some (.slice A0_0 l0_0.length c0_0)) (hm1 : W.cell? ⟨b, 1, none⟩ = some (.slice A0_1 l0_1.length c0_1))
 (hr0_0 : Kd.C Kd.string W A0_0 l0_0.length l0_0) (hc0_0 : l0_0.length ≤ c0_0) (hr0_1 : Kd.C k48 W A0_1 l0_1.length l0_1) (hc0_1 : l0_1.length ≤ c0_1) (x : S54) (cs : List Value) (hK : Kd.K k54 W x cs) :
 Calls Try.prog 84 (#[.agg cs.toArray] ++ #[.pointer (some ⟨b, 0, none⟩)]) W fun e w' => e = .returned (.bool (!sentryB l0_0 l0_1 x.f0 x.f1)) ∧ Below W.heap.size W w' := by
 obtain ⟨A0, c0, A1, c1, rfl, g0, h0, g1, h1⟩ := k54_open hK
 have hb := World.block_lt_of_cell? W _ hm0
 simp only at hb
 have hW1 := q67 (Below.refl W.heap.size W) (.cells #[.slice A0 x.f0.length c0, .slice A1 x.f1.length c1] 54)
 have hif := q34.calls A0_0 c0_0 l0_0 A0_1 c0_1 l0_1 A0 c0 x.f0 A1 c1 x.f1 _ _ (Kd.C_below hr0_0 hW1) hc0_0 (Kd.C_below hr0_1 hW1) hc0_1 (Kd.C_below h0 hW1) g0 (Kd.C_below h1 hW1) g1 rfl
 have HW := Lib.hid hW1
 clear hr0_0 hr0_1 hW1 hK h0 h1
 obtain ⟨T, hT⟩ : ∃ T, T = sentryB l0_0 l0_1 x.f0 x.f1 := ⟨_, rfl⟩
 rw [← hT] at hif ⊢
 clear hT
 have hu36 := Try.underlying25
 have hu29 := Try.underlying54
 go_enter Try.func84, Try.ntmps84
 go_wp2_with (go_at_call 85; refine hif.mono ?_; rintro e w' ⟨rfl, hb'⟩)
 go_ret
 exact ⟨rfl, q82 hb' HW.out⟩
set_option maxHeartbeats 8000000 in
set_option maxRecDepth 100000 in
theorem q18.calls (A0_0 : Option Addr) (c0_0 : Nat) (l0_0 : List ByteArray) (A0_1 : Option Addr) (c0_1 : Nat) (l0_1 : List (S48)) (A1 : Option Addr) (c1 : Nat) (l1 : List (S54)) (r : Bool) (w : World) (hr0_0 : Kd.C Kd.string w A0_0 l0_0.length l0_0) (hc0_0 : l0_0.length ≤ c0_0) (hr0_1 : Kd.C k48 w A0_1 l0_1.length l0_1) (hc0_1 : l0_1.length ≤ c0_1) (hr1 : Kd.C k54 w A1 l1.length l1) (hc1 : l1.length ≤ c1) (h : q18.f l0_0 l0_1 l1 = some r) :
 Calls Try.prog 71 #[.agg #[.slice A0_0 l0_0.length c0_0, .slice A0_1 l0_1.length c0_1], .slice A1 l1.length c1] w fun e w' => e = .returned (.bool r) ∧ Below w.heap.size w w' := by
 obtain rfl := Option.some.inj h
 clear h
 have hu36 := Try.underlying25
 have W1 := q67 (Below.refl w.heap.size w) (.cells #[.slice A0_0 l0_0.length c0_0, .slice A0_1 l0_1.length c0_1] 25)
 by_cases hA : 3 < l1.length
 ·have e : sentsB l0_0 l0_1 l1 = false := by simp [sentsB]; omega
  rw [e]
  have hA' : (3 : Int) < l1.length := by omega
  have H := Lib.hid W1
  clear hr0_0 hr0_1 hr1 e W1
  go_enter Try.func71, Try.ntmps71
  go_wp2
  go_ret
  exact ⟨rfl, H.out⟩
 have hA' : ¬ (3 : Int) < l1.length := by omega
 have hm0 : (w.alloc (.cells #[.slice A0_0 l0_0.length c0_0, .slice A0_1 l0_1.length c0_1] 25)).cell? ⟨w.heap.size, 0, none⟩ = some (.slice A0_0 l0_0.length c0_0) := by simp
 have hm1 : (w.alloc (.cells #[.slice A0_0 l0_0.length c0_0, .slice A0_1 l0_1.length c0_1] 25)).cell? ⟨w.heap.size, 1, none⟩ = some (.slice A0_1 l0_1.length c0_1) := by simp
 have hany := anySentry A1 c1 l1 _ (Kd.C_below hr1 W1) hc1 84 #[.pointer (some ⟨w.heap.size, 0, none⟩)] q18.eg (fun s => !sentryB l0_0 l0_1 s.f0 s.f1) (fun W x cs hx hb hK => q18.closure w.heap.size A0_0 c0_0 l0_0 A0_1 c0_1 l0_1 W (q83 hb hm0) (q83 hb hm1) (Kd.C_below (Kd.C_below hr0_0 W1) hb) hc0_0 (Kd.C_below (Kd.C_below hr0_1 W1) hb) hc0_1 x cs hK)
 have he : sentsB l0_0 l0_1 l1 = !(l1.any (fun s => !sentryB l0_0 l0_1 s.f0 s.f1)) := by
  unfold sentsB
  rw [decide_eq_true (by omega), Bool.true_and]
 rw [he]
 have H := Lib.hid W1
 clear hr0_0 hr0_1 hr1 he W1 hm0 hm1
 obtain ⟨T, hT⟩ : ∃ T, T = l1.any (fun s => !sentryB l0_0 l0_1 s.f0 s.f1) := ⟨_, rfl⟩
 rw [← hT] at hany ⊢
 clear hT
 go_enter Try.func71, Try.ntmps71
 go_wp2_with (go_at_call 83; refine hany.mono ?_; rintro e w' ⟨rfl, hb'⟩)
 go_ret
 exact ⟨rfl, q82 hb' H.out⟩
def sumSt : List Int → Int → Int → Int × Int
 | [], a, c => (a, c)
 | x :: l, a, c => sumSt l (((a + (x % 4294967296)) % 4294967296) % 65521) (((c + (((a + (x % 4294967296)) % 4294967296) % 65521)) % 4294967296) % 65521)
def sumL (l : List Int) : Int := Go.bits .or .u32 (((sumSt l 1 0).2 * 65536) % 4294967296) (sumSt l 1 0).1
theorem ref_sum_at (l : List Int) (hn : l.length ≤ 9223372036854775806) (d : Nat) : ∀ (i k : Nat) (a c : Int), i + d = l.length → d < k → q36.l0 k l a c i = some (Go.bits .or .u32 (((sumSt (l.drop i) a c).2 * 65536) % 4294967296) (sumSt (l.drop i) a c).1) := by
  induction d with
  | zero =>
    intro i k a c hi hk
    obtain ⟨k, rfl⟩ : ∃ m, k = m + 1 := ⟨k - 1, by omega⟩
    simp only [q36.l0]
    rw [if_neg (by omega), List.drop_eq_nil_of_le (by omega)]
    rfl
  | succ d ih =>
    intro i k a c hi hk
    obtain ⟨k, rfl⟩ : ∃ m, k = m + 1 := ⟨k - 1, by omega⟩
    simp only [q36.l0]
    rw [if_pos (by omega), if_pos (by omega), List.drop_eq_getElem_cons (by omega)]
    have hw : wrap64 ((i : Int) + 1) = ((i + 1 : Nat) : Int) := by unfold wrap64; omega
    have hr : rd l (i : Int) = l[i] := by simp [rd, List.getD_eq_getElem?_getD, List.getElem?_eq_getElem (show i < l.length by omega)]
    rw [hw, hr, ih (i + 1) k _ _ (by omega) (by omega)]
    rfl
theorem ref_sum (l : List Int) (hn : l.length ≤ 9223372036854775806) (k : Nat) (hk : l.length < k) : q36.f k l = some (sumL l) := ref_sum_at l hn l.length 0 k 1 0 (by omega) hk
def sealL (l : List Int) : List Int := [83, 78, 84, 49] ++ [(sumL l / 16777216) % 256, (sumL l / 65536) % 256, (sumL l / 256) % 256, sumL l % 256] ++ l
def markW (W : World) (a : Addr) : World := match W.shape? a.block with | some (_, n) => W.freeze ⟨a.block, n, none⟩ 1 | none => W
theorem kcv {P : Program} (t e : TypeId) (ht : P.underlying t = some (.slice e)) (he : P.underlying e = some (.int .u8)) (W : World) (a : Addr) (n c : Nat) : (convert t t (.slice (some a) n c)).run P W = .ok (.slice (some a) n c) (markW W a) := by
  unfold markW
  cases hs : W.shape? a.block with
  | none => simp [convert, run_underlying ht, run_underlying he, markStringish, hs, Result.andThen]
  | some p =>
    obtain ⟨e', m⟩ := p
    simp [convert, run_underlying ht, run_underlying he, markStringish, hs, Result.andThen]
theorem mark_below {B : Nat} {w W : World} (h : Below B w W) {a : Addr} (ha : B ≤ a.block) : Below B w (markW W a) := by
 unfold markW
 split
 ·exact Lib.below_freeze (p := ⟨a.block, _, none⟩) h ha 1
 ·exact h
theorem mark_cell (W : World) (a b : Addr) : (markW W a).cell? b = W.cell? b := by
 unfold markW
 split
 ·unfold World.freeze World.cell?
  simp only [Nat.succ_ne_zero, ↓reduceIte, Array.getElem?_modify]
  by_cases h : a.block = b.block
  ·rw [if_pos h]
   cases W.heap[b.block]? with
   | none => rfl
   | some o => cases o <;> rfl
  ·rw [if_neg h]
 ·rfl
theorem mark_C {W : World} {a : Addr} {A : Option Addr} {n : Nat} {xs : List Int} (h : Kd.C (Kd.int .u8) W A n xs) : Kd.C (Kd.int .u8) (markW W a) A n xs := by
 obtain ⟨h1, h2, h3⟩ := h
 refine ⟨h1, h2, fun hp => ?_⟩
 obtain ⟨ad, e, hc⟩ := h3 hp
 refine ⟨ad, e, fun j p hj => ?_⟩
 obtain ⟨c, hl, hK, hcc⟩ := hc j p hj
 exact ⟨c, hl, hK, fun i u hu => (mark_cell _ _ _).trans (hcc i u hu)⟩
theorem lit_reads (W : World) (b : Nat) (hb : b = W.heap.size) (e : TypeId) (xs : List Int) (hl : xs.length ≤ 9223372036854775807) : Kd.C (Kd.int .u8) (W.alloc (.cells (nums .u8 xs).toArray e)) (some ⟨b, 0, none⟩) xs.length xs := by
  subst hb
  refine ⟨rfl, hl, fun _ => ⟨_, rfl, fun j p hj => ⟨[.int .u8 p], rfl, rfl, fun i u hu => ?_⟩⟩⟩
  cases i with
  | succ i => simp at hu
  | zero =>
    cases hu
    rw [add_plain]
    have : j < xs.length := (List.getElem?_eq_some_iff.1 hj).1
    have e2 : xs[j]? = some p := hj
    show (W.alloc (.cells (nums .u8 xs).toArray e)).cell? ⟨W.heap.size, j * 1 + 0, none⟩ = _
    unfold World.cell?
    rw [show (⟨W.heap.size, j * 1 + 0, none⟩ : Addr).block = W.heap.size from rfl, heap_alloc_new]
    simp [nums, e2]
theorem append_read_k {ops : Array Oper} {Q : Exit → Act → World → Prop} {rest : List Oper} {o : Oper} {a : Act} {W : World} (hgd : o.guard = none) (s x : Operand) (ho : o.op = .call { callee := .builtin .append, args := #[s, x], argTypes := #[26, 26] }) (ad : Addr) (n : Nat) (xs : List Int) (A2 : Option Addr) (m c2 : Nat) (ys : List Int) (hs : a.eval s = .slice (some ad) n n) (hx : a.eval x = .slice A2 m c2)
 (h1 : Kd.C (Kd.int .u8) W (some ad) n xs) (h2 : Kd.C (Kd.int .u8) W A2 m ys) (hm : 0 < m) (hl : n + m ≤ 140737488355328) (B : Nat) (hB : B ≤ W.heap.size)
 (h : ∀ v' w', Kd.R (Kd.int .u8) 5 w' B (fun _ => True) v' (xs ++ ys) → Below W.heap.size W w' → wpList Try.prog ops Q rest (a.put o.dst v') w') : wpList Try.prog ops Q (o :: rest) a W := by
 obtain ⟨i0, hi0, hz0, hz1, hz2⟩ := info_parts info5
 have hc : ∀ {A : Option Addr} {n : Nat} {xs : List Int} (ad : Addr) (_ : A = some ad) (_ : Kd.C (Kd.int .u8) W A n xs), ∀ (j : Nat) (u : Value), (encs (Value.int .u8) xs)[j]? = some u → W.cell? (ad.add j) = some u := by
  intro A n xs ad e hC j u hj
  have hjl : j < xs.length := by simpa [encs] using (List.getElem?_eq_some_iff.1 hj).1
  have hn := hC.1
  obtain ⟨ad', c, e', _, hK, hcc⟩ := Kd.C_get hC (0 : Int) (j : Int) (by omega) (by omega)
  rw [e] at e'
  cases e'
  obtain rfl : c = [.int .u8 (xs.getD j 0)] := hK
  have h1 := hcc 0 _ rfl
  have hu : u = .int .u8 (xs.getD j 0) := by
   simp [encs, List.getElem?_map, List.getElem?_eq_getElem hjl] at hj
   rw [List.getD_eq_getElem?_getD, List.getElem?_eq_getElem hjl]
   exact hj.symm
  rw [hu]
  simpa [Kd.int, Kd.scalar] using h1
 obtain ⟨ad2, rfl, -⟩ := h2.2.2 hm
 have hl1 := h1.1
 have hl2 := h2.1
 obtain ⟨v', w', hr, how, hg⟩ := run_append_arg_grows (P := Try.prog) (w := W) 26 o.type 5 i0 (.int .u8 0) 1 1 Try.underlying26 hi0 hz0 hz1 hz2 rfl (by decide) ad n n (encs (Value.int .u8) xs) (by simp [encs, hl1]) (hc ad rfl h1) ad2 m c2 (encs (Value.int .u8) ys) (by simp [encs, hl2]) (hc ad2 rfl h2) (by omega) (by simp [maxLen]; omega) (by omega)
 have hrun : (execOp a.eval o).run Try.prog W = .ok (.value v') w' := by
  unfold execOp
  simp only [ho, resolve, invoke, builtin, Sem.run_bind, Sem.run_pure, Result.andThen_ok, List.map_toArray, List.map_cons, List.map_nil, hs, hx, hr]
 refine Kd.event_run hgd hrun (h v' w' ?_ ?_)
 ·refine Kd.R_of_own (own_weaken (by rw [List.length_append, hl1, hl2]; simpa [encs] using how) (by omega)) (fun _ _ => trivial)
 ·exact (Below.refl _ _).grown hg (Nat.le_refl _) (by simp)
def q25.f (l0 : List Int) : Option (List Int) := if l0.length ≤ 140737488355000 then some (sealL l0) else none
set_option maxHeartbeats 4000000 in
set_option maxRecDepth 100000 in
theorem q25.calls (A0 : Option Addr) (c0 : Nat) (l0 : List Int) (r : List Int) (w : World) (hr0 : Kd.C (Kd.int .u8) w A0 l0.length l0) (hc0 : l0.length ≤ c0) (h : q25.f l0 = some r) :
 Calls Try.prog 23 #[.slice A0 l0.length c0] w fun e w' => ∃ v0_ : Value, e = .returned (v0_) ∧ Kd.R (Kd.int .u8) 5 w' w.heap.size (fun _ => True) v0_ r ∧ Below w.heap.size w w' := by
 unfold q25.f at h
 split at h
 case isFalse => cases h
 rename_i hs
 obtain rfl := Option.some.inj h
 clear h
 have hsum := q36.calls (l0.length + 1) A0 c0 l0 _ w hr0 hc0 (ref_sum l0 (by omega) _ (by omega))
 unfold sealL
 obtain ⟨s, hss⟩ : ∃ s, s = sumL l0 := ⟨_, rfl⟩
 rw [← hss] at hsum ⊢
 clear hss
 obtain ⟨n, hn⟩ : ∃ n, n = l0.length := ⟨_, rfl⟩
 have HR := Lib.hid hr0
 have HN := Lib.hid hn
 rw [← hn] at hsum hs hc0 ⊢
 clear hn hr0
 have kb := fun W a n c => kcv (P := Try.prog) 26 5 Try.underlying26 Try.underlying5 W a n c
 go_enter Try.func23, Try.ntmps23
 go_wp2_with fail
 refine hsum.mono ?_
 rintro e w1 ⟨rfl, ⟨nd, rfl⟩⟩
 have HB := Lib.hid (q86 (Below.refl w.heap.size w) nd)
 clear hsum
 generalize w.drewN nd = w1 at HB ⊢
 go_wp2_with (first | ((with_reducible refine q79 (b := .append) (xs := #[.tmp 7, .tmp 19]) rfl ?_); at_builtin; refine append_read_k rfl (.tmp 7) (.tmp 19) rfl ⟨w1.heap.size, 0, none⟩ 4 [83, 78, 84, 49] _ _ _ [(s / 16777216) % 256, (s / 65536) % 256, (s / 256) % 256, s % 256] rfl rfl (Kd.C_alloc (mark_C (lit_reads w1 _ rfl 5 [83, 78, 84, 49] (by decide))) _) (lit_reads _ _ rfl 5 [(s / 16777216) % 256, (s / 65536) % 256, (s / 256) % 256, s % 256] (by simp)) (by decide) (by decide) w.heap.size (q67 (mark_below (q67 HB.out _) HB.out.size) _).size ?_; intro v2 w2 hR2 hB2; have hBB := q82 hB2 (q67 (mark_below (q67 HB.out _) HB.out.size) _)) | ((with_reducible refine q79 (b := .append) (xs := #[.tmp 20, .tmp 21]) rfl ?_); at_builtin; refine Kd.R_append_rows (Kd.int .u8) (w0 := w) w.heap.size rfl (.tmp 20) (.tmp 21) 26 5 (.int .u8 0) 1 rfl Try.underlying26 info5 rfl (by decide) (by omega) v2 ([83, 78, 84, 49] ++ [(s / 16777216) % 256, (s / 65536) % 256, (s / 256) % 256, s % 256]) l0 _ _ _ (fun _ => True) (fun _ => False) rfl rfl hR2 ?aR (fun _ _ h => h) (fun _ h => h.elim) (fun _ _ => trivial) hBB hBB.size ?aL ?_; (case aR => exact HN.out ▸ Kd.C_below HR.out hBB); (case aL => simp only [List.length_append, List.length_cons, List.length_nil]; omega); intro v3 w3 hR3 hB3 hg1 hg2; clear hg1 hg2))
 go_ret
 exact ⟨_, rfl, hR3, hB3⟩
def q27.f (k : Nat) (l0_0 : List ByteArray) (l0_1 : List (S48)) : Option (List Int × Int) := (q40.f k l0_0 l0_1).bind fun t298 => (if t298 = true then ((q26.f k l0_0 l0_1).bind fun t299 => ((q25.f t299).bind fun t302 => (some (t302, 0)))) else (some (([] : List Int), 1)))
theorem q27.mono : ∀ a0 a1 k, LeO (q27.f k a0 a1) (q27.f (k + 1) a0 a1) := by
 intro a0 a1 k
 unfold q27.f
 repeat' first
  | (with_reducible exact q40.mono _ _ _)
  | (with_reducible exact q26.mono _ _ _)
  | (with_reducible exact LeO.refl _)
  | (with_reducible exact LeO.none _)
  | (with_reducible refine LeO.ite ?_ ?_)
  | (with_reducible refine LeO.bind ?_ (fun _ => ?_))
  | exact q40.mono _ _ _
  | exact q26.mono _ _ _
  | exact LeO.none _
  | refine LeO.ite ?_ ?_
  | refine LeO.bind ?_ (fun _ => ?_)
set_option maxHeartbeats 8000000 in
set_option maxRecDepth 100000 in
theorem q27.calls (k : Nat) (A0_0 : Option Addr) (c0_0 : Nat) (l0_0 : List ByteArray) (A0_1 : Option Addr) (c0_1 : Nat) (l0_1 : List (S48)) (r1 : List Int) (r2 : Int) (w : World) (hr0_0 : Kd.C Kd.string w A0_0 l0_0.length l0_0) (hc0_0 : l0_0.length ≤ c0_0) (hr0_1 : Kd.C k48 w A0_1 l0_1.length l0_1) (hc0_1 : l0_1.length ≤ c0_1) (h : q27.f k l0_0 l0_1 = some (r1, r2)) :
 Calls Try.prog 15 #[.agg #[.slice A0_0 l0_0.length c0_0, .slice A0_1 l0_1.length c0_1]] w fun e w' => ∃ v0_ : Value, e = .returned (.tuple #[v0_, .int .i64 r2]) ∧ Kd.R (Kd.int .u8) 5 w' w.heap.size (fun _ => True) v0_ r1 ∧ Below w.heap.size w w' := by
 have hu25 := Try.underlying25
 have HR0_0 := q66.mk hr0_0
 have HC0_0 := q66.mk hc0_0
 clear hr0_0 hc0_0
 have HR0_1 := q66.mk hr0_1
 have HC0_1 := q66.mk hc0_1
 clear hr0_1 hc0_1
 have HB := q66.mk (Below.refl w.heap.size w)
 unfold q27.f at h
 have H := h
 clear h
 replace H := Option.bind_eq_some_iff.mp H
 obtain ⟨t298, A20, H⟩ := H
 have A2 := q66.mk A20
 clear A20
 by_cases c3 : t298 = true
 ·subst c3
  have H1 : ((q26.f k l0_0 l0_1).bind fun t299 => ((q25.f t299).bind fun t302 => (some (t302, 0)))) = some (r1, r2) := by rw [if_pos rfl] at H; exact H
  clear H
  have H := H1
  clear H1
  replace H := Option.bind_eq_some_iff.mp H
  obtain ⟨t299, A40, H⟩ := H
  have A4 := q66.mk A40
  clear A40
  replace H := Option.bind_eq_some_iff.mp H
  obtain ⟨t302, A50, H⟩ := H
  have A5 := q66.mk A50
  clear A50
  simp only [Option.some.injEq, Prod.mk.injEq] at H
  obtain ⟨rfl, rfl⟩ := H
  go_enter Try.func15, Try.ntmps15
  go_wp2_with (first | ((with_reducible refine q81 (N := 1) rfl ?_); refine bx_ 1 #[.slice A0_0 l0_0.length c0_0, .slice A0_1 l0_1.length c0_1] 25 ?_; intro gb297 hg w6 hbox hb; have BK297 := q66.mk (hbox); have GW297 := zz_ (w := w) hg; have GE297 := zz_ (w := w) hg; replace HB := hb_ HB hb;  clear hb hbox hg; obtain ⟨hcz7_0, hcz7_1, hfz7_0, hfz7_1⟩ := bs2_ BK297) | ((with_reducible refine q80 (f := 19) rfl ?_); refine gl_ (some 5) Try.func19 #[.agg #[.slice A0_0 l0_0.length c0_0, .slice A0_1 l0_1.length c0_1]] ?_; (with_reducible refine (q40.calls k _ _ l0_0 _ _ l0_1 true _ ?side1 ?side2 ?side3 ?side4 A2.out).mono ?_); (case side1 => exact kc_ HR0_0 HB); (case side2 => exact HC0_0.out); (case side3 => exact kc_ HR0_1 HB); (case side4 => exact HC0_1.out); rintro e w8 ⟨rfl, hb⟩; refine ⟨_, rfl, ?_⟩; replace BK297 := bb_ BK297 hb; replace HB := hb_ HB hb;  (try clear hb); obtain ⟨hcz9_0, hcz9_1, hfz9_0, hfz9_1⟩ := bs2_ BK297) | ((with_reducible refine q80 (f := 27) rfl ?_); refine gl_ (some 8) Try.func27 #[.agg #[.slice A0_0 l0_0.length c0_0, .slice A0_1 l0_1.length c0_1]] ?_; (with_reducible refine (q26.calls k _ _ l0_0 _ _ l0_1 t299 _ ?side1 ?side2 ?side3 ?side4 A4.out).mono ?_); (case side1 => exact kc_ HR0_0 HB); (case side2 => exact HC0_0.out); (case side3 => exact kc_ HR0_1 HB); (case side4 => exact HC0_1.out); rintro e w10 ⟨v300, rfl, ho0, hb⟩; refine ⟨_, rfl, ?_⟩; have HO301 := q66.mk (Kd.R_lower ho0 (q69 hf_)); replace BK297 := bb_ BK297 hb; replace HB := hb_ HB hb;  (try clear hb); clear ho0; obtain ⟨Ao11, co11, eo11⟩ := Kd.R_slice HO301.out; subst eo11) | ((with_reducible refine q80 (f := 23) rfl ?_); refine gl_ (some 9) Try.func23 #[.slice Ao11 t299.length co11] ?_; (with_reducible refine (q25.calls _ _ t299 t302 _ ?side1 ?side2 A5.out).mono ?_); (case side1 => repeat (first | exact (Kd.R_reads' HO301.out).2.2 | (with_reducible refine Kd.C_alloc ?_ _) | (with_reducible refine Kd.C_drewN ?_ _) | (with_reducible refine Kd.C_drew ?_))); (case side2 => exact (Kd.R_reads' HO301.out).2.1); rintro e w12 ⟨v303, rfl, ho0, hb⟩; refine ⟨_, rfl, ?_⟩; have HO304 := q66.mk (Kd.R_lower (Kd.R_new' ho0 (Kd.R_lt (ra_ HO301.out))) (q69 hf_)); replace HO301 := q66.mk (Kd.R_elder' (ra_ HO301.out) (Kd.R_base ho0) hb); replace BK297 := bb_ BK297 hb; replace HB := hb_ HB hb;  (try clear hb); clear ho0))
  go_ret2
  exact ⟨_, by first | rfl | (simp [errW_none, errW_some] <;> rfl) | (simp [*, errW_none, errW_some] <;> rfl), by (with_reducible repeat (first | apply Kd.R_alloc | apply Kd.R_drewN | apply Kd.R_drew)); exact Kd.R_mono HO304.out (fun _ hk => trivial), by repeat (first | (with_reducible first | exact HB.out | apply q67 | apply q86 | apply q68 | refine below_set ?_ GE297.out) | exact HB.out)⟩
 ·replace c3 := Bool.eq_false_iff.mpr c3
  subst c3
  have H1 : (some (([] : List Int), 1)) = some (r1, r2) := by rw [if_neg (show ¬ (false = true) by decide)] at H; exact H
  clear H
  have H := H1
  clear H1
  simp only [Option.some.injEq, Prod.mk.injEq] at H
  obtain ⟨rfl, rfl⟩ := H
  go_enter Try.func15, Try.ntmps15
  go_wp2_with (first | ((with_reducible refine q81 (N := 1) rfl ?_); refine bx_ 1 #[.slice A0_0 l0_0.length c0_0, .slice A0_1 l0_1.length c0_1] 25 ?_; intro gb297 hg w13 hbox hb; have BK297 := q66.mk (hbox); have GW297 := zz_ (w := w) hg; have GE297 := zz_ (w := w) hg; replace HB := hb_ HB hb;  clear hb hbox hg; obtain ⟨hcz14_0, hcz14_1, hfz14_0, hfz14_1⟩ := bs2_ BK297) | ((with_reducible refine q80 (f := 19) rfl ?_); refine gl_ (some 5) Try.func19 #[.agg #[.slice A0_0 l0_0.length c0_0, .slice A0_1 l0_1.length c0_1]] ?_; (with_reducible refine (q40.calls k _ _ l0_0 _ _ l0_1 false _ ?side1 ?side2 ?side3 ?side4 A2.out).mono ?_); (case side1 => exact kc_ HR0_0 HB); (case side2 => exact HC0_0.out); (case side3 => exact kc_ HR0_1 HB); (case side4 => exact HC0_1.out); rintro e w15 ⟨rfl, hb⟩; refine ⟨_, rfl, ?_⟩; replace BK297 := bb_ BK297 hb; replace HB := hb_ HB hb;  (try clear hb)))
  go_ret2
  exact ⟨_, by first | rfl | (simp [errW_none, errW_some] <;> rfl) | (simp [*, errW_none, errW_some] <;> rfl), by first | exact Kd.R_nil _ _ _ _ _ | exact Kd.N_nil _ _ _ _ _ | exact Kd.V_nil _ _ _ _ _ | exact Kd.Q_nil _ _ _ _ _ | exact Kd.S_nil _ _ _ _ _, by repeat (first | (with_reducible first | exact HB.out | apply q67 | apply q86 | apply q68 | refine below_set ?_ GE297.out) | exact HB.out)⟩
def Wr (w : World) (g base : Nat) (ok : Nat → Prop) (xs : List Int) : Prop := ∃ v, w.heap[g]? = some (.cells #[v] 58 (0, 0)) ∧ Kd.R (Kd.int .u8) 5 w base ok v xs
def WPost (w0 w : World) (g : Nat) (ok : Nat → Prop) (xs : List Int) (e : Ending) (w' : World) : Prop :=
 e = .returned (.tuple #[]) ∧ Wr w' g w0.heap.size ok xs ∧ Below w0.heap.size w0 w' ∧ Kept w w' (fun k => ok k ∨ k = g)
def byteW (n : Int) : Int := Go.bits .or .u8 (n % 256) 128
def numW : Nat → Int → List Int
 | 0, _ => []
 | d + 1, n => if n ≥ 128 then byteW n :: numW d (n / 128) else [n % 256]
theorem q84 (d : Nat) : ∀ n, (numW d n).length ≤ d := by
  induction d with
  | zero => intro n; exact Nat.le_refl _
  | succ d ih =>
    intro n
    simp only [numW]
    split
    · rw [List.length_cons]; have := ih (n / 128); omega
    · simp
theorem flat_length (l : List Int) : (l.flatMap (numW 10)).length ≤ 10 * l.length := by
  induction l with
  | nil => simp
  | cons a l ih =>
    rw [List.flatMap_cons, List.length_append, List.length_cons]
    have := q84 10 a
    omega
theorem C_stay {α : Type} {enc : α → Value} {h1 : ∀ x, (enc x).oneCell' = true} {w w' : World} {A : Option Addr} {n : Nat} {xs : List α} (h : Kd.C (Kd.scalar enc h1) w A n xs) (hb : ∀ ad, A = some ad → w'.heap[ad.block]? = w.heap[ad.block]?) : Kd.C (Kd.scalar enc h1) w' A n xs := by
 obtain ⟨h1, h2, h3⟩ := h
 refine ⟨h1, h2, fun hp => ?_⟩
 obtain ⟨ad, rfl, hc⟩ := h3 hp
 refine ⟨ad, rfl, fun j p hj => ?_⟩
 obtain ⟨c, hl, hK, hcc⟩ := hc j p hj
 refine ⟨c, hl, hK, fun i u hu => ?_⟩
 have := hcc i u hu
 have hblk : ∀ m, (ad.add m).block = ad.block := fun m => by unfold Addr.add; split <;> rfl
 unfold World.cell? at this ⊢
 rw [hblk] at this ⊢
 rw [hb ad rfl]
 exact this
theorem wr_put {w w1 : World} {g base : Nat} {ok : Nat → Prop} {v v1 : Value} {xs : List Int} (hg : w.heap[g]? = some (.cells #[v] 58 (0, 0))) (hok : ∀ k, ok k → k ≠ g) (hR : Kd.R (Kd.int .u8) 5 w1 base ok v1 xs) (hg1 : w1.heap[g]? = some (.cells #[v] 58 (0, 0))) : Wr (w1.setCell ⟨g, 0, none⟩ v1) g base ok xs :=
 ⟨v1, q78 hg1 0 v1 rfl, Kd.R_far (p := ⟨g, 0, none⟩) hR (fun k hk => hok k hk) v1⟩
set_option maxHeartbeats 8000000 in
set_option maxRecDepth 100000 in
theorem num_any (w0 w : World) (g : Nat) (ok : Nat → Prop) (xs : List Int) (A : Option Addr) (c : Nat) (l : List Int) (hB : Below w0.heap.size w0 w) (hg0 : w0.heap.size ≤ g) (hok : ∀ k, ok k → k ≠ g) (hfr : ∀ k, w.heap.size ≤ k → ok k) (hW : Wr w g w0.heap.size ok xs)
 (hC : Kd.C (Kd.int .i64) w A l.length l) (hA : ∀ ad, A = some ad → ad.block < w.heap.size ∧ ¬ ok ad.block ∧ ad.block ≠ g) (hlim : xs.length + 10 * l.length ≤ 140737488000000) (hl : ∀ n ∈ l, n < 9223372036854775808) :
 Calls Try.prog 47 #[.pointer (some ⟨g, 0, none⟩), .slice A l.length c] w (WPost w0 w g ok (xs ++ l.flatMap (numW 10))) := by
 have HW := Lib.hid hW
 have HC := Lib.hid hC
 have HB := Lib.hid hB
 have HFR := Lib.hid hfr
 have HOK := Lib.hid hok
 have HA := Lib.hid hA
 have HL := Lib.hid hl
 obtain ⟨n, hn⟩ : ∃ n, n = l.length := ⟨_, rfl⟩
 rw [← hn] at hlim ⊢
 have HN := Lib.hid hn
 clear hW hC hB hfr hok hA hl hn
 go_enter Try.func47, Try.ntmps47
 go_wp2
 go_loopg [8] n (fun gg s8 wr => ∃ (i : Nat), s8 = .int .i64 i ∧ i ≤ n ∧ n - i ≤ gg ∧ Hid (Wr wr g w0.heap.size ok (xs ++ (l.take i).flatMap (numW 10)) ∧ Below w0.heap.size w0 wr ∧ Kept w wr (fun k => ok k ∨ k = g)))
 case atStart => exact ⟨0, rfl, Nat.zero_le _, by omega, Lib.hid ⟨by simpa using HW.out, HB.out, Kept.refl _ _⟩⟩
 case round =>
  obtain ⟨i, rfl, hin, hig, X⟩ := hrel
  by_cases hlt : i < n
  case neg =>
   have hltz : ¬ (i : Int) < (n : Int) := by omega
   obtain rfl : n = i := by omega
   go_wp2
   go_end0
   rw [HN.out, List.take_length] at X
   exact ⟨rfl, X.out.1, X.out.2.1, X.out.2.2⟩
  have hltz : (i : Int) < (n : Int) := by omega
  have hCr := C_stay (w' := wr) HC.out (fun ad e => X.out.2.2.2 _ (HA.out ad e).1 (fun h => h.elim (HA.out ad e).2.1 (HA.out ad e).2.2))
  obtain ⟨ad, cs, e, _, hK, hcc⟩ := Kd.C_get hCr (0 : Int) (i : Int) (by omega) (by have := HN.out; omega)
  cases e
  obtain rfl : cs = [.int .i64 (l.getD i 0)] := hK
  have hx0 : wr.cell? (ad.add i) = some (.int .i64 (l.getD i 0)) := by have := hcc 0 _ rfl; simpa [Kd.int, Kd.scalar] using this
  clear hcc
  obtain ⟨m, hm⟩ : ∃ m, m = l.getD i 0 := ⟨_, rfl⟩
  rw [← hm] at hx0
  have HM := Lib.hid hm
  clear hm hCr
  obtain ⟨pre, hpre⟩ : ∃ p, p = xs ++ (l.take i).flatMap (numW 10) := ⟨_, rfl⟩
  have hpl : pre.length ≤ 140737488000000 - 10 := by
   rw [hpre, List.length_append]
   have h1 := flat_length (l.take i)
   rw [List.length_take] at h1
   have := HN.out
   omega
  have HP := Lib.hid hpl
  have HPRE := Lib.hid hpre
  rw [← hpre] at X
  have hm63 : m < 9223372036854775808 := by
   have := HN.out
   rw [HM.out]
   refine HL.out _ ?_
   rw [List.getD_eq_getElem?_getD, List.getElem?_eq_getElem (by omega)]
   exact List.getElem_mem _
  have HM63 := Lib.hid hm63
  clear hpl hpre hm63
  go_wp2
  go_loopg [5] 10 (fun gg s5 wr => ∃ (m' : Int) (d : Nat) (ys : List Int), s5 = .int .i64 m' ∧ 1 ≤ d ∧ d ≤ gg ∧ Hid (numW 10 m = ys ++ numW d m' ∧ m' < (128 : Int) ^ d ∧ ys.length + d = 10 ∧ Wr wr g w0.heap.size ok (pre ++ ys) ∧ Below w0.heap.size w0 wr ∧ Kept w wr (fun k => ok k ∨ k = g)))
  case atStart =>
   have h128 : (128 : Int) ^ 10 = 1180591620717411303424 := by decide
   exact ⟨m, 10, [], rfl, by omega, by omega, Lib.hid ⟨rfl, by rw [h128]; have := HM63.out; omega, rfl, by rw [List.append_nil]; exact X.out.1, X.out.2.1, X.out.2.2⟩⟩
  case round =>
   obtain ⟨m', d, ys, rfl, hd1, hdg, Z⟩ := hrel
   obtain ⟨d, rfl⟩ : ∃ e, d = e + 1 := ⟨d - 1, by omega⟩
   have hnum : numW 10 m = ys ++ (if m' ≥ 128 then byteW m' :: numW d (m' / 128) else [m' % 256]) := Z.out.1
   have hpow := Z.out.2.1
   by_cases h128 : m' ≥ 128
   case pos =>
    rw [if_pos h128] at hnum
    have hd : 1 ≤ d := by
     rcases Nat.eq_zero_or_pos d with rfl | h'
     ·simp at hpow; omega
     ·exact h'
    have hpow' : m' / 128 < (128 : Int) ^ d := by
     rw [Int.pow_succ] at hpow
     omega
    have HNUM := Lib.hid hnum
    have HPOW := Lib.hid hpow'
    clear hnum hpow hpow'
    obtain ⟨v, hg, hR⟩ := Z.out.2.2.2.1
    obtain ⟨Av, cv, rfl⟩ := Kd.R_slice hR
    obtain ⟨zs, hzs⟩ : ∃ zs, zs = pre ++ ys := ⟨_, rfl⟩
    rw [← hzs] at hg hR
    obtain ⟨lv, hlv⟩ : ∃ lv, lv = zs.length := ⟨_, rfl⟩
    rw [← hlv] at hg hR
    have hlz : (zs.length + 1) * 1 ≤ 140737488355328 := by
     have := Z.out.2.2.1
     rw [hzs, List.length_append]
     have := HP.out
     omega
    have hne : some g ≠ (Value.slice Av lv cv).ownBlock := Kd.R_away hR (fun k hk => HOK.out k hk)
    have hcv : wr.cell? ⟨g, 0, none⟩ = some (.slice Av lv cv) := (q73 hg 0).trans rfl
    have HLZ := Lib.hid hlz
    have HNE := Lib.hid (fun h => hne h)
    have HGL := Lib.hid (blk_lt hg)
    have HG := Lib.hid hg
    have HRv := Lib.hid hR
    have HBr := Lib.hid Z.out.2.2.2.2.1
    have HKr := Lib.hid Z.out.2.2.2.2.2
    have HF := Lib.hid (fun k (hk : wr.heap.size ≤ k) => HFR.out k (Nat.le_trans Z.out.2.2.2.2.2.1 hk))
    have HZS := Lib.hid hzs
    clear hg hR hlz hne hzs hlv
    go_wp2_with (first | ((with_reducible refine q79 (b := .append) (xs := #[.tmp 20, .tmp 24]) rfl ?_); at_builtin; refine Kd.R_append (Kd.int .u8) (w0 := w0) w0.heap.size rfl (.tmp 20) (.tmp 24) 26 5 (.int .u8 0) 1 rfl Try.underlying26 info5 rfl (by decide) (by omega) (.slice Av lv cv) zs (byteW m') [.int .u8 (byteW m')] ok (fun _ => False) rfl rfl rfl (fun _ h => h.elim) HF.out HRv.out HBr.out HBr.out.size HLZ.out ?_; intro v1 w1 hR1 hB1 hgr hat; obtain ⟨A1, c1, rfl⟩ := Kd.R_slice hR1; have hg1 := (hgr.block g HGL.out HNE.out).trans HG.out; have hcz := (q73 hg1 0).trans rfl; have hfz := q77 hg1 0; have HR1 := Lib.hid hR1; have HB1 := Lib.hid hB1; have HG1 := Lib.hid hg1; have HGR := Lib.hid hgr; clear hR1 hB1 hg1 hgr hat))
    have hwr := wr_put HG.out HOK.out HR1.out HG1.out
    rw [List.length_append, List.length_singleton] at hwr
    have HWR := Lib.hid hwr
    have HKK := Lib.hid ((Kept.of_grown HGR.out HKr.out (fun k e => .inl (.inl (HRv.out.1 k e)))).setCell (p := ⟨g, 0, none⟩) (.inl (.inr rfl)) (.slice A1 (zs.length + 1) c1))
    have HBB := Lib.hid (HB1.out.setCell hg0 (.slice A1 (zs.length + 1) c1) : Below w0.heap.size w0 (w1.setCell ⟨g, 0, none⟩ (.slice A1 (zs.length + 1) c1)))
    clear hwr
    go_roundg d
    case measure => omega
    case rel => exact ⟨m' / 128, d, ys ++ [byteW m'], rfl, hd, by omega, Lib.hid ⟨by rw [HNUM.out, List.append_assoc]; rfl, HPOW.out, by have := Z.out.2.2.1; rw [List.length_append, List.length_singleton]; omega, by rw [← List.append_assoc, ← HZS.out]; exact HWR.out, HBB.out, HKK.out⟩⟩
   case neg =>
    rw [if_neg h128] at hnum
    have HNUM := Lib.hid hnum
    clear hnum hpow
    obtain ⟨v, hg, hR⟩ := Z.out.2.2.2.1
    obtain ⟨Av, cv, rfl⟩ := Kd.R_slice hR
    obtain ⟨zs, hzs⟩ : ∃ zs, zs = pre ++ ys := ⟨_, rfl⟩
    rw [← hzs] at hg hR
    obtain ⟨lv, hlv⟩ : ∃ lv, lv = zs.length := ⟨_, rfl⟩
    rw [← hlv] at hg hR
    have hlz : (zs.length + 1) * 1 ≤ 140737488355328 := by
     have := Z.out.2.2.1
     rw [hzs, List.length_append]
     have := HP.out
     omega
    have hne : some g ≠ (Value.slice Av lv cv).ownBlock := Kd.R_away hR (fun k hk => HOK.out k hk)
    have hcv : wr.cell? ⟨g, 0, none⟩ = some (.slice Av lv cv) := (q73 hg 0).trans rfl
    have HLZ := Lib.hid hlz
    have HNE := Lib.hid (fun h => hne h)
    have HGL := Lib.hid (blk_lt hg)
    have HG := Lib.hid hg
    have HRv := Lib.hid hR
    have HBr := Lib.hid Z.out.2.2.2.2.1
    have HKr := Lib.hid Z.out.2.2.2.2.2
    have HF := Lib.hid (fun k (hk : wr.heap.size ≤ k) => HFR.out k (Nat.le_trans Z.out.2.2.2.2.2.1 hk))
    have HZS := Lib.hid hzs
    clear hg hR hlz hne hzs hlv
    go_wp2_with (first | ((with_reducible refine q79 (b := .append) (xs := #[.tmp 32, .tmp 35]) rfl ?_); at_builtin; refine Kd.R_append (Kd.int .u8) (w0 := w0) w0.heap.size rfl (.tmp 32) (.tmp 35) 26 5 (.int .u8 0) 1 rfl Try.underlying26 info5 rfl (by decide) (by omega) (.slice Av lv cv) zs (m' % 256) [.int .u8 (m' % 256)] ok (fun _ => False) rfl rfl rfl (fun _ h => h.elim) HF.out HRv.out HBr.out HBr.out.size HLZ.out ?_; intro v1 w1 hR1 hB1 hgr hat; obtain ⟨A1, c1, rfl⟩ := Kd.R_slice hR1; have hg1 := (hgr.block g HGL.out HNE.out).trans HG.out; have hcz := (q73 hg1 0).trans rfl; have hfz := q77 hg1 0; have HR1 := Lib.hid hR1; have HB1 := Lib.hid hB1; have HG1 := Lib.hid hg1; have HGR := Lib.hid hgr; clear hR1 hB1 hg1 hgr hat))
    have hwr := wr_put HG.out HOK.out HR1.out HG1.out
    rw [List.length_append, List.length_singleton] at hwr
    have HWR := Lib.hid hwr
    have HKK := Lib.hid ((Kept.of_grown HGR.out HKr.out (fun k e => .inl (.inl (HRv.out.1 k e)))).setCell (p := ⟨g, 0, none⟩) (.inl (.inr rfl)) (.slice A1 (zs.length + 1) c1))
    have HBB := Lib.hid (HB1.out.setCell hg0 (.slice A1 (zs.length + 1) c1) : Below w0.heap.size w0 (w1.setCell ⟨g, 0, none⟩ (.slice A1 (zs.length + 1) c1)))
    clear hwr
    have HT : Hid (zs ++ [m' % 256] = xs ++ (l.take (i + 1)).flatMap (numW 10)) := Lib.hid (by
     have e1 : l.take (i + 1) = l.take i ++ [m] := by
      have := HN.out
      rw [List.take_add_one, HM.out, List.getD_eq_getElem?_getD, List.getElem?_eq_getElem (by omega)]
      rfl
     rw [e1, List.flatMap_append, ← List.append_assoc, ← HPRE.out, HZS.out, List.append_assoc, ← HNUM.out]
     simp)
    go_roundg (n - (i + 1))
    case measure => omega
    case rel => exact ⟨i + 1, by go_num, by omega, by omega, Lib.hid ⟨by rw [← HT.out]; exact HWR.out, HBB.out, HKK.out⟩⟩
abbrev RSt := List Int × Bool
def Bytes (l : List Int) : Prop := ∀ x ∈ l, 0 ≤ x ∧ x ≤ 255
def RdrT (T : TypeId) (w0 w : World) (g : Nat) (s : RSt) : Prop := ∃ A c, s.1.length ≤ c ∧ w.heap[g]? = some (.cells #[.slice A s.1.length c, .bool s.2] T (0, 0)) ∧ Kd.C (Kd.int .u8) w0 A s.1.length s.1 ∧ Bytes s.1 ∧ s.1.length ≤ 140737488351232
abbrev Rdr (w0 w : World) (g : Nat) (s : RSt) : Prop := RdrT 71 w0 w g s
def RsT (T : TypeId) (w0 w wr : World) (g : Nat) (s : RSt) : Prop := RdrT T w0 wr g s ∧ Below w0.heap.size w0 wr ∧ Kept w wr (fun k => k = g)
abbrev Rs (w0 w wr : World) (g : Nat) (s : RSt) : Prop := RsT 71 w0 w wr g s
theorem set_size (w : World) (a : Addr) (v : Value) : (w.setCell a v).heap.size = w.heap.size := by simp [World.setCell]
theorem C_kept {α : Type} {enc : α → Value} {h1 : ∀ x, (enc x).oneCell' = true} {w w' : World} {A : Option Addr} {n : Nat} {xs : List α} {S : Nat → Prop} (h : Kd.C (Kd.scalar enc h1) w A n xs) (hk : Kept w w' S) (ha : ∀ ad, A = some ad → ad.block < w.heap.size ∧ ¬ S ad.block) : Kd.C (Kd.scalar enc h1) w' A n xs := C_stay h (fun ad e => hk.2 _ (ha ad e).1 (ha ad e).2)
section
variable {T : TypeId} {w0 w w1 w2 : World} {g : Nat} {s s' : RSt}
theorem RsT.refl (h : RdrT T w0 w g s) (hB : Below w0.heap.size w0 w) : RsT T w0 w w g s := ⟨h, hB, Kept.refl _ _⟩
theorem RsT.here (h : RsT T w0 w w1 g s) : RsT T w0 w1 w1 g s := ⟨h.1, h.2.1, Kept.refl _ _⟩
theorem RdrT.same (h : RdrT T w0 w g s) (hb : w1.heap[g]? = w.heap[g]?) : RdrT T w0 w1 g s := by
 obtain ⟨A, c, h1, h2, h3⟩ := h
 exact ⟨A, c, h1, hb.trans h2, h3⟩
theorem RdrT.lt (h : RdrT T w0 w g s) : g < w.heap.size := by
 obtain ⟨A, c, -, h2, -⟩ := h
 exact blk_lt h2
theorem RsT.below (h : RsT T w0 w w1 g s) (hb : Below w1.heap.size w1 w2) : RsT T w0 w w2 g s := ⟨h.1.same (hb.block _ h.1.lt), q70 h.2.1 h.2.1.size hb, h.2.2.below hb⟩
theorem RsT.alloc (h : RsT T w0 w w1 g s) (o : Obj) : RsT T w0 w (w1.alloc o) g s := h.below (q67 (Below.refl _ _) o)
theorem RsT.drew (h : RsT T w0 w w1 g s) : RsT T w0 w w1.drew g s := h.below (q68 (Below.refl _ _))
theorem RsT.then_ (h : RsT T w0 w w1 g s) (k : RsT T w0 w1 w2 g s') : RsT T w0 w w2 g s' := ⟨k.1, k.2.1, h.2.2.then_ k.2.2 (fun _ e => .inl e)⟩
theorem RsT.stay {a : Addr} {v : Value} (h : RsT T w0 w w1 g s) (hc : w.cell? a = some v) (hne : a.block ≠ g) : w1.cell? a = some v := cell_kept hc h.2.2 hne
theorem RsT.keep (h : RsT T w0 w w1 g s) : KeepBut w w1 g none := ⟨h.2.2.1, fun k hk hne _ => h.2.2.2 k hk hne⟩
theorem RsT.blk {b : Nat} {o : Obj} (h : RsT T w0 w w1 g s) (hb : w.heap[b]? = some o) (hne : b ≠ g) : w1.heap[b]? = some o := (h.2.2.2 b (blk_lt hb) hne).trans hb
theorem RsT.grown {row : Option Nat} (h : RsT T w0 w w1 g s) (hg : w1.grownBy w2 row) (hr : ∀ k, row = some k → k ≠ g ∧ w.heap.size ≤ k ∧ w0.heap.size ≤ k) : RsT T w0 w w2 g s :=
 ⟨h.1.same (hg.block g h.1.lt (fun e => (hr g e.symm).1 rfl)), h.2.1.grown hg h.2.1.size (fun k e => (hr k e).2.2), Kept.of_grown hg h.2.2 (fun k e => .inr (hr k e).2.1)⟩
theorem RsT.set {p : Addr} (h : RsT T w0 w w1 g s) (v : Value) (hp : p.block ≠ g ∧ w.heap.size ≤ p.block ∧ w0.heap.size ≤ p.block) : RsT T w0 w (w1.setCell p v) g s :=
 ⟨h.1.same (Below.heap_setCell _ _ _ _ (fun e => hp.1 e.symm)), h.2.1.setCell hp.2.2 v, h.2.2.setCell (.inr hp.2.1) v⟩
theorem RdrT.put0 {A : Option Addr} {c : Nat} {v0 : Value} {b : Bool} {xs : List Int} (hg : w.heap[g]? = some (.cells #[v0, .bool b] T (0, 0))) (hl : xs.length ≤ c) (hC : Kd.C (Kd.int .u8) w0 A xs.length xs) (h8 : Bytes xs) (h6 : xs.length ≤ 140737488351232) : RdrT T w0 (w.setCell ⟨g, 0, none⟩ (.slice A xs.length c)) g (xs, b) :=
 ⟨A, c, hl, q78 hg 0 _ rfl, hC, h8, h6⟩
theorem RdrT.put1 (h : RdrT T w0 w g s) (b : Bool) : RdrT T w0 (w.setCell ⟨g, 1, none⟩ (.bool b)) g (s.1, b) := by
 obtain ⟨A, c, hl, hg, hC, h8, h6⟩ := h
 exact ⟨A, c, hl, q78 hg 1 _ rfl, hC, h8, h6⟩
theorem RsT.put {v : Value} {j : Nat} (h : RsT T w0 w w1 g s) (hg : w0.heap.size ≤ g) (hs : RdrT T w0 (w1.setCell ⟨g, j, none⟩ v) g s') : RsT T w0 w (w1.setCell ⟨g, j, none⟩ v) g s' := ⟨hs, h.2.1.setCell hg v, h.2.2.setCell (p := ⟨g, j, none⟩) (.inl rfl) v⟩
end
def takeR (n : Nat) (s : RSt) : List Int × RSt := if s.2 = true ∨ s.1.length < n then ([], (s.1, true)) else (s.1.take n, (s.1.drop n, false))
def TakePost (w0 w : World) (g : Nat) (r : List Int × RSt) (e : Ending) (w' : World) : Prop := ∃ A c, e = .returned (.slice A r.1.length c) ∧ r.1.length ≤ c ∧ Kd.C (Kd.int .u8) w0 A r.1.length r.1 ∧ Rs w0 w w' g r.2
set_option maxHeartbeats 4000000 in
set_option maxRecDepth 100000 in
theorem take_any (w0 w : World) (g : Nat) (s : RSt) (n : Nat) (hB : Below w0.heap.size w0 w) (hg0 : w0.heap.size ≤ g) (hR : Rdr w0 w g s) (hn : n ≤ 9223372036854775807) :
    Calls Try.prog 63 #[.pointer (some ⟨g, 0, none⟩), .int .i64 n] w (TakePost w0 w g (takeR n s)) := by
  have HR := Lib.hid hR
  have HB := Lib.hid hB
  obtain ⟨xs, b⟩ := s
  obtain ⟨A, c, hl, hg, hC, h8, h6⟩ := hR
  obtain ⟨m, hm⟩ : ∃ m, m = xs.length := ⟨_, rfl⟩
  simp only at hl hg hC h8 h6
  rw [← hm] at hl hg h6
  have hcv : w.cell? ⟨g, 0, none⟩ = some (.slice A m c) := (q73 hg 0).trans rfl
  have hbv : w.cell? ⟨g, 1, none⟩ = some (.bool b) := (q73 hg 1).trans rfl
  have hfz := q77 hg 0
  have hfz1 := q77 hg 1
  have HG := Lib.hid hg
  have HC := Lib.hid hC
  have H8 := Lib.hid h8
  have HM := Lib.hid hm
  clear hB hg hC h8 hm
  by_cases hbad : b = true ∨ m < n
  case pos =>
    have HT : Hid (takeR n (xs, b) = ([], (xs, true))) := Lib.hid (by
      unfold takeR
      rw [if_pos (by rw [← HM.out]; exact hbad)])
    have HS : Hid (Rs w0 w (w.setCell ⟨g, 1, none⟩ (.bool true)) g (xs, true)) := Lib.hid ((RsT.refl HR.out HB.out).put hg0 (HR.out.put1 true))
    rw [HT.out]
    cases b with
    | true =>
      clear hbad
      go_enter Try.func63, Try.ntmps63
      go_wp2
      go_ret
      exact ⟨none, 0, rfl, Nat.le_refl _, Kd.C_nil _ _, HS.out⟩
    | false =>
      have hlt : m < n := by simpa using hbad
      have hltz : (n : Int) > (m : Int) := by omega
      clear hbad
      go_enter Try.func63, Try.ntmps63
      go_wp2
      go_ret
      exact ⟨none, 0, rfl, Nat.le_refl _, Kd.C_nil _ _, HS.out⟩
  case neg =>
    rw [not_or] at hbad
    obtain ⟨hb, hnm⟩ := hbad
    obtain rfl : b = false := by simpa using hb
    have hnm2 : n ≤ m := by omega
    have hltz : ¬ (n : Int) > (m : Int) := by omega
    have HT : Hid (takeR n (xs, false) = (xs.take n, (xs.drop n, false))) := Lib.hid (by
      unfold takeR
      rw [if_neg (by rw [← HM.out]; simp; omega)])
    rw [HT.out]
    obtain ⟨i0, hi0, hz0, hz1, hz2⟩ := info_parts info5
    have k1 := cut_to (P := Try.prog) 26 5 .i64 Try.underlying26 hi0 A m c (n : Int) (by omega) (by omega) hl
    have k2 := cut_from (P := Try.prog) 26 5 .i64 Try.underlying26 hi0 1 hz1 A m c (n : Int) (by omega) (by omega)
    rw [Int.toNat_natCast] at k1 k2
    obtain ⟨A2, hA2⟩ : ∃ A2, A2 = if c = n then A else A.map (·.add (n * 1)) := ⟨_, rfl⟩
    rw [← hA2] at k2
    obtain ⟨q, hq⟩ : ∃ q, q = m - n := ⟨_, rfl⟩
    rw [← hq] at k2
    have hdl : (xs.drop n).length = q := by rw [List.length_drop, ← HM.out, hq]
    have htl : (xs.take n).length = n := by rw [List.length_take, ← HM.out]; omega
    have hC2 : Kd.C (Kd.int .u8) w0 A2 (xs.drop n).length (xs.drop n) := by rw [hA2]; exact Kd.C_drop HC.out (by rw [← HM.out]; omega) (by rw [← HM.out]; omega)
    have hC1 : Kd.C (Kd.int .u8) w0 A (xs.take n).length (xs.take n) := Kd.C_take HC.out (by rw [← HM.out]; omega)
    have HS : Hid (Rs w0 w (w.setCell ⟨g, 0, none⟩ (.slice A2 q (c - n))) g (xs.drop n, false)) := Lib.hid ((RsT.refl HR.out HB.out).put hg0 (hdl ▸ RdrT.put0 HG.out (by rw [hdl]; omega) hC2 (fun x hx => H8.out x (List.mem_of_mem_drop hx)) (by rw [hdl]; omega)))
    have HC1 := Lib.hid hC1
    have HTL := Lib.hid htl
    have hqc : q ≤ c - n := by omega
    have hnc : n ≤ c := by omega
    have HNC := Lib.hid hnc
    clear hA2 hq hdl htl hC2 hC1 hb hz0 hz1 hz2 hi0
    go_enter Try.func63, Try.ntmps63
    go_wp2
    go_ret
    exact ⟨A, c, by rw [HTL.out]; rfl, by rw [HTL.out]; exact HNC.out, HC1.out, HS.out⟩
theorem take_st {w0 w wr : World} {g : Nat} {s : RSt} (n : Nat) (hg0 : w0.heap.size ≤ g) (h : Rs w0 w wr g s) (hn : n ≤ 9223372036854775807) :
 Calls Try.prog 63 #[.pointer (some ⟨g, 0, none⟩), .int .i64 n] wr (TakePost w0 w g (takeR n s)) :=
 (take_any w0 wr g s n h.2.1 hg0 h.1 hn).mono fun e w' ⟨A, c, h1, h2, h3, h5⟩ => ⟨A, c, h1, h2, h3, h.then_ h5⟩
def numGo (below : Int) : Nat → Nat → Int → RSt → Int × RSt
  | 0, _, _, s => (0, (s.1, true))
  | d + 1, i, n, s => if s.2 = true then (0, (s.1, true)) else match s.1 with
    | [] => (0, ([], true))
    | x :: r => if x < 128 then (n + (x % 128) * (128 : Int) ^ i, (r, decide (below ≤ n + (x % 128) * (128 : Int) ^ i))) else numGo below d (i + 1) (n + (x % 128) * (128 : Int) ^ i) (r, false)
def numR (below : Int) (s : RSt) : Int × RSt := numGo below 5 0 0 s
def NumPost (w0 w : World) (g : Nat) (r : Int × RSt) (e : Ending) (w' : World) : Prop := e = .returned (.int .i64 r.1) ∧ Rs w0 w w' g r.2
theorem Bytes.cons {x : Int} {r : List Int} (h : Bytes (x :: r)) : (0 ≤ x ∧ x ≤ 255) ∧ Bytes r := ⟨h x List.mem_cons_self, fun y hy => h y (List.mem_cons_of_mem _ hy)⟩
theorem andNot128 (x : Int) (h0 : 0 ≤ x) (h1 : x ≤ 255) : Go.bits .andNot .u8 x 128 = x % 128 := by
 have h : ∀ n : Fin 256, Go.bits .andNot .u8 (n.val : Int) 128 = (n.val : Int) % 128 := by decide +kernel
 have := h ⟨x.toNat, by omega⟩
 rwa [show ((⟨x.toNat, by omega⟩ : Fin 256).val : Int) = x by simp; omega] at this
theorem num_val (n x : Int) (i : Nat) (hi : i < 5) (h0 : 0 ≤ n) (hn : n < (128 : Int) ^ i) (hx : 0 ≤ x ∧ x ≤ 255) : Go.bits .or .i64 n (wrap64 (wrap64 (Go.bits .andNot .u8 x 128) * 2 ^ (7 * i))) = n + (x % 128) * (128 : Int) ^ i ∧ 0 ≤ n + (x % 128) * (128 : Int) ^ i ∧ n + (x % 128) * (128 : Int) ^ i < (128 : Int) ^ (i + 1) := by
 have hw : ∀ m : Int, 0 ≤ m → m < 2 ^ 63 → IntKind.i64.wrap m = m := fun m hm1 hm2 => by rw [IntKind.wrap_i64]; omega
 rw [andNot128 x hx.1 hx.2]
 have e1 : wrap64 (x % 128) = x % 128 := by unfold wrap64; omega
 rw [e1]
 have key : ∀ j : Nat, j < 5 → i = j → Go.bits .or .i64 n (wrap64 (x % 128 * 2 ^ (7 * j))) = n + (x % 128) * (128 : Int) ^ j ∧ 0 ≤ n + (x % 128) * (128 : Int) ^ j ∧ n + (x % 128) * (128 : Int) ^ j < (128 : Int) ^ (j + 1) := by
  intro j hj e
  subst e
  have hj5 : i = 0 ∨ i = 1 ∨ i = 2 ∨ i = 3 ∨ i = 4 := by omega
  rcases hj5 with rfl | rfl | rfl | rfl | rfl
  all_goals
   simp only [Nat.mul_zero, Nat.mul_one, Nat.reduceMul, Int.reducePow, Nat.reduceAdd, Int.pow_zero, Int.mul_one, Int.zero_add] at hn ⊢
   refine ⟨?_, by omega, by omega⟩
  ·have e2 : wrap64 (x % 128) = x % 128 := e1
   rw [e2, show n = 0 by omega, bits_join_low .i64 63 (by decide) hw 0 0 (x % 128) (by omega) (by omega) (by omega) (by omega) (by omega) (by omega)]
  ·have e2 : wrap64 (x % 128 * 128) = x % 128 * 128 := by unfold wrap64; omega
   rw [e2, bits_join_low .i64 63 (by decide) hw 7 n (x % 128 * 128) (by omega) (by omega) (by omega) (by omega) (by omega) (by omega)]
  ·have e2 : wrap64 (x % 128 * 16384) = x % 128 * 16384 := by unfold wrap64; omega
   rw [e2, bits_join_low .i64 63 (by decide) hw 14 n (x % 128 * 16384) (by omega) (by omega) (by omega) (by omega) (by omega) (by omega)]
  ·have e2 : wrap64 (x % 128 * 2097152) = x % 128 * 2097152 := by unfold wrap64; omega
   rw [e2, bits_join_low .i64 63 (by decide) hw 21 n (x % 128 * 2097152) (by omega) (by omega) (by omega) (by omega) (by omega) (by omega)]
  ·have e2 : wrap64 (x % 128 * 268435456) = x % 128 * 268435456 := by unfold wrap64; omega
   rw [e2, bits_join_low .i64 63 (by decide) hw 28 n (x % 128 * 268435456) (by omega) (by omega) (by omega) (by omega) (by omega) (by omega)]
 exact key i hi rfl
set_option maxHeartbeats 8000000 in
set_option maxRecDepth 100000 in
theorem num_rany (w0 w : World) (g : Nat) (s : RSt) (below : Int) (hB : Below w0.heap.size w0 w) (hg0 : w0.heap.size ≤ g) (hR : Rdr w0 w g s) :
 Calls Try.prog 64 #[.pointer (some ⟨g, 0, none⟩), .int .i64 below] w (NumPost w0 w g (numR below s)) := by
 have HS := Lib.hid (RsT.refl hR hB)
 clear hR hB
 unfold numR
 obtain ⟨R, hR⟩ : ∃ R, R = numGo below 5 0 0 s := ⟨_, rfl⟩
 rw [← hR]
 have HR := Lib.hid hR
 clear hR
 go_enter Try.func64, Try.ntmps64
 go_wp2
 go_loopg [8, 5] 5 (fun gg s8 s5 wr => ∃ (i d : Nat) (n : Int) (z : RSt), s8 = .int .i64 i ∧ s5 = .int .i64 n ∧ i + d = 5 ∧ d ≤ gg ∧ 0 ≤ n ∧ n < (128 : Int) ^ i ∧ Hid (Rs w0 w wr g z ∧ R = numGo below d i n z))
 case atStart => exact ⟨0, 5, 0, s, rfl, rfl, rfl, by omega, by decide, by decide, Lib.hid ⟨HS.out, HR.out⟩⟩
 case round =>
  obtain ⟨i, d, n, z, rfl, rfl, hig, hdg, hn0, hni, X⟩ := hrel
  obtain ⟨wO, rfl⟩ : ∃ wO, wO = wr := ⟨_, rfl⟩
  by_cases hi : i < 5
  case neg =>
   obtain rfl : i = 5 := by omega
   obtain rfl : d = 0 := by omega
   have HT : Hid (R = (0, (z.1, true))) := Lib.hid X.out.2
   have HZ : Hid (Rs w0 w (wO.setCell ⟨g, 1, none⟩ (.bool true)) g (z.1, true)) := Lib.hid (X.out.1.put hg0 (X.out.1.1.put1 true))
   obtain ⟨A, c, hl, hg, hC, -⟩ := X.out.1.1
   have hfz1 := q77 hg 1
   have hbv : wO.cell? ⟨g, 1, none⟩ = some (.bool z.2) := (q73 hg 1).trans rfl
   clear hg hC
   go_wp2
   go_ret
   exact ⟨by rw [HT.out]; rfl, by rw [HT.out]; exact HZ.out⟩
  have hiz : (i : Int) < 5 := by omega
  obtain ⟨d, rfl⟩ : ∃ e, d = e + 1 := ⟨d - 1, by omega⟩
  have HB8 : Hid (Bytes z.1) := Lib.hid (by obtain ⟨A, c, -, -, -, h8, -⟩ := X.out.1.1; exact h8)
  have htk := take_st (w0 := w0) (w := w) (g := g) (s := z) 1 hg0 X.out.1 (by omega)
  have HX := Lib.hid X.out.2
  obtain ⟨xs, b⟩ := z
  clear X
  by_cases hbad : b = true ∨ xs = []
  case pos =>
   have HT : Hid (takeR 1 (xs, b) = ([], (xs, true))) := Lib.hid (by
    unfold takeR
    rw [if_pos]
    rcases hbad with h | h
    ·exact .inl h
    ·exact .inr (by rw [h]; exact Nat.zero_lt_one))
   have HE : Hid (R = (0, (xs, true))) := Lib.hid (by
    rw [HX.out]
    simp only [numGo]
    rcases hbad with h | h
    ·rw [if_pos h]
    ·subst h
     split <;> rfl)
   rw [HT.out] at htk
   clear hbad
   go_wp2_with fail
   refine htk.mono ?_
   rintro e w2 ⟨A, c, rfl, hlc, hC, hs⟩
   have HS2 := Lib.hid hs
   obtain ⟨A2, c2, hl2, hg2, hC2, -⟩ := hs.1
   have hbv : w2.cell? ⟨g, 1, none⟩ = some (.bool true) := (q73 hg2 1).trans rfl
   clear hs hC hg2 hC2 htk
   go_wp2
   go_ret
   exact ⟨by rw [HE.out]; rfl, by rw [HE.out]; exact HS2.out⟩
  rw [not_or] at hbad
  obtain ⟨hb, hx⟩ := hbad
  obtain rfl : b = false := by simpa using hb
  cases xs with
  | nil => exact absurd rfl hx
  | cons x r =>
  have HX8 : Hid (0 ≤ x ∧ x ≤ 255) := Lib.hid (Bytes.cons HB8.out).1
  have HT : Hid (takeR 1 (x :: r, false) = ([x], (r, false))) := Lib.hid rfl
  rw [HT.out] at htk
  clear hb hx
  go_wp2_with fail
  refine htk.mono ?_
  rintro e w2 ⟨A, c, rfl, hlc, hC, hs⟩
  have HS2 := Lib.hid hs
  obtain ⟨A2, c2, hl2, hg2, hC2, -⟩ := hs.1
  have hbv : w2.cell? ⟨g, 1, none⟩ = some (.bool false) := (q73 hg2 1).trans rfl
  have hfz1 := q77 hg2 1
  obtain ⟨ad, e, hx0⟩ := Kd.at_int (Kd.C_below hC hs.2.1) (0 : Int) (by omega) (by simp)
  cases e
  have hx0 : w2.cell? ad = some (.int .u8 x) := by simpa [Addr.add, rd] using hx0
  have HC := Lib.hid hC
  clear hs hC hg2 hC2 htk
  obtain ⟨v, hv⟩ : ∃ v, v = n + (x % 128) * (128 : Int) ^ i := ⟨_, rfl⟩
  obtain ⟨hval, hv0, hvn⟩ := num_val n x i hi hn0 hni HX8.out
  rw [← hv] at hval hv0 hvn
  have HV := Lib.hid hv
  have HVN := Lib.hid hvn
  clear hv hvn hni
  by_cases h128 : x < 128
  case pos =>
   have HE : Hid (R = (v, (r, decide (below ≤ v)))) := Lib.hid (by
    rw [HX.out, HV.out]
    simp only [numGo]
    rw [if_neg (by decide), if_pos h128])
   have HP : Hid (Rs w0 w (w2.setCell ⟨g, 1, none⟩ (.bool (decide (below ≤ v)))) g (r, decide (below ≤ v))) := Lib.hid (HS2.out.put hg0 (HS2.out.1.put1 _))
   go_wp2
   go_ret
   exact ⟨by rw [HE.out]; rfl, by rw [HE.out]; exact HP.out⟩
  case neg =>
   have HE : Hid (R = numGo below d (i + 1) v (r, false)) := Lib.hid (by
    rw [HX.out, HV.out]
    simp only [numGo]
    rw [if_neg (by decide), if_neg h128])
   go_wp2
   go_roundg d
   case measure => omega
   case rel => exact ⟨i + 1, d, v, (r, false), by go_num, rfl, by omega, Nat.le_refl _, hv0, HVN.out, Lib.hid ⟨HS2.out, HE.out⟩⟩
theorem num_rs {w0 w wr : World} {g : Nat} {s : RSt} (below : Int) (hg0 : w0.heap.size ≤ g) (h : Rs w0 w wr g s) :
 Calls Try.prog 64 #[.pointer (some ⟨g, 0, none⟩), .int .i64 below] wr (NumPost w0 w g (numR below s)) :=
 (num_rany w0 wr g s below h.2.1 hg0 h.1).mono fun e w' ⟨h1, h2⟩ => ⟨h1, h.then_ h2⟩
theorem numGo_lt (below : Int) (d : Nat) : ∀ (i : Nat) (n : Int) (s : RSt), Bytes s.1 → 0 ≤ n → n < (128 : Int) ^ i → 0 ≤ (numGo below d i n s).1 ∧ (numGo below d i n s).1 < (128 : Int) ^ (i + d) ∧ ((numGo below d i n s).2.2 = false → (numGo below d i n s).1 < below) := by
  induction d with
  | zero =>
    intro i n s _ h0 h1
    simp only [numGo]
    exact ⟨Int.le_refl _, Int.pow_pos (by decide), (fun h => by cases h)⟩
  | succ d ih =>
    intro i n s h8 h0 h1
    simp only [numGo]
    have hp : (0 : Int) < (128 : Int) ^ (i + (d + 1)) := Int.pow_pos (by decide)
    by_cases hb : s.2 = true
    · rw [if_pos hb]
      exact ⟨Int.le_refl _, hp, fun h => by cases h⟩
    · rw [if_neg hb]
      obtain ⟨xs, b⟩ := s
      cases xs with
      | nil => exact ⟨Int.le_refl _, hp, fun h => by cases h⟩
      | cons x r =>
        have hx := Bytes.cons h8
        have hpi : (0 : Int) ≤ (128 : Int) ^ i := Int.le_of_lt (Int.pow_pos (by decide))
        have hm : 0 ≤ x % 128 * (128 : Int) ^ i ∧ x % 128 * (128 : Int) ^ i ≤ 127 * (128 : Int) ^ i := ⟨Int.mul_nonneg (by omega) hpi, Int.mul_le_mul_of_nonneg_right (by omega) hpi⟩
        have hs : n + x % 128 * (128 : Int) ^ i < (128 : Int) ^ (i + 1) := by
          rw [Int.pow_succ]
          omega
        simp only
        by_cases hl : x < 128
        · rw [if_pos hl]
          refine ⟨by show 0 ≤ n + x % 128 * (128 : Int) ^ i; omega, ?_, fun h => ?_⟩
          · show n + x % 128 * (128 : Int) ^ i < (128 : Int) ^ (i + (d + 1))
            refine Int.lt_of_lt_of_le hs ?_
            have h1 : (128 : Nat) ^ (i + 1) ≤ 128 ^ (i + (d + 1)) := Nat.pow_le_pow_right (by decide) (by omega)
            exact_mod_cast h1
          · have := of_decide_eq_false h
            show n + x % 128 * (128 : Int) ^ i < below
            omega
        · rw [if_neg hl]
          have := ih (i + 1) (n + x % 128 * (128 : Int) ^ i) (r, false) hx.2 (by omega) hs
          rw [show i + 1 + d = i + (d + 1) by omega] at this
          exact this
theorem numR_lt (below : Int) (s : RSt) (h8 : Bytes s.1) : 0 ≤ (numR below s).1 ∧ (numR below s).1 < 34359738368 ∧ ((numR below s).2.2 = false → (numR below s).1 < below) := by
 have := numGo_lt below 5 0 0 s h8 (by omega) (by decide)
 exact this
theorem RsT.bytes {T : TypeId} {w0 w wr : World} {g : Nat} {s : RSt} (h : RsT T w0 w wr g s) : Bytes s.1 := by
 obtain ⟨A, c, -, -, -, h8, -⟩ := h.1
 exact h8
def countR (m : Int) (s : RSt) : Int × RSt := if (numR (m + 1) s).2.2 = true then (0, (numR (m + 1) s).2) else numR (m + 1) s
def pickR (l : List ByteArray) (s : RSt) : ByteArray × RSt := if (numR l.length s).2.2 = true then (⟨#[]⟩, (numR l.length s).2) else (rdOf ByteArray.empty l (numR l.length s).1, (numR l.length s).2)
def unsgn (n : Int) : Int := if n % 2 = 1 then -((n + 1) / 2) else n / 2
def signedR (s : RSt) : Int × RSt := (unsgn (numR 2000001 s).1, (numR 2000001 s).2)
def PickPost (w0 w : World) (g : Nat) (r : ByteArray × RSt) (e : Ending) (w' : World) : Prop := e = .returned (.string r.1) ∧ Rs w0 w w' g r.2
section
variable {w0 w wr : World} {g : Nat} {s : RSt}
set_option maxHeartbeats 4000000 in
set_option maxRecDepth 100000 in
theorem count_rs (m : Int) (hm : 0 ≤ m ∧ m ≤ 1000000) (hg0 : w0.heap.size ≤ g) (h : Rs w0 w wr g s) :
    Calls Try.prog 62 #[.pointer (some ⟨g, 0, none⟩), .int .i64 m] wr (NumPost w0 w g (countR m s)) := by
  have hn := num_rs (m + 1) hg0 h
  obtain ⟨⟨n, xs, b⟩, hr⟩ : ∃ r, r = numR (m + 1) s := ⟨_, rfl⟩
  obtain ⟨R, hR⟩ : ∃ R, R = countR m s := ⟨_, rfl⟩
  have HE : Hid (R = if b = true then (0, (xs, b)) else (n, (xs, b))) := Lib.hid (by rw [hR]; unfold countR; rw [← hr])
  rw [← hr] at hn
  rw [← hR]
  clear hR
  obtain ⟨hm0, hm1⟩ := hm
  clear hr h
  go_enter Try.func62, Try.ntmps62
  go_wp2_with fail
  refine hn.mono ?_
  rintro e w2 ⟨rfl, hs⟩
  have HS := Lib.hid hs
  obtain ⟨A, c, hl, hg, hC, -⟩ := hs.1
  have hbv : w2.cell? ⟨g, 1, none⟩ = some (.bool b) := (q73 hg 1).trans rfl
  clear hs hg hC hn
  cases b with
  | true =>
    go_wp2
    go_ret
    exact ⟨by rw [HE.out]; rfl, by rw [HE.out]; exact HS.out⟩
  | false =>
    go_wp2
    go_ret
    exact ⟨by rw [HE.out]; rfl, by rw [HE.out]; exact HS.out⟩
set_option maxHeartbeats 4000000 in
set_option maxRecDepth 100000 in
theorem signed_rs (hg0 : w0.heap.size ≤ g) (h : Rs w0 w wr g s) :
 Calls Try.prog 86 #[.pointer (some ⟨g, 0, none⟩)] wr (NumPost w0 w g (signedR s)) := by
 have hn := num_rs 2000001 hg0 h
 have hlt := numR_lt 2000001 s h.bytes
 unfold signedR
 obtain ⟨⟨n, z⟩, hr⟩ : ∃ r, r = numR 2000001 s := ⟨_, rfl⟩
 rw [← hr] at hn hlt ⊢
 obtain ⟨h0, h1, -⟩ := hlt
 simp only at h0 h1 ⊢
 have ha : Go.bits .and .i64 n 1 = n % 2 := by
  obtain ⟨k, rfl⟩ := Int.eq_ofNat_of_zero_le h0
  rw [and_one k (by omega)]
  omega
 have HU : Hid (unsgn n = if n % 2 = 1 then -((n + 1) / 2) else n / 2) := Lib.hid rfl
 clear hr h
 go_enter Try.func86, Try.ntmps86
 go_wp2_with fail
 refine hn.mono ?_
 rintro e w2 ⟨rfl, hs⟩
 have HS := Lib.hid hs
 clear hs hn
 by_cases hm : n % 2 = 1
 ·have hd : Int.tdiv (-(n + 1)) 2 = -((n + 1) / 2) := by
   rw [Int.neg_tdiv, Int.tdiv_eq_ediv_of_nonneg (by omega)]
  have HD := Lib.hid hd
  have HM := Lib.hid hm
  go_wp2
  go_ret
  exact ⟨by rw [HU.out, if_pos HM.out, ← HD.out]; rfl, HS.out⟩
 ·have HM := Lib.hid hm
  have hb : (n % 2 == 1) = false := beq_eq_false_iff_ne.mpr hm
  go_wp2
  go_ret
  exact ⟨by rw [HU.out, if_neg HM.out]; rfl, HS.out⟩
set_option maxHeartbeats 4000000 in
set_option maxRecDepth 100000 in
theorem pick_rs (A : Option Addr) (c : Nat) (l : List ByteArray) (hg0 : w0.heap.size ≤ g) (h : Rs w0 w wr g s) (hC : Kd.C Kd.string wr A l.length l) (hA : ∀ ad, A = some ad → ad.block < wr.heap.size ∧ ad.block ≠ g) (hll : l.length ≤ 1000000) :
    Calls Try.prog 79 #[.pointer (some ⟨g, 0, none⟩), .slice A l.length c] wr (PickPost w0 w g (pickR l s)) := by
  have hn := num_rany w0 wr g s l.length h.2.1 hg0 h.1
  have hlt := numR_lt (l.length : Int) s h.bytes
  have HH := Lib.hid h
  obtain ⟨R, hR⟩ : ∃ R, R = pickR l s := ⟨_, rfl⟩
  have hR2 := hR
  unfold pickR at hR2
  rw [← hR]
  obtain ⟨⟨n, xs, b⟩, hr⟩ : ∃ r, r = numR l.length s := ⟨_, rfl⟩
  rw [← hr] at hn hlt hR2
  have HE := Lib.hid hR2
  have HC := Lib.hid hC
  have HA := Lib.hid hA
  obtain ⟨h0, h1, h2⟩ := hlt
  have HN := Lib.hid h2
  obtain ⟨k, hk⟩ : ∃ k, k = l.length := ⟨_, rfl⟩
  rw [← hk] at hn hll ⊢
  have HK := Lib.hid hk
  clear hR hR2 hr hC hA h h2 hk
  go_enter Try.func79, Try.ntmps79
  go_wp2_with fail
  refine hn.mono ?_
  rintro e w2 ⟨rfl, hs⟩
  have HS := Lib.hid (HH.out.then_ hs)
  have HKC : Hid (Kd.C Kd.string w2 A l.length l) := Lib.hid (C_kept HC.out hs.2.2 HA.out)
  obtain ⟨A2, c2, hl2, hg2, hC2, -⟩ := hs.1
  have hbv : w2.cell? ⟨g, 1, none⟩ = some (.bool b) := (q73 hg2 1).trans rfl
  clear hs hg2 hC2 hn
  cases b with
  | true =>
    go_wp2
    go_ret
    exact ⟨by rw [HE.out]; rfl, by rw [HE.out]; exact HS.out⟩
  | false =>
    have hnl : n < (k : Int) := by rw [HK.out]; exact HN.out rfl
    obtain ⟨ad, e, hx0⟩ := Kd.at_string HKC.out n h0 (by have := HK.out; omega)
    cases e
    obtain ⟨q, rfl⟩ := Int.eq_ofNat_of_zero_le h0
    simp only [Int.toNat_natCast] at hx0
    have hql : q < k := by omega
    obtain ⟨z, hz⟩ : ∃ z, z = rdOf ByteArray.empty l (q : Int) := ⟨_, rfl⟩
    rw [← hz] at hx0
    have HZ := Lib.hid hz
    clear hz
    go_wp2
    go_ret
    exact ⟨by rw [HE.out, HZ.out]; rfl, by rw [HE.out]; exact HS.out⟩
end
abbrev Cdr (w0 w : World) (g : Nat) (s : RSt) : Prop := RdrT 76 w0 w g s
abbrev Cs (w0 w wr : World) (g : Nat) (s : RSt) : Prop := RsT 76 w0 w wr g s
def numCGo (most : Int) : Nat → Nat → Int → RSt → Int × RSt
  | 0, _, _, s => (0, (s.1, true))
  | d + 1, i, n, s => if s.2 = true then (0, (s.1, true)) else match s.1 with
    | [] => (0, ([], true))
    | x :: r => if x < 128 then (if n + (x % 128) * (128 : Int) ^ i > most then (0, (r, true)) else (n + (x % 128) * (128 : Int) ^ i, (r, false))) else numCGo most d (i + 1) (n + (x % 128) * (128 : Int) ^ i) (r, false)
def numC (most : Int) (s : RSt) : Int × RSt := numCGo most 5 0 0 s
def CumPost (w0 w : World) (g : Nat) (r : Int × RSt) (e : Ending) (w' : World) : Prop := e = .returned (.int .i64 r.1) ∧ Cs w0 w w' g r.2
theorem and127c (x : Int) (h0 : 0 ≤ x) (h1 : x ≤ 255) : Go.bits .and .i64 x 127 = x % 128 := by
 have h : ∀ n : Fin 256, Go.bits .and .i64 (n.val : Int) 127 = (n.val : Int) % 128 := by decide +kernel
 have := h ⟨x.toNat, by omega⟩
 rwa [show ((⟨x.toNat, by omega⟩ : Fin 256).val : Int) = x by simp; omega] at this
set_option maxHeartbeats 8000000 in
set_option maxRecDepth 100000 in
theorem numc_rany (w0 w : World) (g : Nat) (s : RSt) (most : Int) (hB : Below w0.heap.size w0 w) (hg0 : w0.heap.size ≤ g) (hR : Cdr w0 w g s) :
    Calls Try.prog 36 #[.pointer (some ⟨g, 0, none⟩), .int .i64 most] w (CumPost w0 w g (numC most s)) := by
  have HS := Lib.hid (RsT.refl hR hB)
  clear hR hB
  unfold numC
  obtain ⟨R, hR⟩ : ∃ R, R = numCGo most 5 0 0 s := ⟨_, rfl⟩
  rw [← hR]
  have HR := Lib.hid hR
  clear hR
  go_enter Try.func36, Try.ntmps36
  go_wp2
  go_loopg [7, 5, 6] 5 (fun gg s7 s5 s6 wr => ∃ (i d : Nat) (n : Int) (z : RSt), s7 = .int .i64 i ∧ s5 = .int .i64 n ∧ s6 = .int .i64 (7 * i) ∧ i + d = 5 ∧ d ≤ gg ∧ 0 ≤ n ∧ n < (128 : Int) ^ i ∧ Hid (Cs w0 w wr g z ∧ R = numCGo most d i n z))
  case atStart => exact ⟨0, 5, 0, s, rfl, rfl, rfl, rfl, by omega, by decide, by decide, Lib.hid ⟨HS.out, HR.out⟩⟩
  case round =>
    obtain ⟨i, d, n, z, rfl, rfl, rfl, hig, hdg, hn0, hni, X⟩ := hrel
    obtain ⟨wO, rfl⟩ : ∃ wO, wO = wr := ⟨_, rfl⟩
    have HBAD : Hid (R = (0, (z.1, true)) → CumPost w0 w g R (.returned (.int .i64 0)) (wO.setCell ⟨g, 1, none⟩ (.bool true))) := Lib.hid (fun h => by rw [h]; exact ⟨rfl, X.out.1.put hg0 (X.out.1.1.put1 true)⟩)
    obtain ⟨A, c, hl, hg, hC, h8, h6⟩ := X.out.1.1
    have hfz0 := q77 hg 0
    have hfz1 := q77 hg 1
    have hbv : wO.cell? ⟨g, 1, none⟩ = some (.bool z.2) := (q73 hg 1).trans rfl
    have hsv : wO.cell? ⟨g, 0, none⟩ = some (.slice A z.1.length c) := (q73 hg 0).trans rfl
    by_cases hi : i < 5
    case neg =>
      obtain rfl : i = 5 := by omega
      obtain rfl : d = 0 := by omega
      have HT : Hid (R = (0, (z.1, true))) := Lib.hid X.out.2
      clear hg hC X h8 hsv
      go_wp2
      go_ret
      exact HBAD.out HT.out
    have hiz : (i : Int) < 5 := by omega
    obtain ⟨d, rfl⟩ : ∃ e, d = e + 1 := ⟨d - 1, by omega⟩
    have HG := Lib.hid hg
    have HC := Lib.hid hC
    have H8 := Lib.hid h8
    have HX := Lib.hid X.out
    obtain ⟨xs, b⟩ := z
    simp only at hl h6 hsv hbv
    clear X hg hC h8
    cases b with
    | true =>
      have HT : Hid (R = (0, (xs, true))) := Lib.hid (by rw [HX.out.2]; rfl)
      clear hsv
      go_wp2
      go_ret
      exact HBAD.out HT.out
    | false =>
    cases xs with
    | nil =>
      have HT : Hid (R = (0, ([], true))) := Lib.hid (by rw [HX.out.2]; rfl)
      have hsv : wO.cell? ⟨g, 0, none⟩ = some (.slice A 0 c) := hsv
      go_wp2
      go_ret
      exact HBAD.out HT.out
    | cons x r =>
    have HX8 : Hid (0 ≤ x ∧ x ≤ 255) := Lib.hid (Bytes.cons H8.out).1
    obtain ⟨m, hm⟩ : ∃ m, m = (x :: r).length := ⟨_, rfl⟩
    have hml : m = r.length + 1 := hm
    rw [← hm] at hl hsv
    obtain ⟨ad, e, hx0⟩ := Kd.at_int (Kd.C_below HC.out HX.out.1.2.1) (0 : Int) (by omega) (by simp)
    cases e
    have hx0 : wO.cell? ad = some (.int .u8 x) := by simpa [Addr.add, rd] using hx0
    have hm0 : ((m : Int) == 0) = false := beq_eq_false_iff_ne.mpr (by omega)
    have hmp : (0 : Int) < (m : Int) := by omega
    obtain ⟨i0, hi0, hz0, hz1, hz2⟩ := info_parts info5
    have k2 := cut_from (P := Try.prog) 26 5 .i64 Try.underlying26 hi0 1 hz1 (some ad) m c (1 : Int) (by omega) (by omega)
    obtain ⟨A2, hA2⟩ : ∃ A2, A2 = if c = (1 : Int).toNat then some ad else (some ad).map (·.add ((1 : Int).toNat * 1)) := ⟨_, rfl⟩
    have hC2 : Kd.C (Kd.int .u8) w0 A2 r.length r := by rw [hA2]; exact Kd.C_drop HC.out (show 1 ≤ (x :: r).length by simp) (by rw [← hm]; omega)
    rw [← hA2] at k2
    have h1t : (1 : Int).toNat = 1 := rfl
    rw [h1t] at k2
    obtain ⟨q, hq⟩ : ∃ q, q = m - 1 := ⟨_, rfl⟩
    have hqr : q = r.length := by omega
    rw [← hq] at k2
    obtain ⟨hval, hv0, hvn⟩ := num_val n x i hi hn0 hni HX8.out
    rw [andNot128 x HX8.out.1 HX8.out.2, show wrap64 (x % 128) = x % 128 by unfold wrap64; omega] at hval
    have hwx : wrap64 x = x := by have := HX8.out; unfold wrap64; omega
    obtain ⟨v, hv⟩ : ∃ v, v = n + (x % 128) * (128 : Int) ^ i := ⟨_, rfl⟩
    rw [← hv] at hval hv0 hvn
    have ha := and127c x HX8.out.1 HX8.out.2
    have HV := Lib.hid hv
    have HVN := Lib.hid hvn
    have HP : Hid (Cs w0 w (wO.setCell ⟨g, 0, none⟩ (.slice A2 q (c - 1))) g (r, false)) := Lib.hid (by
      subst hqr
      exact HX.out.1.put hg0 (RdrT.put0 HG.out (by omega) hC2 (Bytes.cons H8.out).2 (by omega)))
    clear hv hvn hni hi0 hz0 hz1 hz2 hA2 hC2 h1t hq hqr hm hml hl
    by_cases h128 : x < 128
    case pos =>
      by_cases hgt : v > most
      case pos =>
        have HE : Hid (R = (0, (r, true))) := Lib.hid (by
          rw [HX.out.2]
          simp only [numCGo]
          rw [if_neg (by decide), if_pos h128, if_pos (by rw [← HV.out]; exact hgt)])
        have HP2 : Hid (Cs w0 w ((wO.setCell ⟨g, 0, none⟩ (.slice A2 q (c - 1))).setCell ⟨g, 1, none⟩ (.bool true)) g (r, true)) := Lib.hid (HP.out.put hg0 (HP.out.1.put1 true))
        go_wp2
        go_ret
        exact ⟨by rw [HE.out]; rfl, by rw [HE.out]; exact HP2.out⟩
      case neg =>
        have HE : Hid (R = (v, (r, false))) := Lib.hid (by
          rw [HX.out.2, HV.out]
          simp only [numCGo]
          rw [if_neg (by decide), if_pos h128, if_neg (by rw [← HV.out]; exact hgt)])
        go_wp2
        go_ret
        exact ⟨by rw [HE.out]; rfl, by rw [HE.out]; exact HP.out⟩
    case neg =>
      have HE : Hid (R = numCGo most d (i + 1) v (r, false)) := Lib.hid (by
        rw [HX.out.2, HV.out]
        simp only [numCGo]
        rw [if_neg (by decide), if_neg h128])
      go_wp2
      go_roundg d
      case measure => omega
      case rel => exact ⟨i + 1, d, v, (r, false), by go_num, rfl, by go_num, by omega, Nat.le_refl _, hv0, HVN.out, Lib.hid ⟨HP.out, HE.out⟩⟩
theorem numc_rs {w0 w wr : World} {g : Nat} {s : RSt} (most : Int) (hg0 : w0.heap.size ≤ g) (h : Cs w0 w wr g s) :
 Calls Try.prog 36 #[.pointer (some ⟨g, 0, none⟩), .int .i64 most] wr (CumPost w0 w g (numC most s)) :=
 (numc_rany w0 wr g s most h.2.1 hg0 h.1).mono fun e w' ⟨h1, h2⟩ => ⟨h1, h.then_ h2⟩
def q62.f  : Option (List ByteArray) := some (([(⟨#[60]⟩ : ByteArray), (⟨#[60, 61]⟩ : ByteArray), (⟨#[61]⟩ : ByteArray), (⟨#[33, 61]⟩ : ByteArray), (⟨#[62, 61]⟩ : ByteArray), (⟨#[62]⟩ : ByteArray)] : List ByteArray))
set_option maxHeartbeats 8000000 in
set_option maxRecDepth 100000 in
theorem q62.calls  (r : List ByteArray) (w : World) (h : q62.f  = some r) :
 Calls Try.prog 73 #[] w fun e w' => ∃ v0_ : Value, e = .returned (v0_) ∧ Kd.R Kd.string 9 w' w.heap.size (fun _ => True) v0_ r ∧ Below w.heap.size w w' := by
 have HB := q66.mk (Below.refl w.heap.size w)
 unfold q62.f at h
 have H := h
 clear h
 obtain ⟨y378, hy378⟩ : ∃ y_ : List ByteArray, y_ = (([(⟨#[60]⟩ : ByteArray), (⟨#[60, 61]⟩ : ByteArray), (⟨#[61]⟩ : ByteArray), (⟨#[33, 61]⟩ : ByteArray), (⟨#[62, 61]⟩ : ByteArray), (⟨#[62]⟩ : ByteArray)] : List ByteArray)) := ⟨_, rfl⟩
 rw [← hy378] at H
 have Ny378 := q66.mk hy378
 clear hy378
 obtain rfl := Option.some.inj H
 go_enter Try.func73, Try.ntmps73
 go_wp2_with (first | ((with_reducible refine q81 (N := 1) rfl ?_); refine Kd.R_lit Kd.string _ 9 ?hg (N := 1) ?hd (xs := ([(⟨#[60]⟩ : ByteArray), (⟨#[60, 61]⟩ : ByteArray), (⟨#[61]⟩ : ByteArray), (⟨#[33, 61]⟩ : ByteArray), (⟨#[62, 61]⟩ : ByteArray), (⟨#[62]⟩ : ByteArray)] : List ByteArray)) (inner := [.string (⟨#[60]⟩ : ByteArray), .string (⟨#[60, 61]⟩ : ByteArray), .string (⟨#[61]⟩ : ByteArray), .string (⟨#[33, 61]⟩ : ByteArray), .string (⟨#[62, 61]⟩ : ByteArray), .string (⟨#[62]⟩ : ByteArray)]) (ok := fun _ => True) (okp := fun _ => True) ?hr ?hp (fun _ hk => hk) trivial (Below.refl _ _) (Nat.le_refl _) (by simp) ?_; (case hd => rfl); (case hg => rfl); (case hr => first | (go_simp; done) | (go_simp; rfl)); (case hp => exact (Reps.one (show Kd.M Kd.string _ _ _ (⟨#[60]⟩ : ByteArray) [.string (⟨#[60]⟩ : ByteArray)] from rfl) (Reps.one (show Kd.M Kd.string _ _ _ (⟨#[60, 61]⟩ : ByteArray) [.string (⟨#[60, 61]⟩ : ByteArray)] from rfl) (Reps.one (show Kd.M Kd.string _ _ _ (⟨#[61]⟩ : ByteArray) [.string (⟨#[61]⟩ : ByteArray)] from rfl) (Reps.one (show Kd.M Kd.string _ _ _ (⟨#[33, 61]⟩ : ByteArray) [.string (⟨#[33, 61]⟩ : ByteArray)] from rfl) (Reps.one (show Kd.M Kd.string _ _ _ (⟨#[62, 61]⟩ : ByteArray) [.string (⟨#[62, 61]⟩ : ByteArray)] from rfl) (Reps.one (show Kd.M Kd.string _ _ _ (⟨#[62]⟩ : ByteArray) [.string (⟨#[62]⟩ : ByteArray)] from rfl) (Reps.none _ _)))))))); intro v379 w1 ho2 hb hg_ hnew_; clear hg_ hnew_; (first | rw [← Ny378.out] at ho2 | (simp only [Int.reduceToNat] at ho2; rw [← Ny378.out] at ho2)); have HO380 := q66.mk (Kd.R_lower ho2 (q69 hf_)); replace HB := hb_ HB hb;  clear hb ho2))
 go_ret
 exact ⟨_, by first | rfl | (simp [errW_none, errW_some] <;> rfl) | (simp [*, errW_none, errW_some] <;> rfl), by (with_reducible repeat (first | apply Kd.R_alloc | apply Kd.R_drewN | apply Kd.R_drew)); exact HO380.out, by repeat (first | (with_reducible first | exact HB.out | apply q67 | apply q86 | apply q68) | exact HB.out)⟩
def onsR (ids : List ByteArray) : Nat → RSt → List (S103) × RSt
 | 0, s => ([], s)
 | d + 1, s => (⟨(pickR ids s).1, (numR 6 (pickR ids s).2).1⟩ :: (onsR ids d (numR 6 (pickR ids s).2).2).1, (onsR ids d (numR 6 (pickR ids s).2).2).2)
def ifsR (files : List ByteArray) : Nat → RSt → List (S50) × RSt
 | 0, s => ([], s)
 | d + 1, s => (⟨(pickR files s).1, (pickR opsL (pickR files s).2).1, (signedR (pickR opsL (pickR files s).2).2).1⟩ :: (ifsR files d (signedR (pickR opsL (pickR files s).2).2).2).1, (ifsR files d (signedR (pickR opsL (pickR files s).2).2).2).2)
def sentR (files ids : List ByteArray) (s : RSt) : S54 × RSt :=
 let c1 := countR 3 s
 let o := onsR ids c1.1.toNat c1.2
 let c2 := countR 2 o.2
 let f := ifsR files c2.1.toNat c2.2
 (⟨o.1, f.1⟩, f.2)
def sentsGo (files ids : List ByteArray) : Nat → RSt → List (S54) × RSt
 | 0, s => ([], s)
 | d + 1, s => ((sentR files ids s).1 :: (sentsGo files ids d (sentR files ids s).2).1, (sentsGo files ids d (sentR files ids s).2).2)
def sentsR (files ids : List ByteArray) (s : RSt) : List (S54) × RSt := sentsGo files ids (countR 3 s).1.toNat (countR 3 s).2
def SentsPost (w0 w : World) (g : Nat) (r : List (S54) × RSt) (e : Ending) (w' : World) : Prop := ∃ v, e = .returned v ∧ Kd.R k54 54 w' w.heap.size (fun _ => True) v r.1 ∧ Rs w0 w w' g r.2
theorem countR_le (m : Int) (s : RSt) (h8 : Bytes s.1) (hm : 0 ≤ m) : 0 ≤ (countR m s).1 ∧ (countR m s).1 ≤ m := by
 have h := numR_lt (m + 1) s h8
 unfold countR
 split
 ·exact ⟨Int.le_refl _, hm⟩
 ·rename_i hb
  have := h.2.2 (by simpa using hb)
  exact ⟨h.1, by omega⟩
def Txt (w0 w : World) (g : Nat) (A : Option Addr) (c : Nat) (l : List ByteArray) : Prop := Kd.C Kd.string w A l.length l ∧ l.length ≤ c ∧ (∀ ad, A = some ad → ad.block < w.heap.size ∧ ad.block ≠ g) ∧ l.length ≤ 1000000
theorem Txt.go {T : TypeId} {w0 w w1 : World} {g : Nat} {A : Option Addr} {c : Nat} {l : List ByteArray} {s : RSt} (h : Txt w0 w g A c l) (k : RsT T w0 w w1 g s) : Txt w0 w1 g A c l :=
 ⟨C_kept h.1 k.2.2 h.2.2.1, h.2.1, fun ad e => ⟨Nat.lt_of_lt_of_le (h.2.2.1 ad e).1 k.2.2.1, (h.2.2.1 ad e).2⟩, h.2.2.2⟩
theorem pick_txt {w0 w wr : World} {g : Nat} {s : RSt} {A : Option Addr} {c : Nat} {l : List ByteArray} (hg0 : w0.heap.size ≤ g) (h : Rs w0 w wr g s) (ht : Txt w0 wr g A c l) :
 Calls Try.prog 79 #[.pointer (some ⟨g, 0, none⟩), .slice A l.length c] wr (PickPost w0 w g (pickR l s)) := pick_rs A c l hg0 h ht.1 ht.2.2.1 ht.2.2.2
theorem R_rs {T : TypeId} {w0 w w1 : World} {g : Nat} {s : RSt} {α : Type} {d : Kd α} {e base : Nat} {ok : Nat → Prop} {v : Value} {xs : List α} (h : d.R e w base ok v xs) (k : RsT T w0 w w1 g s) (hg : g < base) : d.R e w1 base ok v xs :=
 Kd.R_mono (Kd.R_keep (Kd.R_bound h) k.keep (fun k hk => by have := hk.2.1; omega)) (fun _ hk => hk.1)
theorem R_set2 {w : World} {α : Type} {d : Kd α} {e base : Nat} {ok : Nat → Prop} {v : Value} {xs : List α} (h : d.R e w base ok v xs) (p : Addr) (u : Value) (hp : p.block < base) : d.R e (w.setCell p u) base ok v xs :=
 Kd.R_mono (Kd.R_far (Kd.R_bound h) (fun k hk => by have := hk.2.1; omega) u) (fun _ hk => hk.1)
theorem info103_ : (Try.prog.info? 103).map (fun i => (i.zero, i.size, i.bytes)) = some (some (.agg #[.string ⟨#[]⟩, .int .i64 0]), 2, 24) := by kernel_rfl
theorem info50_ : (Try.prog.info? 50).map (fun i => (i.zero, i.size, i.bytes)) = some (some (.agg #[.string ⟨#[]⟩, .string ⟨#[]⟩, .int .i64 0]), 3, 40) := by kernel_rfl
theorem info54_ : (Try.prog.info? 54).map (fun i => (i.zero, i.size, i.bytes)) = some (some (.agg #[.slice none 0 0, .slice none 0 0]), 2, 48) := by kernel_rfl
set_option maxHeartbeats 16000000 in
set_option maxRecDepth 100000 in
theorem sentsr_any (w0 w : World) (g : Nat) (s : RSt) (A1 : Option Addr) (c1 : Nat) (files : List ByteArray) (A2 : Option Addr) (c2 : Nat) (ids : List ByteArray) (hg0 : w0.heap.size ≤ g) (h : Rs w0 w w g s) (ht1 : Txt w0 w g A1 c1 files) (ht2 : Txt w0 w g A2 c2 ids) :
 Calls Try.prog 80 #[.pointer (some ⟨g, 0, none⟩), .slice A1 files.length c1, .slice A2 ids.length c2] w (SentsPost w0 w g (sentsR files ids s)) := by
 have hcnt := count_rs 3 (by omega) hg0 h
 have hcl := countR_le 3 s h.bytes (by omega)
 obtain ⟨R, hR⟩ : ∃ R, R = sentsR files ids s := ⟨_, rfl⟩
 rw [← hR]
 unfold sentsR at hR
 obtain ⟨⟨n, z0⟩, hn⟩ : ∃ r, r = countR 3 s := ⟨_, rfl⟩
 rw [← hn] at hcnt hcl hR
 obtain ⟨k, rfl⟩ := Int.eq_ofNat_of_zero_le hcl.1
 have hk3 : k ≤ 3 := by have := hcl.2; simp only at this; omega
 replace hR : R = sentsGo files ids k z0 := hR
 have HR := Lib.hid hR
 have H := Lib.hid h
 have HT1 := Lib.hid ht1
 have HT2 := Lib.hid ht2
 have hgl := h.1.lt
 clear hR hn hcl h ht1 ht2
 go_enter Try.func80, Try.ntmps80
 go_wp2_with fail
 refine hcnt.mono ?_
 rintro e w1 ⟨rfl, hs⟩
 have HS1 := Lib.hid hs
 clear hs hcnt
 go_wp2
 go_loopg [14, 7] k (fun gg s14 s7 wr => ∃ (i d : Nat) (z : RSt) (acc : List (S54)), s14 = .int .i64 i ∧ i + d = k ∧ d ≤ gg ∧ Hid (Kd.R k54 54 wr w.heap.size (fun _ => True) s7 acc ∧ Rs w0 w wr g z ∧ acc.length = i ∧ R = (acc ++ (sentsGo files ids d z).1, (sentsGo files ids d z).2)))
 case atStart => exact ⟨0, k, z0, [], rfl, by omega, Nat.le_refl _, Lib.hid ⟨Kd.R_nil _ _ _ _ _, HS1.out, rfl, by rw [HR.out]; rfl⟩⟩
 case round =>
  obtain ⟨i, d, z, acc, rfl, hid, hdg, X⟩ := hrel
  obtain ⟨wO, rfl⟩ : ∃ wO, wO = wr := ⟨_, rfl⟩
  obtain ⟨hRa, hsO, hacc, hRe⟩ := X.out
  obtain ⟨Av, cv, rfl⟩ := Kd.R_slice hRa
  clear X
  by_cases hlt : i < k
  case neg =>
   have hltz : ¬ (i : Int) < (k : Int) := by omega
   obtain rfl : d = 0 := by omega
   have HT : Hid (R = (acc, z)) := Lib.hid (by rw [hRe]; simp [sentsGo])
   have HF := Lib.hid (And.intro hRa hsO)
   clear hRa hsO hacc hRe
   go_wp2
   go_ret
   exact ⟨_, rfl, by rw [HT.out]; exact HF.out.1, by rw [HT.out]; exact HF.out.2⟩
  have hltz : (i : Int) < (k : Int) := by omega
  obtain ⟨d, rfl⟩ : ∃ e, d = e + 1 := ⟨d - 1, by omega⟩
  have hbg : wO.heap.size ≠ g := by have := hsO.1.lt; omega
  have hgb : g < wO.heap.size + 1 := by have := hsO.1.lt; omega
  have hbw : w.heap.size ≤ wO.heap.size := hsO.2.2.1
  have hbw0 : w0.heap.size ≤ wO.heap.size := hsO.2.1.size
  have hcnt := count_rs (w0 := w0) (w := wO.alloc (.cells #[.slice none 0 0, .slice none 0 0] 54)) 3 (by omega) hg0 (hsO.alloc _).here
  have hcl := countR_le 3 z hsO.bytes (by omega)
  obtain ⟨Z, hZ⟩ : ∃ Z, Z = sentR files ids z := ⟨_, rfl⟩
  have hRe2 : R = (acc ++ Z.1 :: (sentsGo files ids d Z.2).1, (sentsGo files ids d Z.2).2) := by rw [hRe, hZ]; rfl
  unfold sentR at hZ
  obtain ⟨⟨n1, z1⟩, hn1⟩ : ∃ r, r = countR 3 z := ⟨_, rfl⟩
  rw [← hn1] at hcnt hcl hZ
  obtain ⟨k1, rfl⟩ := Int.eq_ofNat_of_zero_le hcl.1
  have hk1 : k1 ≤ 3 := by have := hcl.2; simp only at this; omega
  obtain ⟨O, hO⟩ : ∃ O, O = onsR ids k1 z1 := ⟨_, rfl⟩
  replace hZ : Z = (⟨O.1, (ifsR files (countR 2 O.2).1.toNat (countR 2 O.2).2).1⟩, (ifsR files (countR 2 O.2).1.toNat (countR 2 O.2).2).2) := by rw [hZ, hO]; rfl
  have HRA := Lib.hid hRa
  have HSO := Lib.hid hsO
  have HACC := Lib.hid hacc
  have HRE := Lib.hid hRe2
  have HZ := Lib.hid hZ
  have HO := Lib.hid hO
  have hblk := heap_alloc_new wO (.cells #[.slice none 0 0, .slice none 0 0] 54)
  have HBLK := Lib.hid hblk
  clear hRa hsO hacc hRe hRe2 hZ hO hn1 hcl hblk
  go_wp2_with fail
  refine hcnt.mono ?_
  rintro e w2 ⟨rfl, s2⟩
  have HS2 := Lib.hid ((HSO.out.here.alloc (.cells #[.slice none 0 0, .slice none 0 0] 54)).then_ s2)
  have HB2 := Lib.hid (s2.blk HBLK.out hbg)
  clear s2 hcnt HBLK
  go_wp2
  go_loopg [18] k1 (fun gg s18 wi => ∃ (j e : Nat) (y : RSt) (ons : List (S103)), s18 = .int .i64 j ∧ j + e = k1 ∧ e ≤ gg ∧ Hid (∃ v1, Rs w0 wO wi g y ∧ wi.heap[wO.heap.size]? = some (.cells #[v1, .slice none 0 0] 54 (0, 0)) ∧ Kd.R k103 103 wi (wO.heap.size + 1) (fun _ => True) v1 ons ∧ ons.length = j ∧ O = (ons ++ (onsR ids e y).1, (onsR ids e y).2)))
  case atStart => exact ⟨0, k1, z1, [], rfl, by omega, Nat.le_refl _, Lib.hid ⟨_, HS2.out, HB2.out, Kd.R_nil _ _ _ _ _, rfl, by rw [HO.out]; rfl⟩⟩
  case round =>
   obtain ⟨j, e, y, ons, rfl, hje, heg, Y⟩ := hrel
   obtain ⟨wi, rfl⟩ : ∃ wi, wi = wr := ⟨_, rfl⟩
   obtain ⟨v1, hsi, hbi, hR1, hol, hOe⟩ := Y.out
   obtain ⟨A3, c3, rfl⟩ := Kd.R_slice hR1
   clear Y
   by_cases hlj : j < k1
   case pos =>
    have hltj : (j : Int) < (k1 : Int) := by omega
    obtain ⟨e, rfl⟩ : ∃ f, e = f + 1 := ⟨e - 1, by omega⟩
    have hpk := pick_txt (w0 := w0) (w := wi) hg0 hsi.here (HT2.out.go (H.out.then_ ((HSO.out.then_ hsi))))
    obtain ⟨⟨p, y1⟩, hp⟩ : ∃ r, r = pickR ids y := ⟨_, rfl⟩
    rw [← hp] at hpk
    have hOe2 : O = (ons ++ ⟨p, (numR 6 y1).1⟩ :: (onsR ids e (numR 6 y1).2).1, (onsR ids e (numR 6 y1).2).2) := by rw [hOe]; simp only [onsR]; rw [← hp]
    obtain ⟨m, hm⟩ : ∃ m, m = ons.length := ⟨_, rfl⟩
    rw [← hm] at hR1 hbi
    have HSI := Lib.hid hsi
    have HBI := Lib.hid hbi
    have HR1 := Lib.hid hR1
    have HOE := Lib.hid hOe2
    have HM := Lib.hid hm
    have HOL := Lib.hid hol
    clear hsi hbi hR1 hOe hOe2 hm hp hol
    go_wp2_with fail
    refine hpk.mono ?_
    rintro e' w4 ⟨rfl, s4⟩
    have HS4 := Lib.hid (HSI.out.then_ s4)
    have hb4 := s4.blk HBI.out hbg
    have HR4 := Lib.hid (R_rs HR1.out s4 (by omega))
    clear s4 hpk
    go_wp2
    have hcell : w4.cell? ⟨wO.heap.size, 0, none⟩ = some (.slice A3 m c3) := (q73 hb4 0).trans rfl
    refine sD_ [9] (fun w' => w'.cell? ⟨wO.heap.size, 0, none⟩ = some (.slice A3 m c3)) 10 hcell (fun hHeld => ?_)
    have hb5 : w4.drew.heap[wO.heap.size]? = some (.cells #[.slice A3 m c3, .slice none 0 0] 54 (0, 0)) := hb4
    have hs5 : Rs w0 wO w4.drew g y1 := HS4.out.drew
    have hR5 : Kd.R k103 103 w4.drew (wO.heap.size + 1) (fun _ => True) (.slice A3 m c3) ons := Kd.R_drew HR4.out
    clear hcell hb4 HS4 HR4
    generalize w4.drew = wD at hHeld hb5 hs5 hR5 ⊢
    refine pu_ 0 (some 23) ?_
    refine tk_ 1 (some 24) hHeld ?_ (hy := by rintro w' s0; go_simp; with_reducible rfl)
    refine pu_ 2 (some 25) ?_
    refine pu_ 3 (some 26) ?_
    have hnum := num_rs (w0 := w0) (w := wD) 6 hg0 hs5.here
    obtain ⟨⟨q, y2⟩, hq⟩ : ∃ r, r = numR 6 y1 := ⟨_, rfl⟩
    rw [← hq] at hnum
    have HQ := Lib.hid hq
    clear hq
    refine ca_ 4 (some 27) Try.func64 #[.pointer (some ⟨g, 0, none⟩), .int .i64 6] ?_
    refine hnum.mono ?_
    rintro e' w6 ⟨rfl, s6⟩
    have hs6 := hs5.then_ s6
    have hb6 := s6.blk hb5 hbg
    have hR6 := R_rs hR5 s6 hgb
    clear hnum hs5 hb5 hR5 s6 hHeld
    refine ⟨_, rfl, (q73 hb6 0).trans rfl, fun hHeld => ⟨_, rfl, nz_ (some 27) ?_⟩⟩
    refine pu_ 5 (some 28) ?_
    refine oN_ 6 (some 29) (fun K hK => ?_)
    go_simp
    refine hK.out _ _ ?_ (fun _ => ?_)
    ·exact (q73 (q72 hb6 (q67 (Below.refl _ _) _)) 0).trans rfl
    clear hK K
    refine oN_ 7 (some 30) (fun K hK => ?_)
    refine Kd.R_append_step k103 (w0 := w6) (wO.heap.size + 1) (by rfl) (.tmp 24) (.tmp 29) 52 103 (.agg #[.string ⟨#[]⟩, .int .i64 0]) 24 rfl Try.underlying52 info103_ rfl (by decide) (by omega) (.slice A3 m c3) ons ⟨p, q⟩ [.string p, .int .i64 q] (fun _ => True) (fun _ => False) rfl rfl (k103_mkM _ _ _ _) (fun _ h => h.elim) (fun _ _ => trivial) hR6 (Below.refl _ _) (blk_lt hb6) ?_ ?_
    ·have := HOL.out; omega
    intro v7 w7 hR7 hB7 hgr hat
    have hown : ∀ kk, (Value.slice A3 m c3).ownBlock = some kk → wO.heap.size + 1 ≤ kk := Kd.R_base hR6
    have hs7 := hs6.grown hgr (fun kk ek => ⟨by have := hown kk ek; omega, by have := hown kk ek; omega, by have := hown kk ek; omega⟩)
    have hb7 := (hgr.block _ (blk_lt hb6) (fun ek => by have := hown _ ek.symm; omega)).trans hb6
    obtain ⟨A7, c7, rfl⟩ := Kd.R_slice hR7
    clear hgr hat hB7 hown hs6 hb6 hR6 hHeld
    refine hK.out _ _ ((q73 hb7 0).trans rfl) (fun _ => ?_)
    clear hK K
    refine nz_ (some 30) ?_
    refine pu_ 8 (some 31) ?_
    have hcz := (q73 hb7 0).trans rfl
    have hfz := q77 hb7 0
    refine lA_ 9 none (fun K hK => ?_)
    go_simp
    have hlen : (ons ++ [(⟨p, q⟩ : S103)]).length = ons.length + 1 := by rw [List.length_append, List.length_singleton]
    have HF : Hid (Rs w0 wO (w7.setCell ⟨wO.heap.size, 0, none⟩ (.slice A7 (ons.length + 1) c7)) g y2 ∧ (w7.setCell ⟨wO.heap.size, 0, none⟩ (.slice A7 (ons.length + 1) c7)).heap[wO.heap.size]? = some (.cells #[.slice A7 (ons.length + 1) c7, .slice none 0 0] 54 (0, 0)) ∧ Kd.R k103 103 (w7.setCell ⟨wO.heap.size, 0, none⟩ (.slice A7 (ons.length + 1) c7)) (wO.heap.size + 1) (fun _ => True) (.slice A7 (ons.length + 1) c7) (ons ++ [⟨p, q⟩])) := Lib.hid ⟨hs7.set _ ⟨hbg, Nat.le_refl _, hbw0⟩, q78 hb7 0 _ rfl, hlen ▸ R_set2 hR7 _ _ (Nat.lt_succ_self _)⟩
    have HL := Lib.hid hlen
    refine hK.out _ _ ?_
    clear hK K hs7 hb7 hR7 hcz hfz hlen
    refine dn_ ?_
    go_wp2
    go_roundg e
    case measure => omega
    case rel => exact ⟨j + 1, e, y2, ons ++ [⟨p, q⟩], by go_num, by omega, Nat.le_refl _, Lib.hid ⟨_, HF.out.1, HF.out.2.1, HF.out.2.2, by rw [HL.out, HOL.out], by rw [HOE.out, ← HQ.out, List.append_assoc]; rfl⟩⟩
   have hltj : ¬ (j : Int) < (k1 : Int) := by omega
   obtain rfl : e = 0 := by omega
   have hO2 : O = (ons, y) := by rw [hOe]; simp [onsR]
   have HO2 := Lib.hid hO2
   obtain ⟨m, hm⟩ : ∃ m, m = ons.length := ⟨_, rfl⟩
   have hcl := countR_le 2 y hsi.bytes (by omega)
   have hcnt := count_rs (w0 := w0) (w := wi) 2 (by omega) hg0 hsi.here
   obtain ⟨⟨n2, z2⟩, hn2⟩ : ∃ r, r = countR 2 y := ⟨_, rfl⟩
   rw [← hn2] at hcnt hcl
   obtain ⟨k2, rfl⟩ := Int.eq_ofNat_of_zero_le hcl.1
   have hk2 : k2 ≤ 2 := by have := hcl.2; simp only at this; omega
   have HN2 := Lib.hid hn2
   rw [← hm] at hR1 hbi
   have HSI := Lib.hid hsi
   have HBI := Lib.hid hbi
   have HR1 := Lib.hid hR1
   have HM := Lib.hid hm
   clear hsi hbi hR1 hOe hO2 hm hol hn2 hcl
   go_wp2_with fail
   refine hcnt.mono ?_
   rintro e' w5 ⟨rfl, s5⟩
   have HS5 := Lib.hid (HSI.out.then_ s5)
   have HB5 := Lib.hid (s5.blk HBI.out hbg)
   have hR5 := Kd.R_mono (Kd.R_bound (R_rs HR1.out s5 hgb)) (ok' := fun kk => kk < w5.heap.size) (fun kk hk => hk.2.2.1)
   have HR5 := Lib.hid hR5
   obtain ⟨F, hF⟩ : ∃ F, F = ifsR files k2 z2 := ⟨_, rfl⟩
   have HFF := Lib.hid hF
   have hB5 : wO.heap.size + 1 ≤ w5.heap.size := by have := blk_lt HB5.out; omega
   clear s5 hcnt hF HSI HBI HR1 hR5
   go_wp2
   go_loopg [35] k2 (fun gg s35 wi => ∃ (j e : Nat) (y : RSt) (ifs : List (S50)), s35 = .int .i64 j ∧ j + e = k2 ∧ e ≤ gg ∧ Hid (∃ v2, Rs w0 wO wi g y ∧ wi.heap[wO.heap.size]? = some (.cells #[.slice A3 m c3, v2] 54 (0, 0)) ∧ Kd.R k103 103 wi (wO.heap.size + 1) (fun kk => kk < w5.heap.size) (.slice A3 m c3) ons ∧ w5.heap.size ≤ wi.heap.size ∧ Kd.R k50 50 wi w5.heap.size (fun _ => True) v2 ifs ∧ ifs.length = j ∧ F = (ifs ++ (ifsR files e y).1, (ifsR files e y).2)))
   case atStart => exact ⟨0, k2, z2, [], rfl, by omega, Nat.le_refl _, Lib.hid ⟨_, HS5.out, HB5.out, HR5.out, Nat.le_refl _, Kd.R_nil _ _ _ _ _, rfl, by rw [HFF.out]; rfl⟩⟩
   case round =>
    obtain ⟨j2, e, y, ifs, rfl, hje2, heg2, Y⟩ := hrel
    obtain ⟨wj, rfl⟩ : ∃ wj, wj = wr := ⟨_, rfl⟩
    obtain ⟨v2, hsi, hbi, hR1, h5j, hR2, hil, hFe⟩ := Y.out
    obtain ⟨A4, c4, rfl⟩ := Kd.R_slice hR2
    clear Y
    by_cases hlj : j2 < k2
    case pos =>
     have hltj2 : (j2 : Int) < (k2 : Int) := by omega
     obtain ⟨e, rfl⟩ : ∃ f, e = f + 1 := ⟨e - 1, by omega⟩
     have hpk := pick_txt (w0 := w0) (w := wj) hg0 hsi.here (HT1.out.go (H.out.then_ ((HSO.out.then_ hsi))))
     obtain ⟨⟨p, y1⟩, hp⟩ : ∃ r, r = pickR files y := ⟨_, rfl⟩
     rw [← hp] at hpk
     obtain ⟨⟨o, y2⟩, ho⟩ : ∃ r, r = pickR opsL y1 := ⟨_, rfl⟩
     obtain ⟨⟨q, y3⟩, hq⟩ : ∃ r, r = signedR y2 := ⟨_, rfl⟩
     have hFe2 : F = (ifs ++ ⟨p, o, q⟩ :: (ifsR files e y3).1, (ifsR files e y3).2) := by rw [hFe]; simp only [ifsR]; rw [← hp]; simp only; rw [← ho]; simp only; rw [← hq]
     obtain ⟨m2, hm2⟩ : ∃ m2, m2 = ifs.length := ⟨_, rfl⟩
     rw [← hm2] at hR2 hbi
     have HSI := Lib.hid hsi
     have HBI := Lib.hid hbi
     have HR1 := Lib.hid hR1
     have HR2 := Lib.hid hR2
     have HFE := Lib.hid hFe2
     have HM2 := Lib.hid hm2
     have HIL := Lib.hid hil
     have HO := Lib.hid ho
     have HQ := Lib.hid hq
     clear hsi hbi hR1 hR2 hFe hFe2 hm2 hp hil ho hq
     go_wp2_with fail
     refine hpk.mono ?_
     rintro e' w4 ⟨rfl, s4⟩
     have HS4 := Lib.hid (HSI.out.then_ s4)
     have HB4 := Lib.hid (s4.blk HBI.out hbg)
     have HR4 := Lib.hid (R_rs HR1.out s4 hgb)
     have HR42 := Lib.hid (R_rs HR2.out s4 (by omega))
     have h54 : w5.heap.size ≤ w4.heap.size := Nat.le_trans h5j s4.2.2.1
     clear s4 hpk HSI HBI HR1 HR2
     have hop := q62.calls opsL w4 rfl
     go_wp2_with fail
     refine hop.mono ?_
     rintro e' w6 ⟨vo, rfl, hRo, hbo⟩
     obtain ⟨Ao, co, rfl⟩ := Kd.R_slice hRo
     have hrd := Kd.R_reads' hRo
     have hg4 : g < w4.heap.size := HS4.out.1.lt
     have hto : Txt w0 w6 g Ao co opsL := ⟨hrd.2.2, hrd.2.1, fun ad e => by
      subst e
      have h1_ := Kd.R_base hRo ad.block (by simp [Value.ownBlock])
      have h2_ := Kd.R_lt hRo ad.block (by simp [Value.ownBlock])
      exact ⟨h2_, by omega⟩, by decide⟩
     have hpo := pick_txt (w0 := w0) (w := w6) hg0 (HS4.out.below hbo).here hto (s := y1)
     rw [← HO.out] at hpo
     have HS6 := Lib.hid (HS4.out.below hbo)
     have HB6 := Lib.hid (q72 HB4.out hbo)
     have HR6 := Lib.hid (Kd.R_below HR4.out hbo)
     have HR62 := Lib.hid (Kd.R_below HR42.out hbo)
     have h56 : w5.heap.size ≤ w6.heap.size := Nat.le_trans h54 hbo.size
     clear hRo hrd hto hbo hop HS4 HB4 HR4 HR42
     go_wp2_with fail
     refine hpo.mono ?_
     rintro e' w7 ⟨rfl, s7⟩
     have HS7 := Lib.hid (HS6.out.then_ s7)
     have hb7 := s7.blk HB6.out hbg
     have HR7 := Lib.hid (R_rs HR6.out s7 hgb)
     have HR72 := Lib.hid (R_rs HR62.out s7 (by omega))
     have h57 : w5.heap.size ≤ w7.heap.size := Nat.le_trans h56 s7.2.2.1
     clear s7 hpo HS6 HB6 HR6 HR62
     go_wp2
     have hcell : w7.cell? ⟨wO.heap.size, 1, none⟩ = some (.slice A4 m2 c4) := (q73 hb7 1).trans rfl
     refine sD_ [10] (fun w' => w'.cell? ⟨wO.heap.size, 1, none⟩ = some (.slice A4 m2 c4)) 11 hcell (fun hHeld => ?_)
     have hb8 : w7.drew.heap[wO.heap.size]? = some (.cells #[.slice A3 m c3, .slice A4 m2 c4] 54 (0, 0)) := hb7
     have hs8 : Rs w0 wO w7.drew g y2 := HS7.out.drew
     have hR8 : Kd.R k103 103 w7.drew (wO.heap.size + 1) (fun kk => kk < w5.heap.size) (.slice A3 m c3) ons := Kd.R_drew HR7.out
     have hR82 : Kd.R k50 50 w7.drew w5.heap.size (fun _ => True) (.slice A4 m2 c4) ifs := Kd.R_drew HR72.out
     have h58 : w5.heap.size ≤ w7.drew.heap.size := h57
     clear hcell hb7 HS7 HR7 HR72
     generalize w7.drew = wD at hHeld hb8 hs8 hR8 hR82 h58 ⊢
     refine pu_ 0 (some 43) ?_
     refine tk_ 1 (some 44) hHeld ?_ (hy := by rintro w' s0; go_simp; with_reducible rfl)
     refine pu_ 2 (some 45) ?_
     refine pu_ 3 (some 46) ?_
     refine pu_ 4 (some 47) ?_
     have hsg := signed_rs (w0 := w0) (w := wD) hg0 hs8.here
     rw [← HQ.out] at hsg
     refine ca_ 5 (some 48) Try.func86 #[.pointer (some ⟨g, 0, none⟩)] ?_
     refine hsg.mono ?_
     rintro e' w9 ⟨rfl, s9⟩
     have hs9 := hs8.then_ s9
     have hb9 := s9.blk hb8 hbg
     have hR9 := R_rs hR8 s9 hgb
     have hR92 := R_rs hR82 s9 (by omega)
     have h59 : w5.heap.size ≤ w9.heap.size := Nat.le_trans h58 s9.2.2.1
     clear hsg hs8 hb8 hR8 hR82 s9 hHeld
     refine ⟨_, rfl, (q73 hb9 1).trans rfl, fun hHeld => ⟨_, rfl, nz_ (some 48) ?_⟩⟩
     refine pu_ 6 (some 49) ?_
     refine oN_ 7 (some 50) (fun K hK => ?_)
     go_simp
     refine hK.out _ _ ?_ (fun _ => ?_)
     ·exact (q73 (q72 hb9 (q67 (Below.refl _ _) _)) 1).trans rfl
     clear hK K
     refine oN_ 8 (some 51) (fun K hK => ?_)
     refine Kd.R_append_step k50 (w0 := w9) w5.heap.size (by rfl) (.tmp 44) (.tmp 50) 51 50 (.agg #[.string ⟨#[]⟩, .string ⟨#[]⟩, .int .i64 0]) 40 rfl Try.underlying51 info50_ rfl (by decide) (by omega) (.slice A4 m2 c4) ifs ⟨p, o, q⟩ [.string p, .string o, .int .i64 q] (fun _ => True) (fun _ => False) rfl rfl (k50_mkM _ _ _ _) (fun _ h => h.elim) (fun _ _ => trivial) hR92 (Below.refl _ _) h59 ?_ ?_
     ·have := HIL.out; omega
     intro v10 w10 hR10 hB10 hgr hat
     have hown : ∀ kk, (Value.slice A4 m2 c4).ownBlock = some kk → w5.heap.size ≤ kk := Kd.R_base hR92
     have hs10 := hs9.grown hgr (fun kk ek => ⟨by have := hown kk ek; omega, by have := hown kk ek; omega, by have := hown kk ek; omega⟩)
     have hb10 := (hgr.block _ (blk_lt hb9) (fun ek => by have := hown _ ek.symm; omega)).trans hb9
     have hR101 := Kd.R_grown hR9 hgr (fun kk hk ek => by have := hown kk ek.symm; omega)
     have h510 : w5.heap.size ≤ w10.heap.size := Nat.le_trans h59 hgr.size
     obtain ⟨A7, c7, rfl⟩ := Kd.R_slice hR10
     clear hgr hat hB10 hown hs9 hb9 hR9 hR92 hHeld
     refine hK.out _ _ ((q73 hb10 1).trans rfl) (fun _ => ?_)
     clear hK K
     refine nz_ (some 51) ?_
     refine pu_ 9 (some 52) ?_
     have hcz := (q73 hb10 1).trans rfl
     have hfz := q77 hb10 1
     refine lA_ 10 none (fun K hK => ?_)
     go_simp
     have hlen : (ifs ++ [(⟨p, o, q⟩ : S50)]).length = ifs.length + 1 := by rw [List.length_append, List.length_singleton]
     have HF : Hid (Rs w0 wO (w10.setCell ⟨wO.heap.size, 1, none⟩ (.slice A7 (ifs.length + 1) c7)) g y3 ∧ (w10.setCell ⟨wO.heap.size, 1, none⟩ (.slice A7 (ifs.length + 1) c7)).heap[wO.heap.size]? = some (.cells #[.slice A3 m c3, .slice A7 (ifs.length + 1) c7] 54 (0, 0)) ∧ Kd.R k103 103 (w10.setCell ⟨wO.heap.size, 1, none⟩ (.slice A7 (ifs.length + 1) c7)) (wO.heap.size + 1) (fun kk => kk < w5.heap.size) (.slice A3 m c3) ons ∧ w5.heap.size ≤ (w10.setCell ⟨wO.heap.size, 1, none⟩ (.slice A7 (ifs.length + 1) c7)).heap.size ∧ Kd.R k50 50 (w10.setCell ⟨wO.heap.size, 1, none⟩ (.slice A7 (ifs.length + 1) c7)) w5.heap.size (fun _ => True) (.slice A7 (ifs.length + 1) c7) (ifs ++ [⟨p, o, q⟩])) := Lib.hid ⟨hs10.set _ ⟨hbg, Nat.le_refl _, hbw0⟩, q78 hb10 1 _ rfl, R_set2 hR101 _ _ (Nat.lt_succ_self _), by rw [set_size]; exact h510, hlen ▸ R_set2 hR10 _ _ (show wO.heap.size < w5.heap.size by omega)⟩
     have HL := Lib.hid hlen
     refine hK.out _ _ ?_
     clear hK K hs10 hb10 hR10 hR101 hcz hfz hlen
     refine dn_ ?_
     go_wp2
     go_roundg e
     case measure => omega
     case rel => exact ⟨j2 + 1, e, y3, ifs ++ [⟨p, o, q⟩], by go_num, by omega, Nat.le_refl _, Lib.hid ⟨_, HF.out.1, HF.out.2.1, HF.out.2.2.1, HF.out.2.2.2.1, HF.out.2.2.2.2, by rw [HL.out, HIL.out], by rw [HFE.out, List.append_assoc]; rfl⟩⟩
    have hltj2 : ¬ (j2 : Int) < (k2 : Int) := by omega
    obtain rfl : e = 0 := by omega
    have hF2 : F = (ifs, y) := by rw [hFe]; simp [ifsR]
    have hZ2 : Z = (⟨ons, ifs⟩, y) := by
     rw [HZ.out, HO2.out]
     simp only
     rw [← HN2.out]
     simp only [Int.toNat_natCast]
     rw [← HFF.out, hF2]
    have hcz0 := (q73 hbi 0).trans rfl
    have hcz1 := (q73 hbi 1).trans rfl
    have hRaj := R_rs HRA.out hsi (by omega)
    have hown : ∀ kk, (Value.slice Av acc.length cv).ownBlock = some kk → w.heap.size ≤ kk ∧ kk < wO.heap.size := fun kk ek => ⟨Kd.R_base HRA.out kk ek, Kd.R_lt HRA.out kk ek⟩
    have hM : Kd.M k54 wj w.heap.size (fun kk => wO.heap.size + 1 ≤ kk) ⟨ons, ifs⟩ [.slice A3 m c3, .slice A4 ifs.length c4] := k54_mkM _ _ _ _ (Kd.R_lower (Kd.R_mono (Kd.R_bound hR1) (fun kk hk => hk.2.1)) (show w.heap.size ≤ wO.heap.size + 1 by omega)) (Kd.R_lower (Kd.R_mono (Kd.R_bound hR2) (fun kk hk => Nat.le_trans hB5 hk.2.1)) (show w.heap.size ≤ w5.heap.size by omega))
    have HSJ := Lib.hid (HSO.out.then_ hsi)
    have HZ2 := Lib.hid hZ2
    have HRAJ := Lib.hid hRaj
    have HOWN := Lib.hid hown
    have HMM := Lib.hid hM
    have HWJ := Lib.hid (And.intro hgl (Nat.le_trans hbw hsi.2.2.1))
    have hw0w := H.out.2.1.size
    obtain ⟨ma, hma⟩ : ∃ ma, ma = acc.length := ⟨_, rfl⟩
    obtain ⟨mi, hmi⟩ : ∃ mi, mi = ifs.length := ⟨_, rfl⟩
    rw [← hma] at HRAJ HOWN ⊢
    rw [← hmi] at hcz1 HMM
    have hlim : (acc.length + 1) * 48 ≤ 140737488355328 := by have := HACC.out; omega
    have HLIM := Lib.hid hlim
    have HMA := Lib.hid hma
    clear hsi hbi hR1 hR2 hil hFe hF2 hZ2 hRaj hown hM hma hmi hlim
    go_wp2_with (first | ((with_reducible refine q79 (b := .append) (xs := #[.tmp 54, .tmp 56]) rfl ?_); at_builtin; refine Kd.R_append k54 (w0 := wj) w.heap.size rfl (.tmp 54) (.tmp 56) 46 54 (.agg #[.slice none 0 0, .slice none 0 0]) 48 rfl Try.underlying46 info54_ rfl (by decide) (by omega) (.slice Av ma cv) acc ⟨ons, ifs⟩ [.slice A3 m c3, .slice A4 mi c4] (fun _ => True) (fun kk => wO.heap.size + 1 ≤ kk) rfl rfl HMM.out (fun kk hk => ⟨trivial, fun ek => by have := HOWN.out kk ek.symm; omega⟩) (fun _ _ => trivial) HRAJ.out (Below.refl _ _) HWJ.out.2 HLIM.out ?_; intro v11 w11 hR11 hB11 hgr hat; have HS11 := Lib.hid (HSJ.out.grown hgr (fun kk ek => ⟨by have := HOWN.out kk ek; omega, by have := HOWN.out kk ek; omega, by have := HOWN.out kk ek; omega⟩)); clear hgr hat hB11; obtain ⟨A11, c11, rfl⟩ := Kd.R_slice hR11; rw [List.length_append, List.length_singleton] at hR11; have HR11 := Lib.hid hR11; clear hR11))
    go_roundg d
    case measure => omega
    case rel => exact ⟨i + 1, d, y, acc ++ [⟨ons, ifs⟩], by go_num, by omega, Nat.le_refl _, Lib.hid ⟨HR11.out, HS11.out, by rw [List.length_append, List.length_singleton, HACC.out], by rw [HRE.out, HZ2.out, List.append_assoc]; rfl⟩⟩
theorem numCGo_lt (most : Int) (d : Nat) : ∀ (i : Nat) (n : Int) (s : RSt), Bytes s.1 → 0 ≤ n → 0 ≤ (numCGo most d i n s).1 ∧ ((numCGo most d i n s).2.2 = false → (numCGo most d i n s).1 ≤ most) ∧ ((numCGo most d i n s).2.2 = true → (numCGo most d i n s).1 = 0) := by
  induction d with
  | zero =>
    intro i n s _ h0
    simp only [numCGo]
    exact ⟨Int.le_refl _, (fun h => by cases h), fun _ => trivial⟩
  | succ d ih =>
    intro i n s h8 h0
    simp only [numCGo]
    by_cases hb : s.2 = true
    · rw [if_pos hb]
      exact ⟨Int.le_refl _, (fun h => by cases h), fun _ => rfl⟩
    · rw [if_neg hb]
      obtain ⟨xs, b⟩ := s
      cases xs with
      | nil => exact ⟨Int.le_refl _, (fun h => by cases h), fun _ => rfl⟩
      | cons x r =>
        have hx := Bytes.cons h8
        have hm : 0 ≤ x % 128 * (128 : Int) ^ i := Int.mul_nonneg (by omega) (Int.le_of_lt (Int.pow_pos (by decide)))
        simp only
        split
        · split
          · exact ⟨Int.le_refl _, (fun h => by cases h), fun _ => rfl⟩
          · exact ⟨by show 0 ≤ n + _; omega, fun _ => by show n + _ ≤ most; omega, fun h => by cases h⟩
        · exact ih _ _ _ hx.2 (by omega)
theorem numC_lt (most : Int) (s : RSt) (h8 : Bytes s.1) : 0 ≤ (numC most s).1 ∧ ((numC most s).2.2 = false → (numC most s).1 ≤ most) ∧ ((numC most s).2.2 = true → (numC most s).1 = 0) := numCGo_lt most 5 0 0 s h8 (Int.le_refl _)
def pickC (l : List ByteArray) (s : RSt) : ByteArray × RSt := if (numC (l.length - 1) s).2.2 = true then (⟨#[]⟩, (numC (l.length - 1) s).2) else (rdOf ByteArray.empty l (numC (l.length - 1) s).1, (numC (l.length - 1) s).2)
def textC (s : RSt) : ByteArray × RSt := if (numC 12 s).2.2 = true ∨ (numC 12 s).2.1.length < (numC 12 s).1.toNat then (⟨#[]⟩, ((numC 12 s).2.1, true)) else (strOfNums ((numC 12 s).2.1.take (numC 12 s).1.toNat), ((numC 12 s).2.1.drop (numC 12 s).1.toNat, false))
def CupPost (w0 w : World) (g : Nat) (r : ByteArray × RSt) (e : Ending) (w' : World) : Prop := e = .returned (.string r.1) ∧ Cs w0 w w' g r.2
section
variable {w0 w wr : World} {g : Nat} {s : RSt}
set_option maxHeartbeats 4000000 in
set_option maxRecDepth 100000 in
theorem pickc_rs (A : Option Addr) (c : Nat) (l : List ByteArray) (hg0 : w0.heap.size ≤ g) (h : Cs w0 w wr g s) (hC : Kd.C Kd.string wr A l.length l) (hA : ∀ ad, A = some ad → ad.block < wr.heap.size ∧ ad.block ≠ g) (hll : l.length ≤ 1000000) :
    Calls Try.prog 66 #[.pointer (some ⟨g, 0, none⟩), .slice A l.length c] wr (CupPost w0 w g (pickC l s)) := by
  have hn := numc_rany w0 wr g s (l.length - 1) h.2.1 hg0 h.1
  have hlt := numC_lt (l.length - 1 : Int) s h.bytes
  have HH := Lib.hid h
  obtain ⟨R, hR⟩ : ∃ R, R = pickC l s := ⟨_, rfl⟩
  have hR2 := hR
  unfold pickC at hR2
  rw [← hR]
  obtain ⟨⟨n, xs, b⟩, hr⟩ : ∃ r, r = numC (l.length - 1) s := ⟨_, rfl⟩
  rw [← hr] at hn hlt hR2
  have HE := Lib.hid hR2
  have HC := Lib.hid hC
  have HA := Lib.hid hA
  obtain ⟨h0, h2, -⟩ := hlt
  have HN := Lib.hid h2
  obtain ⟨k, hk⟩ : ∃ k, k = l.length := ⟨_, rfl⟩
  rw [← hk] at hn hll ⊢
  have HK := Lib.hid hk
  clear hR hR2 hr hC hA h h2 hk
  go_enter Try.func66, Try.ntmps66
  go_wp2_with fail
  refine hn.mono ?_
  rintro e w2 ⟨rfl, hs⟩
  have HS := Lib.hid (HH.out.then_ hs)
  have HKC : Hid (Kd.C Kd.string w2 A l.length l) := Lib.hid (C_kept HC.out hs.2.2 HA.out)
  obtain ⟨A2, c2, hl2, hg2, hC2, -⟩ := hs.1
  have hbv : w2.cell? ⟨g, 1, none⟩ = some (.bool b) := (q73 hg2 1).trans rfl
  have hfz := q77 hg2 1
  clear hs hg2 hC2 hn
  cases b with
  | true =>
    have HP : Hid (Cs w0 w (w2.setCell ⟨g, 1, none⟩ (.bool true)) g (xs, true)) := Lib.hid (HS.out.put hg0 (HS.out.1.put1 true))
    go_wp2
    go_ret
    exact ⟨by rw [HE.out]; rfl, by rw [HE.out]; exact HP.out⟩
  | false =>
    have hnl : n < (k : Int) := by have h3 : n ≤ (l.length : Int) - 1 := HN.out rfl; have := HK.out; omega
    have hnl2 : ¬ n ≥ (k : Int) := by omega
    obtain ⟨ad, e, hx0⟩ := Kd.at_string HKC.out n h0 (by have := HK.out; omega)
    cases e
    obtain ⟨q, rfl⟩ := Int.eq_ofNat_of_zero_le h0
    simp only [Int.toNat_natCast] at hx0
    have hql : q < k := by omega
    obtain ⟨z, hz⟩ : ∃ z, z = rdOf ByteArray.empty l (q : Int) := ⟨_, rfl⟩
    rw [← hz] at hx0
    have HZ := Lib.hid hz
    clear hz
    go_wp2
    go_ret
    exact ⟨by rw [HE.out, HZ.out]; rfl, by rw [HE.out]; exact HS.out⟩
theorem pickc_txt {A : Option Addr} {c : Nat} {l : List ByteArray} (hg0 : w0.heap.size ≤ g) (h : Cs w0 w wr g s) (ht : Txt w0 wr g A c l) :
 Calls Try.prog 66 #[.pointer (some ⟨g, 0, none⟩), .slice A l.length c] wr (CupPost w0 w g (pickC l s)) := pickc_rs A c l hg0 h ht.1 ht.2.2.1 ht.2.2.2
set_option maxHeartbeats 4000000 in
set_option maxRecDepth 100000 in
theorem textc_rs (hg0 : w0.heap.size ≤ g) (h : Cs w0 w wr g s) :
    Calls Try.prog 37 #[.pointer (some ⟨g, 0, none⟩)] wr (CupPost w0 w g (textC s)) := by
  have hn := numc_rs 12 hg0 h
  have hlt := numC_lt 12 s h.bytes
  obtain ⟨R, hR⟩ : ∃ R, R = textC s := ⟨_, rfl⟩
  have hR2 := hR
  unfold textC at hR2
  rw [← hR]
  obtain ⟨⟨n, xs, b⟩, hr⟩ : ∃ r, r = numC 12 s := ⟨_, rfl⟩
  rw [← hr] at hn hlt hR2
  obtain ⟨h0, h2, -⟩ := hlt
  obtain ⟨q, rfl⟩ := Int.eq_ofNat_of_zero_le h0
  simp only [Int.toNat_natCast] at hR2
  have HE := Lib.hid hR2
  have HN := Lib.hid h2
  clear hR hR2 hr h h2
  go_enter Try.func37, Try.ntmps37
  go_wp2_with fail
  refine hn.mono ?_
  rintro e w2 ⟨rfl, hs⟩
  have HS := Lib.hid hs
  obtain ⟨A2, c2, hl2, hg2, hC2, h8, h6⟩ := hs.1
  simp only at hl2 h6
  have hbv : w2.cell? ⟨g, 1, none⟩ = some (.bool b) := (q73 hg2 1).trans rfl
  have hsv : w2.cell? ⟨g, 0, none⟩ = some (.slice A2 xs.length c2) := (q73 hg2 0).trans rfl
  have hfz := q77 hg2 0
  have hfz1 := q77 hg2 1
  have HG := Lib.hid hg2
  have HC := Lib.hid hC2
  have H8 := Lib.hid h8
  have HP : Hid (Cs w0 w (w2.setCell ⟨g, 1, none⟩ (.bool true)) g (xs, true)) := Lib.hid (HS.out.put hg0 (HS.out.1.put1 true))
  obtain ⟨m, hm⟩ : ∃ m, m = xs.length := ⟨_, rfl⟩
  rw [← hm] at hsv hl2 h6
  have HM := Lib.hid hm
  clear hs hg2 hC2 hn h8 hm
  cases b with
  | true =>
    have HT : Hid (R = (⟨#[]⟩, (xs, true))) := Lib.hid (by rw [HE.out]; simp)
    go_wp2
    go_ret
    exact ⟨by rw [HT.out]; rfl, by rw [HT.out]; exact HP.out⟩
  | false =>
  by_cases hqm : m < q
  case pos =>
    have hz : (q : Int) > (m : Int) := by omega
    have HT : Hid (R = (⟨#[]⟩, (xs, true))) := Lib.hid (by rw [HE.out, if_pos (.inr (by rw [← HM.out]; exact hqm))])
    go_wp2
    go_ret
    exact ⟨by rw [HT.out]; rfl, by rw [HT.out]; exact HP.out⟩
  case neg =>
    have hz : ¬ (q : Int) > (m : Int) := by omega
    have HT : Hid (R = (strOfNums (xs.take q), (xs.drop q, false))) := Lib.hid (by rw [HE.out, if_neg (by rw [← HM.out]; simp; omega)])
    obtain ⟨i0, hi0, hz0, hz1, hz2⟩ := info_parts info5
    have k1 := cut_to (P := Try.prog) 26 5 .i64 Try.underlying26 hi0 A2 m c2 (q : Int) (by omega) (by omega) hl2
    have k2 := cut_from (P := Try.prog) 26 5 .i64 Try.underlying26 hi0 1 hz1 A2 m c2 (q : Int) (by omega) (by omega)
    rw [Int.toNat_natCast] at k1 k2
    obtain ⟨A3, hA3⟩ : ∃ A3, A3 = if c2 = q then A2 else A2.map (·.add (q * 1)) := ⟨_, rfl⟩
    rw [← hA3] at k2
    obtain ⟨r, hr⟩ : ∃ r, r = m - q := ⟨_, rfl⟩
    rw [← hr] at k2
    have hdl : (xs.drop q).length = r := by rw [List.length_drop, ← HM.out, hr]
    have htl : (xs.take q).length = q := by rw [List.length_take, ← HM.out]; omega
    have hC3 : Kd.C (Kd.int .u8) w0 A3 (xs.drop q).length (xs.drop q) := by rw [hA3]; exact Kd.C_drop HC.out (by rw [← HM.out]; omega) (by rw [← HM.out]; omega)
    have hC1 : Kd.C (Kd.int .u8) w0 A2 (xs.take q).length (xs.take q) := Kd.C_take HC.out (by rw [← HM.out]; omega)
    have hks : (convert 26 9 (.slice A2 (xs.take q).length c2)).run Try.prog w2 = .ok (.string (strOfNums (xs.take q))) w2 := Kd.C_string Try.underlying26 Try.underlying5 Try.underlying9 (Kd.C_below hC1 HS.out.2.1)
    rw [htl] at hks
    obtain ⟨str, hstr⟩ : ∃ str, str = strOfNums (xs.take q) := ⟨_, rfl⟩
    rw [← hstr] at hks
    have HTR := Lib.hid hstr
    have HF : Hid (Cs w0 w (w2.setCell ⟨g, 0, none⟩ (.slice A3 r (c2 - q))) g (xs.drop q, false)) := Lib.hid (HS.out.put hg0 (hdl ▸ RdrT.put0 HG.out (by rw [hdl]; omega) hC3 (fun x hx => H8.out x (List.mem_of_mem_drop hx)) (by rw [hdl]; omega)))
    have hqm2 : q ≤ m := by omega
    clear hA3 hr hdl htl hC3 hC1 hz0 hz1 hz2 hi0 hstr
    go_wp2
    go_ret
    exact ⟨by rw [HT.out, ← HTR.out]; rfl, by rw [HT.out]; exact HF.out⟩
end
def onsC (ids : List ByteArray) : Nat → RSt → List (S103) × RSt
 | 0, s => ([], s)
 | d + 1, s => if s.2 = true then ([], s) else (⟨(pickC ids s).1, (numC 9 (pickC ids s).2).1⟩ :: (onsC ids d (numC 9 (pickC ids s).2).2).1, (onsC ids d (numC 9 (pickC ids s).2).2).2)
def unC (v : Int) : Int := if v % 2 = 1 then -(v / 2) - 1 else v / 2
def ifsC (files : List ByteArray) : Nat → RSt → List (S50) × RSt
 | 0, s => ([], s)
 | d + 1, s => if s.2 = true then ([], s) else (⟨(pickC files s).1, (pickC opsL (pickC files s).2).1, unC (numC 2000001 (pickC opsL (pickC files s).2).2).1⟩ :: (ifsC files d (numC 2000001 (pickC opsL (pickC files s).2).2).2).1, (ifsC files d (numC 2000001 (pickC opsL (pickC files s).2).2).2).2)
def sentC (files ids : List ByteArray) (s : RSt) : S54 × RSt :=
 let c1 := numC 3 s
 let o := onsC ids c1.1.toNat c1.2
 let c2 := numC 2 o.2
 let f := ifsC files c2.1.toNat c2.2
 (⟨o.1, f.1⟩, f.2)
def sentsGoC (files ids : List ByteArray) : Nat → RSt → List (S54) × RSt
 | 0, s => ([], s)
 | d + 1, s => if s.2 = true then ([], s) else ((sentC files ids s).1 :: (sentsGoC files ids d (sentC files ids s).2).1, (sentsGoC files ids d (sentC files ids s).2).2)
def sentsC (files ids : List ByteArray) (s : RSt) : List (S54) × RSt := sentsGoC files ids (numC 3 s).1.toNat (numC 3 s).2
def CuSPost (w0 w : World) (g : Nat) (r : List (S54) × RSt) (e : Ending) (w' : World) : Prop := ∃ v, e = .returned v ∧ Kd.R k54 54 w' w.heap.size (fun _ => True) v r.1 ∧ Cs w0 w w' g r.2
theorem countC_le (m : Int) (s : RSt) (h8 : Bytes s.1) (hm : 0 ≤ m) : 0 ≤ (numC m s).1 ∧ (numC m s).1 ≤ m := by
 have h := numC_lt m s h8
 cases hb : (numC m s).2.2 with
 | true => have := h.2.2 hb; omega
 | false => exact ⟨h.1, h.2.1 hb⟩
theorem lit_ops (W : World) : Kd.R Kd.string 9 (W.alloc (.cells #[.string ⟨#[60]⟩, .string ⟨#[60, 61]⟩, .string ⟨#[61]⟩, .string ⟨#[33, 61]⟩, .string ⟨#[62, 61]⟩, .string ⟨#[62]⟩] 9)) W.heap.size (fun _ => True) (.slice (some ⟨W.heap.size, 0, none⟩) 6 6) opsL :=
 Kd.R_of_own (by simpa [encs, opsL] using World.ownsRow_lit (base := W.heap.size) (e := 9) (size := 1) W #[.string ⟨#[60]⟩, .string ⟨#[60, 61]⟩, .string ⟨#[61]⟩, .string ⟨#[33, 61]⟩, .string ⟨#[62, 61]⟩, .string ⟨#[62]⟩] 6 (Nat.le_refl _) (by decide) (by simp)) (fun _ _ => trivial)
theorem R_setn {w : World} {α : Type} {d : Kd α} {e base n : Nat} {v : Value} {xs : List α} (h : d.R e w base (fun k => k < n) v xs) (p : Addr) (u : Value) (hp : n ≤ p.block) : d.R e (w.setCell p u) base (fun k => k < n) v xs :=
 Kd.R_far h (fun k hk => by omega) u
theorem R_old {w : World} {α : Type} {d : Kd α} {e base : Nat} {ok : Nat → Prop} {v : Value} {xs : List α} (h : d.R e w base ok v xs) : d.R e w base (fun k => k < w.heap.size) v xs := Kd.R_mono (Kd.R_bound h) (fun k hk => hk.2.2.1)
def CondUp (w0 wO w5 W : World) (g n4 : Nat) (y : RSt) (cs : Array Value) (v1 v2 : Value) (ons : List (S103)) (ifs : List (S50)) : Prop :=
 Cs w0 wO W g y ∧ W.heap[wO.heap.size]? = some (.cells cs 54 (0, 0)) ∧ Kd.R k103 103 W (wO.heap.size + 1) (fun kk => kk < w5.heap.size) v1 ons ∧ Kd.R k50 50 W w5.heap.size (fun kk => kk < n4) v2 ifs ∧ n4 < W.heap.size
theorem CondUp.set {w0 wO w5 W : World} {g n4 : Nat} {y : RSt} {cs : Array Value} {v1 v2 : Value} {ons : List (S103)} {ifs : List (S50)} (h : CondUp w0 wO w5 W g n4 y cs v1 v2 ons ifs) (i : Nat) (u : Value) (hg : n4 ≠ g) (h0 : w0.heap.size ≤ n4) (hO : wO.heap.size + 1 ≤ n4) (h5 : w5.heap.size ≤ n4) : CondUp w0 wO w5 (W.setCell ⟨n4, i, none⟩ u) g n4 y cs v1 v2 ons ifs :=
 ⟨h.1.set u ⟨hg, by show wO.heap.size ≤ n4; omega, h0⟩, q76 h.2.1 (by show wO.heap.size ≠ n4; omega) u, R_setn h.2.2.1 _ u h5, R_setn h.2.2.2.1 _ u (Nat.le_refl _), by rw [set_size]; exact h.2.2.2.2⟩
set_option maxHeartbeats 16000000 in
set_option maxRecDepth 100000 in
theorem sentsc_any (w0 w : World) (g : Nat) (s : RSt) (A1 : Option Addr) (c1 : Nat) (files : List ByteArray) (A2 : Option Addr) (c2 : Nat) (ids : List ByteArray) (hg0 : w0.heap.size ≤ g) (h : Cs w0 w w g s) (ht1 : Txt w0 w g A1 c1 files) (ht2 : Txt w0 w g A2 c2 ids) :
 Calls Try.prog 38 #[.pointer (some ⟨g, 0, none⟩), .slice A1 files.length c1, .slice A2 ids.length c2] w (CuSPost w0 w g (sentsC files ids s)) := by
 obtain ⟨wL, hwL⟩ : ∃ wL, wL = w.alloc (.cells #[.string ⟨#[60]⟩, .string ⟨#[60, 61]⟩, .string ⟨#[61]⟩, .string ⟨#[33, 61]⟩, .string ⟨#[62, 61]⟩, .string ⟨#[62]⟩] 9) := ⟨_, rfl⟩
 have hsL : Cs w0 w wL g s := by rw [hwL]; exact h.alloc _
 have hgw := h.1.lt
 have hzL : wL.heap.size = w.heap.size + 1 := by rw [hwL]; simp
 have htO : Txt w0 wL g (some ⟨w.heap.size, 0, none⟩) 6 opsL := ⟨by rw [hwL]; exact (Kd.R_reads' (lit_ops w)).2.2, Nat.le_refl _, fun ad e => by cases e; exact ⟨by show w.heap.size < _; omega, by show w.heap.size ≠ g; omega⟩, by decide⟩
 have HT1 := Lib.hid (ht1.go hsL)
 have HT2 := Lib.hid (ht2.go hsL)
 have HTO := Lib.hid htO
 have hcnt := numc_rs 3 hg0 hsL.here
 have hcl := countC_le 3 s h.bytes (by omega)
 obtain ⟨R, hR⟩ : ∃ R, R = sentsC files ids s := ⟨_, rfl⟩
 rw [← hR]
 unfold sentsC at hR
 obtain ⟨⟨n, z0⟩, hn⟩ : ∃ r, r = numC 3 s := ⟨_, rfl⟩
 rw [← hn] at hcnt hcl hR
 obtain ⟨k, rfl⟩ := Int.eq_ofNat_of_zero_le hcl.1
 have hk3 : k ≤ 3 := by have := hcl.2; simp only at this; omega
 replace hR : R = sentsGoC files ids k z0 := hR
 have HR := Lib.hid hR
 have HSL := Lib.hid hsL
 have HWL := Lib.hid hwL
 have hww : w.heap.size ≤ wL.heap.size := by omega
 have hgl : g < wL.heap.size := by omega
 have hw0L : w0.heap.size ≤ wL.heap.size := hsL.2.1.size
 clear hR hn hcl h ht1 ht2 htO hsL hwL hzL
 go_enter Try.func38, Try.ntmps38
 go_wp2_with fail
 rw [← HWL.out]
 refine hcnt.mono ?_
 rintro e w1 ⟨rfl, hs⟩
 have HS1 := Lib.hid hs
 clear hs hcnt
 go_wp2
 go_loopg [9, 7] k (fun gg s9 s7 wr => ∃ (d : Nat) (z : RSt) (acc : List (S54)), s9 = .int .i64 d ∧ d ≤ gg ∧ Hid (Kd.R k54 54 wr wL.heap.size (fun _ => True) s7 acc ∧ Cs w0 wL wr g z ∧ acc.length + d ≤ 3 ∧ R = (acc ++ (sentsGoC files ids d z).1, (sentsGoC files ids d z).2)))
 case atStart => exact ⟨k, z0, [], rfl, Nat.le_refl _, Lib.hid ⟨Kd.R_nil _ _ _ _ _, HS1.out, by simpa using hk3, by rw [HR.out]; rfl⟩⟩
 case round =>
  obtain ⟨d, z, acc, rfl, hdg, X⟩ := hrel
  obtain ⟨wO, rfl⟩ : ∃ wO, wO = wr := ⟨_, rfl⟩
  obtain ⟨hRa, hsO, hacc, hRe⟩ := X.out
  obtain ⟨Av, cv, rfl⟩ := Kd.R_slice hRa
  clear X
  obtain ⟨bd, hbd⟩ : ∃ bd, bd = z.2 := ⟨_, rfl⟩
  have hev : wO.cell? ⟨g, 1, none⟩ = some (.bool bd) := by obtain ⟨A, c, -, hg, -⟩ := hsO.1; rw [hbd]; exact (q73 hg 1).trans rfl
  by_cases hend : d = 0 ∨ bd = true
  case pos =>
   have HT : Hid (R = (acc, z)) := Lib.hid (by
    rw [hRe]
    rcases hend with rfl | h
    ·simp [sentsGoC]
    ·cases d with
     | zero => simp [sentsGoC]
     | succ d => simp only [sentsGoC]; rw [if_pos (by rw [← hbd]; exact h)]; simp)
   have HF : Hid (Kd.R k54 54 wO w.heap.size (fun _ => True) (.slice Av acc.length cv) acc ∧ Cs w0 w wO g z) := Lib.hid ⟨Kd.R_lower hRa hww, HSL.out.then_ hsO⟩
   clear hRa hsO hacc hRe hbd
   have hfin : CuSPost w0 w g R (.returned (.slice Av acc.length cv)) wO := ⟨_, rfl, by rw [HT.out]; exact HF.out.1, by rw [HT.out]; exact HF.out.2⟩
   have HFIN := Lib.hid hfin
   clear hfin
   obtain ⟨ml, hml⟩ : ∃ ml, ml = acc.length := ⟨_, rfl⟩
   rw [← hml] at HFIN ⊢
   clear hml
   by_cases hd0 : d = 0
   ·subst hd0
    go_wp2
    go_ret
    exact HFIN.out
   ·have hdp : (0 : Int) < (d : Int) := by omega
    have hdp2 : (d : Int) > 0 := hdp
    obtain rfl : bd = true := hend.resolve_left hd0
    go_wp2
    go_ret
    exact HFIN.out
  rw [not_or] at hend
  obtain ⟨hd0, hb0⟩ := hend
  obtain rfl : bd = false := by simpa using hb0
  obtain ⟨d, rfl⟩ : ∃ e, d = e + 1 := ⟨d - 1, by omega⟩
  have hdp : ((d + 1 : Nat) : Int) > 0 := by omega
  have hbg : wO.heap.size ≠ g := by have := hsO.1.lt; omega
  have hgb : g < wO.heap.size + 1 := by have := hsO.1.lt; omega
  have hbw : wL.heap.size ≤ wO.heap.size := hsO.2.2.1
  have hbw0 : w0.heap.size ≤ wO.heap.size := hsO.2.1.size
  have hcnt := numc_rs (w0 := w0) (w := wO.alloc (.cells #[.slice none 0 0, .slice none 0 0] 54)) 3 hg0 (hsO.alloc _).here
  have hcl := countC_le 3 z hsO.bytes (by omega)
  obtain ⟨Z, hZ⟩ : ∃ Z, Z = sentC files ids z := ⟨_, rfl⟩
  have hRe2 : R = (acc ++ Z.1 :: (sentsGoC files ids d Z.2).1, (sentsGoC files ids d Z.2).2) := by rw [hRe, hZ]; simp only [sentsGoC]; rw [if_neg (by rw [← hbd]; decide)]
  unfold sentC at hZ
  obtain ⟨⟨n1, z1⟩, hn1⟩ : ∃ r, r = numC 3 z := ⟨_, rfl⟩
  rw [← hn1] at hcnt hcl hZ
  obtain ⟨k1, rfl⟩ := Int.eq_ofNat_of_zero_le hcl.1
  have hk1 : k1 ≤ 3 := by have := hcl.2; simp only at this; omega
  obtain ⟨O, hO⟩ : ∃ O, O = onsC ids k1 z1 := ⟨_, rfl⟩
  replace hZ : Z = (⟨O.1, (ifsC files (numC 2 O.2).1.toNat (numC 2 O.2).2).1⟩, (ifsC files (numC 2 O.2).1.toNat (numC 2 O.2).2).2) := by rw [hZ, hO]; rfl
  have HRA := Lib.hid hRa
  have HSO := Lib.hid hsO
  have HACC := Lib.hid hacc
  have HRE := Lib.hid hRe2
  have HZ := Lib.hid hZ
  have HO := Lib.hid hO
  have hblk := heap_alloc_new wO (.cells #[.slice none 0 0, .slice none 0 0] 54)
  have HBLK := Lib.hid hblk
  clear hRa hsO hacc hRe hRe2 hZ hO hn1 hcl hblk hbd hd0 hb0
  go_wp2_with fail
  refine hcnt.mono ?_
  rintro e w2 ⟨rfl, s2⟩
  have HS2 := Lib.hid ((HSO.out.here.alloc (.cells #[.slice none 0 0, .slice none 0 0] 54)).then_ s2)
  have HB2 := Lib.hid (s2.blk HBLK.out hbg)
  clear s2 hcnt HBLK
  go_wp2
  go_loopg [11] k1 (fun gg s11 wi => ∃ (e : Nat) (y : RSt) (ons : List (S103)), s11 = .int .i64 e ∧ e ≤ gg ∧ Hid (∃ v1, Cs w0 wO wi g y ∧ wi.heap[wO.heap.size]? = some (.cells #[v1, .slice none 0 0] 54 (0, 0)) ∧ Kd.R k103 103 wi (wO.heap.size + 1) (fun _ => True) v1 ons ∧ ons.length + e ≤ 3 ∧ O = (ons ++ (onsC ids e y).1, (onsC ids e y).2)))
  case atStart => exact ⟨k1, z1, [], rfl, Nat.le_refl _, Lib.hid ⟨_, HS2.out, HB2.out, Kd.R_nil _ _ _ _ _, by simpa using hk1, by rw [HO.out]; rfl⟩⟩
  case round =>
   obtain ⟨e, y, ons, rfl, heg, Y⟩ := hrel
   obtain ⟨wi, rfl⟩ : ∃ wi, wi = wr := ⟨_, rfl⟩
   obtain ⟨v1, hsi, hbi, hR1, hol, hOe⟩ := Y.out
   obtain ⟨A3, c3, rfl⟩ := Kd.R_slice hR1
   clear Y
   obtain ⟨bd, hbd⟩ : ∃ bd, bd = y.2 := ⟨_, rfl⟩
   have hev : wi.cell? ⟨g, 1, none⟩ = some (.bool bd) := by obtain ⟨A, c, -, hg, -⟩ := hsi.1; rw [hbd]; exact (q73 hg 1).trans rfl
   by_cases hend : e = 0 ∨ bd = true
   case neg =>
    rw [not_or] at hend
    obtain ⟨he0, hb0⟩ := hend
    obtain rfl : bd = false := by simpa using hb0
    obtain ⟨e, rfl⟩ : ∃ f, e = f + 1 := ⟨e - 1, by omega⟩
    have hep : ((e + 1 : Nat) : Int) > 0 := by omega
    have hpk := pickc_txt (w0 := w0) (w := wi) hg0 hsi.here (HT2.out.go (HSO.out.then_ hsi))
    obtain ⟨⟨p, y1⟩, hp⟩ : ∃ r, r = pickC ids y := ⟨_, rfl⟩
    rw [← hp] at hpk
    have hOe2 : O = (ons ++ ⟨p, (numC 9 y1).1⟩ :: (onsC ids e (numC 9 y1).2).1, (onsC ids e (numC 9 y1).2).2) := by rw [hOe]; simp only [onsC]; rw [if_neg (by rw [← hbd]; decide), ← hp]
    obtain ⟨m, hm⟩ : ∃ m, m = ons.length := ⟨_, rfl⟩
    rw [← hm] at hR1 hbi
    have HSI := Lib.hid hsi
    have HBI := Lib.hid hbi
    have HR1 := Lib.hid hR1
    have HOE := Lib.hid hOe2
    have HM := Lib.hid hm
    have HOL := Lib.hid hol
    clear hsi hbi hR1 hOe hOe2 hm hp hol hbd he0 hb0
    go_wp2_with fail
    refine hpk.mono ?_
    rintro e' w4 ⟨rfl, s4⟩
    have hs4 := HSI.out.then_ s4
    have hb4 := s4.blk HBI.out hbg
    have hR4 := R_old (R_rs HR1.out s4 (by omega))
    obtain ⟨w5, hw5⟩ : ∃ w5, w5 = w4.alloc (.cells #[.string p, .int .i64 0] 103) := ⟨_, rfl⟩
    have hb5 : w5.heap[wO.heap.size]? = some (.cells #[.slice A3 m c3, .slice none 0 0] 54 (0, 0)) := by rw [hw5]; exact q72 hb4 (q67 (Below.refl _ _) _)
    have hx5 : w5.heap[w4.heap.size]? = some (.cells #[.string p, .int .i64 0] 103 (0, 0)) := by rw [hw5]; exact heap_alloc_new w4 _
    have hs5 : Cs w0 wO w5 g y1 := by rw [hw5]; exact hs4.alloc _
    have hR5 : Kd.R k103 103 w5 (wO.heap.size + 1) (fun kk => kk < w4.heap.size) (.slice A3 m c3) ons := by rw [hw5]; exact Kd.R_alloc hR4 _
    have hnum := numc_rs (w0 := w0) (w := w5) 9 hg0 hs5.here
    obtain ⟨⟨q, y2⟩, hq⟩ : ∃ r, r = numC 9 y1 := ⟨_, rfl⟩
    rw [← hq] at hnum
    have HQ := Lib.hid hq
    have HW5 := Lib.hid hw5
    have HS5 := Lib.hid hs5
    have HB5 := Lib.hid hb5
    have HX5 := Lib.hid hx5
    have HR5 := Lib.hid hR5
    have h4g : w4.heap.size ≠ g := by have := hs4.1.lt; omega
    have hnb : wO.heap.size ≠ w4.heap.size := Nat.ne_of_lt (blk_lt hb4)
    have hnb2 : w4.heap.size ≠ wO.heap.size := fun e => hnb e.symm
    have hle4 : wO.heap.size + 1 ≤ w4.heap.size := blk_lt hb4
    clear hs4 hb4 hR4 s4 hpk hq hw5 hs5 hb5 hx5 hR5 HSI HBI HR1
    go_wp2_with fail
    rw [← HW5.out]
    refine hnum.mono ?_
    rintro e' w6 ⟨rfl, s6⟩
    have hb6 := s6.blk HB5.out hbg
    have hx6 := s6.blk HX5.out h4g
    have hR6 := R_rs HR5.out s6 hgb
    have hs6 := HS5.out.then_ s6
    obtain ⟨w7, hw7⟩ : ∃ w7, w7 = w6.setCell ⟨w4.heap.size, 1, none⟩ (.int .i64 q) := ⟨_, rfl⟩
    have hb7 : w7.heap[wO.heap.size]? = some (.cells #[.slice A3 m c3, .slice none 0 0] 54 (0, 0)) := by rw [hw7]; exact q76 hb6 hnb _
    have hR7 : Kd.R k103 103 w7 (wO.heap.size + 1) (fun _ => True) (.slice A3 m c3) ons := by rw [hw7]; exact Kd.R_mono (R_setn hR6 ⟨w4.heap.size, 1, none⟩ (.int .i64 q) (Nat.le_refl _)) (fun _ _ => trivial)
    have hs7 : Cs w0 wO w7 g y2 := by rw [hw7]; exact hs6.set _ ⟨h4g, by show wO.heap.size ≤ w4.heap.size; omega, by show w0.heap.size ≤ w4.heap.size; omega⟩
    have hcs := (q73 hb6 0).trans rfl
    have hcx0 := (q73 hx6 0).trans rfl
    have hcx1 := (q73 hx6 1).trans rfl
    have hfx1 := q77 hx6 1
    have hl67 : wO.heap.size + 1 ≤ w7.heap.size := blk_lt hb7
    have hz7 : w7.heap.size = w6.heap.size := by rw [hw7, set_size]
    have hlim : (ons.length + 1) * 24 ≤ 140737488355328 := by have := HOL.out; omega
    have HLIM := Lib.hid hlim
    have HW7 := Lib.hid hw7
    have HS7 := Lib.hid hs7
    have HB7 := Lib.hid hb7
    have HR7 := Lib.hid hR7
    clear hnum s6 hb6 hx6 hR6 hs6 hw7 hb7 hR7 hs7 hlim HS5 HB5 HX5 HR5
    go_wp2_with (first | ((with_reducible refine q79 (b := .append) (xs := #[.tmp 52, .tmp 54]) rfl ?_); at_builtin; rw [← HW7.out]; refine Kd.R_append k103 (w0 := w7) (wO.heap.size + 1) rfl (.tmp 52) (.tmp 54) 52 103 (.agg #[.string ⟨#[]⟩, .int .i64 0]) 24 rfl Try.underlying52 info103_ rfl (by decide) (by omega) (.slice A3 m c3) ons ⟨p, q⟩ [.string p, .int .i64 q] (fun _ => True) (fun _ => False) rfl (by rw [hz7]; rfl) (k103_mkM _ _ _ _) (fun _ h => h.elim) (fun _ _ => trivial) HR7.out (Below.refl _ _) hl67 HLIM.out ?_; intro v8 w8 hR8 hB8 hgr hat; have hown : ∀ kk, (Value.slice A3 m c3).ownBlock = some kk → wO.heap.size + 1 ≤ kk := Kd.R_base HR7.out; have hs8 := HS7.out.grown hgr (fun kk ek => by have := hown kk ek; omega); have hb8 := (hgr.block _ (blk_lt HB7.out) (fun ek => by have := hown _ ek.symm; omega)).trans HB7.out; clear hgr hat hB8 hown; obtain ⟨A8, c8, rfl⟩ := Kd.R_slice hR8; rw [List.length_append, List.length_singleton] at hR8; have hcz := (q73 hb8 0).trans rfl; have hfz := q77 hb8 0; have HS8 := Lib.hid hs8; have HB8 := Lib.hid hb8; have HR8 := Lib.hid hR8; clear hs8 hb8 hR8))
    have HF : Hid (Cs w0 wO (w8.setCell ⟨wO.heap.size, 0, none⟩ (.slice A8 (ons.length + 1) c8)) g y2 ∧ (w8.setCell ⟨wO.heap.size, 0, none⟩ (.slice A8 (ons.length + 1) c8)).heap[wO.heap.size]? = some (.cells #[.slice A8 (ons.length + 1) c8, .slice none 0 0] 54 (0, 0)) ∧ Kd.R k103 103 (w8.setCell ⟨wO.heap.size, 0, none⟩ (.slice A8 (ons.length + 1) c8)) (wO.heap.size + 1) (fun _ => True) (.slice A8 (ons.length + 1) c8) (ons ++ [⟨p, q⟩])) := Lib.hid ⟨HS8.out.set _ ⟨hbg, Nat.le_refl _, hbw0⟩, q78 HB8.out 0 _ rfl, R_set2 HR8.out _ _ (Nat.lt_succ_self _)⟩
    have he3 : (e : Int) ≤ 3 := by have := HOL.out; omega
    go_roundg e
    case measure => omega
    case rel => exact ⟨e, y2, ons ++ [⟨p, q⟩], (by rw [show wrap64 (e : Int) = (e : Int) by unfold wrap64; omega]), Nat.le_refl _, Lib.hid ⟨_, HF.out.1, HF.out.2.1, HF.out.2.2, by have := HOL.out; rw [List.length_append, List.length_singleton]; omega, by rw [HOE.out, ← HQ.out, List.append_assoc]; rfl⟩⟩
   have hO2 : O = (ons, y) := by
    rw [hOe]
    rcases hend with rfl | h
    ·simp [onsC]
    ·cases e with
     | zero => simp [onsC]
     | succ e => simp only [onsC]; rw [if_pos (by rw [← hbd]; exact h)]; simp
   have hE : e = 0 ∨ ((e : Int) > 0 ∧ bd = true) := by
    rcases Nat.eq_zero_or_pos e with h0 | h0
    ·exact .inl h0
    ·exact .inr ⟨by omega, hend.resolve_left (by omega)⟩
   have HO2 := Lib.hid hO2
   obtain ⟨m, hm⟩ : ∃ m, m = ons.length := ⟨_, rfl⟩
   have hcl := countC_le 2 y hsi.bytes (by omega)
   have hcnt := numc_rs (w0 := w0) (w := wi) 2 hg0 hsi.here
   obtain ⟨⟨n2, z2⟩, hn2⟩ : ∃ r, r = numC 2 y := ⟨_, rfl⟩
   rw [← hn2] at hcnt hcl
   obtain ⟨k2, rfl⟩ := Int.eq_ofNat_of_zero_le hcl.1
   have hk2 : k2 ≤ 2 := by have := hcl.2; simp only at this; omega
   have HN2 := Lib.hid hn2
   rw [← hm] at hR1 hbi
   have HSI := Lib.hid hsi
   have HBI := Lib.hid hbi
   have HR1 := Lib.hid hR1
   have HM := Lib.hid hm
   clear hsi hbi hR1 hOe hO2 hm hol hn2 hcl hend hbd
   rcases hE with rfl | ⟨hep, rfl⟩
   all_goals
    go_wp2_with fail
    refine hcnt.mono ?_
    rintro e' w5 ⟨rfl, s5⟩
    have HS5 := Lib.hid (HSI.out.then_ s5)
    have HB5 := Lib.hid (s5.blk HBI.out hbg)
    have hR5 := R_old (R_rs HR1.out s5 hgb)
    have HR5 := Lib.hid hR5
    obtain ⟨F, hF⟩ : ∃ F, F = ifsC files k2 z2 := ⟨_, rfl⟩
    have HFF := Lib.hid hF
    have hB5 : wO.heap.size + 1 ≤ w5.heap.size := by have := blk_lt HB5.out; omega
    clear s5 hcnt hF HSI HBI HR1 hR5
    go_wp2
    go_loopg [13] k2 (fun gg s13 wi => ∃ (e : Nat) (y : RSt) (ifs : List (S50)), s13 = .int .i64 e ∧ e ≤ gg ∧ Hid (∃ v2, Cs w0 wO wi g y ∧ wi.heap[wO.heap.size]? = some (.cells #[.slice A3 m c3, v2] 54 (0, 0)) ∧ Kd.R k103 103 wi (wO.heap.size + 1) (fun kk => kk < w5.heap.size) (.slice A3 m c3) ons ∧ w5.heap.size ≤ wi.heap.size ∧ Kd.R k50 50 wi w5.heap.size (fun _ => True) v2 ifs ∧ ifs.length + e ≤ 2 ∧ F = (ifs ++ (ifsC files e y).1, (ifsC files e y).2)))
    case atStart => exact ⟨k2, z2, [], rfl, Nat.le_refl _, Lib.hid ⟨_, HS5.out, HB5.out, HR5.out, Nat.le_refl _, Kd.R_nil _ _ _ _ _, by simpa using hk2, by rw [HFF.out]; rfl⟩⟩
    case round =>
     obtain ⟨e2, y, ifs, rfl, heg2, Y⟩ := hrel
     obtain ⟨wj, rfl⟩ : ∃ wj, wj = wr := ⟨_, rfl⟩
     obtain ⟨v2, hsi, hbi, hR1, h5j, hR2, hil, hFe⟩ := Y.out
     obtain ⟨A4, c4, rfl⟩ := Kd.R_slice hR2
     clear Y
     obtain ⟨bd, hbd⟩ : ∃ bd, bd = y.2 := ⟨_, rfl⟩
     have hev2 : wj.cell? ⟨g, 1, none⟩ = some (.bool bd) := by obtain ⟨A, c, -, hg, -⟩ := hsi.1; rw [hbd]; exact (q73 hg 1).trans rfl
     by_cases hend : e2 = 0 ∨ bd = true
     case neg =>
      rw [not_or] at hend
      obtain ⟨he0, hb0⟩ := hend
      obtain rfl : bd = false := by simpa using hb0
      obtain ⟨e2, rfl⟩ : ∃ f, e2 = f + 1 := ⟨e2 - 1, by omega⟩
      have hep2 : ((e2 + 1 : Nat) : Int) > 0 := by omega
      have hpk := pickc_txt (w0 := w0) (w := wj) hg0 hsi.here (HT1.out.go (HSO.out.then_ hsi))
      obtain ⟨⟨p, y1⟩, hp⟩ : ∃ r, r = pickC files y := ⟨_, rfl⟩
      rw [← hp] at hpk
      obtain ⟨⟨o, y2⟩, ho⟩ : ∃ r, r = pickC opsL y1 := ⟨_, rfl⟩
      have hvl := numC_lt 2000001 y2
      obtain ⟨⟨q, y3⟩, hq⟩ : ∃ r, r = numC 2000001 y2 := ⟨_, rfl⟩
      rw [← hq] at hvl
      have hFe2 : F = (ifs ++ ⟨p, o, unC q⟩ :: (ifsC files e2 y3).1, (ifsC files e2 y3).2) := by rw [hFe]; simp only [ifsC]; rw [if_neg (by rw [← hbd]; decide), ← hp]; simp only; rw [← ho]; simp only; rw [← hq]
      obtain ⟨m2, hm2⟩ : ∃ m2, m2 = ifs.length := ⟨_, rfl⟩
      rw [← hm2] at hR2 hbi
      have HSI := Lib.hid hsi
      have HBI := Lib.hid hbi
      have HR1 := Lib.hid hR1
      have HR2 := Lib.hid hR2
      have HFE := Lib.hid hFe2
      have HM2 := Lib.hid hm2
      have HIL := Lib.hid hil
      have HO_ := Lib.hid ho
      have HQ := Lib.hid hq
      have HVL := Lib.hid hvl
      clear hsi hbi hR1 hR2 hFe hFe2 hm2 hp hil ho hq hbd he0 hb0 hvl
      go_wp2_with fail
      refine hpk.mono ?_
      rintro e' w4 ⟨rfl, s4⟩
      have hs4 := HSI.out.then_ s4
      have hb4 := s4.blk HBI.out hbg
      have hR4 := R_rs HR1.out s4 hgb
      have hR42 := R_old (R_rs HR2.out s4 (by omega))
      have h54 : w5.heap.size ≤ w4.heap.size := Nat.le_trans h5j s4.2.2.1
      obtain ⟨w6, hw6⟩ : ∃ w6, w6 = w4.alloc (.cells #[.string p, .string ⟨#[]⟩, .int .i64 0] 50) := ⟨_, rfl⟩
      have hb6 : w6.heap[wO.heap.size]? = some (.cells #[.slice A3 m c3, .slice A4 m2 c4] 54 (0, 0)) := by rw [hw6]; exact q72 hb4 (q67 (Below.refl _ _) _)
      have hx6 : w6.heap[w4.heap.size]? = some (.cells #[.string p, .string ⟨#[]⟩, .int .i64 0] 50 (0, 0)) := by rw [hw6]; exact heap_alloc_new w4 _
      have hs6 : Cs w0 wO w6 g y1 := by rw [hw6]; exact hs4.alloc _
      have hR6 : Kd.R k103 103 w6 (wO.heap.size + 1) (fun kk => kk < w5.heap.size) (.slice A3 m c3) ons := by rw [hw6]; exact Kd.R_alloc hR4 _
      have hR62 : Kd.R k50 50 w6 w5.heap.size (fun kk => kk < w4.heap.size) (.slice A4 m2 c4) ifs := by rw [hw6]; exact Kd.R_alloc hR42 _
      have hpo := pickc_txt (w0 := w0) (w := w6) hg0 hs6.here ((HTO.out.go (HSO.out.then_ hs6)))
      rw [← HO_.out] at hpo
      have HW6 := Lib.hid hw6
      have HS6 := Lib.hid hs6
      have HB6 := Lib.hid hb6
      have HX6 := Lib.hid hx6
      have HR6 := Lib.hid hR6
      have HR62 := Lib.hid hR62
      have h4g : w4.heap.size ≠ g := by have := hs4.1.lt; omega
      have hnb : wO.heap.size ≠ w4.heap.size := Nat.ne_of_lt (blk_lt hb4)
      have hnb2 : w4.heap.size ≠ wO.heap.size := fun e => hnb e.symm
      have h46 : w4.heap.size < w6.heap.size := blk_lt hx6
      clear hs4 hb4 hR4 hR42 s4 hpk hw6 hs6 hb6 hx6 hR6 hR62 HSI HBI HR1 HR2
      go_wp2_with fail
      rw [← HW6.out]
      refine hpo.mono ?_
      rintro e' w7 ⟨rfl, s7⟩
      have hs7 := HS6.out.then_ s7
      have hb7 := s7.blk HB6.out hbg
      have hx7 := s7.blk HX6.out h4g
      have hR7 := R_rs HR6.out s7 hgb
      have hR72 := R_rs HR62.out s7 (by omega)
      obtain ⟨w8, hw8⟩ : ∃ w8, w8 = w7.setCell ⟨w4.heap.size, 1, none⟩ (.string o) := ⟨_, rfl⟩
      have hb8 : w8.heap[wO.heap.size]? = some (.cells #[.slice A3 m c3, .slice A4 m2 c4] 54 (0, 0)) := by rw [hw8]; exact q76 hb7 hnb _
      have hx8 : w8.heap[w4.heap.size]? = some (.cells #[.string p, .string o, .int .i64 0] 50 (0, 0)) := by rw [hw8]; exact q78 hx7 1 _ rfl
      have hs8 : Cs w0 wO w8 g y2 := by rw [hw8]; exact hs7.set _ ⟨h4g, by show wO.heap.size ≤ w4.heap.size; omega, by show w0.heap.size ≤ w4.heap.size; omega⟩
      have hR8 : Kd.R k103 103 w8 (wO.heap.size + 1) (fun kk => kk < w5.heap.size) (.slice A3 m c3) ons := by rw [hw8]; exact R_setn hR7 ⟨w4.heap.size, 1, none⟩ (.string o) h54
      have hR82 : Kd.R k50 50 w8 w5.heap.size (fun kk => kk < w4.heap.size) (.slice A4 m2 c4) ifs := by rw [hw8]; exact R_setn hR72 ⟨w4.heap.size, 1, none⟩ (.string o) (Nat.le_refl _)
      have hcx1 := (q73 hx7 1).trans rfl
      have hfx1 := q77 hx7 1
      have hnm := numc_rs (w0 := w0) (w := w8) 2000001 hg0 hs8.here
      rw [← HQ.out] at hnm
      have hvl := HVL.out hs8.bytes
      have HW8 := Lib.hid hw8
      have HS8 := Lib.hid hs8
      have HB8 := Lib.hid hb8
      have HX8 := Lib.hid hx8
      have HR8 := Lib.hid hR8
      have HR82 := Lib.hid hR82
      clear s7 hpo hs7 hb7 hx7 hR7 hR72 hw8 hs8 hb8 hx8 hR8 hR82 HS6 HB6 HX6 HR6 HR62
      go_wp2_with fail
      rw [← HW8.out]
      refine hnm.mono ?_
      rintro e' w9 ⟨rfl, s9⟩
      have hs9 := HS8.out.then_ s9
      have hb9 := s9.blk HB8.out hbg
      have hx9 := s9.blk HX8.out h4g
      have hR9 := R_rs HR8.out s9 hgb
      have hR92 := R_rs HR82.out s9 (by omega)
      obtain ⟨h0, h2, h3⟩ := hvl
      have hq0 : 0 ≤ q := h0
      have hq1 : q ≤ 2000001 := by
       cases hb : y3.2 with
       | true => have h4 : q = 0 := h3 hb; omega
       | false => exact h2 hb
      have ha : Go.bits .and .i64 q 1 = q % 2 := by
       obtain ⟨k, rfl⟩ := Int.eq_ofNat_of_zero_le hq0
       rw [and_one k (by omega)]
       omega
      have hcx0 := (q73 hx9 0).trans rfl
      have hcy1 := (q73 hx9 1).trans rfl
      have hcx2 := (q73 hx9 2).trans rfl
      have hfx2 := q77 hx9 2
      have hcs := (q73 hb9 1).trans rfl
      clear hnm h0 h2 h3 HVL
      have HC9 : Hid (CondUp w0 wO w5 w9 g w4.heap.size y3 #[.slice A3 m c3, .slice A4 m2 c4] (.slice A3 m c3) (.slice A4 m2 c4) ons ifs) := Lib.hid ⟨hs9, hb9, hR9, hR92, by have := blk_lt hx9; exact this⟩
      have hw04 : w0.heap.size ≤ w4.heap.size := by omega
      have hO4 : wO.heap.size + 1 ≤ w4.heap.size := by omega
      have hwc : (q % 2 = 1 ∧ unC q = -(q / 2) - 1 ∧ ∃ wc, CondUp w0 wO w5 wc g w4.heap.size y3 #[.slice A3 m c3, .slice A4 m2 c4] (.slice A3 m c3) (.slice A4 m2 c4) ons ifs ∧ wc = (w9.setCell ⟨w4.heap.size, 2, none⟩ (.int .i64 (q / 2))).setCell ⟨w4.heap.size, 2, none⟩ (.int .i64 (-(q / 2) - 1)) ∧ wc.heap.size = w9.heap.size) ∨ ((q % 2 == 1) = false ∧ unC q = q / 2 ∧ ∃ wc, CondUp w0 wO w5 wc g w4.heap.size y3 #[.slice A3 m c3, .slice A4 m2 c4] (.slice A3 m c3) (.slice A4 m2 c4) ons ifs ∧ wc = w9.setCell ⟨w4.heap.size, 2, none⟩ (.int .i64 (q / 2)) ∧ wc.heap.size = w9.heap.size) := by
       by_cases hm : q % 2 = 1
       ·exact .inl ⟨hm, if_pos hm, _, (HC9.out.set 2 _ h4g hw04 hO4 h54).set 2 _ h4g hw04 hO4 h54, rfl, by rw [set_size, set_size]⟩
       ·exact .inr ⟨beq_eq_false_iff_ne.mpr hm, if_neg hm, _, HC9.out.set 2 _ h4g hw04 hO4 h54, rfl, set_size _ _ _⟩
      have hlim : (ifs.length + 1) * 40 ≤ 140737488355328 := by have := HIL.out; omega
      have HLIM := Lib.hid hlim
      clear hs9 hb9 hx9 hR9 hR92 s9 HS8 HB8 HX8 HR8 HR82 hlim
      rcases hwc with ⟨hm, hu, wc, hcu, hwc, hz⟩ | ⟨hm, hu, wc, hcu, hwc, hz⟩
      all_goals
       have HU := Lib.hid hu
       have HWC := Lib.hid hwc
       have HCU := Lib.hid hcu
       have HZC := Lib.hid hz
       have h5c : w5.heap.size ≤ wc.heap.size := by have := hcu.2.2.2.2; omega
       have HR := Lib.hid (Kd.R_mono hcu.2.2.2.1 (fun _ _ => trivial) : Kd.R k50 50 wc w5.heap.size (fun _ => True) (.slice A4 m2 c4) ifs)
       clear hu hwc hcu hz
       go_wp2_with (first | ((with_reducible refine q79 (b := .append) (xs := #[.tmp 92, .tmp 94]) rfl ?_); at_builtin; rw [← HWC.out]; refine Kd.R_append k50 (w0 := wc) w5.heap.size rfl (.tmp 92) (.tmp 94) 51 50 (.agg #[.string ⟨#[]⟩, .string ⟨#[]⟩, .int .i64 0]) 40 rfl Try.underlying51 info50_ rfl (by decide) (by omega) (.slice A4 m2 c4) ifs ⟨p, o, _⟩ [.string p, .string o, .int .i64 _] (fun _ => True) (fun _ => False) rfl (by rw [HZC.out]; rfl) (k50_mkM _ _ _ _) (fun _ h => h.elim) (fun _ _ => trivial) HR.out (Below.refl _ _) h5c HLIM.out ?_; intro v11 w11 hR11 hB11 hgr hat; rw [← HU.out] at hR11; have hown : ∀ kk, (Value.slice A4 m2 c4).ownBlock = some kk → w5.heap.size ≤ kk := Kd.R_base HR.out; have hs11 := HCU.out.1.grown hgr (fun kk ek => by have := hown kk ek; omega); have hb11 := (hgr.block _ (blk_lt HCU.out.2.1) (fun ek => by have := hown _ ek.symm; omega)).trans HCU.out.2.1; have hR1_11 := Kd.R_grown HCU.out.2.2.1 hgr (fun kk hk ek => by have := hown kk ek.symm; omega); have h511 : w5.heap.size ≤ w11.heap.size := Nat.le_trans h5c hgr.size; clear hgr hat hB11 hown; obtain ⟨A7, c7, rfl⟩ := Kd.R_slice hR11; rw [List.length_append, List.length_singleton] at hR11; have hcz := (q73 hb11 1).trans rfl; have hfz := q77 hb11 1; have HS11 := Lib.hid hs11; have HB11 := Lib.hid hb11; have HR11 := Lib.hid hR11; have HR1_11 := Lib.hid hR1_11; clear hs11 hb11 hR11 hR1_11))
       have HF : Hid (Cs w0 wO (w11.setCell ⟨wO.heap.size, 1, none⟩ (.slice A7 (ifs.length + 1) c7)) g y3 ∧ (w11.setCell ⟨wO.heap.size, 1, none⟩ (.slice A7 (ifs.length + 1) c7)).heap[wO.heap.size]? = some (.cells #[.slice A3 m c3, .slice A7 (ifs.length + 1) c7] 54 (0, 0)) ∧ Kd.R k103 103 (w11.setCell ⟨wO.heap.size, 1, none⟩ (.slice A7 (ifs.length + 1) c7)) (wO.heap.size + 1) (fun kk => kk < w5.heap.size) (.slice A3 m c3) ons ∧ w5.heap.size ≤ (w11.setCell ⟨wO.heap.size, 1, none⟩ (.slice A7 (ifs.length + 1) c7)).heap.size ∧ Kd.R k50 50 (w11.setCell ⟨wO.heap.size, 1, none⟩ (.slice A7 (ifs.length + 1) c7)) w5.heap.size (fun _ => True) (.slice A7 (ifs.length + 1) c7) (ifs ++ [⟨p, o, unC q⟩])) := Lib.hid ⟨HS11.out.set _ ⟨hbg, Nat.le_refl _, hbw0⟩, q78 HB11.out 1 _ rfl, R_set2 HR1_11.out _ _ (Nat.lt_succ_self _), by rw [set_size]; exact h511, R_set2 HR11.out _ _ (show wO.heap.size < w5.heap.size by omega)⟩
       have he3 : (e2 : Int) ≤ 3 := by have := HIL.out; omega
       go_roundg e2
       case measure => omega
       case rel => exact ⟨e2, y3, ifs ++ [⟨p, o, unC q⟩], (by rw [show wrap64 (e2 : Int) = (e2 : Int) by unfold wrap64; omega]), Nat.le_refl _, Lib.hid ⟨_, HF.out.1, HF.out.2.1, HF.out.2.2.1, HF.out.2.2.2.1, HF.out.2.2.2.2, by have := HIL.out; rw [List.length_append, List.length_singleton]; omega, by rw [HFE.out, List.append_assoc]; rfl⟩⟩
     have hF2 : F = (ifs, y) := by
      rw [hFe]
      rcases hend with rfl | h
      ·simp [ifsC]
      ·cases e2 with
       | zero => simp [ifsC]
       | succ e2 => simp only [ifsC]; rw [if_pos (by rw [← hbd]; exact h)]; simp
     have hE : e2 = 0 ∨ ((e2 : Int) > 0 ∧ bd = true) := by
      rcases Nat.eq_zero_or_pos e2 with h0 | h0
      ·exact .inl h0
      ·exact .inr ⟨by omega, hend.resolve_left (by omega)⟩
     have hZ2 : Z = (⟨ons, ifs⟩, y) := by
      rw [HZ.out, HO2.out]
      simp only
      rw [← HN2.out]
      simp only [Int.toNat_natCast]
      rw [← HFF.out, hF2]
     have hcz0 := (q73 hbi 0).trans rfl
     have hcz1 := (q73 hbi 1).trans rfl
     have hRaj := R_rs HRA.out hsi (by omega)
     have hown : ∀ kk, (Value.slice Av acc.length cv).ownBlock = some kk → wL.heap.size ≤ kk ∧ kk < wO.heap.size := fun kk ek => ⟨Kd.R_base HRA.out kk ek, Kd.R_lt HRA.out kk ek⟩
     have hM : Kd.M k54 wj wL.heap.size (fun kk => wO.heap.size + 1 ≤ kk) ⟨ons, ifs⟩ [.slice A3 m c3, .slice A4 ifs.length c4] := k54_mkM _ _ _ _ (Kd.R_lower (Kd.R_mono (Kd.R_bound hR1) (fun kk hk => hk.2.1)) (show wL.heap.size ≤ wO.heap.size + 1 by omega)) (Kd.R_lower (Kd.R_mono (Kd.R_bound hR2) (fun kk hk => Nat.le_trans hB5 hk.2.1)) (show wL.heap.size ≤ w5.heap.size by omega))
     have HSJ := Lib.hid (HSO.out.then_ hsi)
     have HZ2 := Lib.hid hZ2
     have HRAJ := Lib.hid hRaj
     have HOWN := Lib.hid hown
     have HMM := Lib.hid hM
     have HWJ := Lib.hid (Nat.le_trans hbw hsi.2.2.1)
     obtain ⟨ma, hma⟩ : ∃ ma, ma = acc.length := ⟨_, rfl⟩
     obtain ⟨mi, hmi⟩ : ∃ mi, mi = ifs.length := ⟨_, rfl⟩
     rw [← hma] at HRAJ HOWN ⊢
     rw [← hmi] at hcz1 HMM
     have hlim : (acc.length + 1) * 48 ≤ 140737488355328 := by have := HACC.out; omega
     have HLIM := Lib.hid hlim
     have HMA := Lib.hid hma
     have hd3 : (d : Int) ≤ 3 := by have := HACC.out; omega
     clear hsi hbi hR1 hR2 hil hFe hF2 hZ2 hRaj hown hM hma hmi hlim hend hbd
     rcases hE with rfl | ⟨hep2, rfl⟩
     all_goals
      go_wp2_with (first | ((with_reducible refine q79 (b := .append) (xs := #[.tmp 97, .tmp 99]) rfl ?_); at_builtin; refine Kd.R_append k54 (w0 := wj) wL.heap.size rfl (.tmp 97) (.tmp 99) 46 54 (.agg #[.slice none 0 0, .slice none 0 0]) 48 rfl Try.underlying46 info54_ rfl (by decide) (by omega) (.slice Av ma cv) acc ⟨ons, ifs⟩ [.slice A3 m c3, .slice A4 mi c4] (fun _ => True) (fun kk => wO.heap.size + 1 ≤ kk) rfl rfl HMM.out (fun kk hk => ⟨trivial, fun ek => by have := HOWN.out kk ek.symm; omega⟩) (fun _ _ => trivial) HRAJ.out (Below.refl _ _) HWJ.out HLIM.out ?_; intro v11 w11 hR11 hB11 hgr hat; have HS11 := Lib.hid (HSJ.out.grown hgr (fun kk ek => by have := HOWN.out kk ek; omega)); clear hgr hat hB11; obtain ⟨A11, c11, rfl⟩ := Kd.R_slice hR11; rw [List.length_append, List.length_singleton] at hR11; have HR11 := Lib.hid hR11; clear hR11))
      go_roundg d
      case measure => omega
      case rel => exact ⟨d, y, acc ++ [⟨ons, ifs⟩], rfl, Nat.le_refl _, Lib.hid ⟨HR11.out, HS11.out, by have := HACC.out; rw [List.length_append, List.length_singleton]; omega, by rw [HRE.out, HZ2.out, List.append_assoc]; rfl⟩⟩
def q60.l0 : Nat → List ByteArray → List (S48) → Int → Int → Option (List ByteArray)
 | 0, _, _, _, _ => none
 | k + 1, x3, x7, x8, x9 => if x9 < x8 then (if 0 ≤ x9 then (if x9 < (x7.length : Int) then (if x3.length < 8796093022208 then (q60.l0 k (x3 ++ [(q89 x7 x9).f0]) x7 x8 (wrap64 (x9 + 1))) else (none)) else (none)) else (none)) else (some x3)
def q60.f (k : Nat) (l0_0 : List ByteArray) (l0_1 : List (S48)) : Option (List ByteArray) := q60.l0 k ([] : List ByteArray) l0_1 (l0_1.length : Int) 0
theorem q60.mono_l : ∀ k, (∀ y0 y1 y2 y3, LeO (q60.l0 k y0 y1 y2 y3) (q60.l0 (k + 1) y0 y1 y2 y3))
 | 0 => fun _ _ _ _ r h => by simp [q60.l0] at h
 | k + 1 => by
  have ih0 := q60.mono_l k
  ·intro y0 y1 y2 y3
   unfold q60.l0
   repeat' first
   | (with_reducible exact ih0 _ _ _ _)
   | (with_reducible exact LeO.refl _)
   | (with_reducible exact LeO.none _)
   | (with_reducible refine LeO.ite ?_ ?_)
   | (with_reducible refine LeO.bind ?_ (fun _ => ?_))
   | exact ih0 _ _ _ _
   | exact LeO.none _
   | refine LeO.ite ?_ ?_
   | refine LeO.bind ?_ (fun _ => ?_)
theorem q60.mono : ∀ a0 a1 k, LeO (q60.f k a0 a1) (q60.f (k + 1) a0 a1) := by
 intro a0 a1 k
 have ih0 := q60.mono_l k
 unfold q60.f
 repeat' first
  | (with_reducible exact ih0 _ _ _ _)
  | (with_reducible exact LeO.refl _)
  | (with_reducible exact LeO.none _)
  | (with_reducible refine LeO.ite ?_ ?_)
  | (with_reducible refine LeO.bind ?_ (fun _ => ?_))
  | exact ih0 _ _ _ _
  | exact LeO.none _
  | refine LeO.ite ?_ ?_
  | refine LeO.bind ?_ (fun _ => ?_)
set_option maxHeartbeats 8000000 in
set_option maxRecDepth 100000 in
theorem q60.calls (k : Nat) (A0_0 : Option Addr) (c0_0 : Nat) (l0_0 : List ByteArray) (A0_1 : Option Addr) (c0_1 : Nat) (l0_1 : List (S48)) (r : List ByteArray) (w : World) (hr0_0 : Kd.C Kd.string w A0_0 l0_0.length l0_0) (hc0_0 : l0_0.length ≤ c0_0) (hr0_1 : Kd.C k48 w A0_1 l0_1.length l0_1) (hc0_1 : l0_1.length ≤ c0_1) (h : q60.f k l0_0 l0_1 = some r) :
 Calls Try.prog 40 #[.agg #[.slice A0_0 l0_0.length c0_0, .slice A0_1 l0_1.length c0_1]] w fun e w' => ∃ v0_ : Value, e = .returned (v0_) ∧ Kd.R Kd.string 9 w' w.heap.size (fun _ => True) v0_ r ∧ Below w.heap.size w w' := by
 have hu25 := Try.underlying25
 have hu48 := Try.underlying48
 have HR0_0 := q66.mk hr0_0
 have HC0_0 := q66.mk hc0_0
 clear hr0_0 hc0_0
 have HR0_1 := q66.mk hr0_1
 have HC0_1 := q66.mk hc0_1
 clear hr0_1 hc0_1
 have HB := q66.mk (Below.refl w.heap.size w)
 have H : (q60.l0 k ([] : List ByteArray) l0_1 (l0_1.length : Int) 0) = some r := h
 clear h
 have H' := q66.mk H
 clear H
 go_enter Try.func40, Try.ntmps40
 go_wp2_with (first | ((with_reducible refine q81 (N := 1) rfl ?_); refine bx_ 1 #[.slice A0_0 l0_0.length c0_0, .slice A0_1 l0_1.length c0_1] 25 ?_; intro gb372 hg w2 hbox hb; have BK372 := q66.mk (hbox); have GW372 := zz_ (w := w) hg; have GE372 := zz_ (w := w) hg; replace HB := hb_ HB hb;  clear hb hbox hg; obtain ⟨hcz3_0, hcz3_1, hfz3_0, hfz3_1⟩ := bs2_ BK372))
 go_loopg [3, 9] k (fun kq v3 v9 w' => ∃ (x3_1 : List ByteArray) (x9_1 : Int), v9 = .int .i64 x9_1 ∧ q66 (q60.l0 kq x3_1 l0_1 (l0_1.length : Int) x9_1 = some r) ∧ q66 (kq ≤ k) ∧ q66 (Kd.R Kd.string 9 w' w.heap.size (fun _ => True) v3 x3_1) ∧ q66 (w'.heap[gb372]? = some (.cells #[(.slice A0_0 l0_0.length c0_0), (.slice A0_1 l0_1.length c0_1)] 25 (0, 0))) ∧ q66 (Below w.heap.size w w'))
 case atStart => exact ⟨(([] : List ByteArray)), (0), rf_, H', ⟨Nat.le_refl _⟩, ⟨by first | exact Kd.R_nil _ _ _ _ _ | exact Kd.N_nil _ _ _ _ _ | exact Kd.V_nil _ _ _ _ _ | exact Kd.Q_nil _ _ _ _ _ | exact Kd.S_nil _ _ _ _ _⟩, ⟨gx_ BK372⟩, ⟨hf_⟩⟩
 case round =>
  clear H'
  (try clear hcz3_0); (try clear hcz3_1); (try clear hfz3_0); (try clear hfz3_1)
  obtain ⟨x3_1, x9_1, rfl, HA, HK1, HO_3, BK372, HB⟩ := hrel
  cases gk with
  | zero => exact absurd HA.out (by simp [q60.l0])
  | succ k1 =>
   have H := HA.out
   clear HA
   simp only [q60.l0] at H
   by_cases c4 : x9_1 < (l0_1.length : Int)
   ·rw [if_pos c4] at H
    replace c4 := decide_eq_true c4
    by_cases c5 : 0 ≤ x9_1
    ·rw [if_pos c5] at H
     replace c5 := decide_eq_true c5
     by_cases c6 : x9_1 < (l0_1.length : Int)
     ·rw [if_pos c6] at H
      replace c6 := decide_eq_true c6
      by_cases c7 : x3_1.length < 8796093022208
      ·rw [if_pos c7] at H
       have LMc7 := q66.mk c7
       clear c7
       obtain ⟨y375, hy375⟩ : ∃ y_ : List ByteArray, y_ = (x3_1 ++ [(q89 l0_1 x9_1).f0]) := ⟨_, rfl⟩
       rw [← hy375] at H
       have Ny375 := q66.mk hy375
       clear hy375
       have H' := q66.mk H
       clear H
       obtain ⟨ad373, A373_5, c373_5, A373_6, c373_6, e373, hx373_0, hx373_1, hx373_2, hx373_3, hx373_4, hx373_5, hx373_6, HC373_5, HR373_5, HC373_6, HR373_6, p373, q373⟩ := au_T48 HR0_1 HB (x9_1)
       cases e373
       go_wp2_with (first | ((with_reducible refine q81 (N := 5) rfl ?_); refine bx_ 5 #[.string (⟨#[]⟩ : ByteArray), .int .i64 0, .string (⟨#[]⟩ : ByteArray), .bool false, .int .i64 0, .slice none 0 0, .slice none 0 0] 48 ?_; intro gb374 hg w8 hbox hb; replace HO_3 := q66.mk (Kd.R_below (ra_ HO_3.out) hb); have BK374 := q66.mk (hbox); have GW374 := zz_ (w := w) hg; have GE374 := zz_ (w := w) hg; replace HB := hb_ HB hb; have NB372_374 := ne1_ hg BK372; have NB374_372 := ne2_ hg BK372; replace BK372 := bb_ BK372 hb;  clear hb hbox hg; have hnb9 := NB374_372.out; have hnc9 := NB372_374.out; obtain ⟨hcz10_0, hcz10_1, hcz10_2, hcz10_3, hcz10_4, hcz10_5, hcz10_6, hfz10_0, hfz10_1, hfz10_2, hfz10_3, hfz10_4, hfz10_5, hfz10_6⟩ := bs7_ BK374) | ((with_reducible refine q79 (b := .append) (xs := #[.tmp 13, .tmp 16]) rfl ?_); at_builtin; refine Kd.R_append Kd.string (w0 := w) w.heap.size rfl (.tmp 13) (.tmp 16) 22 9 (.string ⟨#[]⟩) 16 rfl Try.underlying22 info9 rfl (by decide) (by omega) u3 x3_1 ((q89 l0_1 x9_1).f0) [.string ((q89 l0_1 x9_1).f0)] (fun _ => True) (fun _ => False) rfl (by first | (go_simp; done) | (go_simp; rfl)) ?aP (fun _ hk => hk.elim) ?aF ?aO ?aB ?aS ?aL ?_; (case aP => exact rfl); (case aB => exact hf_); (case aF => exact (fun _ _ => trivial)); (case aO => exact (ra_ (Kd.R_mono (Kd.R_far (p := ⟨gb374, 6, none⟩) (Kd.R_far (p := ⟨gb374, 5, none⟩) (Kd.R_far (p := ⟨gb374, 4, none⟩) (Kd.R_far (p := ⟨gb374, 3, none⟩) (Kd.R_far (p := ⟨gb374, 2, none⟩) (Kd.R_far (p := ⟨gb374, 1, none⟩) (Kd.R_far (p := ⟨gb374, 0, none⟩) (Kd.R_types HO_3.out BK374.out (by decide)) (fun _ hk => hk.2) (.string ((q89 l0_1 x9_1).f0))) (fun _ hk => hk.2) (.int .i64 ((q89 l0_1 x9_1).f1))) (fun _ hk => hk.2) (.string ((q89 l0_1 x9_1).f2))) (fun _ hk => hk.2) (.bool ((q89 l0_1 x9_1).f3))) (fun _ hk => hk.2) (.int .i64 ((q89 l0_1 x9_1).f4))) (fun _ hk => hk.2) (.slice A373_5 ((q89 l0_1 x9_1).f5).length c373_5)) (fun _ hk => hk.2) (.slice A373_6 ((q89 l0_1 x9_1).f6).length c373_6)) (fun _ hk => trivial)))); (case aS => exact (q69 hf_)); (case aL => have := LMc7.out; omega); intro v376 w11 ho hb hg hat; rw [← Ny375.out] at ho; have n0_ := q66.mk (blk_grown (g := gb372) (o := .cells #[.slice A0_0 l0_0.length c0_0, .slice (some ad373) l0_1.length c0_1] 25 (0, 0)) (by (with_reducible repeat (first | refine q75 ?_ _ | refine q74 ?_ | refine q71 ?_ _)); refine q76 ?_ NB372_374.out _; (with_reducible repeat (first | refine q75 ?_ _ | refine q74 ?_ | refine q71 ?_ _)); refine q76 ?_ NB372_374.out _; (with_reducible repeat (first | refine q75 ?_ _ | refine q74 ?_ | refine q71 ?_ _)); refine q76 ?_ NB372_374.out _; (with_reducible repeat (first | refine q75 ?_ _ | refine q74 ?_ | refine q71 ?_ _)); refine q76 ?_ NB372_374.out _; (with_reducible repeat (first | refine q75 ?_ _ | refine q74 ?_ | refine q71 ?_ _)); refine q76 ?_ NB372_374.out _; (with_reducible repeat (first | refine q75 ?_ _ | refine q74 ?_ | refine q71 ?_ _)); refine q76 ?_ NB372_374.out _; (with_reducible repeat (first | refine q75 ?_ _ | refine q74 ?_ | refine q71 ?_ _)); refine q76 ?_ NB372_374.out _; (with_reducible repeat (first | refine q75 ?_ _ | refine q74 ?_ | refine q71 ?_ _)); exact BK372.out) hg (Kd.R_ne HO_3.out BK372.out (by decide))); have n1_ := q66.mk (blk_grown (g := gb374) (o := .cells #[.string ((q89 l0_1 x9_1).f0), .int .i64 ((q89 l0_1 x9_1).f1), .string ((q89 l0_1 x9_1).f2), .bool ((q89 l0_1 x9_1).f3), .int .i64 ((q89 l0_1 x9_1).f4), .slice A373_5 ((q89 l0_1 x9_1).f5).length c373_5, .slice A373_6 ((q89 l0_1 x9_1).f6).length c373_6] 48 (0, 0)) (by (with_reducible repeat (first | refine q75 ?_ _ | refine q74 ?_ | refine q71 ?_ _)); refine q78 (cs := #[.string ((q89 l0_1 x9_1).f0), .int .i64 ((q89 l0_1 x9_1).f1), .string ((q89 l0_1 x9_1).f2), .bool ((q89 l0_1 x9_1).f3), .int .i64 ((q89 l0_1 x9_1).f4), .slice A373_5 ((q89 l0_1 x9_1).f5).length c373_5, .slice none 0 0]) ?_ 6 _ rfl; (with_reducible repeat (first | refine q75 ?_ _ | refine q74 ?_ | refine q71 ?_ _)); refine q78 (cs := #[.string ((q89 l0_1 x9_1).f0), .int .i64 ((q89 l0_1 x9_1).f1), .string ((q89 l0_1 x9_1).f2), .bool ((q89 l0_1 x9_1).f3), .int .i64 ((q89 l0_1 x9_1).f4), .slice none 0 0, .slice none 0 0]) ?_ 5 _ rfl; (with_reducible repeat (first | refine q75 ?_ _ | refine q74 ?_ | refine q71 ?_ _)); refine q78 (cs := #[.string ((q89 l0_1 x9_1).f0), .int .i64 ((q89 l0_1 x9_1).f1), .string ((q89 l0_1 x9_1).f2), .bool ((q89 l0_1 x9_1).f3), .int .i64 0, .slice none 0 0, .slice none 0 0]) ?_ 4 _ rfl; (with_reducible repeat (first | refine q75 ?_ _ | refine q74 ?_ | refine q71 ?_ _)); refine q78 (cs := #[.string ((q89 l0_1 x9_1).f0), .int .i64 ((q89 l0_1 x9_1).f1), .string ((q89 l0_1 x9_1).f2), .bool false, .int .i64 0, .slice none 0 0, .slice none 0 0]) ?_ 3 _ rfl; (with_reducible repeat (first | refine q75 ?_ _ | refine q74 ?_ | refine q71 ?_ _)); refine q78 (cs := #[.string ((q89 l0_1 x9_1).f0), .int .i64 ((q89 l0_1 x9_1).f1), .string (⟨#[]⟩ : ByteArray), .bool false, .int .i64 0, .slice none 0 0, .slice none 0 0]) ?_ 2 _ rfl; (with_reducible repeat (first | refine q75 ?_ _ | refine q74 ?_ | refine q71 ?_ _)); refine q78 (cs := #[.string ((q89 l0_1 x9_1).f0), .int .i64 0, .string (⟨#[]⟩ : ByteArray), .bool false, .int .i64 0, .slice none 0 0, .slice none 0 0]) ?_ 1 _ rfl; (with_reducible repeat (first | refine q75 ?_ _ | refine q74 ?_ | refine q71 ?_ _)); refine q78 (cs := #[.string (⟨#[]⟩ : ByteArray), .int .i64 0, .string (⟨#[]⟩ : ByteArray), .bool false, .int .i64 0, .slice none 0 0, .slice none 0 0]) ?_ 0 _ rfl; (with_reducible repeat (first | refine q75 ?_ _ | refine q74 ?_ | refine q71 ?_ _)); exact BK374.out) hg (Kd.R_ne HO_3.out BK374.out (by decide))); have n2_ := q66.mk (hb); have n3_ := q66.mk (ho); clear BK372; clear BK374; clear HB; clear HO_3; have BK372 := n0_; have BK374 := n1_; have HB := n2_; have HO377 := n3_; clear n0_ n1_ n2_ n3_; clear ho hb hg hat))
       go_roundg k1
       case measure => have := HK1.out; omega
       case rel => exact ⟨(y375), (wrap64 (x9_1 + 1)), rf_, H', ⟨by have := HK1.out; omega⟩, ⟨ra_ HO377.out⟩, ⟨gx_ BK372⟩, ⟨hf_⟩⟩
      ·rw [if_neg c7] at H
       exact absurd H (by simp)
     ·rw [if_neg c6] at H
      exact absurd H (by simp)
    ·rw [if_neg c5] at H
     exact absurd H (by simp)
   ·rw [if_neg c4] at H
    replace c4 := decide_eq_false c4
    obtain rfl := Option.some.inj H
    go_wp2
    go_ret
    exact ⟨_, by first | rfl | (simp [errW_none, errW_some] <;> rfl) | (simp [*, errW_none, errW_some] <;> rfl), by (with_reducible repeat (first | apply Kd.R_alloc | apply Kd.R_drewN | apply Kd.R_drew)); exact HO_3.out, by repeat (first | (with_reducible first | exact HB.out | apply q67 | apply q86 | apply q68 | refine below_set ?_ GE372.out) | exact HB.out)⟩
def q43.j0 : Nat → Bool → ByteArray → Int → ByteArray → Bool → Int → List (S54) → List (S54) → Option (Bool)
 | 0, _, _, _, _, _, _, _, _ => none
 | k + 1, x29, x329000, x329001, x329002, x329003, x329004, x329005, x329006 => if x29 = true then (some false) else (if x329001 = 5 then (if x329001 = 4 then (if x329004 ≥ 1 then (if x329004 ≤ 100 then (if x329003 = true then (some (!true)) else (some (!(decide ((x329005.length : Int) > 0))))) else (some false)) else (some false)) else (if x329004 ≥ 1 then (if x329004 ≤ 100 then (if x329003 = true then (some (!true)) else (some (!(decide ((x329005.length : Int) > 0))))) else (some false)) else (some false))) else (if x329001 = 4 then (if x329004 ≥ 0 then (if x329004 ≤ 0 then (if x329003 = true then (some (!true)) else (some (!(decide ((x329005.length : Int) > 0))))) else (some false)) else (some false)) else (if x329004 ≥ 0 then (if x329004 ≤ 0 then (some (!false)) else (some false)) else (some false))))
def q43.f (k : Nat) (l0_0 : List ByteArray) (l0_1 : List (S48)) (a1_0 : ByteArray) (a1_1 : Int) (a1_2 : ByteArray) (a1_3 : Bool) (a1_4 : Int) (l1_5 : List (S54)) (l1_6 : List (S54)) : Option (Bool) := if a1_1 < 1 then (q43.j0 k true a1_0 a1_1 a1_2 a1_3 a1_4 l1_5 l1_6) else (if a1_1 > 5 then (q43.j0 k true a1_0 a1_1 a1_2 a1_3 a1_4 l1_5 l1_6) else ((q18.f l0_0 l0_1 l1_5).bind fun t329 => (if t329 = true then ((q18.f l0_0 l0_1 l1_6).bind fun t330 => (q43.j0 k (!t330) a1_0 a1_1 a1_2 a1_3 a1_4 l1_5 l1_6)) else (q43.j0 k true a1_0 a1_1 a1_2 a1_3 a1_4 l1_5 l1_6))))
theorem q43.mono_l : ∀ k, (∀ y0 y1 y2 y3 y4 y5 y6 y7, LeO (q43.j0 k y0 y1 y2 y3 y4 y5 y6 y7) (q43.j0 (k + 1) y0 y1 y2 y3 y4 y5 y6 y7))
 | 0 => fun _ _ _ _ _ _ _ _ r h => by simp [q43.j0] at h
 | k + 1 => by
  have ih0 := q43.mono_l k
  ·intro y0 y1 y2 y3 y4 y5 y6 y7
   unfold q43.j0
   repeat' first
   | (with_reducible exact ih0 _ _ _ _ _ _ _ _)
   | (with_reducible exact LeO.refl _)
   | (with_reducible exact LeO.none _)
   | (with_reducible refine LeO.ite ?_ ?_)
   | (with_reducible refine LeO.bind ?_ (fun _ => ?_))
   | exact ih0 _ _ _ _ _ _ _ _
   | exact LeO.none _
   | refine LeO.ite ?_ ?_
   | refine LeO.bind ?_ (fun _ => ?_)
theorem q43.mono : ∀ a0 a1 a2 a3 a4 a5 a6 a7 a8 k, LeO (q43.f k a0 a1 a2 a3 a4 a5 a6 a7 a8) (q43.f (k + 1) a0 a1 a2 a3 a4 a5 a6 a7 a8) := by
 intro a0 a1 a2 a3 a4 a5 a6 a7 a8 k
 have ih0 := q43.mono_l k
 unfold q43.f
 repeat' first
  | (with_reducible exact ih0 _ _ _ _ _ _ _ _)
  | (with_reducible exact LeO.refl _)
  | (with_reducible exact LeO.none _)
  | (with_reducible refine LeO.ite ?_ ?_)
  | (with_reducible refine LeO.bind ?_ (fun _ => ?_))
  | exact ih0 _ _ _ _ _ _ _ _
  | exact LeO.none _
  | refine LeO.ite ?_ ?_
  | refine LeO.bind ?_ (fun _ => ?_)
set_option maxHeartbeats 8000000 in
set_option maxRecDepth 100000 in
theorem q43.calls (k : Nat) (A0_0 : Option Addr) (c0_0 : Nat) (l0_0 : List ByteArray) (A0_1 : Option Addr) (c0_1 : Nat) (l0_1 : List (S48)) (a1_0 : ByteArray) (a1_1 : Int) (a1_2 : ByteArray) (a1_3 : Bool) (a1_4 : Int) (A1_5 : Option Addr) (c1_5 : Nat) (l1_5 : List (S54)) (A1_6 : Option Addr) (c1_6 : Nat) (l1_6 : List (S54)) (r : Bool) (w : World) (hr0_0 : Kd.C Kd.string w A0_0 l0_0.length l0_0) (hc0_0 : l0_0.length ≤ c0_0) (hr0_1 : Kd.C k48 w A0_1 l0_1.length l0_1) (hc0_1 : l0_1.length ≤ c0_1) (hr1_5 : Kd.C k54 w A1_5 l1_5.length l1_5) (hc1_5 : l1_5.length ≤ c1_5) (hr1_6 : Kd.C k54 w A1_6 l1_6.length l1_6) (hc1_6 : l1_6.length ≤ c1_6) (h : q43.f k l0_0 l0_1 a1_0 a1_1 a1_2 a1_3 a1_4 l1_5 l1_6 = some r) :
 Calls Try.prog 45 #[.agg #[.slice A0_0 l0_0.length c0_0, .slice A0_1 l0_1.length c0_1], .agg #[.string a1_0, .int .i64 a1_1, .string a1_2, .bool a1_3, .int .i64 a1_4, .slice A1_5 l1_5.length c1_5, .slice A1_6 l1_6.length c1_6]] w fun e w' => e = .returned (.bool r) ∧ Below w.heap.size w w' := by
 have hu25 := Try.underlying25
 have hu48 := Try.underlying48
 have HR0_0 := q66.mk hr0_0
 have HC0_0 := q66.mk hc0_0
 clear hr0_0 hc0_0
 have HR0_1 := q66.mk hr0_1
 have HC0_1 := q66.mk hc0_1
 clear hr0_1 hc0_1
 have HR1_5 := q66.mk hr1_5
 have HC1_5 := q66.mk hc1_5
 clear hr1_5 hc1_5
 have HR1_6 := q66.mk hr1_6
 have HC1_6 := q66.mk hc1_6
 clear hr1_6 hc1_6
 have HB := q66.mk (Below.refl w.heap.size w)
 unfold q43.f at h
 have H := h
 clear h
 have HC3 := q66.mk H
 clear H
 go_enter Try.func45, Try.ntmps45
 go_upto_region 1 with (first | ((with_reducible refine q81 (N := 2) rfl ?_); (try (refine gate_guard (by rfl) ?_; dsimp only)); refine bx_ 2 #[.slice A0_0 l0_0.length c0_0, .slice A0_1 l0_1.length c0_1] 25 ?_; intro gb327 hg w4 hbox hb; have BK327 := q66.mk (hbox); have GW327 := zz_ (w := w) hg; have GE327 := zz_ (w := w) hg; replace HB := hb_ HB hb;  clear hb hbox hg) | ((with_reducible refine q81 (N := 3) rfl ?_); (try (refine gate_guard (by rfl) ?_; dsimp only)); refine bx_ 3 #[.string a1_0, .int .i64 a1_1, .string a1_2, .bool a1_3, .int .i64 a1_4, .slice A1_5 l1_5.length c1_5, .slice A1_6 l1_6.length c1_6] 48 ?_; intro gb328 hg w5 hbox hb; have BK328 := q66.mk (hbox); have GW328 := zz_ (w := w) hg; have GE328 := zz_ (w := w) hg; replace HB := hb_ HB hb; have NB327_328 := ne1_ hg BK327; have NB328_327 := ne2_ hg BK327; replace BK327 := bb_ BK327 hb;  clear hb hbox hg))
 (try simp only [Act.put, List.setIfInBounds_toArray, List.set_cons_zero, List.set_cons_succ])
 go_cut [29] (fun v29 wc => ∃ (kq : Nat) (x29_2 : Bool), v29 = .bool x29_2 ∧ q66 (q43.j0 kq x29_2 a1_0 a1_1 a1_2 a1_3 a1_4 l1_5 l1_6 = some r) ∧ q66 (kq ≤ k) ∧ q66 (wc.heap[gb327]? = some (.cells #[(.slice A0_0 l0_0.length c0_0), (.slice A0_1 l0_1.length c0_1)] 25 (0, 0))) ∧ q66 (wc.heap[gb328]? = some (.cells #[.string a1_0, .int .i64 a1_1, .string a1_2, .bool a1_3, .int .i64 a1_4, (.slice A1_5 l1_5.length c1_5), (.slice A1_6 l1_6.length c1_6)] 48 (0, 0))) ∧ q66 (Below w.heap.size w wc))
 case first =>
  have H := HC3.out
  clear HC3
  by_cases c6 : a1_1 < 1
  ·rw [if_pos c6] at H
   have c6b0 := decide_eq_true c6
   clear c6
   (first | rw [c6b0] | (simp only [i64_w, i32_w]; rw [c6b0]) | skip)
   have H' := q66.mk H
   clear H
   have hnb7 := NB328_327.out
   have hnc7 := NB327_328.out
   obtain ⟨hcz8_0, hcz8_1, hcz8_2, hcz8_3, hcz8_4, hcz8_5, hcz8_6, hfz8_0, hfz8_1, hfz8_2, hfz8_3, hfz8_4, hfz8_5, hfz8_6⟩ := bs7_ BK328
   go_wp2
   go_meet
   case rel => exact ⟨_, (true), rf_, H', ⟨by first | omega | exact Nat.le_refl _⟩, ⟨gx_ BK327⟩, ⟨gx_ BK328⟩, ⟨hf_⟩⟩
  ·rw [if_neg c6] at H
   have c6b0 := decide_eq_false c6
   clear c6
   (first | rw [c6b0] | (simp only [i64_w, i32_w]; rw [c6b0]) | skip)
   by_cases c9 : a1_1 > 5
   ·rw [if_pos c9] at H
    replace c9 := decide_eq_true c9
    have H' := q66.mk H
    clear H
    have hnb10 := NB328_327.out
    have hnc10 := NB327_328.out
    obtain ⟨hcz11_0, hcz11_1, hcz11_2, hcz11_3, hcz11_4, hcz11_5, hcz11_6, hfz11_0, hfz11_1, hfz11_2, hfz11_3, hfz11_4, hfz11_5, hfz11_6⟩ := bs7_ BK328
    go_wp2
    go_meet
    case rel => exact ⟨_, (true), rf_, H', ⟨by first | omega | exact Nat.le_refl _⟩, ⟨gx_ BK327⟩, ⟨gx_ BK328⟩, ⟨hf_⟩⟩
   ·rw [if_neg c9] at H
    replace c9 := decide_eq_false c9
    replace H := Option.bind_eq_some_iff.mp H
    obtain ⟨t329, A120, H⟩ := H
    have A12 := q66.mk A120
    clear A120
    by_cases c13 : t329 = true
    ·subst c13
     have H1 : ((q18.f l0_0 l0_1 l1_6).bind fun t330 => (q43.j0 k (!t330) a1_0 a1_1 a1_2 a1_3 a1_4 l1_5 l1_6)) = some r := by rw [if_pos rfl] at H; exact H
     clear H
     have H := H1
     clear H1
     replace H := Option.bind_eq_some_iff.mp H
     obtain ⟨t330, A140, H⟩ := H
     have A14 := q66.mk A140
     clear A140
     have H' := q66.mk H
     clear H
     have hnb15 := NB328_327.out
     have hnc15 := NB327_328.out
     obtain ⟨hcz16_0, hcz16_1, hcz16_2, hcz16_3, hcz16_4, hcz16_5, hcz16_6, hfz16_0, hfz16_1, hfz16_2, hfz16_3, hfz16_4, hfz16_5, hfz16_6⟩ := bs7_ BK328
     obtain ⟨hcz17_0, hcz17_1, hfz17_0, hfz17_1⟩ := bs2_ BK327
     go_wp2_with (first | (go_at_call 71; (with_reducible refine (q18.calls _ _ l0_0 _ _ l0_1 _ _ l1_5 true _ ?side1 ?side2 ?side3 ?side4 ?side5 ?side6 A12.out).mono ?_); (case side1 => exact kc_ HR0_0 HB); (case side2 => exact HC0_0.out); (case side3 => exact kc_ HR0_1 HB); (case side4 => exact HC0_1.out); (case side5 => exact kc_ HR1_5 HB); (case side6 => exact HC1_5.out); rintro e w18 ⟨rfl, hb⟩; replace BK327 := bb_ BK327 hb; replace BK328 := bb_ BK328 hb; replace HB := hb_ HB hb;  (try clear hb); obtain ⟨hcz19_0, hcz19_1, hfz19_0, hfz19_1⟩ := bs2_ BK327; obtain ⟨hcz20_0, hcz20_1, hcz20_2, hcz20_3, hcz20_4, hcz20_5, hcz20_6, hfz20_0, hfz20_1, hfz20_2, hfz20_3, hfz20_4, hfz20_5, hfz20_6⟩ := bs7_ BK328) | (go_at_call 71; (with_reducible refine (q18.calls _ _ l0_0 _ _ l0_1 _ _ l1_6 t330 _ ?side1 ?side2 ?side3 ?side4 ?side5 ?side6 A14.out).mono ?_); (case side1 => exact kc_ HR0_0 HB); (case side2 => exact HC0_0.out); (case side3 => exact kc_ HR0_1 HB); (case side4 => exact HC0_1.out); (case side5 => exact kc_ HR1_6 HB); (case side6 => exact HC1_6.out); rintro e w21 ⟨rfl, hb⟩; replace BK327 := bb_ BK327 hb; replace BK328 := bb_ BK328 hb; replace HB := hb_ HB hb;  (try clear hb)))
     go_meet
     case rel => exact ⟨_, (!t330), rf_, H', ⟨by first | omega | exact Nat.le_refl _⟩, ⟨gx_ BK327⟩, ⟨gx_ BK328⟩, ⟨hf_⟩⟩
    ·replace c13 := Bool.eq_false_iff.mpr c13
     subst c13
     have H1 : (q43.j0 k true a1_0 a1_1 a1_2 a1_3 a1_4 l1_5 l1_6) = some r := by rw [if_neg (show ¬ (false = true) by decide)] at H; exact H
     clear H
     have H := H1
     clear H1
     have H' := q66.mk H
     clear H
     have hnb22 := NB328_327.out
     have hnc22 := NB327_328.out
     obtain ⟨hcz23_0, hcz23_1, hcz23_2, hcz23_3, hcz23_4, hcz23_5, hcz23_6, hfz23_0, hfz23_1, hfz23_2, hfz23_3, hfz23_4, hfz23_5, hfz23_6⟩ := bs7_ BK328
     obtain ⟨hcz24_0, hcz24_1, hfz24_0, hfz24_1⟩ := bs2_ BK327
     go_wp2_with (first | (go_at_call 71; (with_reducible refine (q18.calls _ _ l0_0 _ _ l0_1 _ _ l1_5 false _ ?side1 ?side2 ?side3 ?side4 ?side5 ?side6 A12.out).mono ?_); (case side1 => exact kc_ HR0_0 HB); (case side2 => exact HC0_0.out); (case side3 => exact kc_ HR0_1 HB); (case side4 => exact HC0_1.out); (case side5 => exact kc_ HR1_5 HB); (case side6 => exact HC1_5.out); rintro e w25 ⟨rfl, hb⟩; replace BK327 := bb_ BK327 hb; replace BK328 := bb_ BK328 hb; replace HB := hb_ HB hb;  (try clear hb)))
     go_meet
     case rel => exact ⟨_, (true), rf_, H', ⟨by first | omega | exact Nat.le_refl _⟩, ⟨gx_ BK327⟩, ⟨gx_ BK328⟩, ⟨hf_⟩⟩
 case rest =>
  clear HC3
  obtain ⟨kq, x29_2, rfl, HA, HJ2, BK327, BK328, HB⟩ := hcut
  cases kq with
  | zero => exact absurd HA.out (by simp [q43.j0])
  | succ kj2 =>
   have H := HA.out
   clear HA
   simp only [q43.j0] at H
   by_cases c26 : x29_2 = true
   ·subst c26
    have H1 : (some false) = some r := by rw [if_pos rfl] at H; exact H
    clear H
    have H := H1
    clear H1
    obtain rfl := Option.some.inj H
    go_wp2
    go_ret
    exact ⟨er_, hf_⟩
   ·replace c26 := Bool.eq_false_iff.mpr c26
    subst c26
    have H1 : (if a1_1 = 5 then (if a1_1 = 4 then (if a1_4 ≥ 1 then (if a1_4 ≤ 100 then (if a1_3 = true then (some (!true)) else (some (!(decide ((l1_5.length : Int) > 0))))) else (some false)) else (some false)) else (if a1_4 ≥ 1 then (if a1_4 ≤ 100 then (if a1_3 = true then (some (!true)) else (some (!(decide ((l1_5.length : Int) > 0))))) else (some false)) else (some false))) else (if a1_1 = 4 then (if a1_4 ≥ 0 then (if a1_4 ≤ 0 then (if a1_3 = true then (some (!true)) else (some (!(decide ((l1_5.length : Int) > 0))))) else (some false)) else (some false)) else (if a1_4 ≥ 0 then (if a1_4 ≤ 0 then (some (!false)) else (some false)) else (some false)))) = some r := by rw [if_neg (show ¬ (false = true) by decide)] at H; exact H
    clear H
    have H := H1
    clear H1
    by_cases c27 : a1_1 = 5
    ·rw [if_pos c27] at H
     have c27b0 : (a1_1 == 5) = true := beq_iff_eq.mpr c27
     have c27b1 : (a1_1 != 5) = false := bne_eq_false_iff_eq.mpr c27
     clear c27
     by_cases c28 : a1_1 = 4
     ·rw [if_pos c28] at H
      have c28b0 : (a1_1 == 4) = true := beq_iff_eq.mpr c28
      have c28b1 : (a1_1 != 4) = false := bne_eq_false_iff_eq.mpr c28
      clear c28
      by_cases c29 : a1_4 ≥ 1
      ·rw [if_pos c29] at H
       replace c29 := decide_eq_true c29
       by_cases c30 : a1_4 ≤ 100
       ·rw [if_pos c30] at H
        replace c30 := decide_eq_true c30
        by_cases c31 : a1_3 = true
        ·subst c31
         have H1 : (some (!true)) = some r := by rw [if_pos rfl] at H; exact H
         clear H
         have H := H1
         clear H1
         obtain rfl := Option.some.inj H
         have hnb32 := NB328_327.out
         have hnc32 := NB327_328.out
         obtain ⟨hcz33_0, hcz33_1, hcz33_2, hcz33_3, hcz33_4, hcz33_5, hcz33_6, hfz33_0, hfz33_1, hfz33_2, hfz33_3, hfz33_4, hfz33_5, hfz33_6⟩ := bs7_ BK328
         go_wp2
         go_ret
         exact ⟨er_, hf_⟩
        ·replace c31 := Bool.eq_false_iff.mpr c31
         subst c31
         have H1 : (some (!(decide ((l1_5.length : Int) > 0)))) = some r := by rw [if_neg (show ¬ (false = true) by decide)] at H; exact H
         clear H
         have H := H1
         clear H1
         obtain rfl := Option.some.inj H
         have hnb34 := NB328_327.out
         have hnc34 := NB327_328.out
         obtain ⟨hcz35_0, hcz35_1, hcz35_2, hcz35_3, hcz35_4, hcz35_5, hcz35_6, hfz35_0, hfz35_1, hfz35_2, hfz35_3, hfz35_4, hfz35_5, hfz35_6⟩ := bs7_ BK328
         go_wp2
         go_ret
         exact ⟨er_, hf_⟩
       ·rw [if_neg c30] at H
        replace c30 := decide_eq_false c30
        obtain rfl := Option.some.inj H
        have hnb36 := NB328_327.out
        have hnc36 := NB327_328.out
        obtain ⟨hcz37_0, hcz37_1, hcz37_2, hcz37_3, hcz37_4, hcz37_5, hcz37_6, hfz37_0, hfz37_1, hfz37_2, hfz37_3, hfz37_4, hfz37_5, hfz37_6⟩ := bs7_ BK328
        go_wp2
        go_ret
        exact ⟨er_, hf_⟩
      ·rw [if_neg c29] at H
       replace c29 := decide_eq_false c29
       obtain rfl := Option.some.inj H
       have hnb38 := NB328_327.out
       have hnc38 := NB327_328.out
       obtain ⟨hcz39_0, hcz39_1, hcz39_2, hcz39_3, hcz39_4, hcz39_5, hcz39_6, hfz39_0, hfz39_1, hfz39_2, hfz39_3, hfz39_4, hfz39_5, hfz39_6⟩ := bs7_ BK328
       go_wp2
       go_ret
       exact ⟨er_, hf_⟩
     ·rw [if_neg c28] at H
      have c28b0 : (a1_1 == 4) = false := beq_eq_false_iff_ne.mpr c28
      have c28b1 : (a1_1 != 4) = true := bne_iff_ne.mpr c28
      by_cases c40 : a1_4 ≥ 1
      ·rw [if_pos c40] at H
       replace c40 := decide_eq_true c40
       by_cases c41 : a1_4 ≤ 100
       ·rw [if_pos c41] at H
        replace c41 := decide_eq_true c41
        by_cases c42 : a1_3 = true
        ·subst c42
         have H1 : (some (!true)) = some r := by rw [if_pos rfl] at H; exact H
         clear H
         have H := H1
         clear H1
         obtain rfl := Option.some.inj H
         have hnb43 := NB328_327.out
         have hnc43 := NB327_328.out
         obtain ⟨hcz44_0, hcz44_1, hcz44_2, hcz44_3, hcz44_4, hcz44_5, hcz44_6, hfz44_0, hfz44_1, hfz44_2, hfz44_3, hfz44_4, hfz44_5, hfz44_6⟩ := bs7_ BK328
         go_wp2
         go_ret
         exact ⟨er_, hf_⟩
        ·replace c42 := Bool.eq_false_iff.mpr c42
         subst c42
         have H1 : (some (!(decide ((l1_5.length : Int) > 0)))) = some r := by rw [if_neg (show ¬ (false = true) by decide)] at H; exact H
         clear H
         have H := H1
         clear H1
         obtain rfl := Option.some.inj H
         have hnb45 := NB328_327.out
         have hnc45 := NB327_328.out
         obtain ⟨hcz46_0, hcz46_1, hcz46_2, hcz46_3, hcz46_4, hcz46_5, hcz46_6, hfz46_0, hfz46_1, hfz46_2, hfz46_3, hfz46_4, hfz46_5, hfz46_6⟩ := bs7_ BK328
         go_wp2
         go_ret
         exact ⟨er_, hf_⟩
       ·rw [if_neg c41] at H
        replace c41 := decide_eq_false c41
        obtain rfl := Option.some.inj H
        have hnb47 := NB328_327.out
        have hnc47 := NB327_328.out
        obtain ⟨hcz48_0, hcz48_1, hcz48_2, hcz48_3, hcz48_4, hcz48_5, hcz48_6, hfz48_0, hfz48_1, hfz48_2, hfz48_3, hfz48_4, hfz48_5, hfz48_6⟩ := bs7_ BK328
        go_wp2
        go_ret
        exact ⟨er_, hf_⟩
      ·rw [if_neg c40] at H
       replace c40 := decide_eq_false c40
       obtain rfl := Option.some.inj H
       have hnb49 := NB328_327.out
       have hnc49 := NB327_328.out
       obtain ⟨hcz50_0, hcz50_1, hcz50_2, hcz50_3, hcz50_4, hcz50_5, hcz50_6, hfz50_0, hfz50_1, hfz50_2, hfz50_3, hfz50_4, hfz50_5, hfz50_6⟩ := bs7_ BK328
       go_wp2
       go_ret
       exact ⟨er_, hf_⟩
    ·rw [if_neg c27] at H
     have c27b0 : (a1_1 == 5) = false := beq_eq_false_iff_ne.mpr c27
     have c27b1 : (a1_1 != 5) = true := bne_iff_ne.mpr c27
     by_cases c51 : a1_1 = 4
     ·rw [if_pos c51] at H
      have c51b0 : (a1_1 == 4) = true := beq_iff_eq.mpr c51
      have c51b1 : (a1_1 != 4) = false := bne_eq_false_iff_eq.mpr c51
      clear c51
      by_cases c52 : a1_4 ≥ 0
      ·rw [if_pos c52] at H
       replace c52 := decide_eq_true c52
       by_cases c53 : a1_4 ≤ 0
       ·rw [if_pos c53] at H
        replace c53 := decide_eq_true c53
        by_cases c54 : a1_3 = true
        ·subst c54
         have H1 : (some (!true)) = some r := by rw [if_pos rfl] at H; exact H
         clear H
         have H := H1
         clear H1
         obtain rfl := Option.some.inj H
         have hnb55 := NB328_327.out
         have hnc55 := NB327_328.out
         obtain ⟨hcz56_0, hcz56_1, hcz56_2, hcz56_3, hcz56_4, hcz56_5, hcz56_6, hfz56_0, hfz56_1, hfz56_2, hfz56_3, hfz56_4, hfz56_5, hfz56_6⟩ := bs7_ BK328
         go_wp2
         go_ret
         exact ⟨er_, hf_⟩
        ·replace c54 := Bool.eq_false_iff.mpr c54
         subst c54
         have H1 : (some (!(decide ((l1_5.length : Int) > 0)))) = some r := by rw [if_neg (show ¬ (false = true) by decide)] at H; exact H
         clear H
         have H := H1
         clear H1
         obtain rfl := Option.some.inj H
         have hnb57 := NB328_327.out
         have hnc57 := NB327_328.out
         obtain ⟨hcz58_0, hcz58_1, hcz58_2, hcz58_3, hcz58_4, hcz58_5, hcz58_6, hfz58_0, hfz58_1, hfz58_2, hfz58_3, hfz58_4, hfz58_5, hfz58_6⟩ := bs7_ BK328
         go_wp2
         go_ret
         exact ⟨er_, hf_⟩
       ·rw [if_neg c53] at H
        replace c53 := decide_eq_false c53
        obtain rfl := Option.some.inj H
        have hnb59 := NB328_327.out
        have hnc59 := NB327_328.out
        obtain ⟨hcz60_0, hcz60_1, hcz60_2, hcz60_3, hcz60_4, hcz60_5, hcz60_6, hfz60_0, hfz60_1, hfz60_2, hfz60_3, hfz60_4, hfz60_5, hfz60_6⟩ := bs7_ BK328
        go_wp2
        go_ret
        exact ⟨er_, hf_⟩
      ·rw [if_neg c52] at H
       replace c52 := decide_eq_false c52
       obtain rfl := Option.some.inj H
       have hnb61 := NB328_327.out
       have hnc61 := NB327_328.out
       obtain ⟨hcz62_0, hcz62_1, hcz62_2, hcz62_3, hcz62_4, hcz62_5, hcz62_6, hfz62_0, hfz62_1, hfz62_2, hfz62_3, hfz62_4, hfz62_5, hfz62_6⟩ := bs7_ BK328
       go_wp2
       go_ret
       exact ⟨er_, hf_⟩
     ·rw [if_neg c51] at H
      have c51b0 : (a1_1 == 4) = false := beq_eq_false_iff_ne.mpr c51
      have c51b1 : (a1_1 != 4) = true := bne_iff_ne.mpr c51
      by_cases c63 : a1_4 ≥ 0
      ·rw [if_pos c63] at H
       replace c63 := decide_eq_true c63
       by_cases c64 : a1_4 ≤ 0
       ·rw [if_pos c64] at H
        replace c64 := decide_eq_true c64
        obtain rfl := Option.some.inj H
        have hnb65 := NB328_327.out
        have hnc65 := NB327_328.out
        obtain ⟨hcz66_0, hcz66_1, hcz66_2, hcz66_3, hcz66_4, hcz66_5, hcz66_6, hfz66_0, hfz66_1, hfz66_2, hfz66_3, hfz66_4, hfz66_5, hfz66_6⟩ := bs7_ BK328
        go_wp2
        go_ret
        exact ⟨er_, hf_⟩
       ·rw [if_neg c64] at H
        replace c64 := decide_eq_false c64
        obtain rfl := Option.some.inj H
        have hnb67 := NB328_327.out
        have hnc67 := NB327_328.out
        obtain ⟨hcz68_0, hcz68_1, hcz68_2, hcz68_3, hcz68_4, hcz68_5, hcz68_6, hfz68_0, hfz68_1, hfz68_2, hfz68_3, hfz68_4, hfz68_5, hfz68_6⟩ := bs7_ BK328
        go_wp2
        go_ret
        exact ⟨er_, hf_⟩
      ·rw [if_neg c63] at H
       replace c63 := decide_eq_false c63
       obtain rfl := Option.some.inj H
       have hnb69 := NB328_327.out
       have hnc69 := NB327_328.out
       obtain ⟨hcz70_0, hcz70_1, hcz70_2, hcz70_3, hcz70_4, hcz70_5, hcz70_6, hfz70_0, hfz70_1, hfz70_2, hfz70_3, hfz70_4, hfz70_5, hfz70_6⟩ := bs7_ BK328
       go_wp2
       go_ret
       exact ⟨er_, hf_⟩
def q42.f (a0_0 : ByteArray) (a0_1 : Int) (a0_2 : ByteArray) (a0_3 : Bool) (a0_4 : Int) (l0_5 : List (S54)) (l0_6 : List (S54)) : Option (Bool) := if a0_1 = 1 then (if a0_2.toList = ([] : List UInt8) then (if a0_3 = true then (some false) else (some ((wrap64 ((l0_5.length : Int) + (l0_6.length : Int))) == 0))) else (some false)) else (some false)
set_option maxHeartbeats 8000000 in
set_option maxRecDepth 100000 in
theorem q42.calls (a0_0 : ByteArray) (a0_1 : Int) (a0_2 : ByteArray) (a0_3 : Bool) (a0_4 : Int) (A0_5 : Option Addr) (c0_5 : Nat) (l0_5 : List (S54)) (A0_6 : Option Addr) (c0_6 : Nat) (l0_6 : List (S54)) (r : Bool) (w : World) (hr0_5 : Kd.C k54 w A0_5 l0_5.length l0_5) (hc0_5 : l0_5.length ≤ c0_5) (hr0_6 : Kd.C k54 w A0_6 l0_6.length l0_6) (hc0_6 : l0_6.length ≤ c0_6) (h : q42.f a0_0 a0_1 a0_2 a0_3 a0_4 l0_5 l0_6 = some r) :
 Calls Try.prog 41 #[.agg #[.string a0_0, .int .i64 a0_1, .string a0_2, .bool a0_3, .int .i64 a0_4, .slice A0_5 l0_5.length c0_5, .slice A0_6 l0_6.length c0_6]] w fun e w' => e = .returned (.bool r) ∧ Below w.heap.size w w' := by
 have hu48 := Try.underlying48
 have HR0_5 := q66.mk hr0_5
 have HC0_5 := q66.mk hc0_5
 clear hr0_5 hc0_5
 have HR0_6 := q66.mk hr0_6
 have HC0_6 := q66.mk hc0_6
 clear hr0_6 hc0_6
 have HB := q66.mk (Below.refl w.heap.size w)
 unfold q42.f at h
 have H := h
 clear h
 by_cases c2 : a0_1 = 1
 ·rw [if_pos c2] at H
  have c2b0 : (a0_1 == 1) = true := beq_iff_eq.mpr c2
  have c2b1 : (a0_1 != 1) = false := bne_eq_false_iff_eq.mpr c2
  clear c2
  by_cases c3 : a0_2.toList = ([] : List UInt8)
  ·rw [if_pos c3] at H
   have c3b0 : (a0_2.toList == ([] : List UInt8)) = true := beq_iff_eq.mpr c3
   have c3b1 : (a0_2.toList != ([] : List UInt8)) = false := bne_eq_false_iff_eq.mpr c3
   clear c3
   by_cases c4 : a0_3 = true
   ·subst c4
    have H1 : (some false) = some r := by rw [if_pos rfl] at H; exact H
    clear H
    have H := H1
    clear H1
    obtain rfl := Option.some.inj H
    go_enter Try.func41, Try.ntmps41
    go_wp2_with (first | ((with_reducible refine q81 (N := 1) rfl ?_); (try (refine gate_guard (by rfl) ?_; dsimp only)); refine bx_ 1 #[.string a0_0, .int .i64 a0_1, .string a0_2, .bool true, .int .i64 a0_4, .slice A0_5 l0_5.length c0_5, .slice A0_6 l0_6.length c0_6] 48 ?_; intro gb371 hg w5 hbox hb; have BK371 := q66.mk (hbox); have GW371 := zz_ (w := w) hg; have GE371 := zz_ (w := w) hg; replace HB := hb_ HB hb;  clear hb hbox hg; obtain ⟨hcz6_0, hcz6_1, hcz6_2, hcz6_3, hcz6_4, hcz6_5, hcz6_6, hfz6_0, hfz6_1, hfz6_2, hfz6_3, hfz6_4, hfz6_5, hfz6_6⟩ := bs7_ BK371))
    go_ret
    exact ⟨er_, hf_⟩
   ·replace c4 := Bool.eq_false_iff.mpr c4
    subst c4
    have H1 : (some ((wrap64 ((l0_5.length : Int) + (l0_6.length : Int))) == 0)) = some r := by rw [if_neg (show ¬ (false = true) by decide)] at H; exact H
    clear H
    have H := H1
    clear H1
    obtain rfl := Option.some.inj H
    go_enter Try.func41, Try.ntmps41
    go_wp2_with (first | ((with_reducible refine q81 (N := 1) rfl ?_); (try (refine gate_guard (by rfl) ?_; dsimp only)); refine bx_ 1 #[.string a0_0, .int .i64 a0_1, .string a0_2, .bool false, .int .i64 a0_4, .slice A0_5 l0_5.length c0_5, .slice A0_6 l0_6.length c0_6] 48 ?_; intro gb371 hg w7 hbox hb; have BK371 := q66.mk (hbox); have GW371 := zz_ (w := w) hg; have GE371 := zz_ (w := w) hg; replace HB := hb_ HB hb;  clear hb hbox hg; obtain ⟨hcz8_0, hcz8_1, hcz8_2, hcz8_3, hcz8_4, hcz8_5, hcz8_6, hfz8_0, hfz8_1, hfz8_2, hfz8_3, hfz8_4, hfz8_5, hfz8_6⟩ := bs7_ BK371))
    go_ret
    exact ⟨er_, hf_⟩
  ·rw [if_neg c3] at H
   have c3b0 : (a0_2.toList == ([] : List UInt8)) = false := beq_eq_false_iff_ne.mpr c3
   have c3b1 : (a0_2.toList != ([] : List UInt8)) = true := bne_iff_ne.mpr c3
   obtain rfl := Option.some.inj H
   go_enter Try.func41, Try.ntmps41
   go_wp2_with (first | ((with_reducible refine q81 (N := 1) rfl ?_); (try (refine gate_guard (by rfl) ?_; dsimp only)); refine bx_ 1 #[.string a0_0, .int .i64 a0_1, .string a0_2, .bool a0_3, .int .i64 a0_4, .slice A0_5 l0_5.length c0_5, .slice A0_6 l0_6.length c0_6] 48 ?_; intro gb371 hg w9 hbox hb; have BK371 := q66.mk (hbox); have GW371 := zz_ (w := w) hg; have GE371 := zz_ (w := w) hg; replace HB := hb_ HB hb;  clear hb hbox hg; obtain ⟨hcz10_0, hcz10_1, hcz10_2, hcz10_3, hcz10_4, hcz10_5, hcz10_6, hfz10_0, hfz10_1, hfz10_2, hfz10_3, hfz10_4, hfz10_5, hfz10_6⟩ := bs7_ BK371))
   go_ret
   exact ⟨er_, hf_⟩
 ·rw [if_neg c2] at H
  have c2b0 : (a0_1 == 1) = false := beq_eq_false_iff_ne.mpr c2
  have c2b1 : (a0_1 != 1) = true := bne_iff_ne.mpr c2
  obtain rfl := Option.some.inj H
  go_enter Try.func41, Try.ntmps41
  go_wp2_with (first | ((with_reducible refine q81 (N := 1) rfl ?_); (try (refine gate_guard (by rfl) ?_; dsimp only)); refine bx_ 1 #[.string a0_0, .int .i64 a0_1, .string a0_2, .bool a0_3, .int .i64 a0_4, .slice A0_5 l0_5.length c0_5, .slice A0_6 l0_6.length c0_6] 48 ?_; intro gb371 hg w11 hbox hb; have BK371 := q66.mk (hbox); have GW371 := zz_ (w := w) hg; have GE371 := zz_ (w := w) hg; replace HB := hb_ HB hb;  clear hb hbox hg; obtain ⟨hcz12_0, hcz12_1, hcz12_2, hcz12_3, hcz12_4, hcz12_5, hcz12_6, hfz12_0, hfz12_1, hfz12_2, hfz12_3, hfz12_4, hfz12_5, hfz12_6⟩ := bs7_ BK371))
  go_ret
  exact ⟨er_, hf_⟩
def q38.f (a0 : Int) : Option (Bool) := if a0 ≥ 97 then (if a0 ≤ 122 then (some true) else (if a0 ≥ 65 then (if a0 ≤ 90 then (some true) else (some (a0 == 95))) else (some (a0 == 95)))) else (if a0 ≥ 65 then (if a0 ≤ 90 then (some true) else (some (a0 == 95))) else (some (a0 == 95)))
set_option maxHeartbeats 8000000 in
set_option maxRecDepth 100000 in
theorem q38.calls (a0 : Int) (r : Bool) (w : World) (h : q38.f a0 = some r) :
 Calls Try.prog 81 #[.int .u8 a0] w fun e w' => e = .returned (.bool r) ∧ Drawn0 w w' := by
 unfold q38.f at h
 have H := h
 clear h
 by_cases c2 : a0 ≥ 97
 ·rw [if_pos c2] at H
  replace c2 := decide_eq_true c2
  by_cases c3 : a0 ≤ 122
  ·rw [if_pos c3] at H
   replace c3 := decide_eq_true c3
   obtain rfl := Option.some.inj H
   go_enter Try.func81, Try.ntmps81
   go_wp2
   go_ret
   exact ⟨by first | rfl | (simp; done) | (simp [*]; done), by repeat (first | exact Drawn0.refl _ | apply Drawn0.step)⟩
  ·rw [if_neg c3] at H
   replace c3 := decide_eq_false c3
   by_cases c4 : a0 ≥ 65
   ·rw [if_pos c4] at H
    replace c4 := decide_eq_true c4
    by_cases c5 : a0 ≤ 90
    ·rw [if_pos c5] at H
     replace c5 := decide_eq_true c5
     obtain rfl := Option.some.inj H
     go_enter Try.func81, Try.ntmps81
     go_wp2
     go_ret
     exact ⟨by first | rfl | (simp; done) | (simp [*]; done), by repeat (first | exact Drawn0.refl _ | apply Drawn0.step)⟩
    ·rw [if_neg c5] at H
     replace c5 := decide_eq_false c5
     obtain rfl := Option.some.inj H
     go_enter Try.func81, Try.ntmps81
     go_wp2
     go_ret
     exact ⟨by first | rfl | (simp; done) | (simp [*]; done), by repeat (first | exact Drawn0.refl _ | apply Drawn0.step)⟩
   ·rw [if_neg c4] at H
    replace c4 := decide_eq_false c4
    obtain rfl := Option.some.inj H
    go_enter Try.func81, Try.ntmps81
    go_wp2
    go_ret
    exact ⟨by first | rfl | (simp; done) | (simp [*]; done), by repeat (first | exact Drawn0.refl _ | apply Drawn0.step)⟩
 ·rw [if_neg c2] at H
  replace c2 := decide_eq_false c2
  by_cases c6 : a0 ≥ 65
  ·rw [if_pos c6] at H
   replace c6 := decide_eq_true c6
   by_cases c7 : a0 ≤ 90
   ·rw [if_pos c7] at H
    replace c7 := decide_eq_true c7
    obtain rfl := Option.some.inj H
    go_enter Try.func81, Try.ntmps81
    go_wp2
    go_ret
    exact ⟨by first | rfl | (simp; done) | (simp [*]; done), by repeat (first | exact Drawn0.refl _ | apply Drawn0.step)⟩
   ·rw [if_neg c7] at H
    replace c7 := decide_eq_false c7
    obtain rfl := Option.some.inj H
    go_enter Try.func81, Try.ntmps81
    go_wp2
    go_ret
    exact ⟨by first | rfl | (simp; done) | (simp [*]; done), by repeat (first | exact Drawn0.refl _ | apply Drawn0.step)⟩
  ·rw [if_neg c6] at H
   replace c6 := decide_eq_false c6
   obtain rfl := Option.some.inj H
   go_enter Try.func81, Try.ntmps81
   go_wp2
   go_ret
   exact ⟨by first | rfl | (simp; done) | (simp [*]; done), by repeat (first | exact Drawn0.refl _ | apply Drawn0.step)⟩
def q44.f (a0 : Int) : Option (Bool) := (q38.f a0).bind fun t370 => (if t370 = true then (some true) else (if a0 ≥ 48 then (if a0 ≤ 57 then (some true) else (if a0 = 45 then (some true) else (some (a0 == 46)))) else (if a0 = 45 then (some true) else (some (a0 == 46)))))
set_option maxHeartbeats 8000000 in
set_option maxRecDepth 100000 in
theorem q44.calls (a0 : Int) (r : Bool) (w : World) (h : q44.f a0 = some r) :
 Calls Try.prog 82 #[.int .u8 a0] w fun e w' => e = .returned (.bool r) ∧ Drawn0 w w' := by
 unfold q44.f at h
 have H := h
 clear h
 replace H := Option.bind_eq_some_iff.mp H
 obtain ⟨t370, A20, H⟩ := H
 have A2 := q66.mk A20
 clear A20
 by_cases c3 : t370 = true
 ·subst c3
  have H1 : (some true) = some r := by rw [if_pos rfl] at H; exact H
  clear H
  have H := H1
  clear H1
  obtain rfl := Option.some.inj H
  go_enter Try.func82, Try.ntmps82
  go_wp2_with (first | ((with_reducible refine q80 (f := 81) rfl ?_); refine gl_ (some 4) Try.func81 #[.int .u8 a0] ?_; (with_reducible refine (q38.calls a0 true _ A2.out).mono ?_); rintro e w' ⟨rfl, ⟨nd, rfl⟩⟩; refine ⟨_, rfl, ?_⟩))
  go_ret
  exact ⟨by first | rfl | (simp; done) | (simp [*]; done), by repeat (first | exact Drawn0.refl _ | apply Drawn0.step)⟩
 ·replace c3 := Bool.eq_false_iff.mpr c3
  subst c3
  have H1 : (if a0 ≥ 48 then (if a0 ≤ 57 then (some true) else (if a0 = 45 then (some true) else (some (a0 == 46)))) else (if a0 = 45 then (some true) else (some (a0 == 46)))) = some r := by rw [if_neg (show ¬ (false = true) by decide)] at H; exact H
  clear H
  have H := H1
  clear H1
  by_cases c4 : a0 ≥ 48
  ·rw [if_pos c4] at H
   replace c4 := decide_eq_true c4
   by_cases c5 : a0 ≤ 57
   ·rw [if_pos c5] at H
    replace c5 := decide_eq_true c5
    obtain rfl := Option.some.inj H
    go_enter Try.func82, Try.ntmps82
    go_wp2_with (first | ((with_reducible refine q80 (f := 81) rfl ?_); refine gl_ (some 4) Try.func81 #[.int .u8 a0] ?_; (with_reducible refine (q38.calls a0 false _ A2.out).mono ?_); rintro e w' ⟨rfl, ⟨nd, rfl⟩⟩; refine ⟨_, rfl, ?_⟩))
    go_ret
    exact ⟨by first | rfl | (simp; done) | (simp [*]; done), by repeat (first | exact Drawn0.refl _ | apply Drawn0.step)⟩
   ·rw [if_neg c5] at H
    replace c5 := decide_eq_false c5
    by_cases c6 : a0 = 45
    ·rw [if_pos c6] at H
     have c6b0 : (a0 == 45) = true := beq_iff_eq.mpr c6
     have c6b1 : (a0 != 45) = false := bne_eq_false_iff_eq.mpr c6
     clear c6
     obtain rfl := Option.some.inj H
     go_enter Try.func82, Try.ntmps82
     go_wp2_with (first | ((with_reducible refine q80 (f := 81) rfl ?_); refine gl_ (some 4) Try.func81 #[.int .u8 a0] ?_; (with_reducible refine (q38.calls a0 false _ A2.out).mono ?_); rintro e w' ⟨rfl, ⟨nd, rfl⟩⟩; refine ⟨_, rfl, ?_⟩))
     go_ret
     exact ⟨by first | rfl | (simp; done) | (simp [*]; done), by repeat (first | exact Drawn0.refl _ | apply Drawn0.step)⟩
    ·rw [if_neg c6] at H
     have c6b0 : (a0 == 45) = false := beq_eq_false_iff_ne.mpr c6
     have c6b1 : (a0 != 45) = true := bne_iff_ne.mpr c6
     obtain rfl := Option.some.inj H
     go_enter Try.func82, Try.ntmps82
     go_wp2_with (first | ((with_reducible refine q80 (f := 81) rfl ?_); refine gl_ (some 4) Try.func81 #[.int .u8 a0] ?_; (with_reducible refine (q38.calls a0 false _ A2.out).mono ?_); rintro e w' ⟨rfl, ⟨nd, rfl⟩⟩; refine ⟨_, rfl, ?_⟩))
     go_ret
     exact ⟨by first | rfl | (simp; done) | (simp [*]; done), by repeat (first | exact Drawn0.refl _ | apply Drawn0.step)⟩
  ·rw [if_neg c4] at H
   replace c4 := decide_eq_false c4
   by_cases c7 : a0 = 45
   ·rw [if_pos c7] at H
    have c7b0 : (a0 == 45) = true := beq_iff_eq.mpr c7
    have c7b1 : (a0 != 45) = false := bne_eq_false_iff_eq.mpr c7
    clear c7
    obtain rfl := Option.some.inj H
    go_enter Try.func82, Try.ntmps82
    go_wp2_with (first | ((with_reducible refine q80 (f := 81) rfl ?_); refine gl_ (some 4) Try.func81 #[.int .u8 a0] ?_; (with_reducible refine (q38.calls a0 false _ A2.out).mono ?_); rintro e w' ⟨rfl, ⟨nd, rfl⟩⟩; refine ⟨_, rfl, ?_⟩))
    go_ret
    exact ⟨by first | rfl | (simp; done) | (simp [*]; done), by repeat (first | exact Drawn0.refl _ | apply Drawn0.step)⟩
   ·rw [if_neg c7] at H
    have c7b0 : (a0 == 45) = false := beq_eq_false_iff_ne.mpr c7
    have c7b1 : (a0 != 45) = true := bne_iff_ne.mpr c7
    obtain rfl := Option.some.inj H
    go_enter Try.func82, Try.ntmps82
    go_wp2_with (first | ((with_reducible refine q80 (f := 81) rfl ?_); refine gl_ (some 4) Try.func81 #[.int .u8 a0] ?_; (with_reducible refine (q38.calls a0 false _ A2.out).mono ?_); rintro e w' ⟨rfl, ⟨nd, rfl⟩⟩; refine ⟨_, rfl, ?_⟩))
    go_ret
    exact ⟨by first | rfl | (simp; done) | (simp [*]; done), by repeat (first | exact Drawn0.refl _ | apply Drawn0.step)⟩
end Go.Proofs.Ytaiglhfmmdajdaa.Pm
end
