/- model.isSentry, model.areSentries: whether sentries may be. -/
import Derived.Test.YtchellnfenekaaaPm0
import Derived.Test.YtchellnfenekaaaPmFapi_On_77
import Derived.Test.YtchellnfenekaaaPmFmodel_isIf
import Derived.Test.YtchellnfenekaaaPmFmodel_isOn
import Derived.Test.YtchellnfenekaaaGIdx
import Derived.Test.YtchellnfenekaaaGPlain
import Derived.Lib.Hide
import Derived.Outline
import Derived.Deep.RegionHeld3
namespace Go.Proofs.Ytchellnfenekaaa.Pm
open Go.RowKit Go.Proofs.YtchellnfenekaaaW.PrintWords Go.Proofs.YtchellnfenekaaaW.PrintLast Go.Proofs.YtchellnfenekaaaW.PrintMore
attribute [local go_sem] max2_int min2_int max_two min_two max_three min_three max_four min_four   -- for this text's walks alone
set_option linter.unusedVariables false
set_option linter.unusedSimpArgs false

def onOk (l : List (S32)) (on : List (S39)) (i : Nat) : Bool := onB l (rd_T39 on i).f0 (rd_T39 on i).f1 && !hasOn (on.take i) (rd_T39 on i).f0 (rd_T39 on i).f1
def ifsOk (fs : List ByteArray) (l : List (S25)) : Bool := !l.any (fun c => !ifB fs c.f0 c.f1 c.f2)
def sentryB (fs : List ByteArray) (l : List (S32)) (on : List (S39)) (ifs : List (S25)) : Bool :=
  decide (on.length ≤ 3 ∧ ifs.length ≤ 2 ∧ on.length + ifs.length ≠ 0) && ((List.range on.length).all (onOk l on) && ifsOk fs ifs)
def model_isSentry.f (l0_0 : List ByteArray) (l0_1 : List (S32)) (l1_0 : List (S39)) (l1_1 : List (S25)) : Option Bool := some (sentryB l0_0 l0_1 l1_0 l1_1)

theorem keepc {w1 w' : World} {a : Addr} {v : Value} (hb : Below w1.heap.size w1 w') (hc : w1.cell? a = some v) : w'.cell? a = some v := (hb.cell (World.block_lt_of_cell? _ _ hc)).trans hc
theorem keepb {w w1 w' : World} (hb : Below w1.heap.size w1 w') (hB : Below w.heap.size w w1) : Below w.heap.size w w' := below_then hB hB.size hb

theorem model_isSentry.eg : ∀ args w, (callFunc 79 args).run Try.prog w = .ok (.enter 79 args) w := enters_of Try.func79 (by kernel_rfl) rfl
set_option maxHeartbeats 4000000 in
theorem model_isSentry.closure (b : Nat) (A0_0 : Option Addr) (c0_0 : Nat) (l0_0 : List ByteArray) (A0_1 : Option Addr) (c0_1 : Nat) (l0_1 : List (S32)) (W : World) (hm0 : W.cell? ⟨b, 0, none⟩ = some (.slice A0_0 l0_0.length c0_0)) (hm1 : W.cell? ⟨b, 1, none⟩ = some (.slice A0_1 l0_1.length c0_1))
    (hr0_0 : Kd.C Kd.string W A0_0 l0_0.length l0_0) (hc0_0 : l0_0.length ≤ c0_0) (hr0_1 : Kd.C k32 W A0_1 l0_1.length l0_1) (hc0_1 : l0_1.length ≤ c0_1) (x : S25) (cs : List Value) (hK : Kd.K k25 W x cs) :
    Calls Try.prog 79 (#[.agg cs.toArray] ++ #[.pointer (some ⟨b, 0, none⟩)]) W fun e w' => e = .returned (.bool (!ifB l0_0 x.f0 x.f1 x.f2)) ∧ Below W.heap.size W w' := by
  obtain rfl := k25_open hK
  have hb := World.block_lt_of_cell? W _ hm0
  simp only at hb
  have hW1 := below_alloc (Below.refl W.heap.size W) (.cells #[.string x.f0, .string x.f1, .int .i64 x.f2] 25)
  have hif := model_isIf.calls (l0_0.length + 7) A0_0 c0_0 l0_0 A0_1 c0_1 l0_1 x.f0 x.f1 x.f2 _ _ (Kd.C_below hr0_0 hW1) hc0_0 (Kd.C_below hr0_1 hW1) hc0_1 (isIf_eq l0_0 l0_1 x.f0 x.f1 x.f2 hr0_0.2.1 (l0_0.length + 7) (by omega) (by omega))
  have HW := Lib.hid hW1
  clear hr0_0 hr0_1 hW1 hK
  obtain ⟨T, hT⟩ : ∃ T, T = ifB l0_0 x.f0 x.f1 x.f2 := ⟨_, rfl⟩
  rw [← hT] at hif ⊢
  clear hT
  have hu36 := Try.underlying36
  have hu25 := Try.underlying25
  go_enter Try.func79, Try.ntmps79
  go_wp2_with (go_at_call 80; refine hif.mono ?_; rintro e w' ⟨rfl, hb'⟩)
  go_ret
  exact ⟨rfl, keepb hb' HW.out⟩
set_option maxHeartbeats 8000000 in
set_option maxRecDepth 100000 in
theorem model_isSentry.calls (A0_0 : Option Addr) (c0_0 : Nat) (l0_0 : List ByteArray) (A0_1 : Option Addr) (c0_1 : Nat) (l0_1 : List (S32)) (A1_0 : Option Addr) (c1_0 : Nat) (l1_0 : List (S39)) (A1_1 : Option Addr) (c1_1 : Nat) (l1_1 : List (S25)) (r : Bool) (w : World) (hr0_0 : Kd.C Kd.string w A0_0 l0_0.length l0_0) (hc0_0 : l0_0.length ≤ c0_0) (hr0_1 : Kd.C k32 w A0_1 l0_1.length l0_1) (hc0_1 : l0_1.length ≤ c0_1) (hr1_0 : Kd.C k39 w A1_0 l1_0.length l1_0) (hc1_0 : l1_0.length ≤ c1_0) (hr1_1 : Kd.C k25 w A1_1 l1_1.length l1_1) (hc1_1 : l1_1.length ≤ c1_1) (h : model_isSentry.f l0_0 l0_1 l1_0 l1_1 = some r) :
    Calls Try.prog 73 #[.agg #[.slice A0_0 l0_0.length c0_0, .slice A0_1 l0_1.length c0_1], .agg #[.slice A1_0 l1_0.length c1_0, .slice A1_1 l1_1.length c1_1]] w fun e w' => e = .returned (.bool r) ∧ Below w.heap.size w w' := by
  obtain rfl := Option.some.inj h
  clear h
  have hu36 := Try.underlying36
  have hu29 := Try.underlying29
  have hu39 := Try.underlying39
  have hbound : l1_0.length ≤ 9223372036854775807 ∧ l1_1.length ≤ 9223372036854775807 := ⟨hr1_0.2.1, hr1_1.2.1⟩
  by_cases hA : 3 < l1_0.length
  · have e : sentryB l0_0 l0_1 l1_0 l1_1 = false := by simp [sentryB]; omega
    rw [e]
    have hA' : (3 : Int) < l1_0.length := by omega
    clear hr0_0 hr0_1 hr1_0 hr1_1 e hbound
    go_enter Try.func73, Try.ntmps73
    go_wp2
    go_ret
    exact ⟨rfl, below_alloc (below_alloc (Below.refl _ _) _) _⟩
  have hA' : ¬ (3 : Int) < l1_0.length := by omega
  by_cases hB : 2 < l1_1.length
  · have e : sentryB l0_0 l0_1 l1_0 l1_1 = false := by simp [sentryB]; omega
    rw [e]
    have hB' : (2 : Int) < l1_1.length := by omega
    clear hr0_0 hr0_1 hr1_0 hr1_1 e hbound
    go_enter Try.func73, Try.ntmps73
    go_wp2
    go_ret
    exact ⟨rfl, below_alloc (below_alloc (Below.refl _ _) _) _⟩
  have hB' : ¬ (2 : Int) < l1_1.length := by omega
  by_cases hC : l1_0.length + l1_1.length = 0
  · have h1 : l1_0 = [] := List.eq_nil_of_length_eq_zero (by omega)
    have h2 : l1_1 = [] := List.eq_nil_of_length_eq_zero (by omega)
    subst h1 h2
    have e : sentryB l0_0 l0_1 [] [] = false := by simp [sentryB]
    rw [e]
    clear hr0_0 hr0_1 hr1_0 hr1_1 e hbound hA hA' hB hB' hC
    go_enter Try.func73, Try.ntmps73
    go_wp2
    go_ret
    exact ⟨rfl, below_alloc (below_alloc (Below.refl _ _) _) _⟩
  have hC' : (((l1_0.length : Int) + (l1_1.length : Int)) == 0) = false := by
    have : ((l1_0.length : Int) + (l1_1.length : Int)) ≠ 0 := by omega
    simpa using this
  have HR := Lib.hid (And.intro hr0_0 (And.intro hr0_1 (And.intro hr1_0 hr1_1)))
  clear hr0_0 hr0_1 hr1_0 hr1_1
  obtain ⟨n, hn⟩ : ∃ n, n = l1_0.length := ⟨_, rfl⟩
  obtain ⟨m, hm⟩ : ∃ m, m = l1_1.length := ⟨_, rfl⟩
  have HN := Lib.hid (And.intro hn hm)
  rw [← hn] at hbound hA hA' hC hC' hc1_0 ⊢
  rw [← hm] at hbound hB hB' hC hC' hc1_1 ⊢
  clear hn hm
  have hn3 : (n : Int) ≤ 3 := by omega
  have hm2 : (m : Int) ≤ 2 := by omega
  go_enter Try.func73, Try.ntmps73
  go_wp2
  obtain ⟨W1, hW1⟩ : ∃ W1, W1 = (w.alloc (.cells #[.slice A0_0 l0_0.length c0_0, .slice A0_1 l0_1.length c0_1] 36)).alloc (.cells #[.slice A1_0 n c1_0, .slice A1_1 m c1_1] 29) := ⟨_, rfl⟩
  have hb1 : Below w.heap.size w W1 := by rw [hW1]; exact below_alloc (below_alloc (Below.refl _ _) _) _
  have hm0 : W1.cell? ⟨w.heap.size, 0, none⟩ = some (.slice A0_0 l0_0.length c0_0) := by rw [hW1]; simp
  have hm1 : W1.cell? ⟨w.heap.size, 1, none⟩ = some (.slice A0_1 l0_1.length c0_1) := by rw [hW1]; simp
  have hs0 : W1.cell? ⟨w.heap.size + 1, 0, none⟩ = some (.slice A1_0 n c1_0) := by rw [hW1]; simp
  have hs1 : W1.cell? ⟨w.heap.size + 1, 1, none⟩ = some (.slice A1_1 m c1_1) := by rw [hW1]; simp
  have hsz : W1.heap.size = w.heap.size + 2 := by rw [hW1]; simp
  rw [← hW1]
  have H1 := Lib.hid (And.intro hb1 (And.intro hm0 (And.intro hm1 (And.intro hs0 (And.intro hs1 hsz)))))
  clear hW1 hb1 hm0 hm1 hs0 hs1 hsz
  go_loopg [30] n (fun gg s30 wr => ∃ i : Nat, i ≤ n ∧ n - i ≤ gg ∧ s30 = .int .i64 i ∧ Hid (Below W1.heap.size W1 wr ∧ ∀ j, j < i → onOk l0_1 l1_0 j = true))
  case atStart => exact ⟨0, Nat.zero_le _, by omega, rfl, Lib.hid ⟨Below.refl _ _, fun j hj => absurd hj (Nat.not_lt_zero _)⟩⟩
  case round =>
    obtain ⟨i, hin, hig, rfl, X⟩ := hrel
    have hbw : Below w.heap.size w wr := below_then H1.out.1 H1.out.1.size X.out.1
    have HBW := Lib.hid hbw
    clear hbw
    by_cases hlt : i < n
    · have hltz : (i : Int) < (n : Int) := by omega
      obtain ⟨ad, e, hx0, hx1⟩ := at_T39 HR.out.2.2.1 (i : Int) (by omega) (by have := HN.out; omega)
      cases e
      simp only [Int.toNat_natCast] at hx0 hx1
      obtain ⟨x, hx⟩ : ∃ x, x = rd_T39 l1_0 (i : Int) := ⟨_, rfl⟩
      rw [← hx] at hx0 hx1
      have HX := Lib.hid hx
      clear hx
      replace hx0 := (HBW.out.cell (World.block_lt_of_cell? w _ hx0)).trans hx0
      replace hx1 := (HBW.out.cell (World.block_lt_of_cell? w _ hx1)).trans hx1
      go_wp2
      clear hx0 hx1
      obtain ⟨W2, hW2⟩ : ∃ W2, W2 = wr.alloc (.cells #[.string x.f0, .int .i64 x.f1] 39) := ⟨_, rfl⟩
      have hb2 : Below wr.heap.size wr W2 := by rw [hW2]; exact below_alloc (Below.refl _ _) _
      have hx0 : W2.cell? ⟨wr.heap.size, 0, none⟩ = some (.string x.f0) := by rw [hW2]; simp
      have hx1 : W2.cell? ⟨wr.heap.size, 1, none⟩ = some (.int .i64 x.f1) := by rw [hW2]; simp
      rw [← hW2]
      clear hW2
      have hlo : w.heap.size + 2 ≤ wr.heap.size := by have := X.out.1.size; have := H1.out.2.2.2.2.2; omega
      have hm0 : W2.cell? ⟨w.heap.size, 0, none⟩ = some (.slice A0_0 l0_0.length c0_0) := (hb2.cell (p := ⟨_, _, none⟩) (by simp only; omega)).trans ((X.out.1.cell (p := ⟨_, _, none⟩) (by simp only; have := H1.out.2.2.2.2.2; omega)).trans H1.out.2.1)
      have hm1 : W2.cell? ⟨w.heap.size, 1, none⟩ = some (.slice A0_1 l0_1.length c0_1) := (hb2.cell (p := ⟨_, _, none⟩) (by simp only; omega)).trans ((X.out.1.cell (p := ⟨_, _, none⟩) (by simp only; have := H1.out.2.2.2.2.2; omega)).trans H1.out.2.2.1)
      have hs0 : W2.cell? ⟨w.heap.size + 1, 0, none⟩ = some (.slice (some ad) n c1_0) := (hb2.cell (p := ⟨_, _, none⟩) (by simp only; omega)).trans ((X.out.1.cell (p := ⟨_, _, none⟩) (by simp only; have := H1.out.2.2.2.2.2; omega)).trans H1.out.2.2.2.1)
      have hbw2 : Below w.heap.size w W2 := below_then HBW.out HBW.out.size hb2
      have hon := fun (W : World) (hb : Below w.heap.size w W) => model_isOn.calls 2 _ c0_0 l0_0 _ c0_1 l0_1 x.f0 x.f1 _ W (Kd.C_below HR.out.1 hb) hc0_0 (Kd.C_below HR.out.2.1 hb) hc0_1 (isOn_eq l0_0 l0_1 x.f0 x.f1)
      have hin2 : i ≤ c1_0 := by omega
      have el : (l1_0.take i).length = i := by rw [List.length_take]; have := HN.out; omega
      have hhas : ∀ (W : World), Below w.heap.size w W → Calls Try.prog 77 #[.slice (some ad) i c1_0, .agg #[.string x.f0, .int .i64 x.f1]] W fun e w' => e = .returned (.bool (hasOn (l1_0.take i) x.f0 x.f1)) ∧ Below W.heap.size W w' := fun W hb => by
        have := api_On_77.calls (n + 1) (some ad) c1_0 (l1_0.take i) x.f0 x.f1 _ W (Kd.C_below (Kd.C_take HR.out.2.2.1 (show i ≤ l1_0.length by have := HN.out; omega)) hb) (by rw [el]; omega) (hasOn_eq (l1_0.take i) x.f0 x.f1 (by rw [el]; omega) (n + 1) (by rw [el]; omega))
        rw [el] at this
        exact this
      have hxo : onOk l0_1 l1_0 i = (onB l0_1 x.f0 x.f1 && !hasOn (l1_0.take i) x.f0 x.f1) := by rw [HX.out]; rfl
      have HXO := Lib.hid hxo
      have HON := Lib.hid hon
      have HHAS := Lib.hid hhas
      clear hxo hon hhas el
      cases hq : onB l0_1 x.f0 x.f1 with
      | false =>
        have hon := HON.out
        rw [hq] at hon HXO
        clear hq HON HHAS
        refine start_ (n := 12) (S := fun w' => (w'.cell? ⟨w.heap.size, 0, none⟩ = some (.slice A0_0 l0_0.length c0_0) ∧ w'.cell? ⟨w.heap.size, 1, none⟩ = some (.slice A0_1 l0_1.length c0_1) ∧ w'.cell? ⟨w.heap.size + 1, 0, none⟩ = some (.slice (some ad) n c1_0) ∧ w'.cell? ⟨wr.heap.size, 0, none⟩ = some (.string x.f0) ∧ w'.cell? ⟨wr.heap.size, 1, none⟩ = some (.int .i64 x.f1)) ∧ Below W2.heap.size W2 w') (ds := []) #[false, false, false, false, false, false, false, false, false, false, false, false] (by kernel_rfl) rfl rfl ⟨⟨hm0, hm1, hs0, hx0, hx1⟩, below_drew1 (Below.refl _ _)⟩ (fun hHeld => ?_)
        generalize W2.drew = W3 at hHeld ⊢
        refine take_ (i := 0) (N := (some 35)) (v := ?_) (a' := ?_) #[true, false, false, false, false, false, false, false, false, false, false, false] rfl rfl (by kernel_rfl) (fun _ _ _ h => h) (Or.inl ⟨by rfl, ?_⟩) hHeld ?_ ?_
        rotate_left
        · rintro w' ⟨⟨s0, s1, s2, s3, s4⟩, _⟩
          go_simp
          with_reducible rfl
        rotate_left
        · simp only [Act.put, List.setIfInBounds_toArray, List.set_cons_zero, List.set_cons_succ, i64_w, i32_w]
          rfl
        refine take_ (i := 1) (N := (some 36)) (v := ?_) (a' := ?_) #[true, true, false, false, false, false, false, false, false, false, false, false] rfl rfl (by kernel_rfl) (fun _ _ _ h => h) (Or.inl ⟨by rfl, ?_⟩) hHeld ?_ ?_
        rotate_left
        · rintro w' ⟨⟨s0, s1, s2, s3, s4⟩, _⟩
          go_simp
          with_reducible rfl
        rotate_left
        · simp only [Act.put, List.setIfInBounds_toArray, List.set_cons_zero, List.set_cons_succ, i64_w, i32_w]
          rfl
        refine one_ (i := 2) (N := (some 37)) #[true, true, true, false, false, false, false, false, false, false, false, false] rfl rfl (by kernel_rfl) (by decide) (fun K hK => ?_)
        refine goes_ Try.func76 (by kernel_rfl) rfl #[.agg #[.slice A0_0 l0_0.length c0_0, .slice A0_1 l0_1.length c0_1], .agg #[.string x.f0, .int .i64 x.f1]] (by rfl) rfl rfl (by (try simp only [List.map_toArray, List.map_cons, List.map_nil]); first | done | rfl) ?_
        with_reducible refine (hon _ (keepb hHeld.2 hbw2)).mono ?_
        rintro e w' ⟨rfl, hb'⟩
        refine ⟨_, rfl, ?_⟩
        refine hK.out _ _ ⟨⟨keepc hb' hHeld.1.1, keepc hb' hHeld.1.2.1, keepc hb' hHeld.1.2.2.1, keepc hb' hHeld.1.2.2.2.1, keepc hb' hHeld.1.2.2.2.2⟩, keepb hb' hHeld.2⟩ (fun hHeld => ?_)
        clear hK K
        refine norm_ (a' := ?_) ?_ ?_
        rotate_left
        · show Act.put _ (some 37) _ = _
          simp only [Act.put, List.setIfInBounds_toArray, List.set_cons_zero, List.set_cons_succ, i64_w, i32_w]
          rfl
        refine pure_ (i := 3) (N := (some 38)) (v := ?_) (a' := ?_) #[true, true, true, true, false, false, false, false, false, false, false, false] rfl rfl (by kernel_rfl) (fun _ _ _ h => h) (Or.inl ⟨by rfl, ?_⟩) ?_ ?_
        rotate_left
        · intro w'
          go_simp
          with_reducible rfl
        rotate_left
        · simp only [Act.put, List.setIfInBounds_toArray, List.set_cons_zero, List.set_cons_succ, i64_w, i32_w]
          rfl
        refine pure_ (i := 4) (N := (some 39)) (v := ?_) (a' := ?_) #[true, true, true, true, true, false, false, false, false, false, false, false] rfl rfl (by kernel_rfl) (fun _ _ _ h => h) (Or.inl ⟨by rfl, ?_⟩) ?_ ?_
        rotate_left
        · intro w'
          go_simp
          with_reducible rfl
        rotate_left
        · simp only [Act.put, List.setIfInBounds_toArray, List.set_cons_zero, List.set_cons_succ, i64_w, i32_w]
          rfl
        refine pure_ (i := 5) (N := (some 40)) (v := undef) (a' := ?_) #[true, true, true, true, true, true, false, false, false, false, false, false] rfl rfl (by kernel_rfl) (fun _ _ _ h => h) (Or.inr ⟨by rfl, rfl⟩) ?_ ?_
        rotate_left
        · simp only [Act.put, List.setIfInBounds_toArray, List.set_cons_zero, List.set_cons_succ, i64_w, i32_w]
          rfl
        refine pure_ (i := 6) (N := (some 41)) (v := undef) (a' := ?_) #[true, true, true, true, true, true, true, false, false, false, false, false] rfl rfl (by kernel_rfl) (fun _ _ _ h => h) (Or.inr ⟨by rfl, rfl⟩) ?_ ?_
        rotate_left
        · simp only [Act.put, List.setIfInBounds_toArray, List.set_cons_zero, List.set_cons_succ, i64_w, i32_w]
          rfl
        refine pure_ (i := 7) (N := (some 42)) (v := undef) (a' := ?_) #[true, true, true, true, true, true, true, true, false, false, false, false] rfl rfl (by kernel_rfl) (fun _ _ _ h => h) (Or.inr ⟨by rfl, rfl⟩) ?_ ?_
        rotate_left
        · simp only [Act.put, List.setIfInBounds_toArray, List.set_cons_zero, List.set_cons_succ, i64_w, i32_w]
          rfl
        refine pure_ (i := 8) (N := (some 43)) (v := undef) (a' := ?_) #[true, true, true, true, true, true, true, true, true, false, false, false] rfl rfl (by kernel_rfl) (fun _ _ _ h => h) (Or.inr ⟨by rfl, rfl⟩) ?_ ?_
        rotate_left
        · simp only [Act.put, List.setIfInBounds_toArray, List.set_cons_zero, List.set_cons_succ, i64_w, i32_w]
          rfl
        refine pure_ (i := 9) (N := (some 44)) (v := undef) (a' := ?_) #[true, true, true, true, true, true, true, true, true, true, false, false] rfl rfl (by kernel_rfl) (fun _ _ _ h => h) (Or.inr ⟨by rfl, rfl⟩) ?_ ?_
        rotate_left
        · simp only [Act.put, List.setIfInBounds_toArray, List.set_cons_zero, List.set_cons_succ, i64_w, i32_w]
          rfl
        refine pure_ (i := 10) (N := (some 45)) (v := undef) (a' := ?_) #[true, true, true, true, true, true, true, true, true, true, true, false] rfl rfl (by kernel_rfl) (fun _ _ _ h => h) (Or.inr ⟨by rfl, rfl⟩) ?_ ?_
        rotate_left
        · simp only [Act.put, List.setIfInBounds_toArray, List.set_cons_zero, List.set_cons_succ, i64_w, i32_w]
          rfl
        refine pure_ (i := 11) (N := (some 46)) (v := ?_) (a' := ?_) #[true, true, true, true, true, true, true, true, true, true, true, true] rfl rfl (by kernel_rfl) (fun _ _ _ h => h) (Or.inl ⟨by rfl, ?_⟩) ?_ ?_
        rotate_left
        · intro w'
          go_simp
          with_reducible rfl
        rotate_left
        · simp only [Act.put, List.setIfInBounds_toArray, List.set_cons_zero, List.set_cons_succ, i64_w, i32_w]
          rfl
        refine done_ (by kernel_rfl) ?_
        have hbx := keepb hHeld.2 hbw2
        have he : sentryB l0_0 l0_1 l1_0 l1_1 = false := by
          have h1 : (List.range l1_0.length).all (onOk l0_1 l1_0) = false := List.all_eq_false.2 ⟨i, List.mem_range.2 (by have := HN.out; omega), by rw [HXO.out]; simp⟩
          simp [sentryB, h1]
        have HE := Lib.hid he
        clear hHeld he
        go_wp2
        go_ret
        exact ⟨by rw [HE.out]; rfl, hbx⟩
      | true =>
        have hon := HON.out
        have hhas := HHAS.out
        rw [hq] at hon HXO
        clear hq HON HHAS
        have p0 : (0 : Int) ≤ i := by omega
        have p1 : (i : Int) ≤ n := by omega
        have p2 : (i : Int) ≤ c1_0 := by omega
        refine start_ (n := 12) (S := fun w' => (w'.cell? ⟨w.heap.size, 0, none⟩ = some (.slice A0_0 l0_0.length c0_0) ∧ w'.cell? ⟨w.heap.size, 1, none⟩ = some (.slice A0_1 l0_1.length c0_1) ∧ w'.cell? ⟨w.heap.size + 1, 0, none⟩ = some (.slice (some ad) n c1_0) ∧ w'.cell? ⟨wr.heap.size, 0, none⟩ = some (.string x.f0) ∧ w'.cell? ⟨wr.heap.size, 1, none⟩ = some (.int .i64 x.f1)) ∧ Below W2.heap.size W2 w') (ds := []) #[false, false, false, false, false, false, false, false, false, false, false, false] (by kernel_rfl) rfl rfl ⟨⟨hm0, hm1, hs0, hx0, hx1⟩, below_drew1 (Below.refl _ _)⟩ (fun hHeld => ?_)
        generalize W2.drew = W3 at hHeld ⊢
        refine take_ (i := 0) (N := (some 35)) (v := ?_) (a' := ?_) #[true, false, false, false, false, false, false, false, false, false, false, false] rfl rfl (by kernel_rfl) (fun _ _ _ h => h) (Or.inl ⟨by rfl, ?_⟩) hHeld ?_ ?_
        rotate_left
        · rintro w' ⟨⟨s0, s1, s2, s3, s4⟩, _⟩
          go_simp
          with_reducible rfl
        rotate_left
        · simp only [Act.put, List.setIfInBounds_toArray, List.set_cons_zero, List.set_cons_succ, i64_w, i32_w]
          rfl
        refine take_ (i := 1) (N := (some 36)) (v := ?_) (a' := ?_) #[true, true, false, false, false, false, false, false, false, false, false, false] rfl rfl (by kernel_rfl) (fun _ _ _ h => h) (Or.inl ⟨by rfl, ?_⟩) hHeld ?_ ?_
        rotate_left
        · rintro w' ⟨⟨s0, s1, s2, s3, s4⟩, _⟩
          go_simp
          with_reducible rfl
        rotate_left
        · simp only [Act.put, List.setIfInBounds_toArray, List.set_cons_zero, List.set_cons_succ, i64_w, i32_w]
          rfl
        refine one_ (i := 2) (N := (some 37)) #[true, true, true, false, false, false, false, false, false, false, false, false] rfl rfl (by kernel_rfl) (by decide) (fun K hK => ?_)
        refine goes_ Try.func76 (by kernel_rfl) rfl #[.agg #[.slice A0_0 l0_0.length c0_0, .slice A0_1 l0_1.length c0_1], .agg #[.string x.f0, .int .i64 x.f1]] (by rfl) rfl rfl (by (try simp only [List.map_toArray, List.map_cons, List.map_nil]); first | done | rfl) ?_
        with_reducible refine (hon _ (keepb hHeld.2 hbw2)).mono ?_
        rintro e w' ⟨rfl, hb'⟩
        refine ⟨_, rfl, ?_⟩
        refine hK.out _ _ ⟨⟨keepc hb' hHeld.1.1, keepc hb' hHeld.1.2.1, keepc hb' hHeld.1.2.2.1, keepc hb' hHeld.1.2.2.2.1, keepc hb' hHeld.1.2.2.2.2⟩, keepb hb' hHeld.2⟩ (fun hHeld => ?_)
        clear hK K
        refine norm_ (a' := ?_) ?_ ?_
        rotate_left
        · show Act.put _ (some 37) _ = _
          simp only [Act.put, List.setIfInBounds_toArray, List.set_cons_zero, List.set_cons_succ, i64_w, i32_w]
          rfl
        refine pure_ (i := 3) (N := (some 38)) (v := ?_) (a' := ?_) #[true, true, true, true, false, false, false, false, false, false, false, false] rfl rfl (by kernel_rfl) (fun _ _ _ h => h) (Or.inl ⟨by rfl, ?_⟩) ?_ ?_
        rotate_left
        · intro w'
          go_simp
          with_reducible rfl
        rotate_left
        · simp only [Act.put, List.setIfInBounds_toArray, List.set_cons_zero, List.set_cons_succ, i64_w, i32_w]
          rfl
        refine pure_ (i := 4) (N := (some 39)) (v := ?_) (a' := ?_) #[true, true, true, true, true, false, false, false, false, false, false, false] rfl rfl (by kernel_rfl) (fun _ _ _ h => h) (Or.inl ⟨by rfl, ?_⟩) ?_ ?_
        rotate_left
        · intro w'
          go_simp
          with_reducible rfl
        rotate_left
        · simp only [Act.put, List.setIfInBounds_toArray, List.set_cons_zero, List.set_cons_succ, i64_w, i32_w]
          rfl
        refine pure_ (i := 5) (N := (some 40)) (v := ?_) (a' := ?_) #[true, true, true, true, true, true, false, false, false, false, false, false] rfl rfl (by kernel_rfl) (fun _ _ _ h => h) (Or.inl ⟨by rfl, ?_⟩) ?_ ?_
        rotate_left
        · intro w'
          go_simp
          with_reducible rfl
        rotate_left
        · simp only [Act.put, List.setIfInBounds_toArray, List.set_cons_zero, List.set_cons_succ, i64_w, i32_w]
          rfl
        refine take_ (i := 6) (N := (some 41)) (v := ?_) (a' := ?_) #[true, true, true, true, true, true, true, false, false, false, false, false] rfl rfl (by kernel_rfl) (fun _ _ _ h => h) (Or.inl ⟨by rfl, ?_⟩) hHeld ?_ ?_
        rotate_left
        · rintro w' ⟨⟨s0, s1, s2, s3, s4⟩, _⟩
          go_simp
          with_reducible rfl
        rotate_left
        · simp only [Act.put, List.setIfInBounds_toArray, List.set_cons_zero, List.set_cons_succ, i64_w, i32_w]
          rfl
        refine pure_ (i := 7) (N := (some 42)) (v := ?_) (a' := ?_) #[true, true, true, true, true, true, true, true, false, false, false, false] rfl rfl (by kernel_rfl) (fun _ _ _ h => h) (Or.inl ⟨by rfl, ?_⟩) ?_ ?_
        rotate_left
        · intro w'
          go_simp
          with_reducible rfl
        rotate_left
        · simp only [Act.put, List.setIfInBounds_toArray, List.set_cons_zero, List.set_cons_succ, i64_w, i32_w]
          rfl
        refine pure_ (i := 8) (N := (some 43)) (v := ?_) (a' := ?_) #[true, true, true, true, true, true, true, true, true, false, false, false] rfl rfl (by kernel_rfl) (fun _ _ _ h => h) (Or.inl ⟨by rfl, ?_⟩) ?_ ?_
        rotate_left
        · intro w'
          go_simp
          with_reducible rfl
        rotate_left
        · simp only [Act.put, List.setIfInBounds_toArray, List.set_cons_zero, List.set_cons_succ, i64_w, i32_w]
          rfl
        refine take_ (i := 9) (N := (some 44)) (v := ?_) (a' := ?_) #[true, true, true, true, true, true, true, true, true, true, false, false] rfl rfl (by kernel_rfl) (fun _ _ _ h => h) (Or.inl ⟨by rfl, ?_⟩) hHeld ?_ ?_
        rotate_left
        · rintro w' ⟨⟨s0, s1, s2, s3, s4⟩, _⟩
          go_simp
          with_reducible rfl
        rotate_left
        · simp only [Act.put, List.setIfInBounds_toArray, List.set_cons_zero, List.set_cons_succ, i64_w, i32_w]
          rfl
        refine one_ (i := 10) (N := (some 45)) #[true, true, true, true, true, true, true, true, true, true, true, false] rfl rfl (by kernel_rfl) (by decide) (fun K hK => ?_)
        refine goes_ Try.func77 (by kernel_rfl) rfl #[.slice (some ad) i c1_0, .agg #[.string x.f0, .int .i64 x.f1]] (by rfl) rfl rfl (by (try simp only [List.map_toArray, List.map_cons, List.map_nil]); first | done | rfl) ?_
        with_reducible refine (hhas _ (keepb hHeld.2 hbw2)).mono ?_
        rintro e w' ⟨rfl, hb'⟩
        refine ⟨_, rfl, ?_⟩
        refine hK.out _ _ ⟨⟨keepc hb' hHeld.1.1, keepc hb' hHeld.1.2.1, keepc hb' hHeld.1.2.2.1, keepc hb' hHeld.1.2.2.2.1, keepc hb' hHeld.1.2.2.2.2⟩, keepb hb' hHeld.2⟩ (fun hHeld => ?_)
        clear hK K
        refine norm_ (a' := ?_) ?_ ?_
        rotate_left
        · show Act.put _ (some 45) _ = _
          simp only [Act.put, List.setIfInBounds_toArray, List.set_cons_zero, List.set_cons_succ, i64_w, i32_w]
          rfl
        refine pure_ (i := 11) (N := (some 46)) (v := ?_) (a' := ?_) #[true, true, true, true, true, true, true, true, true, true, true, true] rfl rfl (by kernel_rfl) (fun _ _ _ h => h) (Or.inl ⟨by rfl, ?_⟩) ?_ ?_
        rotate_left
        · intro w'
          go_simp
          with_reducible rfl
        rotate_left
        · simp only [Act.put, List.setIfInBounds_toArray, List.set_cons_zero, List.set_cons_succ, i64_w, i32_w]
          rfl
        refine done_ (by kernel_rfl) ?_
        have hbx := keepb hHeld.2 hbw2
        have HS := Lib.hid hHeld
        have HSB := Lib.hid hbx
        clear hHeld hbx p0 p1 p2 hhas hon
        cases hq2 : hasOn (l1_0.take i) x.f0 x.f1 with
        | true =>
          rw [hq2] at HXO
          have he : sentryB l0_0 l0_1 l1_0 l1_1 = false := by
            have h1 : (List.range l1_0.length).all (onOk l0_1 l1_0) = false := List.all_eq_false.2 ⟨i, List.mem_range.2 (by have := HN.out; omega), by rw [HXO.out]; simp⟩
            simp [sentryB, h1]
          have HE := Lib.hid he
          clear he hq2
          go_wp2
          go_ret
          exact ⟨by rw [HE.out]; rfl, HSB.out⟩
        | false =>
          rw [hq2] at HXO
          clear hq2
          go_wp2
          go_roundg (n - (i + 1))
          case measure => omega
          case rel =>
            refine ⟨i + 1, by omega, by omega, by go_num, Lib.hid ⟨?_, fun j hj => ?_⟩⟩
            · have hb3 := below_then X.out.1 X.out.1.size hb2
              exact below_then hb3 hb3.size HS.out.2
            · by_cases e : j = i
              · subst e; rw [HXO.out]; rfl
              · exact X.out.2 j (by omega)
    · have hltz : ¬ (i : Int) < (n : Int) := by omega
      obtain rfl : i = n := by omega
      have hsz := H1.out.2.2.2.2.2
      have hm0 : wr.cell? ⟨w.heap.size, 0, none⟩ = some (.slice A0_0 l0_0.length c0_0) := (X.out.1.cell (p := ⟨_, _, none⟩) (by simp only; omega)).trans H1.out.2.1
      have hm1 : wr.cell? ⟨w.heap.size, 1, none⟩ = some (.slice A0_1 l0_1.length c0_1) := (X.out.1.cell (p := ⟨_, _, none⟩) (by simp only; omega)).trans H1.out.2.2.1
      have hs1 : wr.cell? ⟨w.heap.size + 1, 1, none⟩ = some (.slice A1_1 m c1_1) := (X.out.1.cell (p := ⟨_, _, none⟩) (by simp only; omega)).trans H1.out.2.2.2.2.1
      clear hsz
      have hany := anyCond A1_1 c1_1 l1_1 wr (Kd.C_below HR.out.2.2.2 HBW.out) (by have := HN.out; omega) 79 #[.pointer (some ⟨w.heap.size, 0, none⟩)] model_isSentry.eg (fun c => !ifB l0_0 c.f0 c.f1 c.f2) (fun W x cs hx hb hK => model_isSentry.closure w.heap.size A0_0 c0_0 l0_0 A0_1 c0_1 l0_1 W (keepc hb hm0) (keepc hb hm1) (Kd.C_below (Kd.C_below HR.out.1 HBW.out) hb) hc0_0 (Kd.C_below (Kd.C_below HR.out.2.1 HBW.out) hb) hc0_1 x cs hK)
      rw [← HN.out.2] at hany
      have he : sentryB l0_0 l0_1 l1_0 l1_1 = !(l1_1.any (fun c => !ifB l0_0 c.f0 c.f1 c.f2)) := by
        have h1 : (List.range l1_0.length).all (onOk l0_1 l1_0) = true := List.all_eq_true.2 fun j hj => X.out.2 j (by have := List.mem_range.1 hj; have := HN.out; omega)
        have h2 : decide (l1_0.length ≤ 3 ∧ l1_1.length ≤ 2 ∧ l1_0.length + l1_1.length ≠ 0) = true := decide_eq_true (by have := HN.out; omega)
        unfold sentryB
        rw [h1, h2]
        rfl
      have HE := Lib.hid he
      clear he hm0 hm1
      obtain ⟨T, hT⟩ : ∃ T, T = l1_1.any (fun c => !ifB l0_0 c.f0 c.f1 c.f2) := ⟨_, rfl⟩
      rw [← hT] at hany HE
      clear hT
      go_wp2_with (go_at_call 78; refine hany.mono ?_; rintro e w' ⟨rfl, hb'⟩)
      go_ret
      exact ⟨by rw [HE.out]; rfl, keepb hb' HBW.out⟩
def sentsB (fs : List ByteArray) (l : List (S32)) (ss : List (S29)) : Bool := decide (ss.length ≤ 3) && !ss.any (fun s => !sentryB fs l s.f0 s.f1)
def model_areSentries.f (l0_0 : List ByteArray) (l0_1 : List (S32)) (l1 : List (S29)) : Option Bool := some (sentsB l0_0 l0_1 l1)
theorem model_areSentries.eg : ∀ args w, (callFunc 72 args).run Try.prog w = .ok (.enter 72 args) w := enters_of Try.func72 (by kernel_rfl) rfl
set_option maxHeartbeats 4000000 in
theorem model_areSentries.closure (b : Nat) (A0_0 : Option Addr) (c0_0 : Nat) (l0_0 : List ByteArray) (A0_1 : Option Addr) (c0_1 : Nat) (l0_1 : List (S32)) (W : World) (hm0 : W.cell? ⟨b, 0, none⟩ = some (.slice A0_0 l0_0.length c0_0)) (hm1 : W.cell? ⟨b, 1, none⟩ = some (.slice A0_1 l0_1.length c0_1))
    (hr0_0 : Kd.C Kd.string W A0_0 l0_0.length l0_0) (hc0_0 : l0_0.length ≤ c0_0) (hr0_1 : Kd.C k32 W A0_1 l0_1.length l0_1) (hc0_1 : l0_1.length ≤ c0_1) (x : S29) (cs : List Value) (hK : Kd.K k29 W x cs) :
    Calls Try.prog 72 (#[.agg cs.toArray] ++ #[.pointer (some ⟨b, 0, none⟩)]) W fun e w' => e = .returned (.bool (!sentryB l0_0 l0_1 x.f0 x.f1)) ∧ Below W.heap.size W w' := by
  obtain ⟨A0, c0, A1, c1, rfl, g0, h0, g1, h1⟩ := k29_open hK
  have hb := World.block_lt_of_cell? W _ hm0
  simp only at hb
  have hW1 := below_alloc (Below.refl W.heap.size W) (.cells #[.slice A0 x.f0.length c0, .slice A1 x.f1.length c1] 29)
  have hif := model_isSentry.calls A0_0 c0_0 l0_0 A0_1 c0_1 l0_1 A0 c0 x.f0 A1 c1 x.f1 _ _ (Kd.C_below hr0_0 hW1) hc0_0 (Kd.C_below hr0_1 hW1) hc0_1 (Kd.C_below h0 hW1) g0 (Kd.C_below h1 hW1) g1 rfl
  have HW := Lib.hid hW1
  clear hr0_0 hr0_1 hW1 hK h0 h1
  obtain ⟨T, hT⟩ : ∃ T, T = sentryB l0_0 l0_1 x.f0 x.f1 := ⟨_, rfl⟩
  rw [← hT] at hif ⊢
  clear hT
  have hu36 := Try.underlying36
  have hu29 := Try.underlying29
  go_enter Try.func72, Try.ntmps72
  go_wp2_with (go_at_call 73; refine hif.mono ?_; rintro e w' ⟨rfl, hb'⟩)
  go_ret
  exact ⟨rfl, keepb hb' HW.out⟩
set_option maxHeartbeats 4000000 in
theorem model_areSentries.calls (A0_0 : Option Addr) (c0_0 : Nat) (l0_0 : List ByteArray) (A0_1 : Option Addr) (c0_1 : Nat) (l0_1 : List (S32)) (A1 : Option Addr) (c1 : Nat) (l1 : List (S29)) (r : Bool) (w : World) (hr0_0 : Kd.C Kd.string w A0_0 l0_0.length l0_0) (hc0_0 : l0_0.length ≤ c0_0) (hr0_1 : Kd.C k32 w A0_1 l0_1.length l0_1) (hc0_1 : l0_1.length ≤ c0_1) (hr1 : Kd.C k29 w A1 l1.length l1) (hc1 : l1.length ≤ c1) (h : model_areSentries.f l0_0 l0_1 l1 = some r) :
    Calls Try.prog 58 #[.agg #[.slice A0_0 l0_0.length c0_0, .slice A0_1 l0_1.length c0_1], .slice A1 l1.length c1] w fun e w' => e = .returned (.bool r) ∧ Below w.heap.size w w' := by
  obtain rfl := Option.some.inj h
  clear h
  have hu36 := Try.underlying36
  have W1 := below_alloc (Below.refl w.heap.size w) (.cells #[.slice A0_0 l0_0.length c0_0, .slice A0_1 l0_1.length c0_1] 36)
  by_cases hA : 3 < l1.length
  · have e : sentsB l0_0 l0_1 l1 = false := by simp [sentsB]; omega
    rw [e]
    have hA' : (3 : Int) < l1.length := by omega
    have H := Lib.hid W1
    clear hr0_0 hr0_1 hr1 e W1
    go_enter Try.func58, Try.ntmps58
    go_wp2
    go_ret
    exact ⟨rfl, H.out⟩
  have hA' : ¬ (3 : Int) < l1.length := by omega
  have hm0 : (w.alloc (.cells #[.slice A0_0 l0_0.length c0_0, .slice A0_1 l0_1.length c0_1] 36)).cell? ⟨w.heap.size, 0, none⟩ = some (.slice A0_0 l0_0.length c0_0) := by simp
  have hm1 : (w.alloc (.cells #[.slice A0_0 l0_0.length c0_0, .slice A0_1 l0_1.length c0_1] 36)).cell? ⟨w.heap.size, 1, none⟩ = some (.slice A0_1 l0_1.length c0_1) := by simp
  have hany := anySentry A1 c1 l1 _ (Kd.C_below hr1 W1) hc1 72 #[.pointer (some ⟨w.heap.size, 0, none⟩)] model_areSentries.eg (fun s => !sentryB l0_0 l0_1 s.f0 s.f1) (fun W x cs hx hb hK => model_areSentries.closure w.heap.size A0_0 c0_0 l0_0 A0_1 c0_1 l0_1 W (keepc hb hm0) (keepc hb hm1) (Kd.C_below (Kd.C_below hr0_0 W1) hb) hc0_0 (Kd.C_below (Kd.C_below hr0_1 W1) hb) hc0_1 x cs hK)
  have he : sentsB l0_0 l0_1 l1 = !(l1.any (fun s => !sentryB l0_0 l0_1 s.f0 s.f1)) := by
    unfold sentsB
    rw [decide_eq_true (by omega), Bool.true_and]
  rw [he]
  have H := Lib.hid W1
  clear hr0_0 hr0_1 hr1 he W1 hm0 hm1
  obtain ⟨T, hT⟩ : ∃ T, T = l1.any (fun s => !sentryB l0_0 l0_1 s.f0 s.f1) := ⟨_, rfl⟩
  rw [← hT] at hany ⊢
  clear hT
  go_enter Try.func58, Try.ntmps58
  go_wp2_with (go_at_call 71; refine hany.mono ?_; rintro e w' ⟨rfl, hb'⟩)
  go_ret
  exact ⟨rfl, keepb hb' H.out⟩

end Go.Proofs.Ytchellnfenekaaa.Pm
