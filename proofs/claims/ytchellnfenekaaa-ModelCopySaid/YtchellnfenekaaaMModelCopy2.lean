/- Walks and plain laws on the way to the law ModelCopy: several texts of this workplace and of the kit's printer, merged; what is not used is struck, by a program. No condition. -/
import Derived.Deep.RegionHeld3
import Derived.Lib.Hide
import Derived.Outline
import Derived.Test.YtchellnfenekaaaMModelCopy1
import Derived.Test.YtchellnfenekaaaMModelCopy0
section
namespace Go.Proofs.Ytchellnfenekaaa.Pm
open Go.RowKit Go.Proofs.YtchellnfenekaaaW.PrintWords Go.Proofs.YtchellnfenekaaaW.PrintLast Go.Proofs.YtchellnfenekaaaW.PrintMore
attribute [local go_sem] max2_int min2_int max_two min_two max_three min_three max_four min_four   -- for this text's walks alone
set_option linter.unusedVariables false
set_option linter.unusedSimpArgs false
def onOk (l : List (S32)) (on : List (S39)) (i : Nat) : Bool := onB l (rd_T39 on i).f0 (rd_T39 on i).f1 && !hasOn (on.take i) (rd_T39 on i).f0 (rd_T39 on i).f1
def ifsOk (fs : List ByteArray) (l : List (S25)) : Bool := !l.any (fun c => !ifB fs c.f0 c.f1 c.f2)
def sentryB (fs : List ByteArray) (l : List (S32)) (on : List (S39)) (ifs : List (S25)) : Bool :=
  decide (on.length ≤ 3 ∧ ifs.length ≤ 2 ∧ on.length + ifs.length ≠ 0) && ((List.range on.length).all (onOk l on) && ifsOk fs ifs)
def model_isSentry.f (l0_0 : List ByteArray) (l0_1 : List (S32)) (l1_0 : List (S39)) (l1_1 : List (S25)) : Option Bool := some (sentryB l0_0 l0_1 l1_0 l1_1)
theorem keepc {w1 w' : World} {a : Addr} {v : Value} (hb : Below w1.heap.size w1 w') (hc : w1.cell? a = some v) : w'.cell? a = some v := (hb.cell (World.block_lt_of_cell? _ _ hc)).trans hc
theorem keepb {w w1 w' : World} (hb : Below w1.heap.size w1 w') (hB : Below w.heap.size w w1) : Below w.heap.size w w' := below_then hB hB.size hb
theorem model_isSentry.eg : ∀ args w, (callFunc 79 args).run Try.prog w = .ok (.enter 79 args) w := enters_of Try.func79 (by kernel_rfl) rfl
set_option maxHeartbeats 4000000 in
theorem model_isSentry.closure (b : Nat) (A0_0 : Option Addr) (c0_0 : Nat) (l0_0 : List ByteArray) (A0_1 : Option Addr) (c0_1 : Nat) (l0_1 : List (S32)) (W : World) (hm0 : W.cell? ⟨b, 0, none⟩ = some (.slice A0_0 l0_0.length c0_0)) (hm1 : W.cell? ⟨b, 1, none⟩ = some (.slice A0_1 l0_1.length c0_1))
    (hr0_0 : Kd.C Kd.string W A0_0 l0_0.length l0_0) (hc0_0 : l0_0.length ≤ c0_0) (hr0_1 : Kd.C k32 W A0_1 l0_1.length l0_1) (hc0_1 : l0_1.length ≤ c0_1) (x : S25) (cs : List Value) (hK : Kd.K k25 W x cs) :
    Calls Try.prog 79 (#[.agg cs.toArray] ++ #[.pointer (some ⟨b, 0, none⟩)]) W fun e w' => e = .returned (.bool (!ifB l0_0 x.f0 x.f1 x.f2)) ∧ Below W.heap.size W w' := by
  obtain rfl := k25_open hK
  have hb := World.block_lt_of_cell? W _ hm0
  simp only at hb
  have hW1 := below_alloc (Below.refl W.heap.size W) (.cells #[.string x.f0, .string x.f1, .int .i64 x.f2] 25)
  have hif := model_isIf.calls (l0_0.length + 7) A0_0 c0_0 l0_0 A0_1 c0_1 l0_1 x.f0 x.f1 x.f2 _ _ (Kd.C_below hr0_0 hW1) hc0_0 (Kd.C_below hr0_1 hW1) hc0_1 (isIf_eq l0_0 l0_1 x.f0 x.f1 x.f2 hr0_0.2.1 (l0_0.length + 7) (by omega) (by omega))
  have HW := Lib.hid hW1
  clear hr0_0 hr0_1 hW1 hK
  obtain ⟨T, hT⟩ : ∃ T, T = ifB l0_0 x.f0 x.f1 x.f2 := ⟨_, rfl⟩
  rw [← hT] at hif ⊢
  clear hT
  have hu36 := Try.underlying36
  have hu25 := Try.underlying25
  go_enter Try.func79, Try.ntmps79
  go_wp2_with (go_at_call 80; refine hif.mono ?_; rintro e w' ⟨rfl, hb'⟩)
  go_ret
  exact ⟨rfl, keepb hb' HW.out⟩
set_option maxHeartbeats 8000000 in
set_option maxRecDepth 100000 in
theorem model_isSentry.calls (A0_0 : Option Addr) (c0_0 : Nat) (l0_0 : List ByteArray) (A0_1 : Option Addr) (c0_1 : Nat) (l0_1 : List (S32)) (A1_0 : Option Addr) (c1_0 : Nat) (l1_0 : List (S39)) (A1_1 : Option Addr) (c1_1 : Nat) (l1_1 : List (S25)) (r : Bool) (w : World) (hr0_0 : Kd.C Kd.string w A0_0 l0_0.length l0_0) (hc0_0 : l0_0.length ≤ c0_0) (hr0_1 : Kd.C k32 w A0_1 l0_1.length l0_1) (hc0_1 : l0_1.length ≤ c0_1) (hr1_0 : Kd.C k39 w A1_0 l1_0.length l1_0) (hc1_0 : l1_0.length ≤ c1_0) (hr1_1 : Kd.C k25 w A1_1 l1_1.length l1_1) (hc1_1 : l1_1.length ≤ c1_1) (h : model_isSentry.f l0_0 l0_1 l1_0 l1_1 = some r) :
    Calls Try.prog 73 #[.agg #[.slice A0_0 l0_0.length c0_0, .slice A0_1 l0_1.length c0_1], .agg #[.slice A1_0 l1_0.length c1_0, .slice A1_1 l1_1.length c1_1]] w fun e w' => e = .returned (.bool r) ∧ Below w.heap.size w w' := by
  obtain rfl := Option.some.inj h
  clear h
  have hu36 := Try.underlying36
  have hu29 := Try.underlying29
  have hu39 := Try.underlying39
  have hbound : l1_0.length ≤ 9223372036854775807 ∧ l1_1.length ≤ 9223372036854775807 := ⟨hr1_0.2.1, hr1_1.2.1⟩
  by_cases hA : 3 < l1_0.length
  · have e : sentryB l0_0 l0_1 l1_0 l1_1 = false := by simp [sentryB]; omega
    rw [e]
    have hA' : (3 : Int) < l1_0.length := by omega
    clear hr0_0 hr0_1 hr1_0 hr1_1 e hbound
    go_enter Try.func73, Try.ntmps73
    go_wp2
    go_ret
    exact ⟨rfl, below_alloc (below_alloc (Below.refl _ _) _) _⟩
  have hA' : ¬ (3 : Int) < l1_0.length := by omega
  by_cases hB : 2 < l1_1.length
  · have e : sentryB l0_0 l0_1 l1_0 l1_1 = false := by simp [sentryB]; omega
    rw [e]
    have hB' : (2 : Int) < l1_1.length := by omega
    clear hr0_0 hr0_1 hr1_0 hr1_1 e hbound
    go_enter Try.func73, Try.ntmps73
    go_wp2
    go_ret
    exact ⟨rfl, below_alloc (below_alloc (Below.refl _ _) _) _⟩
  have hB' : ¬ (2 : Int) < l1_1.length := by omega
  by_cases hC : l1_0.length + l1_1.length = 0
  · have h1 : l1_0 = [] := List.eq_nil_of_length_eq_zero (by omega)
    have h2 : l1_1 = [] := List.eq_nil_of_length_eq_zero (by omega)
    subst h1 h2
    have e : sentryB l0_0 l0_1 [] [] = false := by simp [sentryB]
    rw [e]
    clear hr0_0 hr0_1 hr1_0 hr1_1 e hbound hA hA' hB hB' hC
    go_enter Try.func73, Try.ntmps73
    go_wp2
    go_ret
    exact ⟨rfl, below_alloc (below_alloc (Below.refl _ _) _) _⟩
  have hC' : (((l1_0.length : Int) + (l1_1.length : Int)) == 0) = false := by
    have : ((l1_0.length : Int) + (l1_1.length : Int)) ≠ 0 := by omega
    simpa using this
  have HR := Lib.hid (And.intro hr0_0 (And.intro hr0_1 (And.intro hr1_0 hr1_1)))
  clear hr0_0 hr0_1 hr1_0 hr1_1
  obtain ⟨n, hn⟩ : ∃ n, n = l1_0.length := ⟨_, rfl⟩
  obtain ⟨m, hm⟩ : ∃ m, m = l1_1.length := ⟨_, rfl⟩
  have HN := Lib.hid (And.intro hn hm)
  rw [← hn] at hbound hA hA' hC hC' hc1_0 ⊢
  rw [← hm] at hbound hB hB' hC hC' hc1_1 ⊢
  clear hn hm
  have hn3 : (n : Int) ≤ 3 := by omega
  have hm2 : (m : Int) ≤ 2 := by omega
  go_enter Try.func73, Try.ntmps73
  go_wp2
  obtain ⟨W1, hW1⟩ : ∃ W1, W1 = (w.alloc (.cells #[.slice A0_0 l0_0.length c0_0, .slice A0_1 l0_1.length c0_1] 36)).alloc (.cells #[.slice A1_0 n c1_0, .slice A1_1 m c1_1] 29) := ⟨_, rfl⟩
  have hb1 : Below w.heap.size w W1 := by rw [hW1]; exact below_alloc (below_alloc (Below.refl _ _) _) _
  have hm0 : W1.cell? ⟨w.heap.size, 0, none⟩ = some (.slice A0_0 l0_0.length c0_0) := by rw [hW1]; simp
  have hm1 : W1.cell? ⟨w.heap.size, 1, none⟩ = some (.slice A0_1 l0_1.length c0_1) := by rw [hW1]; simp
  have hs0 : W1.cell? ⟨w.heap.size + 1, 0, none⟩ = some (.slice A1_0 n c1_0) := by rw [hW1]; simp
  have hs1 : W1.cell? ⟨w.heap.size + 1, 1, none⟩ = some (.slice A1_1 m c1_1) := by rw [hW1]; simp
  have hsz : W1.heap.size = w.heap.size + 2 := by rw [hW1]; simp
  rw [← hW1]
  have H1 := Lib.hid (And.intro hb1 (And.intro hm0 (And.intro hm1 (And.intro hs0 (And.intro hs1 hsz)))))
  clear hW1 hb1 hm0 hm1 hs0 hs1 hsz
  go_loopg [30] n (fun gg s30 wr => ∃ i : Nat, i ≤ n ∧ n - i ≤ gg ∧ s30 = .int .i64 i ∧ Hid (Below W1.heap.size W1 wr ∧ ∀ j, j < i → onOk l0_1 l1_0 j = true))
  case atStart => exact ⟨0, Nat.zero_le _, by omega, rfl, Lib.hid ⟨Below.refl _ _, fun j hj => absurd hj (Nat.not_lt_zero _)⟩⟩
  case round =>
    obtain ⟨i, hin, hig, rfl, X⟩ := hrel
    have hbw : Below w.heap.size w wr := below_then H1.out.1 H1.out.1.size X.out.1
    have HBW := Lib.hid hbw
    clear hbw
    by_cases hlt : i < n
    · have hltz : (i : Int) < (n : Int) := by omega
      obtain ⟨ad, e, hx0, hx1⟩ := at_T39 HR.out.2.2.1 (i : Int) (by omega) (by have := HN.out; omega)
      cases e
      simp only [Int.toNat_natCast] at hx0 hx1
      obtain ⟨x, hx⟩ : ∃ x, x = rd_T39 l1_0 (i : Int) := ⟨_, rfl⟩
      rw [← hx] at hx0 hx1
      have HX := Lib.hid hx
      clear hx
      replace hx0 := (HBW.out.cell (World.block_lt_of_cell? w _ hx0)).trans hx0
      replace hx1 := (HBW.out.cell (World.block_lt_of_cell? w _ hx1)).trans hx1
      go_wp2
      clear hx0 hx1
      obtain ⟨W2, hW2⟩ : ∃ W2, W2 = wr.alloc (.cells #[.string x.f0, .int .i64 x.f1] 39) := ⟨_, rfl⟩
      have hb2 : Below wr.heap.size wr W2 := by rw [hW2]; exact below_alloc (Below.refl _ _) _
      have hx0 : W2.cell? ⟨wr.heap.size, 0, none⟩ = some (.string x.f0) := by rw [hW2]; simp
      have hx1 : W2.cell? ⟨wr.heap.size, 1, none⟩ = some (.int .i64 x.f1) := by rw [hW2]; simp
      rw [← hW2]
      clear hW2
      have hlo : w.heap.size + 2 ≤ wr.heap.size := by have := X.out.1.size; have := H1.out.2.2.2.2.2; omega
      have hm0 : W2.cell? ⟨w.heap.size, 0, none⟩ = some (.slice A0_0 l0_0.length c0_0) := (hb2.cell (p := ⟨_, _, none⟩) (by simp only; omega)).trans ((X.out.1.cell (p := ⟨_, _, none⟩) (by simp only; have := H1.out.2.2.2.2.2; omega)).trans H1.out.2.1)
      have hm1 : W2.cell? ⟨w.heap.size, 1, none⟩ = some (.slice A0_1 l0_1.length c0_1) := (hb2.cell (p := ⟨_, _, none⟩) (by simp only; omega)).trans ((X.out.1.cell (p := ⟨_, _, none⟩) (by simp only; have := H1.out.2.2.2.2.2; omega)).trans H1.out.2.2.1)
      have hs0 : W2.cell? ⟨w.heap.size + 1, 0, none⟩ = some (.slice (some ad) n c1_0) := (hb2.cell (p := ⟨_, _, none⟩) (by simp only; omega)).trans ((X.out.1.cell (p := ⟨_, _, none⟩) (by simp only; have := H1.out.2.2.2.2.2; omega)).trans H1.out.2.2.2.1)
      have hbw2 : Below w.heap.size w W2 := below_then HBW.out HBW.out.size hb2
      have hon := fun (W : World) (hb : Below w.heap.size w W) => model_isOn.calls 2 _ c0_0 l0_0 _ c0_1 l0_1 x.f0 x.f1 _ W (Kd.C_below HR.out.1 hb) hc0_0 (Kd.C_below HR.out.2.1 hb) hc0_1 (isOn_eq l0_0 l0_1 x.f0 x.f1)
      have hin2 : i ≤ c1_0 := by omega
      have el : (l1_0.take i).length = i := by rw [List.length_take]; have := HN.out; omega
      have hhas : ∀ (W : World), Below w.heap.size w W → Calls Try.prog 77 #[.slice (some ad) i c1_0, .agg #[.string x.f0, .int .i64 x.f1]] W fun e w' => e = .returned (.bool (hasOn (l1_0.take i) x.f0 x.f1)) ∧ Below W.heap.size W w' := fun W hb => by
        have := api_On_77.calls (n + 1) (some ad) c1_0 (l1_0.take i) x.f0 x.f1 _ W (Kd.C_below (Kd.C_take HR.out.2.2.1 (show i ≤ l1_0.length by have := HN.out; omega)) hb) (by rw [el]; omega) (hasOn_eq (l1_0.take i) x.f0 x.f1 (by rw [el]; omega) (n + 1) (by rw [el]; omega))
        rw [el] at this
        exact this
      have hxo : onOk l0_1 l1_0 i = (onB l0_1 x.f0 x.f1 && !hasOn (l1_0.take i) x.f0 x.f1) := by rw [HX.out]; rfl
      have HXO := Lib.hid hxo
      have HON := Lib.hid hon
      have HHAS := Lib.hid hhas
      clear hxo hon hhas el
      cases hq : onB l0_1 x.f0 x.f1 with
      | false =>
        have hon := HON.out
        rw [hq] at hon HXO
        clear hq HON HHAS
        refine start_ (n := 12) (S := fun w' => (w'.cell? ⟨w.heap.size, 0, none⟩ = some (.slice A0_0 l0_0.length c0_0) ∧ w'.cell? ⟨w.heap.size, 1, none⟩ = some (.slice A0_1 l0_1.length c0_1) ∧ w'.cell? ⟨w.heap.size + 1, 0, none⟩ = some (.slice (some ad) n c1_0) ∧ w'.cell? ⟨wr.heap.size, 0, none⟩ = some (.string x.f0) ∧ w'.cell? ⟨wr.heap.size, 1, none⟩ = some (.int .i64 x.f1)) ∧ Below W2.heap.size W2 w') (ds := []) #[false, false, false, false, false, false, false, false, false, false, false, false] (by kernel_rfl) rfl rfl ⟨⟨hm0, hm1, hs0, hx0, hx1⟩, below_drew1 (Below.refl _ _)⟩ (fun hHeld => ?_)
        generalize W2.drew = W3 at hHeld ⊢
        refine take_ (i := 0) (N := (some 35)) (v := ?_) (a' := ?_) #[true, false, false, false, false, false, false, false, false, false, false, false] rfl rfl (by kernel_rfl) (fun _ _ _ h => h) (Or.inl ⟨by rfl, ?_⟩) hHeld ?_ ?_
        rotate_left
        · rintro w' ⟨⟨s0, s1, s2, s3, s4⟩, _⟩
          go_simp
          with_reducible rfl
        rotate_left
        · simp only [Act.put, List.setIfInBounds_toArray, List.set_cons_zero, List.set_cons_succ, i64_w, i32_w]
          rfl
        refine take_ (i := 1) (N := (some 36)) (v := ?_) (a' := ?_) #[true, true, false, false, false, false, false, false, false, false, false, false] rfl rfl (by kernel_rfl) (fun _ _ _ h => h) (Or.inl ⟨by rfl, ?_⟩) hHeld ?_ ?_
        rotate_left
        · rintro w' ⟨⟨s0, s1, s2, s3, s4⟩, _⟩
          go_simp
          with_reducible rfl
        rotate_left
        · simp only [Act.put, List.setIfInBounds_toArray, List.set_cons_zero, List.set_cons_succ, i64_w, i32_w]
          rfl
        refine one_ (i := 2) (N := (some 37)) #[true, true, true, false, false, false, false, false, false, false, false, false] rfl rfl (by kernel_rfl) (by decide) (fun K hK => ?_)
        refine goes_ Try.func76 (by kernel_rfl) rfl #[.agg #[.slice A0_0 l0_0.length c0_0, .slice A0_1 l0_1.length c0_1], .agg #[.string x.f0, .int .i64 x.f1]] (by rfl) rfl rfl (by (try simp only [List.map_toArray, List.map_cons, List.map_nil]); first | done | rfl) ?_
        with_reducible refine (hon _ (keepb hHeld.2 hbw2)).mono ?_
        rintro e w' ⟨rfl, hb'⟩
        refine ⟨_, rfl, ?_⟩
        refine hK.out _ _ ⟨⟨keepc hb' hHeld.1.1, keepc hb' hHeld.1.2.1, keepc hb' hHeld.1.2.2.1, keepc hb' hHeld.1.2.2.2.1, keepc hb' hHeld.1.2.2.2.2⟩, keepb hb' hHeld.2⟩ (fun hHeld => ?_)
        clear hK K
        refine norm_ (a' := ?_) ?_ ?_
        rotate_left
        · show Act.put _ (some 37) _ = _
          simp only [Act.put, List.setIfInBounds_toArray, List.set_cons_zero, List.set_cons_succ, i64_w, i32_w]
          rfl
        refine pure_ (i := 3) (N := (some 38)) (v := ?_) (a' := ?_) #[true, true, true, true, false, false, false, false, false, false, false, false] rfl rfl (by kernel_rfl) (fun _ _ _ h => h) (Or.inl ⟨by rfl, ?_⟩) ?_ ?_
        rotate_left
        · intro w'
          go_simp
          with_reducible rfl
        rotate_left
        · simp only [Act.put, List.setIfInBounds_toArray, List.set_cons_zero, List.set_cons_succ, i64_w, i32_w]
          rfl
        refine pure_ (i := 4) (N := (some 39)) (v := ?_) (a' := ?_) #[true, true, true, true, true, false, false, false, false, false, false, false] rfl rfl (by kernel_rfl) (fun _ _ _ h => h) (Or.inl ⟨by rfl, ?_⟩) ?_ ?_
        rotate_left
        · intro w'
          go_simp
          with_reducible rfl
        rotate_left
        · simp only [Act.put, List.setIfInBounds_toArray, List.set_cons_zero, List.set_cons_succ, i64_w, i32_w]
          rfl
        refine pure_ (i := 5) (N := (some 40)) (v := undef) (a' := ?_) #[true, true, true, true, true, true, false, false, false, false, false, false] rfl rfl (by kernel_rfl) (fun _ _ _ h => h) (Or.inr ⟨by rfl, rfl⟩) ?_ ?_
        rotate_left
        · simp only [Act.put, List.setIfInBounds_toArray, List.set_cons_zero, List.set_cons_succ, i64_w, i32_w]
          rfl
        refine pure_ (i := 6) (N := (some 41)) (v := undef) (a' := ?_) #[true, true, true, true, true, true, true, false, false, false, false, false] rfl rfl (by kernel_rfl) (fun _ _ _ h => h) (Or.inr ⟨by rfl, rfl⟩) ?_ ?_
        rotate_left
        · simp only [Act.put, List.setIfInBounds_toArray, List.set_cons_zero, List.set_cons_succ, i64_w, i32_w]
          rfl
        refine pure_ (i := 7) (N := (some 42)) (v := undef) (a' := ?_) #[true, true, true, true, true, true, true, true, false, false, false, false] rfl rfl (by kernel_rfl) (fun _ _ _ h => h) (Or.inr ⟨by rfl, rfl⟩) ?_ ?_
        rotate_left
        · simp only [Act.put, List.setIfInBounds_toArray, List.set_cons_zero, List.set_cons_succ, i64_w, i32_w]
          rfl
        refine pure_ (i := 8) (N := (some 43)) (v := undef) (a' := ?_) #[true, true, true, true, true, true, true, true, true, false, false, false] rfl rfl (by kernel_rfl) (fun _ _ _ h => h) (Or.inr ⟨by rfl, rfl⟩) ?_ ?_
        rotate_left
        · simp only [Act.put, List.setIfInBounds_toArray, List.set_cons_zero, List.set_cons_succ, i64_w, i32_w]
          rfl
        refine pure_ (i := 9) (N := (some 44)) (v := undef) (a' := ?_) #[true, true, true, true, true, true, true, true, true, true, false, false] rfl rfl (by kernel_rfl) (fun _ _ _ h => h) (Or.inr ⟨by rfl, rfl⟩) ?_ ?_
        rotate_left
        · simp only [Act.put, List.setIfInBounds_toArray, List.set_cons_zero, List.set_cons_succ, i64_w, i32_w]
          rfl
        refine pure_ (i := 10) (N := (some 45)) (v := undef) (a' := ?_) #[true, true, true, true, true, true, true, true, true, true, true, false] rfl rfl (by kernel_rfl) (fun _ _ _ h => h) (Or.inr ⟨by rfl, rfl⟩) ?_ ?_
        rotate_left
        · simp only [Act.put, List.setIfInBounds_toArray, List.set_cons_zero, List.set_cons_succ, i64_w, i32_w]
          rfl
        refine pure_ (i := 11) (N := (some 46)) (v := ?_) (a' := ?_) #[true, true, true, true, true, true, true, true, true, true, true, true] rfl rfl (by kernel_rfl) (fun _ _ _ h => h) (Or.inl ⟨by rfl, ?_⟩) ?_ ?_
        rotate_left
        · intro w'
          go_simp
          with_reducible rfl
        rotate_left
        · simp only [Act.put, List.setIfInBounds_toArray, List.set_cons_zero, List.set_cons_succ, i64_w, i32_w]
          rfl
        refine done_ (by kernel_rfl) ?_
        have hbx := keepb hHeld.2 hbw2
        have he : sentryB l0_0 l0_1 l1_0 l1_1 = false := by
          have h1 : (List.range l1_0.length).all (onOk l0_1 l1_0) = false := List.all_eq_false.2 ⟨i, List.mem_range.2 (by have := HN.out; omega), by rw [HXO.out]; simp⟩
          simp [sentryB, h1]
        have HE := Lib.hid he
        clear hHeld he
        go_wp2
        go_ret
        exact ⟨by rw [HE.out]; rfl, hbx⟩
      | true =>
        have hon := HON.out
        have hhas := HHAS.out
        rw [hq] at hon HXO
        clear hq HON HHAS
        have p0 : (0 : Int) ≤ i := by omega
        have p1 : (i : Int) ≤ n := by omega
        have p2 : (i : Int) ≤ c1_0 := by omega
        refine start_ (n := 12) (S := fun w' => (w'.cell? ⟨w.heap.size, 0, none⟩ = some (.slice A0_0 l0_0.length c0_0) ∧ w'.cell? ⟨w.heap.size, 1, none⟩ = some (.slice A0_1 l0_1.length c0_1) ∧ w'.cell? ⟨w.heap.size + 1, 0, none⟩ = some (.slice (some ad) n c1_0) ∧ w'.cell? ⟨wr.heap.size, 0, none⟩ = some (.string x.f0) ∧ w'.cell? ⟨wr.heap.size, 1, none⟩ = some (.int .i64 x.f1)) ∧ Below W2.heap.size W2 w') (ds := []) #[false, false, false, false, false, false, false, false, false, false, false, false] (by kernel_rfl) rfl rfl ⟨⟨hm0, hm1, hs0, hx0, hx1⟩, below_drew1 (Below.refl _ _)⟩ (fun hHeld => ?_)
        generalize W2.drew = W3 at hHeld ⊢
        refine take_ (i := 0) (N := (some 35)) (v := ?_) (a' := ?_) #[true, false, false, false, false, false, false, false, false, false, false, false] rfl rfl (by kernel_rfl) (fun _ _ _ h => h) (Or.inl ⟨by rfl, ?_⟩) hHeld ?_ ?_
        rotate_left
        · rintro w' ⟨⟨s0, s1, s2, s3, s4⟩, _⟩
          go_simp
          with_reducible rfl
        rotate_left
        · simp only [Act.put, List.setIfInBounds_toArray, List.set_cons_zero, List.set_cons_succ, i64_w, i32_w]
          rfl
        refine take_ (i := 1) (N := (some 36)) (v := ?_) (a' := ?_) #[true, true, false, false, false, false, false, false, false, false, false, false] rfl rfl (by kernel_rfl) (fun _ _ _ h => h) (Or.inl ⟨by rfl, ?_⟩) hHeld ?_ ?_
        rotate_left
        · rintro w' ⟨⟨s0, s1, s2, s3, s4⟩, _⟩
          go_simp
          with_reducible rfl
        rotate_left
        · simp only [Act.put, List.setIfInBounds_toArray, List.set_cons_zero, List.set_cons_succ, i64_w, i32_w]
          rfl
        refine one_ (i := 2) (N := (some 37)) #[true, true, true, false, false, false, false, false, false, false, false, false] rfl rfl (by kernel_rfl) (by decide) (fun K hK => ?_)
        refine goes_ Try.func76 (by kernel_rfl) rfl #[.agg #[.slice A0_0 l0_0.length c0_0, .slice A0_1 l0_1.length c0_1], .agg #[.string x.f0, .int .i64 x.f1]] (by rfl) rfl rfl (by (try simp only [List.map_toArray, List.map_cons, List.map_nil]); first | done | rfl) ?_
        with_reducible refine (hon _ (keepb hHeld.2 hbw2)).mono ?_
        rintro e w' ⟨rfl, hb'⟩
        refine ⟨_, rfl, ?_⟩
        refine hK.out _ _ ⟨⟨keepc hb' hHeld.1.1, keepc hb' hHeld.1.2.1, keepc hb' hHeld.1.2.2.1, keepc hb' hHeld.1.2.2.2.1, keepc hb' hHeld.1.2.2.2.2⟩, keepb hb' hHeld.2⟩ (fun hHeld => ?_)
        clear hK K
        refine norm_ (a' := ?_) ?_ ?_
        rotate_left
        · show Act.put _ (some 37) _ = _
          simp only [Act.put, List.setIfInBounds_toArray, List.set_cons_zero, List.set_cons_succ, i64_w, i32_w]
          rfl
        refine pure_ (i := 3) (N := (some 38)) (v := ?_) (a' := ?_) #[true, true, true, true, false, false, false, false, false, false, false, false] rfl rfl (by kernel_rfl) (fun _ _ _ h => h) (Or.inl ⟨by rfl, ?_⟩) ?_ ?_
        rotate_left
        · intro w'
          go_simp
          with_reducible rfl
        rotate_left
        · simp only [Act.put, List.setIfInBounds_toArray, List.set_cons_zero, List.set_cons_succ, i64_w, i32_w]
          rfl
        refine pure_ (i := 4) (N := (some 39)) (v := ?_) (a' := ?_) #[true, true, true, true, true, false, false, false, false, false, false, false] rfl rfl (by kernel_rfl) (fun _ _ _ h => h) (Or.inl ⟨by rfl, ?_⟩) ?_ ?_
        rotate_left
        · intro w'
          go_simp
          with_reducible rfl
        rotate_left
        · simp only [Act.put, List.setIfInBounds_toArray, List.set_cons_zero, List.set_cons_succ, i64_w, i32_w]
          rfl
        refine pure_ (i := 5) (N := (some 40)) (v := ?_) (a' := ?_) #[true, true, true, true, true, true, false, false, false, false, false, false] rfl rfl (by kernel_rfl) (fun _ _ _ h => h) (Or.inl ⟨by rfl, ?_⟩) ?_ ?_
        rotate_left
        · intro w'
          go_simp
          with_reducible rfl
        rotate_left
        · simp only [Act.put, List.setIfInBounds_toArray, List.set_cons_zero, List.set_cons_succ, i64_w, i32_w]
          rfl
        refine take_ (i := 6) (N := (some 41)) (v := ?_) (a' := ?_) #[true, true, true, true, true, true, true, false, false, false, false, false] rfl rfl (by kernel_rfl) (fun _ _ _ h => h) (Or.inl ⟨by rfl, ?_⟩) hHeld ?_ ?_
        rotate_left
        · rintro w' ⟨⟨s0, s1, s2, s3, s4⟩, _⟩
          go_simp
          with_reducible rfl
        rotate_left
        · simp only [Act.put, List.setIfInBounds_toArray, List.set_cons_zero, List.set_cons_succ, i64_w, i32_w]
          rfl
        refine pure_ (i := 7) (N := (some 42)) (v := ?_) (a' := ?_) #[true, true, true, true, true, true, true, true, false, false, false, false] rfl rfl (by kernel_rfl) (fun _ _ _ h => h) (Or.inl ⟨by rfl, ?_⟩) ?_ ?_
        rotate_left
        · intro w'
          go_simp
          with_reducible rfl
        rotate_left
        · simp only [Act.put, List.setIfInBounds_toArray, List.set_cons_zero, List.set_cons_succ, i64_w, i32_w]
          rfl
        refine pure_ (i := 8) (N := (some 43)) (v := ?_) (a' := ?_) #[true, true, true, true, true, true, true, true, true, false, false, false] rfl rfl (by kernel_rfl) (fun _ _ _ h => h) (Or.inl ⟨by rfl, ?_⟩) ?_ ?_
        rotate_left
        · intro w'
          go_simp
          with_reducible rfl
        rotate_left
        · simp only [Act.put, List.setIfInBounds_toArray, List.set_cons_zero, List.set_cons_succ, i64_w, i32_w]
          rfl
        refine take_ (i := 9) (N := (some 44)) (v := ?_) (a' := ?_) #[true, true, true, true, true, true, true, true, true, true, false, false] rfl rfl (by kernel_rfl) (fun _ _ _ h => h) (Or.inl ⟨by rfl, ?_⟩) hHeld ?_ ?_
        rotate_left
        · rintro w' ⟨⟨s0, s1, s2, s3, s4⟩, _⟩
          go_simp
          with_reducible rfl
        rotate_left
        · simp only [Act.put, List.setIfInBounds_toArray, List.set_cons_zero, List.set_cons_succ, i64_w, i32_w]
          rfl
        refine one_ (i := 10) (N := (some 45)) #[true, true, true, true, true, true, true, true, true, true, true, false] rfl rfl (by kernel_rfl) (by decide) (fun K hK => ?_)
        refine goes_ Try.func77 (by kernel_rfl) rfl #[.slice (some ad) i c1_0, .agg #[.string x.f0, .int .i64 x.f1]] (by rfl) rfl rfl (by (try simp only [List.map_toArray, List.map_cons, List.map_nil]); first | done | rfl) ?_
        with_reducible refine (hhas _ (keepb hHeld.2 hbw2)).mono ?_
        rintro e w' ⟨rfl, hb'⟩
        refine ⟨_, rfl, ?_⟩
        refine hK.out _ _ ⟨⟨keepc hb' hHeld.1.1, keepc hb' hHeld.1.2.1, keepc hb' hHeld.1.2.2.1, keepc hb' hHeld.1.2.2.2.1, keepc hb' hHeld.1.2.2.2.2⟩, keepb hb' hHeld.2⟩ (fun hHeld => ?_)
        clear hK K
        refine norm_ (a' := ?_) ?_ ?_
        rotate_left
        · show Act.put _ (some 45) _ = _
          simp only [Act.put, List.setIfInBounds_toArray, List.set_cons_zero, List.set_cons_succ, i64_w, i32_w]
          rfl
        refine pure_ (i := 11) (N := (some 46)) (v := ?_) (a' := ?_) #[true, true, true, true, true, true, true, true, true, true, true, true] rfl rfl (by kernel_rfl) (fun _ _ _ h => h) (Or.inl ⟨by rfl, ?_⟩) ?_ ?_
        rotate_left
        · intro w'
          go_simp
          with_reducible rfl
        rotate_left
        · simp only [Act.put, List.setIfInBounds_toArray, List.set_cons_zero, List.set_cons_succ, i64_w, i32_w]
          rfl
        refine done_ (by kernel_rfl) ?_
        have hbx := keepb hHeld.2 hbw2
        have HS := Lib.hid hHeld
        have HSB := Lib.hid hbx
        clear hHeld hbx p0 p1 p2 hhas hon
        cases hq2 : hasOn (l1_0.take i) x.f0 x.f1 with
        | true =>
          rw [hq2] at HXO
          have he : sentryB l0_0 l0_1 l1_0 l1_1 = false := by
            have h1 : (List.range l1_0.length).all (onOk l0_1 l1_0) = false := List.all_eq_false.2 ⟨i, List.mem_range.2 (by have := HN.out; omega), by rw [HXO.out]; simp⟩
            simp [sentryB, h1]
          have HE := Lib.hid he
          clear he hq2
          go_wp2
          go_ret
          exact ⟨by rw [HE.out]; rfl, HSB.out⟩
        | false =>
          rw [hq2] at HXO
          clear hq2
          go_wp2
          go_roundg (n - (i + 1))
          case measure => omega
          case rel =>
            refine ⟨i + 1, by omega, by omega, by go_num, Lib.hid ⟨?_, fun j hj => ?_⟩⟩
            · have hb3 := below_then X.out.1 X.out.1.size hb2
              exact below_then hb3 hb3.size HS.out.2
            · by_cases e : j = i
              · subst e; rw [HXO.out]; rfl
              · exact X.out.2 j (by omega)
    · have hltz : ¬ (i : Int) < (n : Int) := by omega
      obtain rfl : i = n := by omega
      have hsz := H1.out.2.2.2.2.2
      have hm0 : wr.cell? ⟨w.heap.size, 0, none⟩ = some (.slice A0_0 l0_0.length c0_0) := (X.out.1.cell (p := ⟨_, _, none⟩) (by simp only; omega)).trans H1.out.2.1
      have hm1 : wr.cell? ⟨w.heap.size, 1, none⟩ = some (.slice A0_1 l0_1.length c0_1) := (X.out.1.cell (p := ⟨_, _, none⟩) (by simp only; omega)).trans H1.out.2.2.1
      have hs1 : wr.cell? ⟨w.heap.size + 1, 1, none⟩ = some (.slice A1_1 m c1_1) := (X.out.1.cell (p := ⟨_, _, none⟩) (by simp only; omega)).trans H1.out.2.2.2.2.1
      clear hsz
      have hany := anyCond A1_1 c1_1 l1_1 wr (Kd.C_below HR.out.2.2.2 HBW.out) (by have := HN.out; omega) 79 #[.pointer (some ⟨w.heap.size, 0, none⟩)] model_isSentry.eg (fun c => !ifB l0_0 c.f0 c.f1 c.f2) (fun W x cs hx hb hK => model_isSentry.closure w.heap.size A0_0 c0_0 l0_0 A0_1 c0_1 l0_1 W (keepc hb hm0) (keepc hb hm1) (Kd.C_below (Kd.C_below HR.out.1 HBW.out) hb) hc0_0 (Kd.C_below (Kd.C_below HR.out.2.1 HBW.out) hb) hc0_1 x cs hK)
      rw [← HN.out.2] at hany
      have he : sentryB l0_0 l0_1 l1_0 l1_1 = !(l1_1.any (fun c => !ifB l0_0 c.f0 c.f1 c.f2)) := by
        have h1 : (List.range l1_0.length).all (onOk l0_1 l1_0) = true := List.all_eq_true.2 fun j hj => X.out.2 j (by have := List.mem_range.1 hj; have := HN.out; omega)
        have h2 : decide (l1_0.length ≤ 3 ∧ l1_1.length ≤ 2 ∧ l1_0.length + l1_1.length ≠ 0) = true := decide_eq_true (by have := HN.out; omega)
        unfold sentryB
        rw [h1, h2]
        rfl
      have HE := Lib.hid he
      clear he hm0 hm1
      obtain ⟨T, hT⟩ : ∃ T, T = l1_1.any (fun c => !ifB l0_0 c.f0 c.f1 c.f2) := ⟨_, rfl⟩
      rw [← hT] at hany HE
      clear hT
      go_wp2_with (go_at_call 78; refine hany.mono ?_; rintro e w' ⟨rfl, hb'⟩)
      go_ret
      exact ⟨by rw [HE.out]; rfl, keepb hb' HBW.out⟩
def sentsB (fs : List ByteArray) (l : List (S32)) (ss : List (S29)) : Bool := decide (ss.length ≤ 3) && !ss.any (fun s => !sentryB fs l s.f0 s.f1)
def model_areSentries.f (l0_0 : List ByteArray) (l0_1 : List (S32)) (l1 : List (S29)) : Option Bool := some (sentsB l0_0 l0_1 l1)
theorem model_areSentries.eg : ∀ args w, (callFunc 72 args).run Try.prog w = .ok (.enter 72 args) w := enters_of Try.func72 (by kernel_rfl) rfl
set_option maxHeartbeats 4000000 in
theorem model_areSentries.closure (b : Nat) (A0_0 : Option Addr) (c0_0 : Nat) (l0_0 : List ByteArray) (A0_1 : Option Addr) (c0_1 : Nat) (l0_1 : List (S32)) (W : World) (hm0 : W.cell? ⟨b, 0, none⟩ = some (.slice A0_0 l0_0.length c0_0)) (hm1 : W.cell? ⟨b, 1, none⟩ = some (.slice A0_1 l0_1.length c0_1))
    (hr0_0 : Kd.C Kd.string W A0_0 l0_0.length l0_0) (hc0_0 : l0_0.length ≤ c0_0) (hr0_1 : Kd.C k32 W A0_1 l0_1.length l0_1) (hc0_1 : l0_1.length ≤ c0_1) (x : S29) (cs : List Value) (hK : Kd.K k29 W x cs) :
    Calls Try.prog 72 (#[.agg cs.toArray] ++ #[.pointer (some ⟨b, 0, none⟩)]) W fun e w' => e = .returned (.bool (!sentryB l0_0 l0_1 x.f0 x.f1)) ∧ Below W.heap.size W w' := by
  obtain ⟨A0, c0, A1, c1, rfl, g0, h0, g1, h1⟩ := k29_open hK
  have hb := World.block_lt_of_cell? W _ hm0
  simp only at hb
  have hW1 := below_alloc (Below.refl W.heap.size W) (.cells #[.slice A0 x.f0.length c0, .slice A1 x.f1.length c1] 29)
  have hif := model_isSentry.calls A0_0 c0_0 l0_0 A0_1 c0_1 l0_1 A0 c0 x.f0 A1 c1 x.f1 _ _ (Kd.C_below hr0_0 hW1) hc0_0 (Kd.C_below hr0_1 hW1) hc0_1 (Kd.C_below h0 hW1) g0 (Kd.C_below h1 hW1) g1 rfl
  have HW := Lib.hid hW1
  clear hr0_0 hr0_1 hW1 hK h0 h1
  obtain ⟨T, hT⟩ : ∃ T, T = sentryB l0_0 l0_1 x.f0 x.f1 := ⟨_, rfl⟩
  rw [← hT] at hif ⊢
  clear hT
  have hu36 := Try.underlying36
  have hu29 := Try.underlying29
  go_enter Try.func72, Try.ntmps72
  go_wp2_with (go_at_call 73; refine hif.mono ?_; rintro e w' ⟨rfl, hb'⟩)
  go_ret
  exact ⟨rfl, keepb hb' HW.out⟩
set_option maxHeartbeats 8000000 in
set_option maxRecDepth 100000 in
theorem model_areSentries.calls (A0_0 : Option Addr) (c0_0 : Nat) (l0_0 : List ByteArray) (A0_1 : Option Addr) (c0_1 : Nat) (l0_1 : List (S32)) (A1 : Option Addr) (c1 : Nat) (l1 : List (S29)) (r : Bool) (w : World) (hr0_0 : Kd.C Kd.string w A0_0 l0_0.length l0_0) (hc0_0 : l0_0.length ≤ c0_0) (hr0_1 : Kd.C k32 w A0_1 l0_1.length l0_1) (hc0_1 : l0_1.length ≤ c0_1) (hr1 : Kd.C k29 w A1 l1.length l1) (hc1 : l1.length ≤ c1) (h : model_areSentries.f l0_0 l0_1 l1 = some r) :
    Calls Try.prog 58 #[.agg #[.slice A0_0 l0_0.length c0_0, .slice A0_1 l0_1.length c0_1], .slice A1 l1.length c1] w fun e w' => e = .returned (.bool r) ∧ Below w.heap.size w w' := by
  obtain rfl := Option.some.inj h
  clear h
  have hu36 := Try.underlying36
  have W1 := below_alloc (Below.refl w.heap.size w) (.cells #[.slice A0_0 l0_0.length c0_0, .slice A0_1 l0_1.length c0_1] 36)
  by_cases hA : 3 < l1.length
  · have e : sentsB l0_0 l0_1 l1 = false := by simp [sentsB]; omega
    rw [e]
    have hA' : (3 : Int) < l1.length := by omega
    have H := Lib.hid W1
    clear hr0_0 hr0_1 hr1 e W1
    go_enter Try.func58, Try.ntmps58
    go_wp2
    go_ret
    exact ⟨rfl, H.out⟩
  have hA' : ¬ (3 : Int) < l1.length := by omega
  have hm0 : (w.alloc (.cells #[.slice A0_0 l0_0.length c0_0, .slice A0_1 l0_1.length c0_1] 36)).cell? ⟨w.heap.size, 0, none⟩ = some (.slice A0_0 l0_0.length c0_0) := by simp
  have hm1 : (w.alloc (.cells #[.slice A0_0 l0_0.length c0_0, .slice A0_1 l0_1.length c0_1] 36)).cell? ⟨w.heap.size, 1, none⟩ = some (.slice A0_1 l0_1.length c0_1) := by simp
  have hany := anySentry A1 c1 l1 _ (Kd.C_below hr1 W1) hc1 72 #[.pointer (some ⟨w.heap.size, 0, none⟩)] model_areSentries.eg (fun s => !sentryB l0_0 l0_1 s.f0 s.f1) (fun W x cs hx hb hK => model_areSentries.closure w.heap.size A0_0 c0_0 l0_0 A0_1 c0_1 l0_1 W (keepc hb hm0) (keepc hb hm1) (Kd.C_below (Kd.C_below hr0_0 W1) hb) hc0_0 (Kd.C_below (Kd.C_below hr0_1 W1) hb) hc0_1 x cs hK)
  have he : sentsB l0_0 l0_1 l1 = !(l1.any (fun s => !sentryB l0_0 l0_1 s.f0 s.f1)) := by
    unfold sentsB
    rw [decide_eq_true (by omega), Bool.true_and]
  rw [he]
  have H := Lib.hid W1
  clear hr0_0 hr0_1 hr1 he W1 hm0 hm1
  obtain ⟨T, hT⟩ : ∃ T, T = l1.any (fun s => !sentryB l0_0 l0_1 s.f0 s.f1) := ⟨_, rfl⟩
  rw [← hT] at hany ⊢
  clear hT
  go_enter Try.func58, Try.ntmps58
  go_wp2_with (go_at_call 71; refine hany.mono ?_; rintro e w' ⟨rfl, hb'⟩)
  go_ret
  exact ⟨rfl, keepb hb' H.out⟩
end Go.Proofs.Ytchellnfenekaaa.Pm
end
section
namespace Go.Proofs.Ytchellnfenekaaa.Pm
open Go.RowKit Go.Proofs.YtchellnfenekaaaW.PrintWords Go.Proofs.YtchellnfenekaaaW.PrintLast Go.Proofs.YtchellnfenekaaaW.PrintMore
attribute [local go_sem] max2_int min2_int max_two min_two max_three min_three max_four min_four   -- for this text's walks alone
set_option linter.unusedVariables false
set_option linter.unusedSimpArgs false
theorem R_of_cells {α : Type} {d : Kd α} {e base g n cap : Nat} {w : World} {cur : Array Value} {xs : List α} (hb : base ≤ g) (hg : w.heap[g]? = some (.cells cur e (0, 0))) (hn : n = xs.length) (hnc : n ≤ cap) (hcm : cap ≤ maxLen) (hcs : cur.size = cap * d.sz)
    (hx : ∀ (j : Nat) (p : α), xs[j]? = some p → ∃ cs, cs.length = d.sz ∧ (∀ (i : Nat) (u : Value), cs[i]? = some u → cur[j * d.sz + i]? = some u) ∧ d.M w base (fun k => True ∧ k ≠ g) p cs) : d.R e w base (fun _ => True) (.slice (some ⟨g, 0, none⟩) n cap) xs := by
  subst hn
  have hle : xs.length * d.sz ≤ cur.size := by rw [hcs]; exact Nat.mul_le_mul_right _ hnc
  have hil : (cur.toList.take (xs.length * d.sz)).length = xs.length * d.sz := by rw [List.length_take, Array.length_toList]; exact Nat.min_eq_left hle
  refine ⟨fun _ _ => trivial, cur.toList.take (xs.length * d.sz), ⟨hil, .inr ⟨g, cap, cur, rfl, hb, hg, hnc, hcm, hcs, rfl⟩⟩, hil, fun j p hj => ?_⟩
  obtain ⟨cs, h1, h2, h3⟩ := hx j p hj
  have hjl := (List.getElem?_eq_some_iff.1 hj).1
  have hjs : j * d.sz + d.sz ≤ xs.length * d.sz := by
    have := Nat.mul_le_mul_right d.sz (show j + 1 ≤ xs.length from hjl)
    rwa [Nat.succ_mul] at this
  have e1 : ((cur.toList.take (xs.length * d.sz)).drop (j * d.sz)).take d.sz = cs := by
    apply List.ext_getElem?
    intro i
    rw [List.getElem?_take]
    by_cases hi : i < d.sz
    · rw [if_pos hi, List.getElem?_drop, List.getElem?_take, if_pos (by omega)]
      have hc := h2 i cs[i] (List.getElem?_eq_getElem (by omega))
      rw [Array.getElem?_toList, hc, List.getElem?_eq_getElem (by omega)]
    · rw [if_neg hi]
      exact (List.getElem?_eq_none (by omega)).symm
  rw [e1]
  exact d.M_mono (fun k hk => ⟨trivial, fun e => hk.2 (by simpa [Value.ownBlock] using e)⟩) h3
/-- A row of raw elements, by its block. -/
theorem raw_cells {m e base n : Nat} {w : World} {v : Value} {rows : List (List Value)} (h : Kd.R (kRaw m) e w base (fun _ => True) v rows) (hn : n = rows.length) (hp : 0 < n) : ∃ g cap cur, v = .slice (some ⟨g, 0, none⟩) n cap ∧ base ≤ g ∧ w.heap[g]? = some (.cells cur e (0, 0)) ∧ n ≤ cap ∧ cap ≤ maxLen ∧ cur.size = cap * m ∧ ∀ (j : Nat) (cs : List Value), rows[j]? = some cs → ∀ (i : Nat) (u : Value), cs[i]? = some u → cur[j * m + i]? = some u := by
  subst hn
  obtain ⟨_, inner, ⟨hl, hor⟩, hrep⟩ := h
  rcases hor with ⟨-, h0⟩ | ⟨g, cap, cur, hv, hb, hg, hnc, hcm, hcs, ht⟩
  · omega
  · refine ⟨g, cap, cur, hv, hb, hg, hnc, hcm, hcs, fun j cs hj i u hu => ?_⟩
    obtain ⟨h1, h2, -⟩ := hrep.2 j cs hj
    have him : i < m := by
      have := (List.getElem?_eq_some_iff.1 hu).1
      omega
    have hz : (kRaw m).sz = m := rfl
    rw [← h1, List.getElem?_take, hz, if_pos him, List.getElem?_drop, ← ht, List.getElem?_take] at hu
    split at hu
    · rwa [Array.getElem?_toList] at hu
    · cases hu
theorem R_zero {α : Type} {d : Kd α} {m e base : Nat} {w : World} {v : Value} (hm : d.sz = m) (h : Kd.R (kRaw m) e w base (fun _ => True) v []) : d.R e w base (fun _ => True) v [] := by
  obtain ⟨_, inner, ho, hrep⟩ := h
  have hi : inner = [] := by
    have := hrep.1
    simp at this
    exact this
  subst hi
  subst hm
  exact ⟨fun _ _ => trivial, [], ho, by simp, fun j p hj => by simp at hj⟩
def cpInv (w wr : World) (g cap : Nat) (l : List (S29)) (i : Nat) : Prop := ∃ cur, wr.heap[g]? = some (.cells cur 29 (0, 0)) ∧ cur.size = cap * 2 ∧ Below w.heap.size w wr ∧ g < wr.heap.size ∧ ∀ (j : Nat) (p : S29), l[j]? = some p → ∃ u0 u1, cur[j * 2]? = some u0 ∧ cur[j * 2 + 1]? = some u1 ∧ (if j < i then Kd.M k29 wr w.heap.size (fun k => True ∧ k ≠ g) p [u0, u1] else Kd.K k29 w p [u0, u1])
set_option maxHeartbeats 8000000 in
set_option maxRecDepth 100000 in
theorem copied_any (w : World) (A : Option Addr) (c : Nat) (l : List (S29)) (hr : Kd.C k29 w A l.length l) (hc : l.length ≤ c) (hl : l.length * 48 ≤ 140737488355328) (hs : ∀ s ∈ l, s.f0.length * 24 ≤ 140737488355328 ∧ s.f1.length * 40 ≤ 140737488355328) :
    Calls Try.prog 48 #[.slice A l.length c] w fun e w' => ∃ v, e = .returned v ∧ Kd.R k29 29 w' w.heap.size (fun _ => True) v l ∧ Below w.heap.size w w' := by
  have hu29 := Try.underlying29
  obtain ⟨rows, hrl, hrC, hrK⟩ := C_raw hr
  have hcl := cl_sentry w A c rows (by rw [hrl]; exact hrC) (by omega) (by rw [hrl]; exact hl)
  rw [hrl] at hcl
  obtain ⟨n, hn⟩ : ∃ n, n = l.length := ⟨_, rfl⟩
  rw [← hn] at hcl hrl hl ⊢
  have HN := Lib.hid hn
  have HRL := Lib.hid hrl
  have HRK := Lib.hid hrK
  have HS := Lib.hid hs
  clear hr hc hrC hrK hn hrl hs
  go_enter Try.func48, Try.ntmps48
  go_wp2_with fail
  refine hcl.mono ?_
  rintro e w1 ⟨v, rfl, hR, hb⟩
  rcases Nat.eq_zero_or_pos n with h0 | hp
  · have hr0 : rows = [] := List.eq_nil_of_length_eq_zero (by rw [HRL.out, h0])
    have hl0 : l = [] := List.eq_nil_of_length_eq_zero (by rw [← HN.out, h0])
    rw [hr0] at hR
    obtain ⟨A1, c1, rfl⟩ := Kd.R_slice hR
    have HF : Hid (Kd.R k29 29 w1 w.heap.size (fun _ => True) (.slice A1 0 c1) l ∧ Below w.heap.size w w1) := Lib.hid ⟨by rw [hl0]; exact R_zero rfl hR, hb⟩
    clear hR hb hcl hr0 hl0 h0
    go_wp2
    go_loopg [9] 0 (fun gg s9 wr => s9 = .int .i64 0 ∧ wr = w1)
    case atStart => exact ⟨rfl, rfl⟩
    case round =>
      obtain ⟨rfl, rfl⟩ := hrel
      go_wp2
      go_ret
      exact ⟨_, rfl, HF.out.1, HF.out.2⟩
  · obtain ⟨g, cap, cur, rfl, hgb, hg, hnc, hcm, hcs, hcur⟩ := raw_cells hR (HRL.out).symm hp
    have HI : Hid (cpInv w w1 g cap l 0) := Lib.hid ⟨cur, hg, hcs, hb, blk_lt hg, fun j p hj => by
      obtain ⟨cs, h1, h2⟩ := HRK.out j p hj
      obtain ⟨B0, d0, B1, d1, rfl, h3⟩ := k29_open h2
      exact ⟨_, _, hcur j _ h1 0 _ rfl, hcur j _ h1 1 _ rfl, by rw [if_neg (by omega)]; exact h2⟩⟩
    have HG := Lib.hid (And.intro hgb (And.intro hnc hcm))
    clear hR hb hcl hgb hg hnc hcm hcs hcur
    go_wp2
    go_loopg [9] n (fun gg s9 wr => ∃ i : Nat, s9 = .int .i64 i ∧ i ≤ n ∧ n - i ≤ gg ∧ Hid (cpInv w wr g cap l i))
    case atStart => exact ⟨0, rfl, by omega, by omega, HI⟩
    case round =>
      obtain ⟨i, rfl, hin, hig, X⟩ := hrel
      obtain ⟨wO, rfl⟩ : ∃ wO, wO = wr := ⟨_, rfl⟩
      by_cases hlt : i < n
      case neg =>
        have hltz : ¬ (i : Int) < (n : Int) := by omega
        obtain ⟨cur, hg, hcs, hb, hgl, hx⟩ := X.out
        have HF : Hid (Kd.R k29 29 wO w.heap.size (fun _ => True) (.slice (some ⟨g, 0, none⟩) n cap) l ∧ Below w.heap.size w wO) := Lib.hid ⟨R_of_cells HG.out.1 hg HN.out HG.out.2.1 HG.out.2.2 hcs (fun j p hj => by
          obtain ⟨u0, u1, h1, h2, h3⟩ := hx j p hj
          have hjl := (List.getElem?_eq_some_iff.1 hj).1
          rw [if_pos (by have := HN.out; omega)] at h3
          refine ⟨[u0, u1], rfl, fun i u hu => ?_, h3⟩
          match i, hu with
          | 0, hu => cases hu; exact h1
          | 1, hu => cases hu; exact h2
          | i + 2, hu => simp at hu), hb⟩
        clear X hg hcs hb hgl hx
        go_wp2
        go_ret
        exact ⟨_, rfl, HF.out.1, HF.out.2⟩
      have hltz : (i : Int) < (n : Int) := by omega
      obtain ⟨cur, hg, hcs, hb, hgl, hx⟩ := X.out
      have hil : i < l.length := by have := HN.out; omega
      obtain ⟨s, hsx⟩ : ∃ s, s = l[i] := ⟨_, rfl⟩
      have hsg : l[i]? = some s := by rw [hsx, List.getElem?_eq_getElem hil]
      obtain ⟨u0, u1, h1, h2, h3⟩ := hx i s hsg
      rw [if_neg (by omega)] at h3
      obtain ⟨B0, d0, B1, d1, e, hl0, hC0, hl1, hC1⟩ := k29_open h3
      obtain ⟨rfl, rfl⟩ : u0 = .slice B0 s.f0.length d0 ∧ u1 = .slice B1 s.f1.length d1 := by simpa using e
      have hb0 := HS.out s (by rw [hsx]; exact List.getElem_mem _)
      have hx0 : wO.cell? ⟨g, i * 2, none⟩ = some (.slice B0 s.f0.length d0) := (blk_cell hg _).trans h1
      have hx1 : wO.cell? ⟨g, i * 2 + 1, none⟩ = some (.slice B1 s.f1.length d1) := (blk_cell hg _).trans h2
      have hf0 := blk_frozen hg (i * 2)
      have hf1 := blk_frozen hg (i * 2 + 1)
      obtain ⟨n0, hn0⟩ : ∃ n0, n0 = s.f0.length := ⟨_, rfl⟩
      obtain ⟨n1, hn1⟩ : ∃ n1, n1 = s.f1.length := ⟨_, rfl⟩
      obtain ⟨W1, hW1⟩ : ∃ W1, W1 = wO.alloc (.cells #[.slice B0 n0 d0, .slice B1 n1 d1] 29) := ⟨_, rfl⟩
      have hbW : Below wO.heap.size wO W1 := by rw [hW1]; exact below_alloc (Below.refl _ _) _
      have hgW : W1.heap[wO.heap.size]? = some (.cells #[.slice B0 n0 d0, .slice B1 n1 d1] 29 (0, 0)) := by rw [hW1]; exact heap_alloc_new wO _
      have HX := Lib.hid (And.intro hg (And.intro hcs (And.intro hb (And.intro hgl hx))))
      have HC := Lib.hid (And.intro hl0 (And.intro hC0 (And.intro hl1 (And.intro hC1 hb0))))
      have HW := Lib.hid hW1
      have HBW := Lib.hid hbW
      have HGW := Lib.hid hgW
      have HSX := Lib.hid (And.intro hsg (And.intro hn0 hn1))
      have HU := Lib.hid (And.intro h1 h2)
      rw [← hn0] at hx0
      rw [← hn1] at hx1
      clear X hg hcs hb hgl hx hil hsg h1 h2 h3 e hl0 hC0 hl1 hC1 hb0 hW1 hbW hgW hsx hn0 hn1
      go_wp2
      rw [← HW.out]
      clear hx0 hx1
      have hc0 := (blk_cell HGW.out 0).trans rfl
      have hc1 := (blk_cell HGW.out 1).trans rfl
      refine sD_ [10] (fun w' => w'.cell? ⟨wO.heap.size, 0, none⟩ = some (.slice B0 n0 d0) ∧ w'.cell? ⟨wO.heap.size, 1, none⟩ = some (.slice B1 n1 d1)) 11 ⟨hc0, hc1⟩ (fun hHeld => ?_)
      have hbD : Below wO.heap.size wO W1.drew := below_drew1 HBW.out
      have hgD : W1.drew.heap[wO.heap.size]? = some (.cells #[.slice B0 n0 d0, .slice B1 n1 d1] 29 (0, 0)) := HGW.out
      clear hc0 hc1
      generalize W1.drew = wD at hHeld hbD hgD ⊢
      refine pu_ 0 (some 14) ?_
      refine pu_ 1 (some 15) ?_
      refine pu_ 2 (some 16) ?_
      refine tk_ 3 (some 17) hHeld ?_ (hy := by rintro w' ⟨s0, s1⟩; go_simp; with_reducible rfl)
      refine pu_ 5 (some 19) ?_
      refine tk_ 6 (some 20) hHeld ?_ (hy := by rintro w' ⟨s0, s1⟩; go_simp; with_reducible rfl)
      have hbw : Below w.heap.size w wD := below_then HX.out.2.2.1 HX.out.2.2.1.size hbD
      have hcl1 := cl_on wD B0 d0 s.f0 (Kd.C_below HC.out.2.1 hbw) HC.out.1 HC.out.2.2.2.2.1
      rw [← HSX.out.2.1] at hcl1
      refine ca_ 4 (some 18) Try.func65 #[.slice B0 n0 d0] ?_
      refine hcl1.mono ?_
      rintro e w3 ⟨v3, rfl, hR3, hb3⟩
      obtain ⟨A3, c3, rfl⟩ := Kd.R_slice hR3
      rw [← HSX.out.2.1] at hR3 ⊢
      have hg3 := blk_below hgD hb3
      have hbD3 := below_then hbD hbD.size hb3
      have hbw3 := below_then hbw hbw.size hb3
      have hzD : wO.heap.size < wD.heap.size := blk_lt hgD
      refine ⟨_, rfl, ⟨(blk_cell hg3 0).trans rfl, (blk_cell hg3 1).trans rfl⟩, fun hHeld => ⟨_, rfl, nz_ (some 18) ?_⟩⟩
      have hcl2 := cl_cond w3 B1 d1 s.f1 (Kd.C_below HC.out.2.2.2.1 hbw3) HC.out.2.2.1 HC.out.2.2.2.2.2
      rw [← HSX.out.2.2] at hcl2
      refine ca_ 7 (some 21) Try.func66 #[.slice B1 n1 d1] ?_
      refine hcl2.mono ?_
      rintro e w4 ⟨v4, rfl, hR4, hb4⟩
      obtain ⟨A4, c4, rfl⟩ := Kd.R_slice hR4
      rw [← HSX.out.2.2] at hR4 ⊢
      have hg4 := blk_below hg3 hb4
      have hbD4 := below_then hbD3 hbD3.size hb4
      have hR34 := Kd.R_below hR3 hb4
      have hz3 : wD.heap.size ≤ w3.heap.size := hb3.size
      refine ⟨_, rfl, ⟨(blk_cell hg4 0).trans rfl, (blk_cell hg4 1).trans rfl⟩, fun hHeld => ⟨_, rfl, nz_ (some 21) ?_⟩⟩
      refine pu_ 8 (some 22) ?_
      refine pu_ 9 (some 23) ?_
      have hgO := blk_below HX.out.1 hbD4
      have hx0 := (blk_cell hgO (i * 2)).trans HU.out.1
      have hx1 := (blk_cell hgO (i * 2 + 1)).trans HU.out.2
      rw [← HSX.out.2.1] at hx0
      rw [← HSX.out.2.2] at hx1
      have hf0 := blk_frozen hgO (i * 2)
      have hf1 := blk_frozen hgO (i * 2 + 1)
      refine lA_ 10 none (fun K hK => ?_)
      go_simp
      have HF : Hid (cpInv w ((w4.setCell ⟨g, i * 2, none⟩ (.slice A3 n0 c3)).setCell ⟨g, i * 2 + 1, none⟩ (.slice A4 n1 c4)) g cap l (i + 1)) := Lib.hid (by
        have hgw : w.heap.size ≤ g := HG.out.1
        have hgO' : g < wO.heap.size := HX.out.2.2.2.1
        have hsz : ∀ q, i * 2 = q → q < cur.size := fun q e => by
          have := (Array.getElem?_eq_some_iff.1 HU.out.1).1
          omega
        refine ⟨(cur.setIfInBounds (i * 2) (.slice A3 n0 c3)).setIfInBounds (i * 2 + 1) (.slice A4 n1 c4), blk_put (blk_put hgO (i * 2) (.slice A3 n0 c3) rfl) (i * 2 + 1) (.slice A4 n1 c4) rfl, by simp only [Array.size_setIfInBounds]; exact HX.out.2.1, ((below_then HX.out.2.2.1 HX.out.2.2.1.size hbD4).setCell hgw _).setCell hgw _, ?_, fun j p hj => ?_⟩
        · have := hbD4.size
          simp only [World.setCell]
          simpa [World.setCell] using Nat.lt_of_lt_of_le hgO' this
        · by_cases hji : j = i
          · subst hji
            obtain rfl : s = p := Option.some.inj (HSX.out.1.symm.trans hj)
            have l0 := (Array.getElem?_eq_some_iff.1 HU.out.1).1
            have l1 := (Array.getElem?_eq_some_iff.1 HU.out.2).1
            refine ⟨.slice A3 n0 c3, .slice A4 n1 c4, ?_, ?_, ?_⟩
            · rw [Array.getElem?_setIfInBounds_ne (by omega), Array.getElem?_setIfInBounds_self_of_lt l0]
            · rw [Array.getElem?_setIfInBounds_self_of_lt (by simpa using l1)]
            · rw [if_pos (by omega)]
              have far : ∀ {α : Type} {d : Kd α} {e base : Nat} {v : Value} {xs : List α}, g < base → w.heap.size ≤ base → d.R e w4 base (fun _ => True) v xs → d.R e ((w4.setCell ⟨g, j * 2, none⟩ (.slice A3 n0 c3)).setCell ⟨g, j * 2 + 1, none⟩ (.slice A4 n1 c4)) w.heap.size (fun k => True ∧ k ≠ g) v xs := fun hg1 hg2 h =>
                Kd.R_lower (Kd.R_mono (Kd.R_far (Kd.R_far (Kd.R_bound h) (p := ⟨g, j * 2, none⟩) (fun k hk => by have := hk.2.1; show k ≠ g; omega) _) (p := ⟨g, j * 2 + 1, none⟩) (fun k hk => by have := hk.2.1; show k ≠ g; omega) _) (fun k hk => ⟨trivial, by have := hk.2.1; omega⟩)) hg2
              exact k29_mkM _ _ _ _ (far (by omega) (by omega) hR34) (far (by omega) (by omega) hR4)
          · obtain ⟨u0, u1, h1, h2, h3⟩ := HX.out.2.2.2.2 j p hj
            refine ⟨u0, u1, ?_, ?_, ?_⟩
            · rw [Array.getElem?_setIfInBounds_ne (by omega), Array.getElem?_setIfInBounds_ne (by omega)]; exact h1
            · rw [Array.getElem?_setIfInBounds_ne (by omega), Array.getElem?_setIfInBounds_ne (by omega)]; exact h2
            · by_cases hlt' : j < i
              · rw [if_pos hlt'] at h3
                rw [if_pos (by omega)]
                exact Kd.M_step h3 (fun k hk hkl => (Below.heap_setCell _ _ _ _ hk.2).trans ((Below.heap_setCell _ _ _ _ hk.2).trans (hbD4.block k hkl)))
              · rw [if_neg hlt'] at h3
                rw [if_neg (by omega)]
                exact h3)
      refine hK.out _ _ ?_
      clear hK K hx0 hx1 hf0 hf1 hgO hR3 hR4 hR34 hg3 hg4 hHeld hcl1 hcl2
      refine dn_ ?_
      go_wp2
      go_roundg (n - (i + 1))
      case measure => omega
      case rel => exact ⟨i + 1, by go_num, by omega, by omega, HF⟩
end Go.Proofs.Ytchellnfenekaaa.Pm
end
section
namespace Go.Proofs.Ytchellnfenekaaa.Pm
open Go.RowKit Go.Proofs.YtchellnfenekaaaW.PrintWords Go.Proofs.YtchellnfenekaaaW.PrintLast Go.Proofs.YtchellnfenekaaaW.PrintMore
attribute [local go_sem] max2_int min2_int max_two min_two max_three min_three max_four min_four   -- for this text's walks alone
set_option linter.unusedVariables false
set_option linter.unusedSimpArgs false
def wideSents (l : List (S29)) : Prop := l.length * 48 ≤ 140737488355328 ∧ ∀ s ∈ l, s.f0.length * 24 ≤ 140737488355328 ∧ s.f1.length * 40 ≤ 140737488355328
def wideItem (x : S32) : Prop := wideSents x.f5 ∧ wideSents x.f6
def CopyPost (w : World) (fs : List ByteArray) (l : List (S32)) (e : Ending) (w' : World) : Prop := ∃ v0 v1, e = .returned (.agg #[v0, v1]) ∧ Kd.R Kd.string 9 w' w.heap.size (fun _ => True) v0 fs ∧ Kd.R k32 32 w' w.heap.size (fun _ => True) v1 l ∧ Below w.heap.size w w'
def cyInv (w wr : World) (B g cap : Nat) (l : List (S32)) (i : Nat) : Prop := ∃ cur, wr.heap[g]? = some (.cells cur 32 (0, 0)) ∧ cur.size = cap * 7 ∧ g < wr.heap.size ∧ ∀ (j : Nat) (x : S32), l[j]? = some x → ∃ u5 u6, (cur[j * 7]? = some (.string x.f0) ∧ cur[j * 7 + 1]? = some (.int .i64 x.f1) ∧ cur[j * 7 + 2]? = some (.string x.f2) ∧ cur[j * 7 + 3]? = some (.bool x.f3) ∧ cur[j * 7 + 4]? = some (.int .i64 x.f4) ∧ cur[j * 7 + 5]? = some u5 ∧ cur[j * 7 + 6]? = some u6) ∧ (if j < i then Kd.R k29 29 wr B (fun k => True ∧ k ≠ g) u5 x.f5 ∧ Kd.R k29 29 wr B (fun k => True ∧ k ≠ g) u6 x.f6 else ∃ A5 c5 A6 c6, u5 = .slice A5 x.f5.length c5 ∧ u6 = .slice A6 x.f6.length c6 ∧ x.f5.length ≤ c5 ∧ Kd.C k29 w A5 x.f5.length x.f5 ∧ x.f6.length ≤ c6 ∧ Kd.C k29 w A6 x.f6.length x.f6)
set_option maxHeartbeats 16000000 in
set_option maxRecDepth 100000 in
theorem copy_any (w : World) (A0 : Option Addr) (c0 : Nat) (fs : List ByteArray) (A1 : Option Addr) (c1 : Nat) (l : List (S32)) (hr0 : Kd.C Kd.string w A0 fs.length fs) (hc0 : fs.length ≤ c0) (hr1 : Kd.C k32 w A1 l.length l) (hc1 : l.length ≤ c1) (hf : fs.length * 16 ≤ 140737488355328) (hl : l.length * 104 ≤ 140737488355328) (hw : ∀ x ∈ l, wideItem x) :
    Calls Try.prog 25 #[.agg #[.slice A0 fs.length c0, .slice A1 l.length c1]] w (CopyPost w fs l) := by
  have hu36 := Try.underlying36
  have hu32 := Try.underlying32
  obtain ⟨rows, hrl, hrC, hrK⟩ := C_raw hr1
  obtain ⟨wA, hwA⟩ : ∃ wA, wA = w.alloc (.cells #[.slice A0 fs.length c0, .slice A1 l.length c1] 36) := ⟨_, rfl⟩
  obtain ⟨wB, hwB⟩ : ∃ wB, wB = wA.alloc (.cells #[.slice none 0 0, .slice none 0 0] 36) := ⟨_, rfl⟩
  have hbA : Below w.heap.size w wA := by rw [hwA]; exact below_alloc (Below.refl _ _) _
  have hbB : Below w.heap.size w wB := by rw [hwB]; exact below_alloc hbA _
  have hzA : wA.heap.size = w.heap.size + 1 := by rw [hwA]; simp
  have hgA : wB.heap[w.heap.size]? = some (.cells #[.slice A0 fs.length c0, .slice A1 l.length c1] 36 (0, 0)) := by rw [hwB]; exact blk_below (by rw [hwA]; exact heap_alloc_new w _) (below_alloc (Below.refl _ _) _)
  have hgB : wB.heap[w.heap.size + 1]? = some (.cells #[.slice none 0 0, .slice none 0 0] 36 (0, 0)) := by rw [hwB, ← hzA]; exact heap_alloc_new wA _
  have hzB : w.heap.size + 1 < wB.heap.size := blk_lt hgB
  obtain ⟨n0, hn0⟩ : ∃ n0, n0 = fs.length := ⟨_, rfl⟩
  obtain ⟨n, hn⟩ : ∃ n, n = l.length := ⟨_, rfl⟩
  have hcl0 : ∀ W, Below w.heap.size w W → _ := fun W hb => cl_str W A0 c0 fs (Kd.C_below hr0 hb) hc0 hf
  have hcl1 : ∀ W, Below w.heap.size w W → _ := fun W hb => cl_item W A1 c1 rows (by rw [hrl]; exact Kd.C_below hrC hb) (by rw [hrl]; exact hc1) (by rw [hrl]; exact hl)
  rw [← hn0] at hcl0 hgA hwA ⊢
  rw [hrl] at hcl1
  rw [← hn] at hcl1 hgA hwA hl ⊢
  have HW := Lib.hid (And.intro hwA hwB)
  have HBB := Lib.hid hbB
  have HG := Lib.hid (And.intro hgA hgB)
  have HCL0 := Lib.hid hcl0
  have HCL1 := Lib.hid hcl1
  have HN := Lib.hid (And.intro hn0 hn)
  have HRL := Lib.hid (hrl.trans hn.symm)
  have HRK := Lib.hid hrK
  have HWI := Lib.hid hw
  clear hr0 hc0 hr1 hc1 hf hw hrl hrC hrK hwA hwB hbA hbB hzA hgA hgB hn0 hn hcl0 hcl1
  go_enter Try.func25, Try.ntmps25
  go_wp2
  rw [← HW.out.1, ← HW.out.2]
  have hc_0 := (blk_cell HG.out.1 0).trans rfl
  have hc_1 := (blk_cell HG.out.1 1).trans rfl
  refine sD_ [7, 9] (fun w' => w'.cell? ⟨w.heap.size, 0, none⟩ = some (.slice A0 n0 c0) ∧ w'.cell? ⟨w.heap.size, 1, none⟩ = some (.slice A1 n c1)) 10 ⟨hc_0, hc_1⟩ (fun hHeld => ?_)
  have hbD : Below wB.heap.size wB wB.drew := below_drew1 (Below.refl _ _)
  clear hc_0 hc_1
  generalize wB.drew = wD at hHeld hbD ⊢
  refine pu_ 0 (some 5) ?_
  refine tk_ 1 (some 6) hHeld ?_ (hy := by rintro w' ⟨s0, s1⟩; go_simp; with_reducible rfl)
  refine pu_ 3 (some 8) ?_
  refine tk_ 4 (some 9) hHeld ?_ (hy := by rintro w' ⟨s0, s1⟩; go_simp; with_reducible rfl)
  refine ca_ 2 (some 7) Try.func46 #[.slice A0 n0 c0] ?_
  refine (HCL0.out wD (keepb hbD HBB.out)).mono ?_
  rintro e w2 ⟨v0, rfl, hR2, hb2⟩
  obtain ⟨F0, d0, rfl⟩ := Kd.R_slice hR2
  rw [← HN.out.1] at hR2 ⊢
  have hbB2 := below_then hbD hbD.size hb2
  have hg2 := blk_below HG.out.1 hbB2
  refine ⟨_, rfl, ⟨(blk_cell hg2 0).trans rfl, (blk_cell hg2 1).trans rfl⟩, fun hHeld => ⟨_, rfl, nz_ (some 7) ?_⟩⟩
  refine pu_ 6 (some 11) ?_
  refine ca_ 5 (some 10) Try.func47 #[.slice A1 n c1] ?_
  refine (HCL1.out w2 (keepb hbB2 HBB.out)).mono ?_
  rintro e w3 ⟨v1, rfl, hR3, hb3⟩
  have hbB3 := below_then hbB2 hbB2.size hb3
  have hg3 := blk_below HG.out.1 hbB3
  have hR23 := Kd.R_below hR2 hb3
  obtain ⟨F1, d1, rfl⟩ := Kd.R_slice hR3
  rw [HRL.out] at hR3 ⊢
  refine ⟨_, rfl, ⟨(blk_cell hg3 0).trans rfl, (blk_cell hg3 1).trans rfl⟩, fun hHeld => ⟨_, rfl, nz_ (some 10) ?_⟩⟩
  have hcz := (blk_cell hg3 0).trans rfl
  have hfz := blk_frozen hg3 0
  refine lA_ 7 none (fun K hK => ?_)
  go_simp
  refine hK.out _ _ ?_
  clear hK K
  refine pu_ 8 (some 12) ?_
  have hg4 := blk_put hg3 0 (.slice F0 n0 d0) rfl
  have hcz1 := (blk_cell hg4 1).trans rfl
  have hfz1 := blk_frozen hg4 1
  clear hcz hfz
  refine lA_ 9 none (fun K hK => ?_)
  go_simp
  have hgE := blk_put hg4 1 (.slice F1 n d1) rfl
  have hgB3 := blk_below HG.out.2 hbB3
  have hbw3 := keepb hbB3 HBB.out
  obtain ⟨wE, hwE⟩ : ∃ wE, wE = (w3.setCell ⟨w.heap.size, 0, none⟩ (.slice F0 n0 d0)).setCell ⟨w.heap.size, 1, none⟩ (.slice F1 n d1) := ⟨_, rfl⟩
  rw [← hwE] at hgE ⊢
  have hsE : ∀ k, k ≠ w.heap.size → wE.heap[k]? = w3.heap[k]? := fun k hk => by rw [hwE]; exact (Below.heap_setCell _ _ _ _ hk).trans (Below.heap_setCell _ _ _ _ hk)
  have hgE2 : wE.heap[w.heap.size + 1]? = some (.cells #[.slice none 0 0, .slice none 0 0] 36 (0, 0)) := (hsE _ (by omega)).trans hgB3
  have hbE : Below w.heap.size w wE := by rw [hwE]; exact (hbw3.setCell (Nat.le_refl _) _).setCell (Nat.le_refl _) _
  have hzE : wE.heap.size = w3.heap.size := by rw [hwE]; simp [World.setCell]
  have hD2 : wD.heap.size ≤ w2.heap.size := hb2.size
  have hE2 : w2.heap.size ≤ wE.heap.size := by rw [hzE]; exact hb3.size
  have hBD : wB.heap.size ≤ wD.heap.size := hbD.size
  have hRF : Kd.R Kd.string 9 wE wB.heap.size (fun k => k < w2.heap.size) (.slice F0 n0 d0) fs := by
    refine Kd.R_lower (Kd.R_mono (Kd.R_step (Kd.R_bound (Kd.R_below (Kd.R_mono (Kd.R_bound hR2) (ok' := fun k => wD.heap.size ≤ k ∧ k < w2.heap.size) (fun k hk => ⟨hk.2.1, hk.2.2.1⟩)) hb3)) (fun k hk _ => hsE k (by have := hk.1.1; omega))) (fun k hk => hk.1.2)) hBD
  have hRI : Kd.R (kRaw 7) 32 wE w2.heap.size (fun _ => True) (.slice F1 n d1) rows := Kd.R_mono (Kd.R_step (Kd.R_bound hR3) (fun k hk _ => hsE k (by have := hk.2.1; omega))) (fun _ _ => trivial)
  refine hK.out _ _ ?_
  clear hK K hcz1 hfz1 hg4 hg3 hg2 hR2 hR3 hR23 hHeld hb2 hb3 hbB2 hbB3 hgB3 hbw3 hbD hwE
  have HRF := Lib.hid hRF
  have HBE := Lib.hid hbE
  have HGE := Lib.hid (And.intro hgE hgE2)
  refine dn_ ?_
  have hk_0 := (blk_cell HGE.out.1 0).trans rfl
  have hk_1 := (blk_cell HGE.out.1 1).trans rfl
  clear hsE hgE hgE2 hbE hRF hzE
  have rset : ∀ {W : World} {α : Type} {d : Kd α} {e : Nat} {ok : Nat → Prop} {v : Value} {xs : List α} {i : Nat} {u : Value}, d.R e W wB.heap.size ok v xs → d.R e (W.setCell ⟨w.heap.size + 1, i, none⟩ u) wB.heap.size ok v xs := fun h => Kd.R_mono (Kd.R_far (Kd.R_bound h) (fun k hk => by have := hk.2.1; show k ≠ w.heap.size + 1; omega) _) (fun _ hk => hk.1)
  rcases Nat.eq_zero_or_pos n with h0 | hp
  · have hr0 : rows = [] := List.eq_nil_of_length_eq_zero (by rw [HRL.out, h0])
    have hl0 : l = [] := List.eq_nil_of_length_eq_zero (by rw [← HN.out.2, h0])
    rw [hr0] at hRI
    have hRIo : Kd.R k32 32 wE wB.heap.size (fun _ => True) (.slice F1 n d1) l := by rw [hl0]; exact Kd.R_lower (R_zero rfl hRI) (by omega)
    rw [h0] at hRIo
    have HRIo := Lib.hid hRIo
    have hg1 := HGE.out.1
    rw [h0] at hg1
    have HG1 := Lib.hid hg1
    clear hRI hr0 hl0 hRIo hg1
    subst h0
    go_wp2
    clear hk_0 hk_1
    go_loopg [16] 0 (fun gg s16 wr => s16 = .int .i64 0 ∧ wr = wE)
    case atStart => exact ⟨rfl, rfl⟩
    case round =>
      obtain ⟨rfl, rfl⟩ := hrel
      have hRFo := HRF.out
      have hRIo := HRIo.out
      have hbo := HBE.out
      have hg1 := HG1.out
      have hg2 := HGE.out.2
      have HFIN : Hid (Kd.R Kd.string 9 ((wr.setCell ⟨w.heap.size + 1, 0, none⟩ (.slice F0 n0 d0)).setCell ⟨w.heap.size + 1, 1, none⟩ (.slice F1 0 d1)) w.heap.size (fun _ => True) (.slice F0 n0 d0) fs ∧ Kd.R k32 32 ((wr.setCell ⟨w.heap.size + 1, 0, none⟩ (.slice F0 n0 d0)).setCell ⟨w.heap.size + 1, 1, none⟩ (.slice F1 0 d1)) w.heap.size (fun _ => True) (.slice F1 0 d1) l ∧ Below w.heap.size w ((wr.setCell ⟨w.heap.size + 1, 0, none⟩ (.slice F0 n0 d0)).setCell ⟨w.heap.size + 1, 1, none⟩ (.slice F1 0 d1))) := Lib.hid ⟨Kd.R_mono (Kd.R_lower (rset (rset hRFo)) (by omega)) (fun _ _ => trivial), Kd.R_lower (rset (rset hRIo)) (by omega), (hbo.setCell (Nat.le_succ _) _).setCell (Nat.le_succ _) _⟩
      have HGF := Lib.hid (blk_put (blk_put hg2 0 (.slice F0 n0 d0) rfl) 1 (.slice F1 0 d1) rfl)
      have hx_0 := (blk_cell hg1 0).trans rfl
      have hx_1 := (blk_cell hg1 1).trans rfl
      have hz_0 := (blk_cell hg2 0).trans rfl
      have hz_1 := (blk_cell hg2 1).trans rfl
      have hq_0 := blk_frozen hg2 0
      have hq_1 := blk_frozen hg2 1
      clear hRFo hRIo hbo hg1 hg2
      go_wp2
      clear hx_0 hx_1 hz_0 hz_1 hq_0 hq_1
      refine bodyPost_ret (results_cell_row rfl _ _ (w.heap.size + 1) 36 #[.slice F0 n0 d0, (.slice F1 0 d1)] (0, 0) _ rfl HGF.out Try.underlying36 rfl (by kernel_rfl)) rfl ?_
      exact ⟨_, _, rfl, HFIN.out.1, HFIN.out.2.1, HFIN.out.2.2⟩
  · obtain ⟨g, cap, cur, e1, hgb, hg, hnc, hcm, hcs, hcur⟩ := raw_cells hRI HRL.out.symm hp
    cases e1
    have HI : Hid (cyInv w wE wB.heap.size g d1 l 0) := Lib.hid ⟨cur, hg, hcs, blk_lt hg, fun j x hj => by
      obtain ⟨cs, h1, h2⟩ := HRK.out j x hj
      obtain ⟨A5, c5, A6, c6, rfl, h5, hC5, h6, hC6⟩ := k32_open h2
      exact ⟨_, _, ⟨hcur j _ h1 0 _ rfl, hcur j _ h1 1 _ rfl, hcur j _ h1 2 _ rfl, hcur j _ h1 3 _ rfl, hcur j _ h1 4 _ rfl, hcur j _ h1 5 _ rfl, hcur j _ h1 6 _ rfl⟩, by rw [if_neg (by omega)]; exact ⟨A5, c5, A6, c6, rfl, rfl, h5, hC5, h6, hC6⟩⟩⟩
    have HGC := Lib.hid (And.intro hgb (And.intro hnc hcm))
    clear hRI hg hnc hcm hcs hcur
    go_wp2
    clear hk_0 hk_1
    go_loopg [16] n (fun gg s16 wr => ∃ i : Nat, s16 = .int .i64 i ∧ i ≤ n ∧ n - i ≤ gg ∧ Hid (cyInv w wr wB.heap.size g d1 l i ∧ Kept wE wr (fun k => k = g) ∧ Below w.heap.size w wr))
    case atStart => exact ⟨0, rfl, by omega, by omega, Lib.hid ⟨HI.out, Kept.refl _ _, HBE.out⟩⟩
    case round =>
      obtain ⟨i, rfl, hin, hig, X⟩ := hrel
      obtain ⟨wO, rfl⟩ : ∃ wO, wO = wr := ⟨_, rfl⟩
      by_cases hlt : i < n
      case neg =>
        have hltz : ¬ (i : Int) < (n : Int) := by omega
        obtain ⟨⟨cur, hg, hcs, hgl, hx⟩, hk, hbo⟩ := X.out
        have hg1 := (hk.2 _ (blk_lt HGE.out.1) (show ¬ w.heap.size = g by omega)).trans HGE.out.1
        have hg2 := (hk.2 _ (blk_lt HGE.out.2) (show ¬ w.heap.size + 1 = g by omega)).trans HGE.out.2
        have hRFo : Kd.R Kd.string 9 wO wB.heap.size (fun k => k < w2.heap.size) (.slice F0 n0 d0) fs := Kd.R_step HRF.out (fun k hk' hkl => hk.2 k hkl (show ¬ k = g by omega))
        have hRIo : Kd.R k32 32 wO wB.heap.size (fun _ => True) (.slice (some ⟨g, 0, none⟩) n d1) l := R_of_cells (by omega) hg HN.out.2 HGC.out.2.1 HGC.out.2.2 hcs (fun j p hj => by
          obtain ⟨u5, u6, ⟨q0, q1, q2, q3, q4, q5, q6⟩, h3⟩ := hx j p hj
          have hjl := (List.getElem?_eq_some_iff.1 hj).1
          rw [if_pos (by have := HN.out.2; omega)] at h3
          refine ⟨[.string p.f0, .int .i64 p.f1, .string p.f2, .bool p.f3, .int .i64 p.f4, u5, u6], rfl, fun i u hu => ?_, k32_mkM _ _ _ _ h3.1 h3.2⟩
          match i, hu with
          | 0, hu => cases hu; exact q0
          | 1, hu => cases hu; exact q1
          | 2, hu => cases hu; exact q2
          | 3, hu => cases hu; exact q3
          | 4, hu => cases hu; exact q4
          | 5, hu => cases hu; exact q5
          | 6, hu => cases hu; exact q6
          | i + 7, hu => simp at hu)
        clear X hg hcs hgl hx hk
        have HFIN : Hid (Kd.R Kd.string 9 ((wO.setCell ⟨w.heap.size + 1, 0, none⟩ (.slice F0 n0 d0)).setCell ⟨w.heap.size + 1, 1, none⟩ (.slice (some ⟨g, 0, none⟩) n d1)) w.heap.size (fun _ => True) (.slice F0 n0 d0) fs ∧ Kd.R k32 32 ((wO.setCell ⟨w.heap.size + 1, 0, none⟩ (.slice F0 n0 d0)).setCell ⟨w.heap.size + 1, 1, none⟩ (.slice (some ⟨g, 0, none⟩) n d1)) w.heap.size (fun _ => True) (.slice (some ⟨g, 0, none⟩) n d1) l ∧ Below w.heap.size w ((wO.setCell ⟨w.heap.size + 1, 0, none⟩ (.slice F0 n0 d0)).setCell ⟨w.heap.size + 1, 1, none⟩ (.slice (some ⟨g, 0, none⟩) n d1))) := Lib.hid ⟨Kd.R_mono (Kd.R_lower (rset (rset hRFo)) (by omega)) (fun _ _ => trivial), Kd.R_lower (rset (rset hRIo)) (by omega), (hbo.setCell (Nat.le_succ _) _).setCell (Nat.le_succ _) _⟩
        have HGF := Lib.hid (blk_put (blk_put hg2 0 (.slice F0 n0 d0) rfl) 1 (.slice (some ⟨g, 0, none⟩) n d1) rfl)
        have hx_0 := (blk_cell hg1 0).trans rfl
        have hx_1 := (blk_cell hg1 1).trans rfl
        have hz_0 := (blk_cell hg2 0).trans rfl
        have hz_1 := (blk_cell hg2 1).trans rfl
        have hq_0 := blk_frozen hg2 0
        have hq_1 := blk_frozen hg2 1
        clear hRFo hRIo hbo hg1 hg2
        go_wp2
        clear hx_0 hx_1 hz_0 hz_1 hq_0 hq_1
        refine bodyPost_ret (results_cell_row rfl _ _ (w.heap.size + 1) 36 #[.slice F0 n0 d0, (.slice (some ⟨g, 0, none⟩) n d1)] (0, 0) _ rfl HGF.out Try.underlying36 rfl (by kernel_rfl)) rfl ?_
        exact ⟨_, _, rfl, HFIN.out.1, HFIN.out.2.1, HFIN.out.2.2⟩
      have hltz : (i : Int) < (n : Int) := by omega
      obtain ⟨⟨cur, hg, hcs, hgl, hx⟩, hk, hb⟩ := X.out
      have hil : i < l.length := by have := HN.out.2; omega
      obtain ⟨x, hxx⟩ : ∃ x, x = l[i] := ⟨_, rfl⟩
      have hxg : l[i]? = some x := by rw [hxx, List.getElem?_eq_getElem hil]
      obtain ⟨u5, u6, ⟨q0, q1, q2, q3, q4, q5, q6⟩, h3⟩ := hx i x hxg
      rw [if_neg (by omega)] at h3
      obtain ⟨A5, c5, A6, c6, rfl, rfl, h5, hC5, h6, hC6⟩ := h3
      have hwx := HWI.out x (by rw [hxx]; exact List.getElem_mem _)
      have hx0 := (blk_cell hg _).trans q0
      have hx1 := (blk_cell hg _).trans q1
      have hx2 := (blk_cell hg _).trans q2
      have hx3 := (blk_cell hg _).trans q3
      have hx4 := (blk_cell hg _).trans q4
      have hx5 := (blk_cell hg _).trans q5
      have hx6 := (blk_cell hg _).trans q6
      obtain ⟨n5, hn5⟩ : ∃ n5, n5 = x.f5.length := ⟨_, rfl⟩
      obtain ⟨n6, hn6⟩ : ∃ n6, n6 = x.f6.length := ⟨_, rfl⟩
      obtain ⟨W1, hW1⟩ : ∃ W1, W1 = wO.alloc (.cells #[.string x.f0, .int .i64 x.f1, .string x.f2, .bool x.f3, .int .i64 x.f4, .slice A5 n5 c5, .slice A6 n6 c6] 32) := ⟨_, rfl⟩
      have hbW : Below wO.heap.size wO W1 := by rw [hW1]; exact below_alloc (Below.refl _ _) _
      have hgW : W1.heap[wO.heap.size]? = some (.cells #[.string x.f0, .int .i64 x.f1, .string x.f2, .bool x.f3, .int .i64 x.f4, .slice A5 n5 c5, .slice A6 n6 c6] 32 (0, 0)) := by rw [hW1]; exact heap_alloc_new wO _
      rw [← hn5] at hx5
      rw [← hn6] at hx6
      have HW1 := Lib.hid hW1
      have HBW := Lib.hid hbW
      have HGW := Lib.hid hgW
      have HX := Lib.hid (And.intro hg (And.intro hcs (And.intro hgl hx)))
      have HKB := Lib.hid (And.intro hk hb)
      have HQ := Lib.hid (And.intro q0 (And.intro q1 (And.intro q2 (And.intro q3 (And.intro q4 (And.intro q5 q6))))))
      have HC := Lib.hid (And.intro h5 (And.intro hC5 (And.intro h6 (And.intro hC6 hwx))))
      have HXG := Lib.hid (And.intro hxg (And.intro hn5 hn6))
      clear X hg hcs hgl hx hk hb hil hxx hxg q0 q1 q2 q3 q4 q5 q6 h5 hC5 h6 hC6 hwx hW1 hbW hgW hn5 hn6
      go_wp2
      rw [← HW1.out]
      clear hx0 hx1 hx2 hx3 hx4 hx5 hx6
      have hgE1 : W1.heap[w.heap.size]? = some (.cells #[.slice F0 n0 d0, .slice (some ⟨g, 0, none⟩) n d1] 36 (0, 0)) := blk_below ((HKB.out.1.2 _ (blk_lt HGE.out.1) (by omega)).trans HGE.out.1) HBW.out
      have hs_0 := (blk_cell hgE1 1).trans rfl
      have hs_1 := (blk_cell HGW.out 5).trans rfl
      have hs_2 := (blk_cell HGW.out 6).trans rfl
      have hOw : w.heap.size < wO.heap.size := Nat.lt_of_lt_of_le (blk_lt HGE.out.1) HKB.out.1.1
      refine sD_ [] (fun w' => w'.cell? ⟨w.heap.size, 1, none⟩ = some (.slice (some ⟨g, 0, none⟩) n d1) ∧ w'.cell? ⟨wO.heap.size, 5, none⟩ = some (.slice A5 n5 c5) ∧ w'.cell? ⟨wO.heap.size, 6, none⟩ = some (.slice A6 n6 c6)) 18 ⟨hs_0, hs_1, hs_2⟩ (fun hHeld => ?_)
      have hbO : Below wO.heap.size wO W1.drew := below_drew1 HBW.out
      have hgO1 : W1.drew.heap[w.heap.size]? = some (.cells #[.slice F0 n0 d0, .slice (some ⟨g, 0, none⟩) n d1] 36 (0, 0)) := hgE1
      have hgO2 : W1.drew.heap[wO.heap.size]? = some (.cells #[.string x.f0, .int .i64 x.f1, .string x.f2, .bool x.f3, .int .i64 x.f4, .slice A5 n5 c5, .slice A6 n6 c6] 32 (0, 0)) := HGW.out
      clear hs_0 hs_1 hs_2 hgE1
      generalize W1.drew = wP at hHeld hbO hgO1 hgO2 ⊢
      refine pu_ 0 (some 21) ?_
      refine tk_ 1 (some 22) hHeld ?_ (hy := by rintro w' ⟨s0, s1, s2⟩; go_simp; with_reducible rfl)
      refine pu_ 2 (some 23) ?_
      refine pu_ 3 (some 24) ?_
      refine tk_ 4 (some 25) hHeld ?_ (hy := by rintro w' ⟨s0, s1, s2⟩; go_simp; with_reducible rfl)
      refine pu_ 5 (some 26) ?_
      refine pu_ 6 (some 27) ?_
      refine tk_ 7 (some 28) hHeld ?_ (hy := by rintro w' ⟨s0, s1, s2⟩; go_simp; with_reducible rfl)
      refine pu_ 9 (some 30) ?_
      refine tk_ 10 (some 31) hHeld ?_ (hy := by rintro w' ⟨s0, s1, s2⟩; go_simp; with_reducible rfl)
      have hbwP := below_then HKB.out.2 HKB.out.2.size hbO
      have hcp5 := copied_any wP A5 c5 x.f5 (Kd.C_below HC.out.2.1 hbwP) HC.out.1 HC.out.2.2.2.2.1.1 HC.out.2.2.2.2.1.2
      rw [← HXG.out.2.1] at hcp5
      refine ca_ 8 (some 29) Try.func48 #[.slice A5 n5 c5] ?_
      refine hcp5.mono ?_
      rintro e w6 ⟨v5, rfl, hR5, hb6⟩
      obtain ⟨E5, e5, rfl⟩ := Kd.R_slice hR5
      rw [← HXG.out.2.1] at hR5 ⊢
      have hg61 := blk_below hgO1 hb6
      have hg62 := blk_below hgO2 hb6
      have hbO6 := below_then hbO hbO.size hb6
      have hbw6 := below_then hbwP hbwP.size hb6
      have hzP : wO.heap.size < wP.heap.size := blk_lt hgO2
      refine ⟨_, rfl, ⟨(blk_cell hg61 1).trans rfl, (blk_cell hg62 5).trans rfl, (blk_cell hg62 6).trans rfl⟩, fun hHeld => ⟨_, rfl, nz_ (some 29) ?_⟩⟩
      have hcp6 := copied_any w6 A6 c6 x.f6 (Kd.C_below HC.out.2.2.2.1 hbw6) HC.out.2.2.1 HC.out.2.2.2.2.2.1 HC.out.2.2.2.2.2.2
      rw [← HXG.out.2.2] at hcp6
      refine ca_ 11 (some 32) Try.func48 #[.slice A6 n6 c6] ?_
      refine hcp6.mono ?_
      rintro e w7 ⟨v6, rfl, hR6, hb7⟩
      obtain ⟨E6, e6, rfl⟩ := Kd.R_slice hR6
      rw [← HXG.out.2.2] at hR6 ⊢
      have hg71 := blk_below hg61 hb7
      have hg72 := blk_below hg62 hb7
      have hbO7 := below_then hbO6 hbO6.size hb7
      have hbw7 := below_then hbw6 hbw6.size hb7
      have hR57 := Kd.R_below hR5 hb7
      have hz6 : wP.heap.size ≤ w6.heap.size := hb6.size
      have hgO := blk_below HX.out.1 hbO7
      refine ⟨_, rfl, ⟨(blk_cell hg71 1).trans rfl, (blk_cell hg72 5).trans rfl, (blk_cell hg72 6).trans rfl⟩, fun hHeld => ⟨_, rfl, nz_ (some 32) ?_⟩⟩
      refine pu_ 12 (some 33) ?_
      refine pu_ 13 (some 34) ?_
      have hgg : g < wO.heap.size := HX.out.2.2.1
      have hx5 := (blk_cell hgO (i * 7 + 5)).trans HQ.out.2.2.2.2.2.1
      have hf5 := blk_frozen hgO (i * 7 + 5)
      refine oN_ 14 none (fun K hK => ?_)
      go_simp
      have hgO8 := blk_put hgO (i * 7 + 5) (.slice E5 n5 e5) rfl
      have hg81 := (Below.heap_setCell w7 ⟨g, i * 7 + 5, none⟩ (.slice E5 n5 e5) w.heap.size (show w.heap.size ≠ g by omega)).trans hg71
      have hg82 := (Below.heap_setCell w7 ⟨g, i * 7 + 5, none⟩ (.slice E5 n5 e5) wO.heap.size (show wO.heap.size ≠ g by omega)).trans hg72
      refine hK.out _ _ ⟨(blk_cell hg81 1).trans rfl, (blk_cell hg82 5).trans rfl, (blk_cell hg82 6).trans rfl⟩ (fun hHeld => ?_)
      clear hK K hx5 hf5
      refine pu_ 15 (some 35) ?_
      refine pu_ 16 (some 36) ?_
      have l6 := (Array.getElem?_eq_some_iff.1 HQ.out.2.2.2.2.2.2).1
      have hx6 : (w7.setCell ⟨g, i * 7 + 5, none⟩ (.slice E5 n5 e5)).cell? ⟨g, i * 7 + 6, none⟩ = some (.slice A6 x.f6.length c6) := (blk_cell hgO8 (i * 7 + 6)).trans ((Array.getElem?_setIfInBounds_ne (by omega)).trans HQ.out.2.2.2.2.2.2)
      have hf6 := blk_frozen hgO8 (i * 7 + 6)
      refine oN_ 17 none (fun K hK => ?_)
      go_simp
      have HF : Hid (cyInv w ((w7.setCell ⟨g, i * 7 + 5, none⟩ (.slice E5 n5 e5)).setCell ⟨g, i * 7 + 6, none⟩ (.slice E6 n6 e6)) wB.heap.size g d1 l (i + 1) ∧ Kept wE ((w7.setCell ⟨g, i * 7 + 5, none⟩ (.slice E5 n5 e5)).setCell ⟨g, i * 7 + 6, none⟩ (.slice E6 n6 e6)) (fun k => k = g) ∧ Below w.heap.size w ((w7.setCell ⟨g, i * 7 + 5, none⟩ (.slice E5 n5 e5)).setCell ⟨g, i * 7 + 6, none⟩ (.slice E6 n6 e6))) := Lib.hid (by
        have hgB : wB.heap.size ≤ g := by omega
        have l5 := (Array.getElem?_eq_some_iff.1 HQ.out.2.2.2.2.2.1).1
        refine ⟨⟨(cur.setIfInBounds (i * 7 + 5) (.slice E5 n5 e5)).setIfInBounds (i * 7 + 6) (.slice E6 n6 e6), blk_put hgO8 (i * 7 + 6) (.slice E6 n6 e6) rfl, by simp only [Array.size_setIfInBounds]; exact HX.out.2.1, ?_, fun j p hj => ?_⟩, ?_, ?_⟩
        · have := hbO7.size
          simpa [World.setCell] using Nat.lt_of_lt_of_le hgg this
        · by_cases hji : j = i
          · subst hji
            obtain rfl : x = p := Option.some.inj (HXG.out.1.symm.trans hj)
            obtain ⟨q0, q1, q2, q3, q4, q5, q6⟩ := HQ.out
            refine ⟨.slice E5 n5 e5, .slice E6 n6 e6, ⟨?_, ?_, ?_, ?_, ?_, ?_, ?_⟩, ?_⟩
            · rw [Array.getElem?_setIfInBounds_ne (by omega), Array.getElem?_setIfInBounds_ne (by omega)]; exact q0
            · rw [Array.getElem?_setIfInBounds_ne (by omega), Array.getElem?_setIfInBounds_ne (by omega)]; exact q1
            · rw [Array.getElem?_setIfInBounds_ne (by omega), Array.getElem?_setIfInBounds_ne (by omega)]; exact q2
            · rw [Array.getElem?_setIfInBounds_ne (by omega), Array.getElem?_setIfInBounds_ne (by omega)]; exact q3
            · rw [Array.getElem?_setIfInBounds_ne (by omega), Array.getElem?_setIfInBounds_ne (by omega)]; exact q4
            · rw [Array.getElem?_setIfInBounds_ne (by omega), Array.getElem?_setIfInBounds_self_of_lt l5]
            · rw [Array.getElem?_setIfInBounds_self_of_lt (by simpa using l6)]
            · rw [if_pos (by omega)]
              have far : ∀ {α : Type} {d : Kd α} {e base : Nat} {v : Value} {xs : List α}, g < base → wB.heap.size ≤ base → d.R e w7 base (fun _ => True) v xs → d.R e ((w7.setCell ⟨g, j * 7 + 5, none⟩ (.slice E5 n5 e5)).setCell ⟨g, j * 7 + 6, none⟩ (.slice E6 n6 e6)) wB.heap.size (fun k => True ∧ k ≠ g) v xs := fun hg1 hg2 h =>
                Kd.R_lower (Kd.R_mono (Kd.R_far (Kd.R_far (Kd.R_bound h) (p := ⟨g, j * 7 + 5, none⟩) (fun k hk => by have := hk.2.1; show k ≠ g; omega) _) (p := ⟨g, j * 7 + 6, none⟩) (fun k hk => by have := hk.2.1; show k ≠ g; omega) _) (fun k hk => ⟨trivial, by have := hk.2.1; omega⟩)) hg2
              exact ⟨far (by omega) (by omega) hR57, far (by omega) (by omega) hR6⟩
          · obtain ⟨u5, u6, ⟨q0, q1, q2, q3, q4, q5, q6⟩, h3⟩ := HX.out.2.2.2 j p hj
            refine ⟨u5, u6, ⟨?_, ?_, ?_, ?_, ?_, ?_, ?_⟩, ?_⟩
            · rw [Array.getElem?_setIfInBounds_ne (by omega), Array.getElem?_setIfInBounds_ne (by omega)]; exact q0
            · rw [Array.getElem?_setIfInBounds_ne (by omega), Array.getElem?_setIfInBounds_ne (by omega)]; exact q1
            · rw [Array.getElem?_setIfInBounds_ne (by omega), Array.getElem?_setIfInBounds_ne (by omega)]; exact q2
            · rw [Array.getElem?_setIfInBounds_ne (by omega), Array.getElem?_setIfInBounds_ne (by omega)]; exact q3
            · rw [Array.getElem?_setIfInBounds_ne (by omega), Array.getElem?_setIfInBounds_ne (by omega)]; exact q4
            · rw [Array.getElem?_setIfInBounds_ne (by omega), Array.getElem?_setIfInBounds_ne (by omega)]; exact q5
            · rw [Array.getElem?_setIfInBounds_ne (by omega), Array.getElem?_setIfInBounds_ne (by omega)]; exact q6
            · by_cases hlt' : j < i
              · rw [if_pos hlt'] at h3
                rw [if_pos (by omega)]
                have stp : ∀ {α : Type} {d : Kd α} {e base : Nat} {v : Value} {xs : List α}, d.R e wO base (fun k => True ∧ k ≠ g) v xs → d.R e ((w7.setCell ⟨g, i * 7 + 5, none⟩ (.slice E5 n5 e5)).setCell ⟨g, i * 7 + 6, none⟩ (.slice E6 n6 e6)) base (fun k => True ∧ k ≠ g) v xs := fun h => Kd.R_step h (fun k hk hkl => (Below.heap_setCell _ _ _ _ hk.2).trans ((Below.heap_setCell _ _ _ _ hk.2).trans (hbO7.block k hkl)))
                exact ⟨stp h3.1, stp h3.2⟩
              · rw [if_neg hlt'] at h3
                rw [if_neg (by omega)]
                exact h3
        · exact ((HKB.out.1.below hbO7).setCell (p := ⟨g, i * 7 + 5, none⟩) (.inl rfl) _).setCell (p := ⟨g, i * 7 + 6, none⟩) (.inl rfl) _
        · exact (hbw7.setCell (show w.heap.size ≤ g by omega) _).setCell (show w.heap.size ≤ g by omega) _)
      have hg91 := (Below.heap_setCell (w7.setCell ⟨g, i * 7 + 5, none⟩ (.slice E5 n5 e5)) ⟨g, i * 7 + 6, none⟩ (.slice E6 n6 e6) w.heap.size (show w.heap.size ≠ g by omega)).trans hg81
      have hg92 := (Below.heap_setCell (w7.setCell ⟨g, i * 7 + 5, none⟩ (.slice E5 n5 e5)) ⟨g, i * 7 + 6, none⟩ (.slice E6 n6 e6) wO.heap.size (show wO.heap.size ≠ g by omega)).trans hg82
      refine hK.out _ _ ⟨(blk_cell hg91 1).trans rfl, (blk_cell hg92 5).trans rfl, (blk_cell hg92 6).trans rfl⟩ (fun _ => ?_)
      clear hK K hx6 hf6 hg91 hg92 hg81 hg82 hgO8 hgO hR5 hR6 hR57 hg61 hg62 hg71 hg72 hHeld hcp5 hcp6 hgO1 hgO2
      refine dn_ ?_
      go_wp2
      go_roundg (n - (i + 1))
      case measure => omega
      case rel => exact ⟨i + 1, by go_num, by omega, by omega, HF⟩
end Go.Proofs.Ytchellnfenekaaa.Pm
end
section
namespace Go.Proofs.Ytchellnfenekaaa.Pm
open Go.RowKit Go.Proofs.YtchellnfenekaaaW.PrintWords Go.Proofs.YtchellnfenekaaaW.PrintLast Go.Proofs.YtchellnfenekaaaW.PrintMore
attribute [local go_sem] max2_int min2_int max_two min_two max_three min_three max_four min_four   -- for this text's walks alone
set_option linter.unusedVariables false
set_option linter.unusedSimpArgs false
open OpenKd
def wideM (fs : List ByteArray) (l : List (S32)) : Prop := fs.length * 16 ≤ 140737488355328 ∧ l.length * 104 ≤ 140737488355328 ∧ ∀ x ∈ l, wideItem x
def wS (s : S29) : Prop := s.f0.length * 24 ≤ 140737488351232 ∧ s.f1.length * 40 ≤ 140737488351232
def wI (x : S32) : Prop := x.f0.size ≤ 140737488351232 ∧ x.f2.size ≤ 140737488351232 ∧ (x.f5.length * 48 ≤ 140737488351232 ∧ ∀ s ∈ x.f5, wS s) ∧ (x.f6.length * 48 ≤ 140737488351232 ∧ ∀ s ∈ x.f6, wS s)
section
variable {H : Type} {enc : TypeId × Value → H} {w : World}
set_option maxRecDepth 100000 in
theorem opensW_ons : Opens enc Try.prog w 27 (Kd.slice 39 k39) (fun xs => xs.length * 24 ≤ 140737488351232) :=
  Opens.imp (opens_slice Try.underlying27 (by kernel_rfl) opens_on) (fun xs h => by have := h.1; rw [show Try.prog.bytesOf 39 = 24 by kernel_rfl] at this; omega)
set_option maxRecDepth 100000 in
theorem opensW_conds : Opens enc Try.prog w 26 (Kd.slice 25 k25) (fun xs => xs.length * 40 ≤ 140737488351232) :=
  Opens.imp (opens_slice Try.underlying26 (by kernel_rfl) opens_cond) (fun xs h => by have := h.1; rw [show Try.prog.bytesOf 25 = 40 by kernel_rfl] at this; omega)
set_option maxRecDepth 100000 in
theorem opensW_sentry : Opens enc Try.prog w 29 k29 wS :=
  Opens.imp (opens_struct Try.underlying29 (by kernel_rfl) (opens_cons rfl opensW_ons rfl (opens_last rfl opensW_conds)) (fun a => ⟨a.1, a.2⟩) (fun _ => rfl)) (fun _ h => h)
set_option maxRecDepth 100000 in
theorem opensW_sentries : Opens enc Try.prog w 30 (Kd.slice 29 k29) (fun xs => xs.length * 48 ≤ 140737488351232 ∧ ∀ s ∈ xs, wS s) :=
  Opens.imp (opens_slice Try.underlying30 (by kernel_rfl) opensW_sentry) (fun xs h => ⟨by have := h.1; rw [show Try.prog.bytesOf 29 = 48 by kernel_rfl] at this; omega, h.2⟩)
set_option maxRecDepth 100000 in
theorem opensW_item : Opens enc Try.prog w 32 k32 wI :=
  Opens.imp (opens_struct Try.underlying32 (by kernel_rfl) (opens_cons rfl (opens_string Try.underlying9 (by kernel_rfl)) rfl (opens_cons rfl (opens_int Try.underlying3 (by kernel_rfl)) rfl (opens_cons rfl (opens_string Try.underlying9 (by kernel_rfl)) rfl (opens_cons rfl (opens_bool Try.underlying4 (by kernel_rfl)) rfl (opens_cons rfl (opens_int Try.underlying3 (by kernel_rfl)) rfl (opens_cons rfl opensW_sentries rfl (opens_last rfl opensW_sentries)))))))
    (fun a => ⟨a.1, a.2.1, a.2.2.1, a.2.2.2.1, a.2.2.2.2.1, a.2.2.2.2.2.1, a.2.2.2.2.2.2⟩) (fun _ => rfl)) (fun x h => ⟨h.1, h.2.2.1, h.2.2.2.2.2.1, h.2.2.2.2.2.2⟩)
set_option maxRecDepth 100000 in
theorem opensW_items : Opens enc Try.prog w 34 (Kd.slice 32 k32) (fun xs => xs.length * 104 ≤ 140737488351232 ∧ ∀ x ∈ xs, wI x) :=
  Opens.imp (opens_slice Try.underlying34 (by kernel_rfl) opensW_item) (fun xs h => ⟨by have := h.1; rw [show Try.prog.bytesOf 32 = 104 by kernel_rfl] at this; omega, h.2⟩)
theorem wS_good {s : S29} (h : wS s) : goodSentry s := by have := h.1; have := h.2; constructor <;> omega
theorem wI_good {x : S32} (h : wI x) : goodItem x := by
  obtain ⟨h0, h2, h5, h6⟩ := h
  refine ⟨h0, h2, by have := h5.1; omega, by have := h6.1; omega, fun s hs => wS_good (h5.2 s hs), fun s hs => wS_good (h6.2 s hs)⟩
theorem wI_wide {x : S32} (h : wI x) : wideItem x := by
  obtain ⟨h0, h2, h5, h6⟩ := h
  exact ⟨⟨by have := h5.1; omega, fun s hs => by have := h5.2 s hs; have := this.1; have := this; have h2 := (h5.2 s hs).2; constructor <;> omega⟩, ⟨by have := h6.1; omega, fun s hs => by have := (h6.2 s hs).1; have h2 := (h6.2 s hs).2; constructor <;> omega⟩⟩
end
end Go.Proofs.Ytchellnfenekaaa.Pm
end
section
namespace Go.Proofs.Ytchellnfenekaaa.Pm
open Go.RowKit Go.Proofs.YtchellnfenekaaaW.PrintWords Go.Proofs.YtchellnfenekaaaW.PrintLast Go.Proofs.YtchellnfenekaaaW.PrintMore
attribute [local go_sem] max2_int min2_int max_two min_two max_three min_three max_four min_four   -- for this text's walks alone
set_option linter.unusedVariables false
set_option linter.unusedSimpArgs false
mutual
def sentryref4_Legal.j0 : Nat → Int → Int → Bool → Option (Bool)
 | 0, _, _, _ => none
 | k + 1, x0, x1, x10 => if x10 = true then (some false) else (if x1 = 1 then (sentryref4_Legal.j1 k x0 x1 (x1 == 1)) else (sentryref4_Legal.j1 k x0 x1 (x1 == 5)))
def sentryref4_Legal.j1 : Nat → Int → Int → Bool → Option (Bool)
 | 0, _, _, _ => none
 | k + 1, x0, x11, x12 => if x12 = true then (some true) else (if x11 = 2 then (sentryref4_Legal.j2 k x0 x11 (x11 == 2)) else (sentryref4_Legal.j2 k x0 x11 (x11 == 3)))
def sentryref4_Legal.j2 : Nat → Int → Int → Bool → Option (Bool)
 | 0, _, _, _ => none
 | k + 1, x0, x11, x15 => if x15 = true then (some (decide (x0 ≤ 2))) else (if x11 = 4 then (some (decide (x0 > 2))) else (some false))
end
def sentryref4_Legal.f (k : Nat) (a0 : Int) (a1 : Int) : Option (Bool) := if a0 < 1 then (sentryref4_Legal.j0 k a0 a1 true) else (sentryref4_Legal.j0 k a0 a1 (decide (a0 > 5)))
theorem sentryref4_Legal.mono_l : ∀ k, (∀ y0 y1 y2, LeO (sentryref4_Legal.j0 k y0 y1 y2) (sentryref4_Legal.j0 (k + 1) y0 y1 y2)) ∧ (∀ y0 y1 y2, LeO (sentryref4_Legal.j1 k y0 y1 y2) (sentryref4_Legal.j1 (k + 1) y0 y1 y2)) ∧ (∀ y0 y1 y2, LeO (sentryref4_Legal.j2 k y0 y1 y2) (sentryref4_Legal.j2 (k + 1) y0 y1 y2))
 | 0 => ⟨fun _ _ _ r h => by simp [sentryref4_Legal.j0] at h, fun _ _ _ r h => by simp [sentryref4_Legal.j1] at h, fun _ _ _ r h => by simp [sentryref4_Legal.j2] at h⟩
 | k + 1 => by
  obtain ⟨ih0, ih1, ih2⟩ := sentryref4_Legal.mono_l k
  refine ⟨?_, ?_, ?_⟩
  intro y0 y1 y2
  unfold sentryref4_Legal.j0
  rotate_left
  intro y0 y1 y2
  unfold sentryref4_Legal.j1
  rotate_left
  intro y0 y1 y2
  unfold sentryref4_Legal.j2
  rotate_left
  all_goals repeat' first
   | (with_reducible exact ih0 _ _ _)
   | (with_reducible exact ih1 _ _ _)
   | (with_reducible exact ih2 _ _ _)
   | (with_reducible exact LeO.refl _)
   | (with_reducible exact LeO.none _)
   | (with_reducible refine LeO.ite ?_ ?_)
   | (with_reducible refine LeO.bind ?_ (fun _ => ?_))
   | exact ih0 _ _ _
   | exact ih1 _ _ _
   | exact ih2 _ _ _
   | exact LeO.none _
   | refine LeO.ite ?_ ?_
   | refine LeO.bind ?_ (fun _ => ?_)
theorem sentryref4_Legal.mono : ∀ a0 a1 k, LeO (sentryref4_Legal.f k a0 a1) (sentryref4_Legal.f (k + 1) a0 a1) := by
 intro a0 a1 k
 obtain ⟨ih0, ih1, ih2⟩ := sentryref4_Legal.mono_l k
 unfold sentryref4_Legal.f
 repeat' first
   | (with_reducible exact ih0 _ _ _)
   | (with_reducible exact ih1 _ _ _)
   | (with_reducible exact ih2 _ _ _)
   | (with_reducible exact LeO.refl _)
   | (with_reducible exact LeO.none _)
   | (with_reducible refine LeO.ite ?_ ?_)
   | (with_reducible refine LeO.bind ?_ (fun _ => ?_))
   | exact ih0 _ _ _
   | exact ih1 _ _ _
   | exact ih2 _ _ _
   | exact LeO.none _
   | refine LeO.ite ?_ ?_
   | refine LeO.bind ?_ (fun _ => ?_)
set_option maxHeartbeats 8000000 in
set_option maxRecDepth 100000 in
theorem sentryref4_Legal.calls (k : Nat) (a0 : Int) (a1 : Int) (r : Bool) (w : World) (h : sentryref4_Legal.f k a0 a1 = some r) :
  Calls Try.prog 13 #[.int .i64 a0, .int .i64 a1] w fun e w' => e = .returned (.bool r) ∧ Drawn0 w w' := by
 have H : (if a0 < 1 then (sentryref4_Legal.j0 k a0 a1 true) else (sentryref4_Legal.j0 k a0 a1 (decide (a0 > 5)))) = some r := h
 clear h
 have HC3 := Aside0.mk H
 clear H
 go_enter Try.func13, Try.ntmps13
 go_upto_region 1 with (fail)
 go_cut [10] (fun v10 wc => ∃ (kq : Nat) (x10_2 : Bool), v10 = .bool x10_2 ∧ Aside0 (sentryref4_Legal.j0 kq a0 a1 x10_2 = some r) ∧ Aside0 (kq ≤ k) ∧ Drawn0 w wc)
 case first =>
  have H := HC3.out
  clear HC3
  by_cases c4 : a0 < 1
  ·rw [if_pos c4] at H
   have c4b0 : decide (a0 < 1) = true := decide_eq_true c4
   clear c4
   (first | rw [c4b0] | (simp only [i64_w, i32_w]; rw [c4b0]) | skip)
   have H' := Aside0.mk H
   clear H
   go_wp2
   go_meet
   case rel => exact ⟨_, (true), (by first | rfl | (simp; done) | (simp [*]; done)), H', ⟨by first | omega | exact Nat.le_refl _⟩, by repeat (first | exact Drawn0.refl _ | apply Drawn0.step)⟩
  ·rw [if_neg c4] at H
   have c4b0 : decide (a0 < 1) = false := decide_eq_false c4
   clear c4
   (first | rw [c4b0] | (simp only [i64_w, i32_w]; rw [c4b0]) | skip)
   have H' := Aside0.mk H
   clear H
   go_wp2
   go_meet
   case rel => exact ⟨_, (decide (a0 > 5)), (by first | rfl | (simp; done) | (simp [*]; done)), H', ⟨by first | omega | exact Nat.le_refl _⟩, by repeat (first | exact Drawn0.refl _ | apply Drawn0.step)⟩
 case rest =>
  clear HC3
  (try clear c1); (try clear p2); (try clear c4); (try clear c4b0)
  obtain ⟨kq, x10_2, rfl, HA, HJ2, ⟨mc2, rfl⟩⟩ := hcut
  cases kq with
  | zero => exact absurd HA.out (by simp [sentryref4_Legal.j0])
  | succ kj2 =>
   have H := HA.out
   clear HA
   simp only [sentryref4_Legal.j0] at H
   by_cases c5 : x10_2 = true
   ·subst c5
    have H1 : (some false) = some r := by rw [if_pos rfl] at H; exact H
    clear H
    have H := H1
    clear H1
    obtain rfl := Option.some.inj H
    go_wp2
    go_ret
    exact ⟨by first | rfl | (simp; done) | (simp [*]; done), by repeat (first | exact Drawn0.refl _ | apply Drawn0.step)⟩
   ·replace c5 := Bool.eq_false_iff.mpr c5
    subst c5
    have H1 : (if a1 = 1 then (sentryref4_Legal.j1 kj2 a0 a1 (a1 == 1)) else (sentryref4_Legal.j1 kj2 a0 a1 (a1 == 5))) = some r := by rw [if_neg (show ¬ (false = true) by decide)] at H; exact H
    clear H
    have H := H1
    clear H1
    have HC6 := Aside0.mk H
    clear H
    go_upto_if 12 with (fail)
    go_cut [12] (fun v12 wc => ∃ (kq : Nat) (x12_5 : Bool), v12 = .bool x12_5 ∧ Aside0 (sentryref4_Legal.j1 kq a0 a1 x12_5 = some r) ∧ Aside0 (kq ≤ kj2) ∧ Drawn0 w wc)
    case first =>
     have H := HC6.out
     clear HC6
     by_cases c7 : a1 = 1
     ·rw [if_pos c7] at H
      have c7b0 : (a1 == 1) = true := beq_iff_eq.mpr c7
      have c7b1 : (a1 != 1) = false := bne_eq_false_iff_eq.mpr c7
      clear c7
      (first | rw [c7b0] | (simp only [i64_w, i32_w]; rw [c7b0]) | skip)
      have H' := Aside0.mk H
      clear H
      go_wp2
      go_meet
      case rel => exact ⟨_, ((a1 == 1)), (by first | rfl | (simp; done) | (simp [*]; done)), H', ⟨by have := HJ2.out; first | omega | exact Nat.le_refl _⟩, by repeat (first | exact Drawn0.refl _ | apply Drawn0.step)⟩
     ·rw [if_neg c7] at H
      have c7b0 : (a1 == 1) = false := beq_eq_false_iff_ne.mpr c7
      have c7b1 : (a1 != 1) = true := bne_iff_ne.mpr c7
      (first | rw [c7b0] | (simp only [i64_w, i32_w]; rw [c7b0]) | skip)
      have H' := Aside0.mk H
      clear H
      go_wp2
      go_meet
      case rel => exact ⟨_, ((a1 == 5)), (by first | rfl | (simp; done) | (simp [*]; done)), H', ⟨by have := HJ2.out; first | omega | exact Nat.le_refl _⟩, by repeat (first | exact Drawn0.refl _ | apply Drawn0.step)⟩
    case rest =>
     clear HC6
     (try clear c1); (try clear c2); (try clear p2); (try clear c4); (try clear c4b0); (try clear c5); (try clear c7); (try clear c7b0); (try clear c7b1); (try clear p2)
     obtain ⟨kq, x12_5, rfl, HA, HJ5, ⟨mc5, rfl⟩⟩ := hcut
     cases kq with
     | zero => exact absurd HA.out (by simp [sentryref4_Legal.j1])
     | succ kj5 =>
      have H := HA.out
      clear HA
      simp only [sentryref4_Legal.j1] at H
      by_cases c8 : x12_5 = true
      ·subst c8
       have H1 : (some true) = some r := by rw [if_pos rfl] at H; exact H
       clear H
       have H := H1
       clear H1
       obtain rfl := Option.some.inj H
       go_wp2
       go_ret
       exact ⟨by first | rfl | (simp; done) | (simp [*]; done), by repeat (first | exact Drawn0.refl _ | apply Drawn0.step)⟩
      ·replace c8 := Bool.eq_false_iff.mpr c8
       subst c8
       have H1 : (if a1 = 2 then (sentryref4_Legal.j2 kj5 a0 a1 (a1 == 2)) else (sentryref4_Legal.j2 kj5 a0 a1 (a1 == 3))) = some r := by rw [if_neg (show ¬ (false = true) by decide)] at H; exact H
       clear H
       have H := H1
       clear H1
       have HC9 := Aside0.mk H
       clear H
       go_upto_if 15 with (fail)
       go_cut [15] (fun v15 wc => ∃ (kq : Nat) (x15_8 : Bool), v15 = .bool x15_8 ∧ Aside0 (sentryref4_Legal.j2 kq a0 a1 x15_8 = some r) ∧ Aside0 (kq ≤ kj5) ∧ Drawn0 w wc)
       case first =>
        have H := HC9.out
        clear HC9
        by_cases c10 : a1 = 2
        ·rw [if_pos c10] at H
         have c10b0 : (a1 == 2) = true := beq_iff_eq.mpr c10
         have c10b1 : (a1 != 2) = false := bne_eq_false_iff_eq.mpr c10
         clear c10
         (first | rw [c10b0] | (simp only [i64_w, i32_w]; rw [c10b0]) | skip)
         have H' := Aside0.mk H
         clear H
         go_wp2
         go_meet
         case rel => exact ⟨_, ((a1 == 2)), (by first | rfl | (simp; done) | (simp [*]; done)), H', ⟨by have := HJ2.out; have := HJ5.out; first | omega | exact Nat.le_refl _⟩, by repeat (first | exact Drawn0.refl _ | apply Drawn0.step)⟩
        ·rw [if_neg c10] at H
         have c10b0 : (a1 == 2) = false := beq_eq_false_iff_ne.mpr c10
         have c10b1 : (a1 != 2) = true := bne_iff_ne.mpr c10
         (first | rw [c10b0] | (simp only [i64_w, i32_w]; rw [c10b0]) | skip)
         have H' := Aside0.mk H
         clear H
         go_wp2
         go_meet
         case rel => exact ⟨_, ((a1 == 3)), (by first | rfl | (simp; done) | (simp [*]; done)), H', ⟨by have := HJ2.out; have := HJ5.out; first | omega | exact Nat.le_refl _⟩, by repeat (first | exact Drawn0.refl _ | apply Drawn0.step)⟩
       case rest =>
        clear HC9
        (try clear c1); (try clear c2); (try clear p2); (try clear c4); (try clear c4b0); (try clear c5); (try clear c7); (try clear c7b0); (try clear c7b1); (try clear c8); (try clear c10); (try clear c10b0); (try clear c10b1); (try clear p2)
        obtain ⟨kq, x15_8, rfl, HA, HJ8, ⟨mc8, rfl⟩⟩ := hcut
        cases kq with
        | zero => exact absurd HA.out (by simp [sentryref4_Legal.j2])
        | succ kj8 =>
         have H := HA.out
         clear HA
         simp only [sentryref4_Legal.j2] at H
         by_cases c11 : x15_8 = true
         ·subst c11
          have H1 : (some (decide (a0 ≤ 2))) = some r := by rw [if_pos rfl] at H; exact H
          clear H
          have H := H1
          clear H1
          obtain rfl := Option.some.inj H
          go_wp2
          go_ret
          exact ⟨by first | rfl | (simp; done) | (simp [*]; done), by repeat (first | exact Drawn0.refl _ | apply Drawn0.step)⟩
         ·replace c11 := Bool.eq_false_iff.mpr c11
          subst c11
          have H1 : (if a1 = 4 then (some (decide (a0 > 2))) else (some false)) = some r := by rw [if_neg (show ¬ (false = true) by decide)] at H; exact H
          clear H
          have H := H1
          clear H1
          by_cases c12 : a1 = 4
          ·rw [if_pos c12] at H
           have c12b0 : (a1 == 4) = true := beq_iff_eq.mpr c12
           have c12b1 : (a1 != 4) = false := bne_eq_false_iff_eq.mpr c12
           clear c12
           obtain rfl := Option.some.inj H
           go_wp2
           go_ret
           exact ⟨by first | rfl | (simp; done) | (simp [*]; done), by repeat (first | exact Drawn0.refl _ | apply Drawn0.step)⟩
          ·rw [if_neg c12] at H
           have c12b0 : (a1 == 4) = false := beq_eq_false_iff_ne.mpr c12
           have c12b1 : (a1 != 4) = true := bne_iff_ne.mpr c12
           obtain rfl := Option.some.inj H
           go_wp2
           go_ret
           exact ⟨by first | rfl | (simp; done) | (simp [*]; done), by repeat (first | exact Drawn0.refl _ | apply Drawn0.step)⟩
end Go.Proofs.Ytchellnfenekaaa.Pm
end
section
namespace Go.Proofs.Ytchellnfenekaaa.Pm
open Go.RowKit Go.Proofs.YtchellnfenekaaaW.PrintWords Go.Proofs.YtchellnfenekaaaW.PrintLast Go.Proofs.YtchellnfenekaaaW.PrintMore
attribute [local go_sem] max2_int min2_int max_two min_two max_three min_three max_four min_four   -- for this text's walks alone
set_option linter.unusedVariables false
set_option linter.unusedSimpArgs false
end Go.Proofs.Ytchellnfenekaaa.Pm
end
section
namespace Go.Proofs.Ytchellnfenekaaa.Pm
open Go.RowKit Go.Proofs.YtchellnfenekaaaW.PrintWords Go.Proofs.YtchellnfenekaaaW.PrintLast Go.Proofs.YtchellnfenekaaaW.PrintMore
attribute [local go_sem] max2_int min2_int max_two min_two max_three min_three max_four min_four   -- for this text's walks alone
set_option linter.unusedVariables false
set_option linter.unusedSimpArgs false
def sentryref4_File.l0 : Nat → List ByteArray → ByteArray → Int → Option (Bool)
 | 0, _, _, _ => none
 | k + 1, x0, x1, x5 => if x5 < (x0.length : Int) then (if 0 ≤ x5 then (if (rdOf ByteArray.empty x0 x5).toList = x1.toList then (some true) else (sentryref4_File.l0 k x0 x1 (wrap64 (x5 + 1)))) else (none)) else (some false)
def sentryref4_File.f (k : Nat) (l0 : List ByteArray) (a1 : ByteArray) : Option (Bool) := sentryref4_File.l0 k l0 a1 0
theorem sentryref4_File.mono_l : ∀ k, (∀ y0 y1 y2, LeO (sentryref4_File.l0 k y0 y1 y2) (sentryref4_File.l0 (k + 1) y0 y1 y2))
 | 0 => fun _ _ _ r h => by simp [sentryref4_File.l0] at h
 | k + 1 => by
  have ih0 := sentryref4_File.mono_l k
  ·intro y0 y1 y2
   unfold sentryref4_File.l0
   repeat' first
   | (with_reducible exact ih0 _ _ _)
   | (with_reducible exact LeO.refl _)
   | (with_reducible exact LeO.none _)
   | (with_reducible refine LeO.ite ?_ ?_)
   | (with_reducible refine LeO.bind ?_ (fun _ => ?_))
   | exact ih0 _ _ _
   | exact LeO.none _
   | refine LeO.ite ?_ ?_
   | refine LeO.bind ?_ (fun _ => ?_)
theorem sentryref4_File.mono : ∀ a0 a1 k, LeO (sentryref4_File.f k a0 a1) (sentryref4_File.f (k + 1) a0 a1) := by
 intro a0 a1 k
 have ih0 := sentryref4_File.mono_l k
 unfold sentryref4_File.f
 repeat' first
   | (with_reducible exact ih0 _ _ _)
   | (with_reducible exact LeO.refl _)
   | (with_reducible exact LeO.none _)
   | (with_reducible refine LeO.ite ?_ ?_)
   | (with_reducible refine LeO.bind ?_ (fun _ => ?_))
   | exact ih0 _ _ _
   | exact LeO.none _
   | refine LeO.ite ?_ ?_
   | refine LeO.bind ?_ (fun _ => ?_)
set_option maxHeartbeats 8000000 in
set_option maxRecDepth 100000 in
theorem sentryref4_File.calls (k : Nat) (A0 : Option Addr) (c0 : Nat) (l0 : List ByteArray) (a1 : ByteArray) (r : Bool) (w : World) (hr0 : Kd.C Kd.string w A0 l0.length l0) (hc0 : l0.length ≤ c0) (h : sentryref4_File.f k l0 a1 = some r) :
  Calls Try.prog 40 #[.slice A0 l0.length c0, .string a1] w fun e w' => e = .returned (.bool r) ∧ Drawn0 w w' := by
 have HR0 := Aside0.mk hr0
 have HC0 := Aside0.mk hc0
 clear hr0 hc0
 have H : (sentryref4_File.l0 k l0 a1 0) = some r := h
 clear h
 have H' := Aside0.mk H
 clear H
 go_enter Try.func40, Try.ntmps40
 go_wp2
 go_loopg [5] k (fun kq v5 w' => ∃ (x5_1 : Int), v5 = .int .i64 x5_1 ∧ Aside0 (sentryref4_File.l0 kq l0 a1 x5_1 = some r) ∧ Aside0 (kq ≤ k) ∧ Drawn0 w w')
 case atStart => exact ⟨(0), (by first | rfl | (simp; done) | (simp [*]; done)), H', ⟨Nat.le_refl _⟩, by repeat (first | exact Drawn0.refl _ | apply Drawn0.step)⟩
 case round =>
  clear H'
  try clear p2
  obtain ⟨x5_1, rfl, HA, HK1, ⟨m1, rfl⟩⟩ := hrel
  cases gk with
  | zero => exact absurd HA.out (by simp [sentryref4_File.l0])
  | succ k1 =>
   have H := HA.out
   clear HA
   simp only [sentryref4_File.l0] at H
   by_cases c3 : x5_1 < (l0.length : Int)
   ·rw [if_pos c3] at H
    have c3b0 : decide (x5_1 < (l0.length : Int)) = true := decide_eq_true c3
    clear c3
    by_cases c4 : 0 ≤ x5_1
    ·rw [if_pos c4] at H
     have c4b0 : decide (0 ≤ x5_1) = true := decide_eq_true c4
     clear c4
     by_cases c5 : (rdOf ByteArray.empty l0 x5_1).toList = a1.toList
     ·rw [if_pos c5] at H
      have c5b0 : ((rdOf ByteArray.empty l0 x5_1).toList == a1.toList) = true := beq_iff_eq.mpr c5
      have c5b1 : ((rdOf ByteArray.empty l0 x5_1).toList != a1.toList) = false := bne_eq_false_iff_eq.mpr c5
      clear c5
      obtain rfl := Option.some.inj H
      have p165 : 0 ≤ (x5_1 : Int) := od_
      have q165 : x5_1 < (l0.length : Int) := od_
      obtain ⟨ad165, e165, hx165_0⟩ := Kd.at_string HR0.out x5_1 p165 q165
      cases e165
      replace p165 := eq_true p165
      replace q165 := eq_true q165
      go_wp2
      go_ret
      exact ⟨by first | rfl | (simp; done) | (simp [*]; done), by repeat (first | exact Drawn0.refl _ | apply Drawn0.step)⟩
     ·rw [if_neg c5] at H
      have c5b0 : ((rdOf ByteArray.empty l0 x5_1).toList == a1.toList) = false := beq_eq_false_iff_ne.mpr c5
      have c5b1 : ((rdOf ByteArray.empty l0 x5_1).toList != a1.toList) = true := bne_iff_ne.mpr c5
      have H' := Aside0.mk H
      clear H
      have p165 : 0 ≤ (x5_1 : Int) := od_
      have q165 : x5_1 < (l0.length : Int) := od_
      obtain ⟨ad165, e165, hx165_0⟩ := Kd.at_string HR0.out x5_1 p165 q165
      cases e165
      replace p165 := eq_true p165
      replace q165 := eq_true q165
      go_wp2
      go_roundg k1
      case measure => have := HK1.out; omega
      case rel => exact ⟨(wrap64 (x5_1 + 1)), (by first | rfl | (simp; done) | (simp [*]; done)), H', ⟨by have := HK1.out; omega⟩, by repeat (first | exact Drawn0.refl _ | apply Drawn0.step)⟩
    ·rw [if_neg c4] at H
     exact absurd H (by simp)
   ·rw [if_neg c3] at H
    have c3b0 : decide (x5_1 < (l0.length : Int)) = false := decide_eq_false c3
    clear c3
    obtain rfl := Option.some.inj H
    go_wp2
    go_ret
    exact ⟨by first | rfl | (simp; done) | (simp [*]; done), by repeat (first | exact Drawn0.refl _ | apply Drawn0.step)⟩
end Go.Proofs.Ytchellnfenekaaa.Pm
end
section
namespace Go.Proofs.Ytchellnfenekaaa.Pm
open Go.RowKit Go.Proofs.YtchellnfenekaaaW.PrintWords Go.Proofs.YtchellnfenekaaaW.PrintLast Go.Proofs.YtchellnfenekaaaW.PrintMore
attribute [local go_sem] max2_int min2_int max_two min_two max_three min_three max_four min_four   -- for this text's walks alone
set_option linter.unusedVariables false
set_option linter.unusedSimpArgs false
def sentryref4_Op.l0 : Nat → ByteArray → List ByteArray → Int → Option (Int)
 | 0, _, _, _ => none
 | k + 1, x0, x3, x4 => if x4 < (x3.length : Int) then (if 0 ≤ x4 then (if (rdOf ByteArray.empty x3 x4).toList = x0.toList then (some x4) else (sentryref4_Op.l0 k x0 x3 (wrap64 (x4 + 1)))) else (none)) else (some (-1))
def sentryref4_Op.f (k : Nat) (a0 : ByteArray) : Option (Int) := sentryref4_Op.l0 k a0 (([(⟨#[60]⟩ : ByteArray), (⟨#[60, 61]⟩ : ByteArray), (⟨#[61]⟩ : ByteArray), (⟨#[33, 61]⟩ : ByteArray), (⟨#[62, 61]⟩ : ByteArray), (⟨#[62]⟩ : ByteArray)] : List ByteArray)) 0
theorem sentryref4_Op.mono_l : ∀ k, (∀ y0 y1 y2, LeO (sentryref4_Op.l0 k y0 y1 y2) (sentryref4_Op.l0 (k + 1) y0 y1 y2))
 | 0 => fun _ _ _ r h => by simp [sentryref4_Op.l0] at h
 | k + 1 => by
  have ih0 := sentryref4_Op.mono_l k
  ·intro y0 y1 y2
   unfold sentryref4_Op.l0
   repeat' first
   | (with_reducible exact ih0 _ _ _)
   | (with_reducible exact LeO.refl _)
   | (with_reducible exact LeO.none _)
   | (with_reducible refine LeO.ite ?_ ?_)
   | (with_reducible refine LeO.bind ?_ (fun _ => ?_))
   | exact ih0 _ _ _
   | exact LeO.none _
   | refine LeO.ite ?_ ?_
   | refine LeO.bind ?_ (fun _ => ?_)
theorem sentryref4_Op.mono : ∀ a0 k, LeO (sentryref4_Op.f k a0) (sentryref4_Op.f (k + 1) a0) := by
 intro a0 k
 have ih0 := sentryref4_Op.mono_l k
 unfold sentryref4_Op.f
 repeat' first
   | (with_reducible exact ih0 _ _ _)
   | (with_reducible exact LeO.refl _)
   | (with_reducible exact LeO.none _)
   | (with_reducible refine LeO.ite ?_ ?_)
   | (with_reducible refine LeO.bind ?_ (fun _ => ?_))
   | exact ih0 _ _ _
   | exact LeO.none _
   | refine LeO.ite ?_ ?_
   | refine LeO.bind ?_ (fun _ => ?_)
set_option maxHeartbeats 8000000 in
set_option maxRecDepth 100000 in
theorem sentryref4_Op.calls (k : Nat) (a0 : ByteArray) (r : Int) (w : World) (h : sentryref4_Op.f k a0 = some r) :
  Calls Try.prog 74 #[.string a0] w fun e w' => e = .returned (.int .i64 r) ∧ Below w.heap.size w w' := by
 have HB := Aside0.mk (Below.refl w.heap.size w)
 have H : (sentryref4_Op.l0 k a0 (([(⟨#[60]⟩ : ByteArray), (⟨#[60, 61]⟩ : ByteArray), (⟨#[61]⟩ : ByteArray), (⟨#[33, 61]⟩ : ByteArray), (⟨#[62, 61]⟩ : ByteArray), (⟨#[62]⟩ : ByteArray)] : List ByteArray)) 0) = some r := h
 clear h
 obtain ⟨y185, hy185⟩ : ∃ y_ : List ByteArray, y_ = (([(⟨#[60]⟩ : ByteArray), (⟨#[60, 61]⟩ : ByteArray), (⟨#[61]⟩ : ByteArray), (⟨#[33, 61]⟩ : ByteArray), (⟨#[62, 61]⟩ : ByteArray), (⟨#[62]⟩ : ByteArray)] : List ByteArray)) := ⟨_, rfl⟩
 replace H : (sentryref4_Op.l0 k a0 y185 0) = some r := by first | (rw [hy185]; with_reducible exact H) | (have H2_ := (Option.bind_some _ _).symm.trans H; rw [hy185]; with_reducible exact H2_) | (have H2_ := (Option.bind_some _ _).symm.trans H; with_reducible exact H2_) | with_reducible exact H | (rw [hy185]; exact H) | exact H
 have Ny185 := Aside0.mk hy185
 clear hy185
 have H' := Aside0.mk H
 clear H
 go_enter Try.func74, Try.ntmps74
 go_wp2_with (first | ((with_reducible refine gate_dst (N := 5) rfl ?_); refine Kd.R_lit Kd.string _ 9 ?hg (N := 5) ?hd (xs := ([(⟨#[60]⟩ : ByteArray), (⟨#[60, 61]⟩ : ByteArray), (⟨#[61]⟩ : ByteArray), (⟨#[33, 61]⟩ : ByteArray), (⟨#[62, 61]⟩ : ByteArray), (⟨#[62]⟩ : ByteArray)] : List ByteArray)) (inner := [.string (⟨#[60]⟩ : ByteArray), .string (⟨#[60, 61]⟩ : ByteArray), .string (⟨#[61]⟩ : ByteArray), .string (⟨#[33, 61]⟩ : ByteArray), .string (⟨#[62, 61]⟩ : ByteArray), .string (⟨#[62]⟩ : ByteArray)]) (ok := fun _ => True) (okp := fun _ => True) ?hr ?hp (fun _ hk => hk) trivial (Below.refl _ _) (Nat.le_refl _) (by simp) ?_; (case hd => rfl); (case hg => rfl); (case hr => first | (go_simp; done) | (go_simp; rfl)); (case hp => exact (Reps.one (show Kd.M Kd.string _ _ _ (⟨#[60]⟩ : ByteArray) [.string (⟨#[60]⟩ : ByteArray)] from rfl) (Reps.one (show Kd.M Kd.string _ _ _ (⟨#[60, 61]⟩ : ByteArray) [.string (⟨#[60, 61]⟩ : ByteArray)] from rfl) (Reps.one (show Kd.M Kd.string _ _ _ (⟨#[61]⟩ : ByteArray) [.string (⟨#[61]⟩ : ByteArray)] from rfl) (Reps.one (show Kd.M Kd.string _ _ _ (⟨#[33, 61]⟩ : ByteArray) [.string (⟨#[33, 61]⟩ : ByteArray)] from rfl) (Reps.one (show Kd.M Kd.string _ _ _ (⟨#[62, 61]⟩ : ByteArray) [.string (⟨#[62, 61]⟩ : ByteArray)] from rfl) (Reps.one (show Kd.M Kd.string _ _ _ (⟨#[62]⟩ : ByteArray) [.string (⟨#[62]⟩ : ByteArray)] from rfl) (Reps.none _ _)))))))); intro v186 w2 ho3 hb hg_ hnew_; clear hg_ hnew_; (first | rw [← Ny185.out] at ho3 | (simp only [Int.reduceToNat] at ho3; rw [← Ny185.out] at ho3)); have n0_ := Aside0.mk (Kd.R_lower ho3 (below_size (by repeat (first | (with_reducible first | exact HB.out | apply below_alloc | apply pw_below_drewN | apply below_drew1) | exact HB.out)))); have n1_ := hb_ HB hb; clear HB; have HO187 := n0_; have HB := n1_; clear n0_ n1_; clear hb ho3))
 go_loopg [4] k (fun kq v4 w' => ∃ (x4_1 : Int), v4 = .int .i64 x4_1 ∧ Aside0 (sentryref4_Op.l0 kq a0 y185 x4_1 = some r) ∧ Aside0 (kq ≤ k) ∧ Aside0 (Kd.R Kd.string 9 w' w.heap.size (fun _ => True) v186 y185) ∧ Aside0 (Below w.heap.size w w'))
 case atStart => exact ⟨(0), (by first | rfl | (simp; done) | (simp [*]; done)), H', ⟨Nat.le_refl _⟩, ⟨by (with_reducible repeat (first | apply Kd.R_alloc | apply Kd.R_drewN | apply Kd.R_drew)); exact HO187.out⟩, ⟨hf_⟩⟩
 case round =>
  clear H'
  try clear p2
  obtain ⟨x4_1, rfl, HA, HK1, HO_3, HB⟩ := hrel
  cases gk with
  | zero => exact absurd HA.out (by simp [sentryref4_Op.l0])
  | succ k1 =>
   have H := HA.out
   clear HA
   simp only [sentryref4_Op.l0] at H
   by_cases c4 : x4_1 < (y185.length : Int)
   ·rw [if_pos c4] at H
    have c4b0 : decide (x4_1 < (y185.length : Int)) = true := decide_eq_true c4
    clear c4
    by_cases c5 : 0 ≤ x4_1
    ·rw [if_pos c5] at H
     have c5b0 : decide (0 ≤ x4_1) = true := decide_eq_true c5
     clear c5
     by_cases c6 : (rdOf ByteArray.empty y185 x4_1).toList = a0.toList
     ·rw [if_pos c6] at H
      have c6b0 : ((rdOf ByteArray.empty y185 x4_1).toList == a0.toList) = true := beq_iff_eq.mpr c6
      have c6b1 : ((rdOf ByteArray.empty y185 x4_1).toList != a0.toList) = false := bne_eq_false_iff_eq.mpr c6
      clear c6
      obtain rfl := Option.some.inj H
      obtain ⟨Ao7, co7, eo7⟩ := Kd.R_slice HO_3.out
      subst eo7
      have p188 : 0 ≤ (x4_1 : Int) := od_
      have q188 : x4_1 < (y185.length : Int) := od_
      obtain ⟨ad188, e188, hx188_0⟩ := Kd.at_string (Kd.R_reads' HO_3.out).2.2 x4_1 p188 q188
      cases e188
      replace p188 := eq_true p188
      replace q188 := eq_true q188
      go_wp2
      go_ret
      exact ⟨er_, hf_⟩
     ·rw [if_neg c6] at H
      have c6b0 : ((rdOf ByteArray.empty y185 x4_1).toList == a0.toList) = false := beq_eq_false_iff_ne.mpr c6
      have c6b1 : ((rdOf ByteArray.empty y185 x4_1).toList != a0.toList) = true := bne_iff_ne.mpr c6
      have H' := Aside0.mk H
      clear H
      obtain ⟨Ao8, co8, eo8⟩ := Kd.R_slice HO_3.out
      subst eo8
      have p188 : 0 ≤ (x4_1 : Int) := od_
      have q188 : x4_1 < (y185.length : Int) := od_
      obtain ⟨ad188, e188, hx188_0⟩ := Kd.at_string (Kd.R_reads' HO_3.out).2.2 x4_1 p188 q188
      cases e188
      replace p188 := eq_true p188
      replace q188 := eq_true q188
      go_wp2
      go_roundg k1
      case measure => have := HK1.out; omega
      case rel => exact ⟨(wrap64 (x4_1 + 1)), (by first | rfl | (simp; done) | (simp [*]; done)), H', ⟨by have := HK1.out; omega⟩, ⟨by (with_reducible repeat (first | apply Kd.R_alloc | apply Kd.R_drewN | apply Kd.R_drew)); exact HO_3.out⟩, ⟨hf_⟩⟩
    ·rw [if_neg c5] at H
     exact absurd H (by simp)
   ·rw [if_neg c4] at H
    have c4b0 : decide (x4_1 < (y185.length : Int)) = false := decide_eq_false c4
    clear c4
    obtain rfl := Option.some.inj H
    obtain ⟨Ao9, co9, eo9⟩ := Kd.R_slice HO_3.out
    subst eo9
    go_wp2
    go_ret
    exact ⟨er_, hf_⟩
end Go.Proofs.Ytchellnfenekaaa.Pm
end
section
namespace Go.Proofs.Ytchellnfenekaaa.Pm
open Go.RowKit Go.Proofs.YtchellnfenekaaaW.PrintWords Go.Proofs.YtchellnfenekaaaW.PrintLast Go.Proofs.YtchellnfenekaaaW.PrintMore
attribute [local go_sem] max2_int min2_int max_two min_two max_three min_three max_four min_four   -- for this text's walks alone
set_option linter.unusedVariables false
set_option linter.unusedSimpArgs false
def sentryref4_Place.l0 : Nat → ByteArray → Int → List ByteArray → List (S32) → Option (Int)
 | 0, _, _, _, _ => none
 | k + 1, x1, x5, x167000, x167001 => if x5 < (x167001.length : Int) then (if 0 ≤ x5 then (if ((rd_T32 x167001 x5).f0).toList = x1.toList then (some x5) else (sentryref4_Place.l0 k x1 (wrap64 (x5 + 1)) x167000 x167001)) else (none)) else (some (-1))
def sentryref4_Place.f (k : Nat) (l0_0 : List ByteArray) (l0_1 : List (S32)) (a1 : ByteArray) : Option (Int) := sentryref4_Place.l0 k a1 0 l0_0 l0_1
theorem sentryref4_Place.mono_l : ∀ k, (∀ y0 y1 y2 y3, LeO (sentryref4_Place.l0 k y0 y1 y2 y3) (sentryref4_Place.l0 (k + 1) y0 y1 y2 y3))
 | 0 => fun _ _ _ _ r h => by simp [sentryref4_Place.l0] at h
 | k + 1 => by
  have ih0 := sentryref4_Place.mono_l k
  ·intro y0 y1 y2 y3
   unfold sentryref4_Place.l0
   repeat' first
   | (with_reducible exact ih0 _ _ _ _)
   | (with_reducible exact LeO.refl _)
   | (with_reducible exact LeO.none _)
   | (with_reducible refine LeO.ite ?_ ?_)
   | (with_reducible refine LeO.bind ?_ (fun _ => ?_))
   | exact ih0 _ _ _ _
   | exact LeO.none _
   | refine LeO.ite ?_ ?_
   | refine LeO.bind ?_ (fun _ => ?_)
theorem sentryref4_Place.mono : ∀ a0 a1 a2 k, LeO (sentryref4_Place.f k a0 a1 a2) (sentryref4_Place.f (k + 1) a0 a1 a2) := by
 intro a0 a1 a2 k
 have ih0 := sentryref4_Place.mono_l k
 unfold sentryref4_Place.f
 repeat' first
   | (with_reducible exact ih0 _ _ _ _)
   | (with_reducible exact LeO.refl _)
   | (with_reducible exact LeO.none _)
   | (with_reducible refine LeO.ite ?_ ?_)
   | (with_reducible refine LeO.bind ?_ (fun _ => ?_))
   | exact ih0 _ _ _ _
   | exact LeO.none _
   | refine LeO.ite ?_ ?_
   | refine LeO.bind ?_ (fun _ => ?_)
set_option maxHeartbeats 8000000 in
set_option maxRecDepth 100000 in
theorem sentryref4_Place.calls (k : Nat) (A0_0 : Option Addr) (c0_0 : Nat) (l0_0 : List ByteArray) (A0_1 : Option Addr) (c0_1 : Nat) (l0_1 : List (S32)) (a1 : ByteArray) (r : Int) (w : World) (hr0_0 : Kd.C Kd.string w A0_0 l0_0.length l0_0) (hc0_0 : l0_0.length ≤ c0_0) (hr0_1 : Kd.C k32 w A0_1 l0_1.length l0_1) (hc0_1 : l0_1.length ≤ c0_1) (h : sentryref4_Place.f k l0_0 l0_1 a1 = some r) :
  Calls Try.prog 20 #[.agg #[.slice A0_0 l0_0.length c0_0, .slice A0_1 l0_1.length c0_1], .string a1] w fun e w' => e = .returned (.int .i64 r) ∧ Below w.heap.size w w' := by
 have hu36 := Try.underlying36
 have HR0_0 := Aside0.mk hr0_0
 have HC0_0 := Aside0.mk hc0_0
 clear hr0_0 hc0_0
 have HR0_1 := Aside0.mk hr0_1
 have HC0_1 := Aside0.mk hc0_1
 clear hr0_1 hc0_1
 have HB := Aside0.mk (Below.refl w.heap.size w)
 have H : (sentryref4_Place.l0 k a1 0 l0_0 l0_1) = some r := h
 clear h
 have H' := Aside0.mk H
 clear H
 go_enter Try.func20, Try.ntmps20
 go_wp2_with (first | ((with_reducible refine gate_dst (N := 2) rfl ?_); refine box_event ?hg (N := 2) ?hd (cs := #[.slice A0_0 l0_0.length c0_0, .slice A0_1 l0_1.length c0_1]) (t := 36) ?hr ?_; (case hd => rfl); (case hg => rfl); (case hr => first | (go_simp; done) | (go_simp; rfl)); intro gb166 hg w3 hbox hb; have n0_ := hb_ HB hb; have n1_ := Aside0.mk (hbox); have n2_ := Aside0.mk ((by rw [hg]; exact (below_size (by repeat (first | (with_reducible first | exact HB.out | apply below_alloc | apply pw_below_drewN | apply below_drew1) | exact HB.out))) : w.heap.size ≤ gb166)); have n3_ := Aside0.mk ((by rw [hg]; exact (below_size (by repeat (first | (with_reducible first | exact HB.out | apply below_alloc | apply pw_below_drewN | apply below_drew1) | exact HB.out))) : w.heap.size ≤ gb166)); clear HB; have HB := n0_; have BK166 := n1_; have GW166 := n2_; have GE166 := n3_; clear n0_ n1_ n2_ n3_; clear hb hbox hg))
 go_loopg [5] k (fun kq v5 w' => ∃ (x5_1 : Int), v5 = .int .i64 x5_1 ∧ Aside0 (sentryref4_Place.l0 kq a1 x5_1 l0_0 l0_1 = some r) ∧ Aside0 (kq ≤ k) ∧ Aside0 (w'.heap[gb166]? = some (.cells #[(.slice A0_0 l0_0.length c0_0), (.slice A0_1 l0_1.length c0_1)] 36 (0, 0))) ∧ Aside0 (Below w.heap.size w w'))
 case atStart => exact ⟨(0), (by first | rfl | (simp; done) | (simp [*]; done)), H', ⟨Nat.le_refl _⟩, ⟨gx_ BK166⟩, ⟨hf_⟩⟩
 case round =>
  clear H'
  (try clear c2); (try clear p2)
  obtain ⟨x5_1, rfl, HA, HK1, BK166, HB⟩ := hrel
  cases gk with
  | zero => exact absurd HA.out (by simp [sentryref4_Place.l0])
  | succ k1 =>
   have H := HA.out
   clear HA
   simp only [sentryref4_Place.l0] at H
   by_cases c4 : x5_1 < (l0_1.length : Int)
   ·rw [if_pos c4] at H
    have c4b0 : decide (x5_1 < (l0_1.length : Int)) = true := decide_eq_true c4
    clear c4
    by_cases c5 : 0 ≤ x5_1
    ·rw [if_pos c5] at H
     have c5b0 : decide (0 ≤ x5_1) = true := decide_eq_true c5
     clear c5
     by_cases c6 : ((rd_T32 l0_1 x5_1).f0).toList = a1.toList
     ·rw [if_pos c6] at H
      have c6b0 : (((rd_T32 l0_1 x5_1).f0).toList == a1.toList) = true := beq_iff_eq.mpr c6
      have c6b1 : (((rd_T32 l0_1 x5_1).f0).toList != a1.toList) = false := bne_eq_false_iff_eq.mpr c6
      clear c6
      obtain rfl := Option.some.inj H
      obtain ⟨hcz7_0, hcz7_1, hfz7_0, hfz7_1⟩ := bs2_ BK166
      have p167 : 0 ≤ (x5_1 : Int) := od_
      have q167 : x5_1 < (l0_1.length : Int) := od_
      obtain ⟨ad167, A167_5, c167_5, A167_6, c167_6, e167, hx167_0, hx167_1, hx167_2, hx167_3, hx167_4, hx167_5, hx167_6, hl167_5, hi167_5, hl167_6, hi167_6⟩ := at_T32 HR0_1.out x5_1 p167 q167
      cases e167
      replace hx167_0 := rr_ HB hx167_0
      replace hx167_1 := rr_ HB hx167_1
      replace hx167_2 := rr_ HB hx167_2
      replace hx167_3 := rr_ HB hx167_3
      replace hx167_4 := rr_ HB hx167_4
      replace hx167_5 := rr_ HB hx167_5
      replace hx167_6 := rr_ HB hx167_6
      have HR167_5 := Aside0.mk hi167_5
      have HC167_5 := Aside0.mk hl167_5
      clear hi167_5 hl167_5
      have HR167_6 := Aside0.mk hi167_6
      have HC167_6 := Aside0.mk hl167_6
      clear hi167_6 hl167_6
      replace p167 := eq_true p167
      replace q167 := eq_true q167
      go_wp2
      go_ret
      exact ⟨er_, hf_⟩
     ·rw [if_neg c6] at H
      have c6b0 : (((rd_T32 l0_1 x5_1).f0).toList == a1.toList) = false := beq_eq_false_iff_ne.mpr c6
      have c6b1 : (((rd_T32 l0_1 x5_1).f0).toList != a1.toList) = true := bne_iff_ne.mpr c6
      have H' := Aside0.mk H
      clear H
      obtain ⟨hcz8_0, hcz8_1, hfz8_0, hfz8_1⟩ := bs2_ BK166
      have p167 : 0 ≤ (x5_1 : Int) := od_
      have q167 : x5_1 < (l0_1.length : Int) := od_
      obtain ⟨ad167, A167_5, c167_5, A167_6, c167_6, e167, hx167_0, hx167_1, hx167_2, hx167_3, hx167_4, hx167_5, hx167_6, hl167_5, hi167_5, hl167_6, hi167_6⟩ := at_T32 HR0_1.out x5_1 p167 q167
      cases e167
      replace hx167_0 := rr_ HB hx167_0
      replace hx167_1 := rr_ HB hx167_1
      replace hx167_2 := rr_ HB hx167_2
      replace hx167_3 := rr_ HB hx167_3
      replace hx167_4 := rr_ HB hx167_4
      replace hx167_5 := rr_ HB hx167_5
      replace hx167_6 := rr_ HB hx167_6
      have HR167_5 := Aside0.mk hi167_5
      have HC167_5 := Aside0.mk hl167_5
      clear hi167_5 hl167_5
      have HR167_6 := Aside0.mk hi167_6
      have HC167_6 := Aside0.mk hl167_6
      clear hi167_6 hl167_6
      replace p167 := eq_true p167
      replace q167 := eq_true q167
      go_wp2
      go_roundg k1
      case measure => have := HK1.out; omega
      case rel => exact ⟨(wrap64 (x5_1 + 1)), (by first | rfl | (simp; done) | (simp [*]; done)), H', ⟨by have := HK1.out; omega⟩, ⟨gx_ BK166⟩, ⟨hf_⟩⟩
    ·rw [if_neg c5] at H
     exact absurd H (by simp)
   ·rw [if_neg c4] at H
    have c4b0 : decide (x5_1 < (l0_1.length : Int)) = false := decide_eq_false c4
    clear c4
    obtain rfl := Option.some.inj H
    obtain ⟨hcz9_0, hcz9_1, hfz9_0, hfz9_1⟩ := bs2_ BK166
    go_wp2
    go_ret
    exact ⟨er_, hf_⟩
end Go.Proofs.Ytchellnfenekaaa.Pm
end
section
namespace Go.Proofs.Ytchellnfenekaaa.Pm
open Go.RowKit Go.Proofs.YtchellnfenekaaaW.PrintWords Go.Proofs.YtchellnfenekaaaW.PrintLast Go.Proofs.YtchellnfenekaaaW.PrintMore
attribute [local go_sem] max2_int min2_int max_two min_two max_three min_three max_four min_four   -- for this text's walks alone
set_option linter.unusedVariables false
set_option linter.unusedSimpArgs false
attribute [local go_sem high] eqA39
mutual
def sentryref4_sentry.j0 : Nat → Bool → List ByteArray → List (S32) → List (S39) → List (S25) → Option (Bool)
 | 0, _, _, _, _, _ => none
 | k + 1, x29, x190000, x190001, x191000, x191001 => if x29 = true then (some false) else (sentryref4_sentry.l0 k 0 x190000 x190001 x191000 x191001)
def sentryref4_sentry.l0 : Nat → Int → List ByteArray → List (S32) → List (S39) → List (S25) → Option (Bool)
 | 0, _, _, _, _, _ => none
 | k + 1, x5, x190000, x190001, x191000, x191001 => if x5 < (x191000.length : Int) then (if 0 ≤ x5 then ((sentryref4_Place.f k x190000 x190001 ((rd_T39 x191000 x5).f0)).bind fun t192 => (if t192 < 0 then (sentryref4_sentry.j2 k x5 true x190000 x190001 x191000 x191001) else (if 0 ≤ t192 then (if t192 < (x190001.length : Int) then ((sentryref4_Legal.f k ((rd_T32 x190001 t192).f1) ((rd_T39 x191000 x5).f1)).bind fun t195 => (sentryref4_sentry.j2 k x5 (!t195) x190000 x190001 x191000 x191001)) else (none)) else (none)))) else (none)) else (sentryref4_sentry.l2 k 0 x190000 x190001 x191000 x191001)
def sentryref4_sentry.j2 : Nat → Int → Bool → List ByteArray → List (S32) → List (S39) → List (S25) → Option (Bool)
 | 0, _, _, _, _, _, _ => none
 | k + 1, x5, x62, x190000, x190001, x191000, x191001 => if x62 = true then (some false) else (sentryref4_sentry.l1 k x5 0 x190000 x190001 x191000 x191001)
def sentryref4_sentry.l1 : Nat → Int → Int → List ByteArray → List (S32) → List (S39) → List (S25) → Option (Bool)
 | 0, _, _, _, _, _, _ => none
 | k + 1, x5, x7, x190000, x190001, x191000, x191001 => if x7 < x5 then (if 0 ≤ x7 then (if x7 < (x191000.length : Int) then (if 0 ≤ x5 then (if x5 < (x191000.length : Int) then (if ((((rd_T39 x191000 x7).f0).toList) == (((rd_T39 x191000 x5).f0).toList) && (((rd_T39 x191000 x7).f1) == ((rd_T39 x191000 x5).f1))) = true then (some false) else (sentryref4_sentry.l1 k x5 (wrap64 (x7 + 1)) x190000 x190001 x191000 x191001)) else (none)) else (none)) else (none)) else (none)) else (sentryref4_sentry.l0 k (wrap64 (x5 + 1)) x190000 x190001 x191000 x191001)
def sentryref4_sentry.l2 : Nat → Int → List ByteArray → List (S32) → List (S39) → List (S25) → Option (Bool)
 | 0, _, _, _, _, _ => none
 | k + 1, x8, x190000, x190001, x191000, x191001 => if x8 < (x191001.length : Int) then (if 0 ≤ x8 then ((sentryref4_File.f k x190000 ((rd_T25 x191001 x8).f0)).bind fun t200 => (if t200 = true then ((sentryref4_Op.f k ((rd_T25 x191001 x8).f1)).bind fun t201 => (if t201 < 0 then (some false) else (if ((rd_T25 x191001 x8).f2) < (-1000000) then (some false) else (if ((rd_T25 x191001 x8).f2) > 1000000 then (some false) else (sentryref4_sentry.l2 k (wrap64 (x8 + 1)) x190000 x190001 x191000 x191001))))) else (some false))) else (none)) else (some true)
end
def sentryref4_sentry.f (k : Nat) (l0_0 : List ByteArray) (l0_1 : List (S32)) (l1_0 : List (S39)) (l1_1 : List (S25)) : Option (Bool) := if (l1_0.length : Int) > 3 then (sentryref4_sentry.j0 k true l0_0 l0_1 l1_0 l1_1) else (if (l1_1.length : Int) > 2 then (sentryref4_sentry.j0 k true l0_0 l0_1 l1_0 l1_1) else (sentryref4_sentry.j0 k ((wrap64 ((l1_0.length : Int) + (l1_1.length : Int))) == 0) l0_0 l0_1 l1_0 l1_1))
theorem sentryref4_sentry.mono_l : ∀ k, (∀ y0 y1 y2 y3 y4, LeO (sentryref4_sentry.j0 k y0 y1 y2 y3 y4) (sentryref4_sentry.j0 (k + 1) y0 y1 y2 y3 y4)) ∧ (∀ y0 y1 y2 y3 y4, LeO (sentryref4_sentry.l0 k y0 y1 y2 y3 y4) (sentryref4_sentry.l0 (k + 1) y0 y1 y2 y3 y4)) ∧ (∀ y0 y1 y2 y3 y4 y5, LeO (sentryref4_sentry.j2 k y0 y1 y2 y3 y4 y5) (sentryref4_sentry.j2 (k + 1) y0 y1 y2 y3 y4 y5)) ∧ (∀ y0 y1 y2 y3 y4 y5, LeO (sentryref4_sentry.l1 k y0 y1 y2 y3 y4 y5) (sentryref4_sentry.l1 (k + 1) y0 y1 y2 y3 y4 y5)) ∧ (∀ y0 y1 y2 y3 y4, LeO (sentryref4_sentry.l2 k y0 y1 y2 y3 y4) (sentryref4_sentry.l2 (k + 1) y0 y1 y2 y3 y4))
 | 0 => ⟨fun _ _ _ _ _ r h => by simp [sentryref4_sentry.j0] at h, fun _ _ _ _ _ r h => by simp [sentryref4_sentry.l0] at h, fun _ _ _ _ _ _ r h => by simp [sentryref4_sentry.j2] at h, fun _ _ _ _ _ _ r h => by simp [sentryref4_sentry.l1] at h, fun _ _ _ _ _ r h => by simp [sentryref4_sentry.l2] at h⟩
 | k + 1 => by
  obtain ⟨ih0, ih1, ih2, ih3, ih4⟩ := sentryref4_sentry.mono_l k
  refine ⟨?_, ?_, ?_, ?_, ?_⟩
  intro y0 y1 y2 y3 y4
  unfold sentryref4_sentry.j0
  rotate_left
  intro y0 y1 y2 y3 y4
  unfold sentryref4_sentry.l0
  rotate_left
  intro y0 y1 y2 y3 y4 y5
  unfold sentryref4_sentry.j2
  rotate_left
  intro y0 y1 y2 y3 y4 y5
  unfold sentryref4_sentry.l1
  rotate_left
  intro y0 y1 y2 y3 y4
  unfold sentryref4_sentry.l2
  rotate_left
  all_goals repeat' first
   | (with_reducible exact ih0 _ _ _ _ _)
   | (with_reducible exact ih1 _ _ _ _ _)
   | (with_reducible exact ih2 _ _ _ _ _ _)
   | (with_reducible exact ih3 _ _ _ _ _ _)
   | (with_reducible exact ih4 _ _ _ _ _)
   | (with_reducible exact sentryref4_File.mono _ _ _)
   | (with_reducible exact sentryref4_Legal.mono _ _ _)
   | (with_reducible exact sentryref4_Op.mono _ _)
   | (with_reducible exact sentryref4_Place.mono _ _ _ _)
   | (with_reducible exact LeO.refl _)
   | (with_reducible exact LeO.none _)
   | (with_reducible refine LeO.ite ?_ ?_)
   | (with_reducible refine LeO.bind ?_ (fun _ => ?_))
   | exact ih0 _ _ _ _ _
   | exact ih1 _ _ _ _ _
   | exact ih2 _ _ _ _ _ _
   | exact ih3 _ _ _ _ _ _
   | exact ih4 _ _ _ _ _
   | exact sentryref4_File.mono _ _ _
   | exact sentryref4_Legal.mono _ _ _
   | exact sentryref4_Op.mono _ _
   | exact sentryref4_Place.mono _ _ _ _
   | exact LeO.none _
   | refine LeO.ite ?_ ?_
   | refine LeO.bind ?_ (fun _ => ?_)
theorem sentryref4_sentry.mono : ∀ a0 a1 a2 a3 k, LeO (sentryref4_sentry.f k a0 a1 a2 a3) (sentryref4_sentry.f (k + 1) a0 a1 a2 a3) := by
 intro a0 a1 a2 a3 k
 obtain ⟨ih0, ih1, ih2, ih3, ih4⟩ := sentryref4_sentry.mono_l k
 unfold sentryref4_sentry.f
 repeat' first
   | (with_reducible exact ih0 _ _ _ _ _)
   | (with_reducible exact ih1 _ _ _ _ _)
   | (with_reducible exact ih2 _ _ _ _ _ _)
   | (with_reducible exact ih3 _ _ _ _ _ _)
   | (with_reducible exact ih4 _ _ _ _ _)
   | (with_reducible exact sentryref4_File.mono _ _ _)
   | (with_reducible exact sentryref4_Legal.mono _ _ _)
   | (with_reducible exact sentryref4_Op.mono _ _)
   | (with_reducible exact sentryref4_Place.mono _ _ _ _)
   | (with_reducible exact LeO.refl _)
   | (with_reducible exact LeO.none _)
   | (with_reducible refine LeO.ite ?_ ?_)
   | (with_reducible refine LeO.bind ?_ (fun _ => ?_))
   | exact ih0 _ _ _ _ _
   | exact ih1 _ _ _ _ _
   | exact ih2 _ _ _ _ _ _
   | exact ih3 _ _ _ _ _ _
   | exact ih4 _ _ _ _ _
   | exact sentryref4_File.mono _ _ _
   | exact sentryref4_Legal.mono _ _ _
   | exact sentryref4_Op.mono _ _
   | exact sentryref4_Place.mono _ _ _ _
   | exact LeO.none _
   | refine LeO.ite ?_ ?_
   | refine LeO.bind ?_ (fun _ => ?_)
def sentryref4_sentry.T6 : Bool × List (List Nat × List Nat) := (true, [([], []), ([], []), ([1], [1]), ([], []), ([2, 3], [2, 3]), ([4], [4]), ([5], [5]), ([0, 6], [0, 6]), ([7, 7, 0, 1, 2, 3, 4, 5, 6, 7], [7])])
def sentryref4_sentry.B6 : List Nat := [0, 0, 2, 0, 14, 30, 62, 127, 255]
theorem sentryref4_sentry.tab6 : rtab .any (opsOf Try.f63 6) = sentryref4_sentry.T6 := by kernel_rfl
theorem sentryref4_sentry.bits6 : waitsOk sentryref4_sentry.T6.2 sentryref4_sentry.B6 = true := by kernel_rfl
def sentryref4_sentry.T7 : Bool × List (List Nat × List Nat) := (true, [([], []), ([0], [0]), ([1], [1]), ([2], [2]), ([3, 2], [2, 3]), ([2], [2]), ([4, 5, 2], [2, 4, 5]), ([6, 2], [2, 6]), ([7, 2], [2, 7]), ([2], [2]), ([9, 2], [2, 9]), ([2], [2]), ([10, 11, 2], [2, 10, 11]), ([12, 2], [2, 12]), ([13, 2], [2, 13]), ([8, 14, 2, 2], [2, 8, 14]), ([15, 2], [2, 15]), ([2, 16], [2, 16])])
def sentryref4_sentry.B7 : List Nat := [0, 1, 3, 7, 15, 7, 63, 127, 255, 7, 519, 7, 3591, 7687, 15879, 32767, 65535, 131071]
theorem sentryref4_sentry.tab7 : rtab .any (opsOf Try.f63 7) = sentryref4_sentry.T7 := by kernel_rfl
theorem sentryref4_sentry.bits7 : waitsOk sentryref4_sentry.T7.2 sentryref4_sentry.B7 = true := by kernel_rfl
def sentryref4_sentry.T12 : Bool × List (List Nat × List Nat) := (true, [([], []), ([0], [0]), ([], []), ([1, 2], [1, 2]), ([3], [3]), ([], []), ([5], [5]), ([], []), ([6, 7], [6, 7]), ([8], [8]), ([4, 9], [4, 9])])
def sentryref4_sentry.B12 : List Nat := [0, 1, 0, 7, 15, 0, 32, 0, 224, 480, 1023]
theorem sentryref4_sentry.tab12 : rtab .any (opsOf Try.f63 12) = sentryref4_sentry.T12 := by kernel_rfl
theorem sentryref4_sentry.bits12 : waitsOk sentryref4_sentry.T12.2 sentryref4_sentry.B12 = true := by kernel_rfl
set_option maxHeartbeats 8000000 in
set_option maxRecDepth 100000 in
theorem sentryref4_sentry.calls (k : Nat) (A0_0 : Option Addr) (c0_0 : Nat) (l0_0 : List ByteArray) (A0_1 : Option Addr) (c0_1 : Nat) (l0_1 : List (S32)) (A1_0 : Option Addr) (c1_0 : Nat) (l1_0 : List (S39)) (A1_1 : Option Addr) (c1_1 : Nat) (l1_1 : List (S25)) (r : Bool) (w : World) (hr0_0 : Kd.C Kd.string w A0_0 l0_0.length l0_0) (hc0_0 : l0_0.length ≤ c0_0) (hr0_1 : Kd.C k32 w A0_1 l0_1.length l0_1) (hc0_1 : l0_1.length ≤ c0_1) (hr1_0 : Kd.C k39 w A1_0 l1_0.length l1_0) (hc1_0 : l1_0.length ≤ c1_0) (hr1_1 : Kd.C k25 w A1_1 l1_1.length l1_1) (hc1_1 : l1_1.length ≤ c1_1) (h : sentryref4_sentry.f k l0_0 l0_1 l1_0 l1_1 = some r) :
  Calls Try.prog 63 #[.agg #[.slice A0_0 l0_0.length c0_0, .slice A0_1 l0_1.length c0_1], .agg #[.slice A1_0 l1_0.length c1_0, .slice A1_1 l1_1.length c1_1]] w fun e w' => e = .returned (.bool r) ∧ Below w.heap.size w w' := by
 have hu36 := Try.underlying36
 have hu29 := Try.underlying29
 have hu39 := Try.underlying39
 have hu25 := Try.underlying25
 have HR0_0 := Aside0.mk hr0_0
 have HC0_0 := Aside0.mk hc0_0
 clear hr0_0 hc0_0
 have HR0_1 := Aside0.mk hr0_1
 have HC0_1 := Aside0.mk hc0_1
 clear hr0_1 hc0_1
 have HR1_0 := Aside0.mk hr1_0
 have HC1_0 := Aside0.mk hc1_0
 clear hr1_0 hc1_0
 have HR1_1 := Aside0.mk hr1_1
 have HC1_1 := Aside0.mk hc1_1
 clear hr1_1 hc1_1
 have HB := Aside0.mk (Below.refl w.heap.size w)
 have H : (if (l1_0.length : Int) > 3 then (sentryref4_sentry.j0 k true l0_0 l0_1 l1_0 l1_1) else (if (l1_1.length : Int) > 2 then (sentryref4_sentry.j0 k true l0_0 l0_1 l1_0 l1_1) else (sentryref4_sentry.j0 k ((wrap64 ((l1_0.length : Int) + (l1_1.length : Int))) == 0) l0_0 l0_1 l1_0 l1_1))) = some r := h
 clear h
 have HC3 := Aside0.mk H
 clear H
 go_enter Try.func63, Try.ntmps63
 go_upto_region 1 with (first | ((with_reducible refine gate_dst (N := 2) rfl ?_); (try (refine gate_guard (by rfl) ?_; dsimp only)); refine box_event ?hg (N := 2) ?hd (cs := #[.slice A0_0 l0_0.length c0_0, .slice A0_1 l0_1.length c0_1]) (t := 36) ?hr ?_; (case hd => rfl); (case hg => rfl); (case hr => first | (go_simp; done) | (go_simp; rfl)); intro gb189 hg w4 hbox hb; have n0_ := hb_ HB hb; have n1_ := Aside0.mk (hbox); have n2_ := Aside0.mk ((by rw [hg]; exact (below_size (by repeat (first | (with_reducible first | exact HB.out | apply below_alloc | apply pw_below_drewN | apply below_drew1) | exact HB.out))) : w.heap.size ≤ gb189)); have n3_ := Aside0.mk ((by rw [hg]; exact (below_size (by repeat (first | (with_reducible first | exact HB.out | apply below_alloc | apply pw_below_drewN | apply below_drew1) | exact HB.out))) : w.heap.size ≤ gb189)); clear HB; have HB := n0_; have BK189 := n1_; have GW189 := n2_; have GE189 := n3_; clear n0_ n1_ n2_ n3_; clear hb hbox hg) | ((with_reducible refine gate_dst (N := 3) rfl ?_); (try (refine gate_guard (by rfl) ?_; dsimp only)); refine box_event ?hg (N := 3) ?hd (cs := #[.slice A1_0 l1_0.length c1_0, .slice A1_1 l1_1.length c1_1]) (t := 29) ?hr ?_; (case hd => rfl); (case hg => rfl); (case hr => first | (go_simp; done) | (go_simp; rfl)); intro gb190 hg w5 hbox hb; have n0_ := bb_ BK189 hb; have n1_ := hb_ HB hb; have n2_ := Aside0.mk (hbox); have n3_ := Aside0.mk ((by rw [hg]; exact (below_size (by repeat (first | (with_reducible first | exact HB.out | apply below_alloc | apply pw_below_drewN | apply below_drew1 | refine below_set ?_ GE189.out) | exact HB.out))) : w.heap.size ≤ gb190)); have n4_ := Aside0.mk ((by rw [hg]; exact (below_size (by repeat (first | (with_reducible first | exact HB.out | apply below_alloc | apply pw_below_drewN | apply below_drew1 | refine below_set ?_ GE189.out) | exact HB.out))) : w.heap.size ≤ gb190)); have n5_ := Aside0.mk ((by rw [hg]; exact Nat.ne_of_lt (blk_lt (g := gb189) (o := .cells #[.slice A0_0 l0_0.length c0_0, .slice A0_1 l0_1.length c0_1] 36 (0, 0)) (by (with_reducible repeat (first | refine blk_drewN ?_ _ | refine blk_drew ?_ | refine blk_alloc ?_ _)); exact BK189.out)) : gb189 ≠ gb190)); have n6_ := Aside0.mk ((by rw [hg]; exact Nat.ne_of_gt (blk_lt (g := gb189) (o := .cells #[.slice A0_0 l0_0.length c0_0, .slice A0_1 l0_1.length c0_1] 36 (0, 0)) (by (with_reducible repeat (first | refine blk_drewN ?_ _ | refine blk_drew ?_ | refine blk_alloc ?_ _)); exact BK189.out)) : gb190 ≠ gb189)); clear BK189; clear HB; have BK189 := n0_; have HB := n1_; have BK190 := n2_; have GW190 := n3_; have GE190 := n4_; have NB189_190 := n5_; have NB190_189 := n6_; clear n0_ n1_ n2_ n3_ n4_ n5_ n6_; clear hb hbox hg))
 (try simp only [Act.put, List.setIfInBounds_toArray, List.set_cons_zero, List.set_cons_succ])
 go_cut [29] (fun v29 wc => ∃ (kq : Nat) (x29_2 : Bool), v29 = .bool x29_2 ∧ Aside0 (sentryref4_sentry.j0 kq x29_2 l0_0 l0_1 l1_0 l1_1 = some r) ∧ Aside0 (kq ≤ k) ∧ Aside0 (wc.heap[gb189]? = some (.cells #[(.slice A0_0 l0_0.length c0_0), (.slice A0_1 l0_1.length c0_1)] 36 (0, 0))) ∧ Aside0 (wc.heap[gb190]? = some (.cells #[(.slice A1_0 l1_0.length c1_0), (.slice A1_1 l1_1.length c1_1)] 29 (0, 0))) ∧ Aside0 (Below w.heap.size w wc))
 case first =>
  have H := HC3.out
  clear HC3
  by_cases c6 : (l1_0.length : Int) > 3
  ·rw [if_pos c6] at H
   have c6b0 : decide (3 < (l1_0.length : Int)) = true := decide_eq_true c6
   have c6b1 : decide (3 < l1_0.length) = true := decide_eq_true (by omega)
   clear c6
   (first | rw [c6b0] | (simp only [i64_w, i32_w]; rw [c6b0]) | skip)
   have H' := Aside0.mk H
   clear H
   have hnb7 := NB190_189.out
   have hnc7 := NB189_190.out
   obtain ⟨hcz8_0, hcz8_1, hfz8_0, hfz8_1⟩ := bs2_ BK190
   go_wp2
   go_meet
   case rel => exact ⟨_, (true), (by first | rfl | (simp; done) | (simp [*]; done)), H', ⟨by first | omega | exact Nat.le_refl _⟩, ⟨gx_ BK189⟩, ⟨gx_ BK190⟩, ⟨hf_⟩⟩
  ·rw [if_neg c6] at H
   have c6b0 : decide (3 < (l1_0.length : Int)) = false := decide_eq_false c6
   have c6b1 : decide (3 < l1_0.length) = false := decide_eq_false (by omega)
   clear c6
   (first | rw [c6b0] | (simp only [i64_w, i32_w]; rw [c6b0]) | skip)
   by_cases c9 : (l1_1.length : Int) > 2
   ·rw [if_pos c9] at H
    have c9b0 : decide (2 < (l1_1.length : Int)) = true := decide_eq_true c9
    have c9b1 : decide (2 < l1_1.length) = true := decide_eq_true (by omega)
    clear c9
    have H' := Aside0.mk H
    clear H
    have hnb10 := NB190_189.out
    have hnc10 := NB189_190.out
    obtain ⟨hcz11_0, hcz11_1, hfz11_0, hfz11_1⟩ := bs2_ BK190
    go_wp2
    go_meet
    case rel => exact ⟨_, (true), (by first | rfl | (simp; done) | (simp [*]; done)), H', ⟨by first | omega | exact Nat.le_refl _⟩, ⟨gx_ BK189⟩, ⟨gx_ BK190⟩, ⟨hf_⟩⟩
   ·rw [if_neg c9] at H
    have c9b0 : decide (2 < (l1_1.length : Int)) = false := decide_eq_false c9
    have c9b1 : decide (2 < l1_1.length) = false := decide_eq_false (by omega)
    clear c9
    have H' := Aside0.mk H
    clear H
    have hnb12 := NB190_189.out
    have hnc12 := NB189_190.out
    obtain ⟨hcz13_0, hcz13_1, hfz13_0, hfz13_1⟩ := bs2_ BK190
    go_wp2
    go_meet
    case rel => exact ⟨_, (((wrap64 ((l1_0.length : Int) + (l1_1.length : Int))) == 0)), (by first | rfl | (simp; done) | (simp [*]; done)), H', ⟨by first | omega | exact Nat.le_refl _⟩, ⟨gx_ BK189⟩, ⟨gx_ BK190⟩, ⟨hf_⟩⟩
 case rest =>
  clear HC3
  (try clear c1); (try clear p2); (try clear c6); (try clear c6b0); (try clear c6b1); (try clear p6); (try clear c7); (try clear c9); (try clear c9b0); (try clear c9b1); (try clear c10); (try clear c12); (try clear hcz11_0); (try clear hcz11_1); (try clear hcz13_0); (try clear hcz13_1); (try clear hcz8_0); (try clear hcz8_1); (try clear hfz11_0); (try clear hfz11_1); (try clear hfz13_0); (try clear hfz13_1); (try clear hfz8_0); (try clear hfz8_1)
  obtain ⟨kq, x29_2, rfl, HA, HJ2, BK189, BK190, HB⟩ := hcut
  cases kq with
  | zero => exact absurd HA.out (by simp [sentryref4_sentry.j0])
  | succ kj2 =>
   have H := HA.out
   clear HA
   simp only [sentryref4_sentry.j0] at H
   by_cases c14 : x29_2 = true
   ·subst c14
    have H1 : (some false) = some r := by rw [if_pos rfl] at H; exact H
    clear H
    have H := H1
    clear H1
    obtain rfl := Option.some.inj H
    go_wp2
    go_ret
    exact ⟨er_, hf_⟩
   ·replace c14 := Bool.eq_false_iff.mpr c14
    subst c14
    have H1 : (sentryref4_sentry.l0 kj2 0 l0_0 l0_1 l1_0 l1_1) = some r := by rw [if_neg (show ¬ (false = true) by decide)] at H; exact H
    clear H
    have H := H1
    clear H1
    have H' := Aside0.mk H
    clear H
    go_wp2
    go_loopg [5] kj2 (fun kq v5 w' => ∃ (x5_2 : Int), v5 = .int .i64 x5_2 ∧ Aside0 (sentryref4_sentry.l0 kq x5_2 l0_0 l0_1 l1_0 l1_1 = some r) ∧ Aside0 (kq ≤ kj2) ∧ Aside0 (w'.heap[gb189]? = some (.cells #[(.slice A0_0 l0_0.length c0_0), (.slice A0_1 l0_1.length c0_1)] 36 (0, 0))) ∧ Aside0 (w'.heap[gb190]? = some (.cells #[(.slice A1_0 l1_0.length c1_0), (.slice A1_1 l1_1.length c1_1)] 29 (0, 0))) ∧ Aside0 (Below w.heap.size w w'))
    case atStart => exact ⟨(0), (by first | rfl | (simp; done) | (simp [*]; done)), H', ⟨Nat.le_refl _⟩, ⟨gx_ BK189⟩, ⟨gx_ BK190⟩, ⟨hf_⟩⟩
    case round =>
     clear H'
     (try clear c1); (try clear p2); (try clear c6); (try clear c6b0); (try clear c6b1); (try clear p6); (try clear c7); (try clear c9); (try clear c9b0); (try clear c9b1); (try clear c10); (try clear c12); (try clear c14); (try clear hcz11_0); (try clear hcz11_1); (try clear hcz13_0); (try clear hcz13_1); (try clear hcz8_0); (try clear hcz8_1); (try clear hfz11_0); (try clear hfz11_1); (try clear hfz13_0); (try clear hfz13_1); (try clear hfz8_0); (try clear hfz8_1); (try clear p2); (try clear p6)
     obtain ⟨x5_2, rfl, HA, HK2, BK189, BK190, HB⟩ := hrel
     cases gk with
     | zero => exact absurd HA.out (by simp [sentryref4_sentry.l0])
     | succ k2 =>
      have H := HA.out
      clear HA
      simp only [sentryref4_sentry.l0] at H
      by_cases c15 : x5_2 < (l1_0.length : Int)
      ·rw [if_pos c15] at H
       have c15b0 : decide (x5_2 < (l1_0.length : Int)) = true := decide_eq_true c15
       clear c15
       by_cases c16 : 0 ≤ x5_2
       ·rw [if_pos c16] at H
        have c16b0 : decide (0 ≤ x5_2) = true := decide_eq_true c16
        clear c16
        replace H := Option.bind_eq_some_iff.mp H
        obtain ⟨t192, A170, H⟩ := H
        replace H : (if t192 < 0 then (sentryref4_sentry.j2 k2 x5_2 true l0_0 l0_1 l1_0 l1_1) else (if 0 ≤ t192 then (if t192 < (l0_1.length : Int) then ((sentryref4_Legal.f k2 ((rd_T32 l0_1 t192).f1) ((rd_T39 l1_0 x5_2).f1)).bind fun t195 => (sentryref4_sentry.j2 k2 x5_2 (!t195) l0_0 l0_1 l1_0 l1_1)) else (none)) else (none))) = some r := H
        have A17 := Aside0.mk A170
        clear A170
        have HC18 := Aside0.mk H
        clear H
        have hnb19 := NB190_189.out
        have hnc19 := NB189_190.out
        obtain ⟨hcz20_0, hcz20_1, hfz20_0, hfz20_1⟩ := bs2_ BK190
        try go_wp2
        replace BK189 := Aside0.mk (blk_drew BK189.out)
        replace BK190 := Aside0.mk (blk_drew BK190.out)
        replace HB := Aside0.mk (below_drew1 HB.out)
        have p191 : 0 ≤ (x5_2 : Int) := od_
        have q191 : x5_2 < (l1_0.length : Int) := od_
        obtain ⟨ad191, e191, hx191_0, hx191_1⟩ := at_T39 HR1_0.out x5_2 p191 q191
        have hw191_1 := hx191_1
        have hw191_0 := hx191_0
        cases e191
        replace hx191_0 := rr_ HB hx191_0
        replace hx191_1 := rr_ HB hx191_1
        replace p191 := eq_true p191
        replace q191 := eq_true q191
        refine start_ (n := 9) (S := fun w' => w'.cell? ⟨gb189, 0, none⟩ = some (.slice A0_0 l0_0.length c0_0) ∧ w'.cell? ⟨gb189, 1, none⟩ = some (.slice A0_1 l0_1.length c0_1) ∧ w'.cell? ⟨gb190, 0, none⟩ = some (.slice (some ad191) l1_0.length c1_0) ∧ w'.cell? ⟨gb190, 1, none⟩ = some (.slice A1_1 l1_1.length c1_1) ∧ w'.cell? (ad191.add ((x5_2).toNat * 2)) = some (.string ((rd_T39 l1_0 x5_2).f0)) ∧ w'.cell? ⟨(ad191.add ((x5_2).toNat * 2)).block, (ad191.add ((x5_2).toNat * 2)).off + 1, none⟩ = some (.int .i64 ((rd_T39 l1_0 x5_2).f1))) (ds := []) #[false, false, false, false, false, false, false, false, false] (by kernel_rfl) rfl rfl ⟨(bk0_ BK189 :), (bk1_ BK189 :), (bk0_ BK190 :), (bk1_ BK190 :), (rr_ HB hw191_0 :), (rr_ HB hw191_1 :)⟩ (fun hHeld => ?_); refine with_tabW sentryref4_sentry.tab6 sentryref4_sentry.bits6 (fun HT_ HW_ => ?_)
        generalize wr.drew = w21 at BK189 BK190 HB hx191_0 hx191_1 hHeld ⊢
        refine pz_ 1 (some 38) (bits_ 9 2) HT_.out ?_
        refine pz_ 3 (some 40) (bits_ 9 10) HT_.out ?_
        refine tz_ 0 (some 37) (bits_ 9 11) HT_.out HW_.out hHeld ?_ (hy := by rintro w' ⟨s0, s1, s2, s3, s4, s5⟩; go_simp; with_reducible rfl)
        refine tz_ 2 (some 39) (bits_ 9 15) HT_.out HW_.out hHeld ?_ (hy := by rintro w' ⟨s0, s1, s2, s3, s4, s5⟩; go_simp; with_reducible rfl)
        refine pz_ 4 (some 41) (bits_ 9 31) HT_.out ?_
        refine pz_ 5 (some 42) (bits_ 9 63) HT_.out ?_
        refine tz_ 6 (some 43) (bits_ 9 127) HT_.out HW_.out hHeld ?_ (hy := by rintro w' ⟨s0, s1, s2, s3, s4, s5⟩; go_simp; with_reducible rfl)
        refine oz_ 7 (some 44) (bits_ 9 255) HT_.out (fun K hK => ?_)
        refine go_s_ Try.func20 #[.agg #[.slice A0_0 l0_0.length c0_0, .slice A0_1 l0_1.length c0_1], .string ((rd_T39 l1_0 x5_2).f0)] ?_
        with_reducible refine (sentryref4_Place.calls k2 _ _ l0_0 _ _ l0_1 ((rd_T39 l1_0 x5_2).f0) t192 _ ?side1 ?side2 ?side3 ?side4 A17.out).mono ?_
        (case side1 => exact kc_ HR0_0 HB)
        (case side2 => exact HC0_0.out)
        (case side3 => exact kc_ HR0_1 HB)
        (case side4 => exact HC0_1.out)
        rintro e w22 ⟨rfl, hb⟩
        refine ⟨_, rfl, ?_⟩
        replace BK189 := bb_ BK189 hb
        replace BK190 := bb_ BK190 hb
        replace HB := hb_ HB hb
        (try clear hb); (try clear hb2); (try clear hk); (try clear hi)
        refine hK.out _ _ ⟨(bk0_ BK189 :), (bk1_ BK189 :), (bk0_ BK190 :), (bk1_ BK190 :), (rr_ HB hw191_0 :), (rr_ HB hw191_1 :)⟩ (fun hHeld => ?_)
        clear hK K
        refine nz_ (some 44) ?_
        refine pz_ 8 (some 6) (bits_ 9 511) HT_.out ?_
        refine done_ (done_of HT_.out (by kernel_rfl)) ?_
        go_upto_region 7 with (fail)
        go_cut [62] (fun v62 wc => ∃ (kq : Nat) (x62_17 : Bool), v62 = .bool x62_17 ∧ Aside0 (sentryref4_sentry.j2 kq x5_2 x62_17 l0_0 l0_1 l1_0 l1_1 = some r) ∧ Aside0 (kq ≤ k2) ∧ Aside0 (wc.heap[gb189]? = some (.cells #[(.slice A0_0 l0_0.length c0_0), (.slice A0_1 l0_1.length c0_1)] 36 (0, 0))) ∧ Aside0 (wc.heap[gb190]? = some (.cells #[(.slice (some ad191) l1_0.length c1_0), (.slice A1_1 l1_1.length c1_1)] 29 (0, 0))) ∧ Aside0 (Below w.heap.size w wc))
        case first =>
         have H := HC18.out
         clear HC18
         by_cases c23 : t192 < 0
         ·rw [if_pos c23] at H
          have c23b0 : decide (t192 < 0) = true := decide_eq_true c23
          clear c23
          (first | rw [c23b0] | (simp only [i64_w, i32_w]; rw [c23b0]) | skip)
          have H' := Aside0.mk H
          clear H
          try go_wp2
          replace BK189 := Aside0.mk (blk_drew BK189.out)
          replace BK190 := Aside0.mk (blk_drew BK190.out)
          replace HB := Aside0.mk (below_drew1 HB.out)
          refine start_ (n := 18) (S := fun w' => True) (ds := []) #[false, false, false, false, false, false, false, false, false, false, false, false, false, false, false, false, false, false] (by kernel_rfl) rfl rfl trivial (fun hHeld => ?_); refine with_tabW sentryref4_sentry.tab7 sentryref4_sentry.bits7 (fun HT_ HW_ => ?_)
          generalize w22.drew = w24 at BK189 BK190 HB hHeld ⊢
          refine pz_ 0 (some 45) (bits_ 18 1) HT_.out ?_
          refine pz_ 1 (some 46) (bits_ 18 3) HT_.out ?_
          refine pz_ 2 (some 47) (bits_ 18 7) HT_.out ?_
          refine sz_ 3 (some 48) (bits_ 18 15) HT_.out ?_
          refine sz_ 4 (some 49) (bits_ 18 31) HT_.out ?_
          refine sz_ 5 (some 50) (bits_ 18 63) HT_.out ?_
          refine sz_ 6 (some 51) (bits_ 18 127) HT_.out ?_
          refine sz_ 7 (some 52) (bits_ 18 255) HT_.out ?_
          refine sz_ 8 (some 53) (bits_ 18 511) HT_.out ?_
          refine sz_ 9 (some 54) (bits_ 18 1023) HT_.out ?_
          refine sz_ 10 (some 55) (bits_ 18 2047) HT_.out ?_
          refine sz_ 11 (some 56) (bits_ 18 4095) HT_.out ?_
          refine sz_ 12 (some 57) (bits_ 18 8191) HT_.out ?_
          refine sz_ 13 (some 58) (bits_ 18 16383) HT_.out ?_
          refine sz_ 14 (some 59) (bits_ 18 32767) HT_.out ?_
          refine sz_ 15 (some 60) (bits_ 18 65535) HT_.out ?_
          refine sz_ 16 (some 61) (bits_ 18 131071) HT_.out ?_
          refine pz_ 17 (some 62) (bits_ 18 262143) HT_.out ?_
          refine done_ (done_of HT_.out (by kernel_rfl)) ?_
          try go_wp2
          go_meet
          case rel => exact ⟨_, (true), (by first | rfl | (simp; done) | (simp [*]; done)), H', ⟨by have := HJ2.out; have := HK2.out; first | omega | exact Nat.le_refl _⟩, ⟨gx_ BK189⟩, ⟨gx_ BK190⟩, ⟨hf_⟩⟩
         ·rw [if_neg c23] at H
          have c23b0 : decide (t192 < 0) = false := decide_eq_false c23
          clear c23
          (first | rw [c23b0] | (simp only [i64_w, i32_w]; rw [c23b0]) | skip)
          by_cases c25 : 0 ≤ t192
          ·rw [if_pos c25] at H
           have c25b0 : decide (0 ≤ t192) = true := decide_eq_true c25
           clear c25
           by_cases c26 : t192 < (l0_1.length : Int)
           ·rw [if_pos c26] at H
            have c26b0 : decide (t192 < (l0_1.length : Int)) = true := decide_eq_true c26
            clear c26
            replace H := Option.bind_eq_some_iff.mp H
            obtain ⟨t195, A270, H⟩ := H
            replace H : (sentryref4_sentry.j2 k2 x5_2 (!t195) l0_0 l0_1 l1_0 l1_1) = some r := H
            have A27 := Aside0.mk A270
            clear A270
            have H' := Aside0.mk H
            clear H
            try go_wp2
            replace BK189 := Aside0.mk (blk_drew BK189.out)
            replace BK190 := Aside0.mk (blk_drew BK190.out)
            replace HB := Aside0.mk (below_drew1 HB.out)
            have p193 : 0 ≤ (t192 : Int) := od_
            have q193 : t192 < (l0_1.length : Int) := od_
            obtain ⟨ad193, A193_5, c193_5, A193_6, c193_6, e193, hx193_0, hx193_1, hx193_2, hx193_3, hx193_4, hx193_5, hx193_6, hl193_5, hi193_5, hl193_6, hi193_6⟩ := at_T32 HR0_1.out t192 p193 q193
            have hw193_6 := hx193_6
            have hw193_5 := hx193_5
            have hw193_4 := hx193_4
            have hw193_3 := hx193_3
            have hw193_2 := hx193_2
            have hw193_1 := hx193_1
            have hw193_0 := hx193_0
            cases e193
            replace hx193_0 := rr_ HB hx193_0
            replace hx193_1 := rr_ HB hx193_1
            replace hx193_2 := rr_ HB hx193_2
            replace hx193_3 := rr_ HB hx193_3
            replace hx193_4 := rr_ HB hx193_4
            replace hx193_5 := rr_ HB hx193_5
            replace hx193_6 := rr_ HB hx193_6
            have HR193_5 := Aside0.mk hi193_5
            have HC193_5 := Aside0.mk hl193_5
            clear hi193_5 hl193_5
            have HR193_6 := Aside0.mk hi193_6
            have HC193_6 := Aside0.mk hl193_6
            clear hi193_6 hl193_6
            replace p193 := eq_true p193
            replace q193 := eq_true q193
            have p194 : 0 ≤ (x5_2 : Int) := od_
            have q194 : x5_2 < (l1_0.length : Int) := od_
            obtain ⟨ad194, e194, hx194_0, hx194_1⟩ := at_T39 HR1_0.out x5_2 p194 q194
            have hw194_1 := hx194_1
            have hw194_0 := hx194_0
            obtain rfl : ad191 = ad194 := (by injection e194)
            replace hx194_0 := rr_ HB hx194_0
            replace hx194_1 := rr_ HB hx194_1
            replace p194 := eq_true p194
            replace q194 := eq_true q194
            refine start_ (n := 18) (S := fun w' => w'.cell? ⟨gb189, 0, none⟩ = some (.slice A0_0 l0_0.length c0_0) ∧ w'.cell? ⟨gb189, 1, none⟩ = some (.slice (some ad193) l0_1.length c0_1) ∧ w'.cell? ⟨gb190, 0, none⟩ = some (.slice (some ad191) l1_0.length c1_0) ∧ w'.cell? ⟨gb190, 1, none⟩ = some (.slice A1_1 l1_1.length c1_1) ∧ w'.cell? (ad193.add ((t192).toNat * 7)) = some (.string ((rd_T32 l0_1 t192).f0)) ∧ w'.cell? ⟨(ad193.add ((t192).toNat * 7)).block, (ad193.add ((t192).toNat * 7)).off + 1, none⟩ = some (.int .i64 ((rd_T32 l0_1 t192).f1)) ∧ w'.cell? ⟨(ad193.add ((t192).toNat * 7)).block, (ad193.add ((t192).toNat * 7)).off + 2, none⟩ = some (.string ((rd_T32 l0_1 t192).f2)) ∧ w'.cell? ⟨(ad193.add ((t192).toNat * 7)).block, (ad193.add ((t192).toNat * 7)).off + 3, none⟩ = some (.bool ((rd_T32 l0_1 t192).f3)) ∧ w'.cell? ⟨(ad193.add ((t192).toNat * 7)).block, (ad193.add ((t192).toNat * 7)).off + 4, none⟩ = some (.int .i64 ((rd_T32 l0_1 t192).f4)) ∧ w'.cell? ⟨(ad193.add ((t192).toNat * 7)).block, (ad193.add ((t192).toNat * 7)).off + 5, none⟩ = some (.slice A193_5 ((rd_T32 l0_1 t192).f5).length c193_5) ∧ w'.cell? ⟨(ad193.add ((t192).toNat * 7)).block, (ad193.add ((t192).toNat * 7)).off + 6, none⟩ = some (.slice A193_6 ((rd_T32 l0_1 t192).f6).length c193_6) ∧ w'.cell? (ad191.add ((x5_2).toNat * 2)) = some (.string ((rd_T39 l1_0 x5_2).f0)) ∧ w'.cell? ⟨(ad191.add ((x5_2).toNat * 2)).block, (ad191.add ((x5_2).toNat * 2)).off + 1, none⟩ = some (.int .i64 ((rd_T39 l1_0 x5_2).f1))) (ds := []) #[false, false, false, false, false, false, false, false, false, false, false, false, false, false, false, false, false, false] (by kernel_rfl) rfl rfl ⟨(bk0_ BK189 :), (bk1_ BK189 :), (bk0_ BK190 :), (bk1_ BK190 :), (rr_ HB hw193_0 :), (rr_ HB hw193_1 :), (rr_ HB hw193_2 :), (rr_ HB hw193_3 :), (rr_ HB hw193_4 :), (rr_ HB hw193_5 :), (rr_ HB hw193_6 :), (rr_ HB hw194_0 :), (rr_ HB hw194_1 :)⟩ (fun hHeld => ?_); refine with_tabW sentryref4_sentry.tab7 sentryref4_sentry.bits7 (fun HT_ HW_ => ?_)
            generalize w22.drew = w28 at BK189 BK190 HB HR193_5 HR193_6 hx193_0 hx193_1 hx193_2 hx193_3 hx193_4 hx193_5 hx193_6 hx194_0 hx194_1 hHeld ⊢
            refine pz_ 0 (some 45) (bits_ 18 1) HT_.out ?_
            refine pz_ 1 (some 46) (bits_ 18 3) HT_.out ?_
            refine pz_ 2 (some 47) (bits_ 18 7) HT_.out ?_
            refine pz_ 3 (some 48) (bits_ 18 15) HT_.out ?_
            refine pz_ 5 (some 50) (bits_ 18 47) HT_.out ?_
            refine pz_ 9 (some 54) (bits_ 18 559) HT_.out ?_
            refine pz_ 11 (some 56) (bits_ 18 2607) HT_.out ?_
            refine tz_ 4 (some 49) (bits_ 18 2623) HT_.out HW_.out hHeld ?_ (hy := by rintro w' ⟨s0, s1, s2, s3, s4, s5, s6, s7, s8, s9, s10, s11, s12⟩; go_simp; with_reducible rfl)
            refine pz_ 6 (some 51) (bits_ 18 2687) HT_.out ?_
            refine pz_ 7 (some 52) (bits_ 18 2815) HT_.out ?_
            refine tz_ 8 (some 53) (bits_ 18 3071) HT_.out HW_.out hHeld ?_ (hy := by rintro w' ⟨s0, s1, s2, s3, s4, s5, s6, s7, s8, s9, s10, s11, s12⟩; go_simp; with_reducible rfl)
            refine tz_ 10 (some 55) (bits_ 18 4095) HT_.out HW_.out hHeld ?_ (hy := by rintro w' ⟨s0, s1, s2, s3, s4, s5, s6, s7, s8, s9, s10, s11, s12⟩; go_simp; with_reducible rfl)
            refine pz_ 12 (some 57) (bits_ 18 8191) HT_.out ?_
            refine pz_ 13 (some 58) (bits_ 18 16383) HT_.out ?_
            refine tz_ 14 (some 59) (bits_ 18 32767) HT_.out HW_.out hHeld ?_ (hy := by rintro w' ⟨s0, s1, s2, s3, s4, s5, s6, s7, s8, s9, s10, s11, s12⟩; go_simp; with_reducible rfl)
            refine oz_ 15 (some 60) (bits_ 18 65535) HT_.out (fun K hK => ?_)
            refine go_s_ Try.func13 #[.int .i64 ((rd_T32 l0_1 t192).f1), .int .i64 ((rd_T39 l1_0 x5_2).f1)] ?_
            with_reducible refine (sentryref4_Legal.calls k2 ((rd_T32 l0_1 t192).f1) ((rd_T39 l1_0 x5_2).f1) t195 _ A27.out).mono ?_
            rintro e w' ⟨rfl, ⟨nd, rfl⟩⟩
            refine ⟨_, rfl, ?_⟩
            refine hK.out _ _ ⟨(bk0_ BK189 :), (bk1_ BK189 :), (bk0_ BK190 :), (bk1_ BK190 :), (rr_ HB hw193_0 :), (rr_ HB hw193_1 :), (rr_ HB hw193_2 :), (rr_ HB hw193_3 :), (rr_ HB hw193_4 :), (rr_ HB hw193_5 :), (rr_ HB hw193_6 :), (rr_ HB hw194_0 :), (rr_ HB hw194_1 :)⟩ (fun hHeld => ?_)
            clear hK K
            refine nz_ (some 60) ?_
            refine pz_ 16 (some 61) (bits_ 18 131071) HT_.out ?_
            refine pz_ 17 (some 62) (bits_ 18 262143) HT_.out ?_
            refine done_ (done_of HT_.out (by kernel_rfl)) ?_
            try go_wp2
            go_meet
            case rel => exact ⟨_, (!t195), (by first | rfl | (simp; done) | (simp [*]; done)), H', ⟨by have := HJ2.out; have := HK2.out; first | omega | exact Nat.le_refl _⟩, ⟨gx_ BK189⟩, ⟨gx_ BK190⟩, ⟨hf_⟩⟩
           ·rw [if_neg c26] at H
            exact absurd H (by simp)
          ·rw [if_neg c25] at H
           exact absurd H (by simp)
        case rest =>
         clear HC18
         (try clear c1); (try clear p1); (try clear q1); (try clear hx1); (try clear c2); (try clear p2); (try clear c6); (try clear c6b0); (try clear c6b1); (try clear p6); (try clear c7); (try clear c9); (try clear c9b0); (try clear c9b1); (try clear c10); (try clear c12); (try clear c13); (try clear c14); (try clear c15); (try clear c15b0); (try clear c16); (try clear c16b0); (try clear c19); (try clear p19); (try clear q19); (try clear hx19); (try clear c20); (try clear c23); (try clear c23b0); (try clear c25); (try clear c25b0); (try clear c26); (try clear c26b0); (try clear hcz11_0); (try clear hcz11_1); (try clear hcz13_0); (try clear hcz13_1); (try clear hcz20_0); (try clear hcz20_1); (try clear hcz8_0); (try clear hcz8_1); (try clear hfz11_0); (try clear hfz11_1); (try clear hfz13_0); (try clear hfz13_1); (try clear hfz20_0); (try clear hfz20_1); (try clear hfz8_0); (try clear hfz8_1); (try clear hx191_0); (try clear hx191_1); (try clear hx193_0); (try clear hx193_1); (try clear hx193_2); (try clear hx193_3); (try clear hx193_4); (try clear hx193_5); (try clear hx193_6); (try clear hx194_0); (try clear hx194_1); (try clear p191); (try clear p193); (try clear p194); (try clear p2); (try clear p6); (try clear q191); (try clear q193); (try clear q194)
         obtain ⟨kq, x62_17, rfl, HA, HJ17, BK189, BK190, HB⟩ := hcut
         cases kq with
         | zero => exact absurd HA.out (by simp [sentryref4_sentry.j2])
         | succ kj17 =>
          have H := HA.out
          clear HA
          simp only [sentryref4_sentry.j2] at H
          by_cases c29 : x62_17 = true
          ·subst c29
           have H1 : (some false) = some r := by rw [if_pos rfl] at H; exact H
           clear H
           have H := H1
           clear H1
           obtain rfl := Option.some.inj H
           go_wp2
           go_ret
           exact ⟨er_, hf_⟩
          ·replace c29 := Bool.eq_false_iff.mpr c29
           subst c29
           have H1 : (sentryref4_sentry.l1 kj17 x5_2 0 l0_0 l0_1 l1_0 l1_1) = some r := by rw [if_neg (show ¬ (false = true) by decide)] at H; exact H
           clear H
           have H := H1
           clear H1
           have H' := Aside0.mk H
           clear H
           go_wp2
           go_loopg [7] kj17 (fun kq v7 w' => ∃ (x7_4 : Int), v7 = .int .i64 x7_4 ∧ Aside0 (sentryref4_sentry.l1 kq x5_2 x7_4 l0_0 l0_1 l1_0 l1_1 = some r) ∧ Aside0 (kq ≤ kj17) ∧ Aside0 (w'.heap[gb189]? = some (.cells #[(.slice A0_0 l0_0.length c0_0), (.slice A0_1 l0_1.length c0_1)] 36 (0, 0))) ∧ Aside0 (w'.heap[gb190]? = some (.cells #[(.slice (some ad191) l1_0.length c1_0), (.slice A1_1 l1_1.length c1_1)] 29 (0, 0))) ∧ Aside0 (Below w.heap.size w w'))
           case atStart => exact ⟨(0), (by first | rfl | (simp; done) | (simp [*]; done)), H', ⟨Nat.le_refl _⟩, ⟨gx_ BK189⟩, ⟨gx_ BK190⟩, ⟨hf_⟩⟩
           case round =>
            clear H'
            (try clear c1); (try clear p1); (try clear q1); (try clear hx1); (try clear c2); (try clear p2); (try clear c6); (try clear c6b0); (try clear c6b1); (try clear p6); (try clear c7); (try clear c9); (try clear c9b0); (try clear c9b1); (try clear c10); (try clear c12); (try clear c13); (try clear c14); (try clear c15); (try clear c15b0); (try clear c16); (try clear c16b0); (try clear c19); (try clear p19); (try clear q19); (try clear hx19); (try clear c20); (try clear c23); (try clear c23b0); (try clear c25); (try clear c25b0); (try clear c26); (try clear c26b0); (try clear c29); (try clear hcz11_0); (try clear hcz11_1); (try clear hcz13_0); (try clear hcz13_1); (try clear hcz20_0); (try clear hcz20_1); (try clear hcz8_0); (try clear hcz8_1); (try clear hfz11_0); (try clear hfz11_1); (try clear hfz13_0); (try clear hfz13_1); (try clear hfz20_0); (try clear hfz20_1); (try clear hfz8_0); (try clear hfz8_1); (try clear hx191_0); (try clear hx191_1); (try clear hx193_0); (try clear hx193_1); (try clear hx193_2); (try clear hx193_3); (try clear hx193_4); (try clear hx193_5); (try clear hx193_6); (try clear hx194_0); (try clear hx194_1); (try clear p1); (try clear p19); (try clear p191); (try clear p193); (try clear p194); (try clear p2); (try clear p6); (try clear q1); (try clear q19); (try clear q191); (try clear q193); (try clear q194)
            obtain ⟨x7_4, rfl, HA, HK4, BK189, BK190, HB⟩ := hrel
            cases gk with
            | zero => exact absurd HA.out (by simp [sentryref4_sentry.l1])
            | succ k4 =>
             have H := HA.out
             clear HA
             simp only [sentryref4_sentry.l1] at H
             by_cases c30 : x7_4 < x5_2
             ·rw [if_pos c30] at H
              have c30b0 : decide (x7_4 < x5_2) = true := decide_eq_true c30
              clear c30
              by_cases c31 : 0 ≤ x7_4
              ·rw [if_pos c31] at H
               have c31b0 : decide (0 ≤ x7_4) = true := decide_eq_true c31
               clear c31
               by_cases c32 : x7_4 < (l1_0.length : Int)
               ·rw [if_pos c32] at H
                have c32b0 : decide (x7_4 < (l1_0.length : Int)) = true := decide_eq_true c32
                clear c32
                by_cases c33 : 0 ≤ x5_2
                ·rw [if_pos c33] at H
                 have c33b0 : decide (0 ≤ x5_2) = true := decide_eq_true c33
                 clear c33
                 by_cases c34 : x5_2 < (l1_0.length : Int)
                 ·rw [if_pos c34] at H
                  have c34b0 : decide (x5_2 < (l1_0.length : Int)) = true := decide_eq_true c34
                  clear c34
                  by_cases c35 : ((((rd_T39 l1_0 x7_4).f0).toList) == (((rd_T39 l1_0 x5_2).f0).toList) && (((rd_T39 l1_0 x7_4).f1) == ((rd_T39 l1_0 x5_2).f1))) = true
                  ·rw [if_pos c35] at H
                   have c35b0 : ((((rd_T39 l1_0 x7_4).f0).toList) == (((rd_T39 l1_0 x5_2).f0).toList) && (((rd_T39 l1_0 x7_4).f1) == ((rd_T39 l1_0 x5_2).f1))) = true := c35
                   (try (have c35b1 : decide ((((rd_T39 l1_0 x7_4).f0).toList) = (((rd_T39 l1_0 x5_2).f0).toList) && (((rd_T39 l1_0 x7_4).f1) == ((rd_T39 l1_0 x5_2).f1))) = true := by simpa using c35))
                   (try (have c35b2 : ((((rd_T39 l1_0 x7_4).f0).toList) == (((rd_T39 l1_0 x5_2).f0).toList) && (((rd_T39 l1_0 x7_4).f1) == ((rd_T39 l1_0 x5_2).f1))) = true := by simpa using c35))
                   clear c35
                   obtain rfl := Option.some.inj H
                   try go_wp2
                   replace BK189 := Aside0.mk (blk_drew BK189.out)
                   replace BK190 := Aside0.mk (blk_drew BK190.out)
                   replace HB := Aside0.mk (below_drew1 HB.out)
                   have p196 : 0 ≤ (x7_4 : Int) := od_
                   have q196 : x7_4 < (l1_0.length : Int) := od_
                   obtain ⟨ad196, e196, hx196_0, hx196_1⟩ := at_T39 HR1_0.out x7_4 p196 q196
                   have hw196_1 := hx196_1
                   have hw196_0 := hx196_0
                   obtain rfl : ad191 = ad196 := (by injection e196)
                   replace hx196_0 := rr_ HB hx196_0
                   replace hx196_1 := rr_ HB hx196_1
                   replace p196 := eq_true p196
                   replace q196 := eq_true q196
                   have p197 : 0 ≤ (x5_2 : Int) := od_
                   have q197 : x5_2 < (l1_0.length : Int) := od_
                   obtain ⟨ad197, e197, hx197_0, hx197_1⟩ := at_T39 HR1_0.out x5_2 p197 q197
                   have hw197_1 := hx197_1
                   have hw197_0 := hx197_0
                   obtain rfl : ad191 = ad197 := (by injection e197)
                   replace hx197_0 := rr_ HB hx197_0
                   replace hx197_1 := rr_ HB hx197_1
                   replace p197 := eq_true p197
                   replace q197 := eq_true q197
                   refine start_ (n := 11) (S := fun w' => w'.cell? ⟨gb190, 0, none⟩ = some (.slice (some ad191) l1_0.length c1_0) ∧ w'.cell? ⟨gb190, 1, none⟩ = some (.slice A1_1 l1_1.length c1_1) ∧ w'.cell? (ad191.add ((x7_4).toNat * 2)) = some (.string ((rd_T39 l1_0 x7_4).f0)) ∧ w'.cell? ⟨(ad191.add ((x7_4).toNat * 2)).block, (ad191.add ((x7_4).toNat * 2)).off + 1, none⟩ = some (.int .i64 ((rd_T39 l1_0 x7_4).f1)) ∧ w'.cell? (ad191.add ((x5_2).toNat * 2)) = some (.string ((rd_T39 l1_0 x5_2).f0)) ∧ w'.cell? ⟨(ad191.add ((x5_2).toNat * 2)).block, (ad191.add ((x5_2).toNat * 2)).off + 1, none⟩ = some (.int .i64 ((rd_T39 l1_0 x5_2).f1))) (ds := []) #[false, false, false, false, false, false, false, false, false, false, false] (by kernel_rfl) rfl rfl ⟨(bk0_ BK190 :), (bk1_ BK190 :), (rr_ HB hw196_0 :), (rr_ HB hw196_1 :), (rr_ HB hw197_0 :), (rr_ HB hw197_1 :)⟩ (fun hHeld => ?_); refine with_tabW sentryref4_sentry.tab12 sentryref4_sentry.bits12 (fun HT_ HW_ => ?_)
                   generalize wr.drew = w36 at BK189 BK190 HB hx196_0 hx196_1 hx197_0 hx197_1 hHeld ⊢
                   refine pz_ 0 (some 68) (bits_ 11 1) HT_.out ?_
                   refine pz_ 2 (some 70) (bits_ 11 5) HT_.out ?_
                   refine pz_ 5 (some 73) (bits_ 11 37) HT_.out ?_
                   refine pz_ 7 (some 75) (bits_ 11 165) HT_.out ?_
                   refine tz_ 1 (some 69) (bits_ 11 167) HT_.out HW_.out hHeld ?_ (hy := by rintro w' ⟨s0, s1, s2, s3, s4, s5⟩; go_simp; with_reducible rfl)
                   refine pz_ 3 (some 71) (bits_ 11 175) HT_.out ?_
                   refine tz_ 4 (some 72) (bits_ 11 191) HT_.out HW_.out hHeld ?_ (hy := by rintro w' ⟨s0, s1, s2, s3, s4, s5⟩; go_simp; with_reducible rfl)
                   refine tz_ 6 (some 74) (bits_ 11 255) HT_.out HW_.out hHeld ?_ (hy := by rintro w' ⟨s0, s1, s2, s3, s4, s5⟩; go_simp; with_reducible rfl)
                   refine pz_ 8 (some 76) (bits_ 11 511) HT_.out ?_
                   refine tz_ 9 (some 77) (bits_ 11 1023) HT_.out HW_.out hHeld ?_ (hy := by rintro w' ⟨s0, s1, s2, s3, s4, s5⟩; go_simp; with_reducible rfl)
                   refine pz_ 10 (some 78) (bits_ 11 2047) HT_.out ?_
                   refine done_ (done_of HT_.out (by kernel_rfl)) ?_
                   try go_wp2
                   go_ret
                   exact ⟨er_, hf_⟩
                  ·rw [if_neg c35] at H
                   have c35b0 : ((((rd_T39 l1_0 x7_4).f0).toList) == (((rd_T39 l1_0 x5_2).f0).toList) && (((rd_T39 l1_0 x7_4).f1) == ((rd_T39 l1_0 x5_2).f1))) = false := by simpa using c35
                   (try (have c35b1 : decide ((((rd_T39 l1_0 x7_4).f0).toList) = (((rd_T39 l1_0 x5_2).f0).toList) && (((rd_T39 l1_0 x7_4).f1) == ((rd_T39 l1_0 x5_2).f1))) = false := by simpa using c35))
                   (try (have c35b2 : ((((rd_T39 l1_0 x7_4).f0).toList) == (((rd_T39 l1_0 x5_2).f0).toList) && (((rd_T39 l1_0 x7_4).f1) == ((rd_T39 l1_0 x5_2).f1))) = false := by simpa using c35))
                   (try (have c35b3 : ¬ ((((rd_T39 l1_0 x7_4).f0).toList) = (((rd_T39 l1_0 x5_2).f0).toList) && (((rd_T39 l1_0 x7_4).f1) == ((rd_T39 l1_0 x5_2).f1))) := by simpa using c35))
                   clear c35
                   have H' := Aside0.mk H
                   clear H
                   try go_wp2
                   replace BK189 := Aside0.mk (blk_drew BK189.out)
                   replace BK190 := Aside0.mk (blk_drew BK190.out)
                   replace HB := Aside0.mk (below_drew1 HB.out)
                   have p196 : 0 ≤ (x7_4 : Int) := od_
                   have q196 : x7_4 < (l1_0.length : Int) := od_
                   obtain ⟨ad196, e196, hx196_0, hx196_1⟩ := at_T39 HR1_0.out x7_4 p196 q196
                   have hw196_1 := hx196_1
                   have hw196_0 := hx196_0
                   obtain rfl : ad191 = ad196 := (by injection e196)
                   replace hx196_0 := rr_ HB hx196_0
                   replace hx196_1 := rr_ HB hx196_1
                   replace p196 := eq_true p196
                   replace q196 := eq_true q196
                   have p197 : 0 ≤ (x5_2 : Int) := od_
                   have q197 : x5_2 < (l1_0.length : Int) := od_
                   obtain ⟨ad197, e197, hx197_0, hx197_1⟩ := at_T39 HR1_0.out x5_2 p197 q197
                   have hw197_1 := hx197_1
                   have hw197_0 := hx197_0
                   obtain rfl : ad191 = ad197 := (by injection e197)
                   replace hx197_0 := rr_ HB hx197_0
                   replace hx197_1 := rr_ HB hx197_1
                   replace p197 := eq_true p197
                   replace q197 := eq_true q197
                   refine start_ (n := 11) (S := fun w' => w'.cell? ⟨gb190, 0, none⟩ = some (.slice (some ad191) l1_0.length c1_0) ∧ w'.cell? ⟨gb190, 1, none⟩ = some (.slice A1_1 l1_1.length c1_1) ∧ w'.cell? (ad191.add ((x7_4).toNat * 2)) = some (.string ((rd_T39 l1_0 x7_4).f0)) ∧ w'.cell? ⟨(ad191.add ((x7_4).toNat * 2)).block, (ad191.add ((x7_4).toNat * 2)).off + 1, none⟩ = some (.int .i64 ((rd_T39 l1_0 x7_4).f1)) ∧ w'.cell? (ad191.add ((x5_2).toNat * 2)) = some (.string ((rd_T39 l1_0 x5_2).f0)) ∧ w'.cell? ⟨(ad191.add ((x5_2).toNat * 2)).block, (ad191.add ((x5_2).toNat * 2)).off + 1, none⟩ = some (.int .i64 ((rd_T39 l1_0 x5_2).f1))) (ds := []) #[false, false, false, false, false, false, false, false, false, false, false] (by kernel_rfl) rfl rfl ⟨(bk0_ BK190 :), (bk1_ BK190 :), (rr_ HB hw196_0 :), (rr_ HB hw196_1 :), (rr_ HB hw197_0 :), (rr_ HB hw197_1 :)⟩ (fun hHeld => ?_); refine with_tabW sentryref4_sentry.tab12 sentryref4_sentry.bits12 (fun HT_ HW_ => ?_)
                   generalize wr.drew = w37 at BK189 BK190 HB hx196_0 hx196_1 hx197_0 hx197_1 hHeld ⊢
                   refine pz_ 0 (some 68) (bits_ 11 1) HT_.out ?_
                   refine pz_ 2 (some 70) (bits_ 11 5) HT_.out ?_
                   refine pz_ 5 (some 73) (bits_ 11 37) HT_.out ?_
                   refine pz_ 7 (some 75) (bits_ 11 165) HT_.out ?_
                   refine tz_ 1 (some 69) (bits_ 11 167) HT_.out HW_.out hHeld ?_ (hy := by rintro w' ⟨s0, s1, s2, s3, s4, s5⟩; go_simp; with_reducible rfl)
                   refine pz_ 3 (some 71) (bits_ 11 175) HT_.out ?_
                   refine tz_ 4 (some 72) (bits_ 11 191) HT_.out HW_.out hHeld ?_ (hy := by rintro w' ⟨s0, s1, s2, s3, s4, s5⟩; go_simp; with_reducible rfl)
                   refine tz_ 6 (some 74) (bits_ 11 255) HT_.out HW_.out hHeld ?_ (hy := by rintro w' ⟨s0, s1, s2, s3, s4, s5⟩; go_simp; with_reducible rfl)
                   refine pz_ 8 (some 76) (bits_ 11 511) HT_.out ?_
                   refine tz_ 9 (some 77) (bits_ 11 1023) HT_.out HW_.out hHeld ?_ (hy := by rintro w' ⟨s0, s1, s2, s3, s4, s5⟩; go_simp; with_reducible rfl)
                   refine pz_ 10 (some 78) (bits_ 11 2047) HT_.out ?_
                   refine done_ (done_of HT_.out (by kernel_rfl)) ?_
                   try go_wp2
                   go_roundg k4
                   case measure => have := HJ2.out; have := HK2.out; have := HJ17.out; have := HK4.out; omega
                   case rel => exact ⟨(wrap64 (x7_4 + 1)), (by first | rfl | (simp; done) | (simp [*]; done)), H', ⟨by have := HJ2.out; have := HK2.out; have := HJ17.out; have := HK4.out; omega⟩, ⟨gx_ BK189⟩, ⟨gx_ BK190⟩, ⟨hf_⟩⟩
                 ·rw [if_neg c34] at H
                  exact absurd H (by simp)
                ·rw [if_neg c33] at H
                 exact absurd H (by simp)
               ·rw [if_neg c32] at H
                exact absurd H (by simp)
              ·rw [if_neg c31] at H
               exact absurd H (by simp)
             ·rw [if_neg c30] at H
              have c30b0 : decide (x7_4 < x5_2) = false := decide_eq_false c30
              clear c30
              have H' := Aside0.mk H
              clear H
              go_wp2
              go_roundg k4
              case measure => have := HJ2.out; have := HK2.out; have := HJ17.out; have := HK4.out; omega
              case rel => exact ⟨(wrap64 (x5_2 + 1)), (by first | rfl | (simp; done) | (simp [*]; done)), H', ⟨by have := HJ2.out; have := HK2.out; have := HJ17.out; have := HK4.out; omega⟩, ⟨gx_ BK189⟩, ⟨gx_ BK190⟩, ⟨hf_⟩⟩
       ·rw [if_neg c16] at H
        exact absurd H (by simp)
      ·rw [if_neg c15] at H
       have c15b0 : decide (x5_2 < (l1_0.length : Int)) = false := decide_eq_false c15
       clear c15
       have H' := Aside0.mk H
       clear H
       have hnb38 := NB190_189.out
       have hnc38 := NB189_190.out
       obtain ⟨hcz39_0, hcz39_1, hfz39_0, hfz39_1⟩ := bs2_ BK190
       go_wp2
       go_loopg [8] k2 (fun kq v8 w' => ∃ (x8_3 : Int), v8 = .int .i64 x8_3 ∧ Aside0 (sentryref4_sentry.l2 kq x8_3 l0_0 l0_1 l1_0 l1_1 = some r) ∧ Aside0 (kq ≤ k2) ∧ Aside0 (w'.heap[gb189]? = some (.cells #[(.slice A0_0 l0_0.length c0_0), (.slice A0_1 l0_1.length c0_1)] 36 (0, 0))) ∧ Aside0 (w'.heap[gb190]? = some (.cells #[(.slice A1_0 l1_0.length c1_0), (.slice A1_1 l1_1.length c1_1)] 29 (0, 0))) ∧ Aside0 (Below w.heap.size w w'))
       case atStart => exact ⟨(0), (by first | rfl | (simp; done) | (simp [*]; done)), H', ⟨Nat.le_refl _⟩, ⟨gx_ BK189⟩, ⟨gx_ BK190⟩, ⟨hf_⟩⟩
       case round =>
        clear H'
        (try clear c1); (try clear p1); (try clear q1); (try clear hx1); (try clear c2); (try clear p2); (try clear c3); (try clear c6); (try clear c6b0); (try clear c6b1); (try clear p6); (try clear c7); (try clear c9); (try clear c9b0); (try clear c9b1); (try clear c10); (try clear c12); (try clear c13); (try clear c14); (try clear c15); (try clear c15b0); (try clear c16); (try clear c16b0); (try clear c19); (try clear p19); (try clear q19); (try clear hx19); (try clear c20); (try clear c23); (try clear c23b0); (try clear c25); (try clear c25b0); (try clear c26); (try clear c26b0); (try clear c29); (try clear c30); (try clear c30b0); (try clear c31); (try clear c31b0); (try clear c32); (try clear c32b0); (try clear c33); (try clear c33b0); (try clear c34); (try clear c34b0); (try clear c35); (try clear c35b0); (try clear c35b1); (try clear c35b2); (try clear c38); (try clear hcz11_0); (try clear hcz11_1); (try clear hcz13_0); (try clear hcz13_1); (try clear hcz20_0); (try clear hcz20_1); (try clear hcz39_0); (try clear hcz39_1); (try clear hcz8_0); (try clear hcz8_1); (try clear hfz11_0); (try clear hfz11_1); (try clear hfz13_0); (try clear hfz13_1); (try clear hfz20_0); (try clear hfz20_1); (try clear hfz39_0); (try clear hfz39_1); (try clear hfz8_0); (try clear hfz8_1); (try clear hx191_0); (try clear hx191_1); (try clear hx193_0); (try clear hx193_1); (try clear hx193_2); (try clear hx193_3); (try clear hx193_4); (try clear hx193_5); (try clear hx193_6); (try clear hx194_0); (try clear hx194_1); (try clear hx196_0); (try clear hx196_1); (try clear hx197_0); (try clear hx197_1); (try clear p1); (try clear p19); (try clear p191); (try clear p193); (try clear p194); (try clear p196); (try clear p197); (try clear p2); (try clear p6); (try clear q1); (try clear q19); (try clear q191); (try clear q193); (try clear q194); (try clear q196); (try clear q197)
        obtain ⟨x8_3, rfl, HA, HK3, BK189, BK190, HB⟩ := hrel
        cases gk with
        | zero => exact absurd HA.out (by simp [sentryref4_sentry.l2])
        | succ k3 =>
         have H := HA.out
         clear HA
         simp only [sentryref4_sentry.l2] at H
         by_cases c40 : x8_3 < (l1_1.length : Int)
         ·rw [if_pos c40] at H
          have c40b0 : decide (x8_3 < (l1_1.length : Int)) = true := decide_eq_true c40
          clear c40
          by_cases c41 : 0 ≤ x8_3
          ·rw [if_pos c41] at H
           have c41b0 : decide (0 ≤ x8_3) = true := decide_eq_true c41
           clear c41
           replace H := Option.bind_eq_some_iff.mp H
           obtain ⟨t200, A420, H⟩ := H
           replace H : (if t200 = true then ((sentryref4_Op.f k3 ((rd_T25 l1_1 x8_3).f1)).bind fun t201 => (if t201 < 0 then (some false) else (if ((rd_T25 l1_1 x8_3).f2) < (-1000000) then (some false) else (if ((rd_T25 l1_1 x8_3).f2) > 1000000 then (some false) else (sentryref4_sentry.l2 k3 (wrap64 (x8_3 + 1)) l0_0 l0_1 l1_0 l1_1))))) else (some false)) = some r := H
           have A42 := Aside0.mk A420
           clear A420
           by_cases c43 : t200 = true
           ·subst c43
            have H1 : ((sentryref4_Op.f k3 ((rd_T25 l1_1 x8_3).f1)).bind fun t201 => (if t201 < 0 then (some false) else (if ((rd_T25 l1_1 x8_3).f2) < (-1000000) then (some false) else (if ((rd_T25 l1_1 x8_3).f2) > 1000000 then (some false) else (sentryref4_sentry.l2 k3 (wrap64 (x8_3 + 1)) l0_0 l0_1 l1_0 l1_1))))) = some r := by rw [if_pos rfl] at H; exact H
            clear H
            have H := H1
            clear H1
            replace H := Option.bind_eq_some_iff.mp H
            obtain ⟨t201, A440, H⟩ := H
            replace H : (if t201 < 0 then (some false) else (if ((rd_T25 l1_1 x8_3).f2) < (-1000000) then (some false) else (if ((rd_T25 l1_1 x8_3).f2) > 1000000 then (some false) else (sentryref4_sentry.l2 k3 (wrap64 (x8_3 + 1)) l0_0 l0_1 l1_0 l1_1)))) = some r := H
            have A44 := Aside0.mk A440
            clear A440
            by_cases c45 : t201 < 0
            ·rw [if_pos c45] at H
             have c45b0 : decide (t201 < 0) = true := decide_eq_true c45
             clear c45
             obtain rfl := Option.some.inj H
             have hnb46 := NB190_189.out
             have hnc46 := NB189_190.out
             obtain ⟨hcz47_0, hcz47_1, hfz47_0, hfz47_1⟩ := bs2_ BK190
             have p198 : 0 ≤ (x8_3 : Int) := od_
             have q198 : x8_3 < (l1_1.length : Int) := od_
             obtain ⟨ad198, e198, hx198_0, hx198_1, hx198_2⟩ := at_T25 HR1_1.out x8_3 p198 q198
             cases e198
             replace hx198_0 := rr_ HB hx198_0
             replace hx198_1 := rr_ HB hx198_1
             replace hx198_2 := rr_ HB hx198_2
             replace p198 := eq_true p198
             replace q198 := eq_true q198
             go_wp2_with (first | ((with_reducible refine gate_dst (N := 9) rfl ?_); (try (refine gate_guard (by rfl) ?_; dsimp only)); refine box_event ?hg (N := 9) ?hd (cs := #[.string (⟨#[]⟩ : ByteArray), .string (⟨#[]⟩ : ByteArray), .int .i64 0]) (t := 25) ?hr ?_; (case hd => rfl); (case hg => rfl); (case hr => first | (go_simp; done) | (go_simp; rfl)); intro gb199 hg w48 hbox hb; have n0_ := bb_ BK189 hb; have n1_ := bb_ BK190 hb; have n2_ := hb_ HB hb; have n3_ := Aside0.mk (hbox); have n4_ := Aside0.mk ((by rw [hg]; exact (below_size (by repeat (first | (with_reducible first | exact HB.out | apply below_alloc | apply pw_below_drewN | apply below_drew1 | refine below_set ?_ GE189.out | refine below_set ?_ GE190.out) | exact HB.out))) : w.heap.size ≤ gb199)); have n5_ := Aside0.mk ((by rw [hg]; exact (below_size (by repeat (first | (with_reducible first | exact HB.out | apply below_alloc | apply pw_below_drewN | apply below_drew1 | refine below_set ?_ GE189.out | refine below_set ?_ GE190.out) | exact HB.out))) : w.heap.size ≤ gb199)); have n6_ := Aside0.mk ((by rw [hg]; exact Nat.ne_of_lt (blk_lt (g := gb189) (o := .cells #[.slice A0_0 l0_0.length c0_0, .slice A0_1 l0_1.length c0_1] 36 (0, 0)) (by (with_reducible repeat (first | refine blk_drewN ?_ _ | refine blk_drew ?_ | refine blk_alloc ?_ _)); exact BK189.out)) : gb189 ≠ gb199)); have n7_ := Aside0.mk ((by rw [hg]; exact Nat.ne_of_gt (blk_lt (g := gb189) (o := .cells #[.slice A0_0 l0_0.length c0_0, .slice A0_1 l0_1.length c0_1] 36 (0, 0)) (by (with_reducible repeat (first | refine blk_drewN ?_ _ | refine blk_drew ?_ | refine blk_alloc ?_ _)); exact BK189.out)) : gb199 ≠ gb189)); have n8_ := Aside0.mk ((by rw [hg]; exact Nat.ne_of_lt (blk_lt (g := gb190) (o := .cells #[.slice A1_0 l1_0.length c1_0, .slice (some ad198) l1_1.length c1_1] 29 (0, 0)) (by (with_reducible repeat (first | refine blk_drewN ?_ _ | refine blk_drew ?_ | refine blk_alloc ?_ _)); exact BK190.out)) : gb190 ≠ gb199)); have n9_ := Aside0.mk ((by rw [hg]; exact Nat.ne_of_gt (blk_lt (g := gb190) (o := .cells #[.slice A1_0 l1_0.length c1_0, .slice (some ad198) l1_1.length c1_1] 29 (0, 0)) (by (with_reducible repeat (first | refine blk_drewN ?_ _ | refine blk_drew ?_ | refine blk_alloc ?_ _)); exact BK190.out)) : gb199 ≠ gb190)); clear BK189; clear BK190; clear HB; have BK189 := n0_; have BK190 := n1_; have HB := n2_; have BK199 := n3_; have GW199 := n4_; have GE199 := n5_; have NB189_199 := n6_; have NB199_189 := n7_; have NB190_199 := n8_; have NB199_190 := n9_; clear n0_ n1_ n2_ n3_ n4_ n5_ n6_ n7_ n8_ n9_; clear hb hbox hg; have hnb49 := NB199_189.out; have hnc49 := NB189_199.out; have hnb50 := NB199_190.out; have hnc50 := NB190_199.out; obtain ⟨hcz51_0, hcz51_1, hcz51_2, hfz51_0, hfz51_1, hfz51_2⟩ := bs3_ BK199; obtain ⟨hcz52_0, hcz52_1, hfz52_0, hfz52_1⟩ := bs2_ BK189) | ((with_reducible refine gate_callee (f := 40) rfl ?_); refine gl_ (some 95) Try.func40 #[.slice A0_0 l0_0.length c0_0, .string ((rd_T25 l1_1 x8_3).f0)] ?_; (with_reducible refine (sentryref4_File.calls k3 _ _ l0_0 ((rd_T25 l1_1 x8_3).f0) true _ ?side1 ?side2 A42.out).mono ?_); (case side1 => exact Kd.C_below HR0_0.out (by repeat (first | (with_reducible first | exact HB.out | apply below_alloc | apply pw_below_drewN | apply below_drew1 | refine below_set ?_ GE189.out | refine below_set ?_ GE190.out | refine below_set ?_ GE199.out) | exact HB.out))); (case side2 => exact HC0_0.out); rintro e w' ⟨rfl, ⟨nd, rfl⟩⟩; refine ⟨_, rfl, ?_⟩) | (go_at_call 74; (with_reducible refine (sentryref4_Op.calls k3 ((rd_T25 l1_1 x8_3).f1) t201 _ A44.out).mono ?_); rintro e w53 ⟨rfl, hb⟩; have n0_ := Aside0.mk (blk_below (g := gb189) (o := .cells #[.slice A0_0 l0_0.length c0_0, .slice A0_1 l0_1.length c0_1] 36 (0, 0)) (by (with_reducible repeat (first | refine blk_drewN ?_ _ | refine blk_drew ?_ | refine blk_alloc ?_ _)); refine blk_far ?_ NB189_199.out _; (with_reducible repeat (first | refine blk_drewN ?_ _ | refine blk_drew ?_ | refine blk_alloc ?_ _)); refine blk_far ?_ NB189_199.out _; (with_reducible repeat (first | refine blk_drewN ?_ _ | refine blk_drew ?_ | refine blk_alloc ?_ _)); refine blk_far ?_ NB189_199.out _; (with_reducible repeat (first | refine blk_drewN ?_ _ | refine blk_drew ?_ | refine blk_alloc ?_ _)); exact BK189.out) hb); have n1_ := Aside0.mk (blk_below (g := gb190) (o := .cells #[.slice A1_0 l1_0.length c1_0, .slice (some ad198) l1_1.length c1_1] 29 (0, 0)) (by (with_reducible repeat (first | refine blk_drewN ?_ _ | refine blk_drew ?_ | refine blk_alloc ?_ _)); refine blk_far ?_ NB190_199.out _; (with_reducible repeat (first | refine blk_drewN ?_ _ | refine blk_drew ?_ | refine blk_alloc ?_ _)); refine blk_far ?_ NB190_199.out _; (with_reducible repeat (first | refine blk_drewN ?_ _ | refine blk_drew ?_ | refine blk_alloc ?_ _)); refine blk_far ?_ NB190_199.out _; (with_reducible repeat (first | refine blk_drewN ?_ _ | refine blk_drew ?_ | refine blk_alloc ?_ _)); exact BK190.out) hb); have n2_ := Aside0.mk (blk_below (g := gb199) (o := .cells #[.string ((rd_T25 l1_1 x8_3).f0), .string ((rd_T25 l1_1 x8_3).f1), .int .i64 ((rd_T25 l1_1 x8_3).f2)] 25 (0, 0)) (by (with_reducible repeat (first | refine blk_drewN ?_ _ | refine blk_drew ?_ | refine blk_alloc ?_ _)); refine blk_put (cs := #[.string ((rd_T25 l1_1 x8_3).f0), .string ((rd_T25 l1_1 x8_3).f1), .int .i64 0]) ?_ 2 _ rfl; (with_reducible repeat (first | refine blk_drewN ?_ _ | refine blk_drew ?_ | refine blk_alloc ?_ _)); refine blk_put (cs := #[.string ((rd_T25 l1_1 x8_3).f0), .string (⟨#[]⟩ : ByteArray), .int .i64 0]) ?_ 1 _ rfl; (with_reducible repeat (first | refine blk_drewN ?_ _ | refine blk_drew ?_ | refine blk_alloc ?_ _)); refine blk_put (cs := #[.string (⟨#[]⟩ : ByteArray), .string (⟨#[]⟩ : ByteArray), .int .i64 0]) ?_ 0 _ rfl; (with_reducible repeat (first | refine blk_drewN ?_ _ | refine blk_drew ?_ | refine blk_alloc ?_ _)); exact BK199.out) hb); have n3_ := hb_ HB hb; clear BK189; clear BK190; clear BK199; clear HB; have BK189 := n0_; have BK190 := n1_; have BK199 := n2_; have HB := n3_; clear n0_ n1_ n2_ n3_; (try clear hb); (try clear hb2); (try clear hk); (try clear hi)))
             go_ret
             exact ⟨er_, hf_⟩
            ·rw [if_neg c45] at H
             have c45b0 : decide (t201 < 0) = false := decide_eq_false c45
             clear c45
             by_cases c54 : ((rd_T25 l1_1 x8_3).f2) < (-1000000)
             ·rw [if_pos c54] at H
              have c54b0 : decide (((rd_T25 l1_1 x8_3).f2) < (-1000000)) = true := decide_eq_true c54
              clear c54
              obtain rfl := Option.some.inj H
              have hnb55 := NB190_189.out
              have hnc55 := NB189_190.out
              obtain ⟨hcz56_0, hcz56_1, hfz56_0, hfz56_1⟩ := bs2_ BK190
              have p198 : 0 ≤ (x8_3 : Int) := od_
              have q198 : x8_3 < (l1_1.length : Int) := od_
              obtain ⟨ad198, e198, hx198_0, hx198_1, hx198_2⟩ := at_T25 HR1_1.out x8_3 p198 q198
              cases e198
              replace hx198_0 := rr_ HB hx198_0
              replace hx198_1 := rr_ HB hx198_1
              replace hx198_2 := rr_ HB hx198_2
              replace p198 := eq_true p198
              replace q198 := eq_true q198
              go_wp2_with (first | ((with_reducible refine gate_dst (N := 9) rfl ?_); (try (refine gate_guard (by rfl) ?_; dsimp only)); refine box_event ?hg (N := 9) ?hd (cs := #[.string (⟨#[]⟩ : ByteArray), .string (⟨#[]⟩ : ByteArray), .int .i64 0]) (t := 25) ?hr ?_; (case hd => rfl); (case hg => rfl); (case hr => first | (go_simp; done) | (go_simp; rfl)); intro gb199 hg w57 hbox hb; have n0_ := bb_ BK189 hb; have n1_ := bb_ BK190 hb; have n2_ := hb_ HB hb; have n3_ := Aside0.mk (hbox); have n4_ := Aside0.mk ((by rw [hg]; exact (below_size (by repeat (first | (with_reducible first | exact HB.out | apply below_alloc | apply pw_below_drewN | apply below_drew1 | refine below_set ?_ GE189.out | refine below_set ?_ GE190.out) | exact HB.out))) : w.heap.size ≤ gb199)); have n5_ := Aside0.mk ((by rw [hg]; exact (below_size (by repeat (first | (with_reducible first | exact HB.out | apply below_alloc | apply pw_below_drewN | apply below_drew1 | refine below_set ?_ GE189.out | refine below_set ?_ GE190.out) | exact HB.out))) : w.heap.size ≤ gb199)); have n6_ := Aside0.mk ((by rw [hg]; exact Nat.ne_of_lt (blk_lt (g := gb189) (o := .cells #[.slice A0_0 l0_0.length c0_0, .slice A0_1 l0_1.length c0_1] 36 (0, 0)) (by (with_reducible repeat (first | refine blk_drewN ?_ _ | refine blk_drew ?_ | refine blk_alloc ?_ _)); exact BK189.out)) : gb189 ≠ gb199)); have n7_ := Aside0.mk ((by rw [hg]; exact Nat.ne_of_gt (blk_lt (g := gb189) (o := .cells #[.slice A0_0 l0_0.length c0_0, .slice A0_1 l0_1.length c0_1] 36 (0, 0)) (by (with_reducible repeat (first | refine blk_drewN ?_ _ | refine blk_drew ?_ | refine blk_alloc ?_ _)); exact BK189.out)) : gb199 ≠ gb189)); have n8_ := Aside0.mk ((by rw [hg]; exact Nat.ne_of_lt (blk_lt (g := gb190) (o := .cells #[.slice A1_0 l1_0.length c1_0, .slice (some ad198) l1_1.length c1_1] 29 (0, 0)) (by (with_reducible repeat (first | refine blk_drewN ?_ _ | refine blk_drew ?_ | refine blk_alloc ?_ _)); exact BK190.out)) : gb190 ≠ gb199)); have n9_ := Aside0.mk ((by rw [hg]; exact Nat.ne_of_gt (blk_lt (g := gb190) (o := .cells #[.slice A1_0 l1_0.length c1_0, .slice (some ad198) l1_1.length c1_1] 29 (0, 0)) (by (with_reducible repeat (first | refine blk_drewN ?_ _ | refine blk_drew ?_ | refine blk_alloc ?_ _)); exact BK190.out)) : gb199 ≠ gb190)); clear BK189; clear BK190; clear HB; have BK189 := n0_; have BK190 := n1_; have HB := n2_; have BK199 := n3_; have GW199 := n4_; have GE199 := n5_; have NB189_199 := n6_; have NB199_189 := n7_; have NB190_199 := n8_; have NB199_190 := n9_; clear n0_ n1_ n2_ n3_ n4_ n5_ n6_ n7_ n8_ n9_; clear hb hbox hg; have hnb58 := NB199_189.out; have hnc58 := NB189_199.out; have hnb59 := NB199_190.out; have hnc59 := NB190_199.out; obtain ⟨hcz60_0, hcz60_1, hcz60_2, hfz60_0, hfz60_1, hfz60_2⟩ := bs3_ BK199; obtain ⟨hcz61_0, hcz61_1, hfz61_0, hfz61_1⟩ := bs2_ BK189) | ((with_reducible refine gate_callee (f := 40) rfl ?_); refine gl_ (some 95) Try.func40 #[.slice A0_0 l0_0.length c0_0, .string ((rd_T25 l1_1 x8_3).f0)] ?_; (with_reducible refine (sentryref4_File.calls k3 _ _ l0_0 ((rd_T25 l1_1 x8_3).f0) true _ ?side1 ?side2 A42.out).mono ?_); (case side1 => exact Kd.C_below HR0_0.out (by repeat (first | (with_reducible first | exact HB.out | apply below_alloc | apply pw_below_drewN | apply below_drew1 | refine below_set ?_ GE189.out | refine below_set ?_ GE190.out | refine below_set ?_ GE199.out) | exact HB.out))); (case side2 => exact HC0_0.out); rintro e w' ⟨rfl, ⟨nd, rfl⟩⟩; refine ⟨_, rfl, ?_⟩) | (go_at_call 74; (with_reducible refine (sentryref4_Op.calls k3 ((rd_T25 l1_1 x8_3).f1) t201 _ A44.out).mono ?_); rintro e w62 ⟨rfl, hb⟩; have n0_ := Aside0.mk (blk_below (g := gb189) (o := .cells #[.slice A0_0 l0_0.length c0_0, .slice A0_1 l0_1.length c0_1] 36 (0, 0)) (by (with_reducible repeat (first | refine blk_drewN ?_ _ | refine blk_drew ?_ | refine blk_alloc ?_ _)); refine blk_far ?_ NB189_199.out _; (with_reducible repeat (first | refine blk_drewN ?_ _ | refine blk_drew ?_ | refine blk_alloc ?_ _)); refine blk_far ?_ NB189_199.out _; (with_reducible repeat (first | refine blk_drewN ?_ _ | refine blk_drew ?_ | refine blk_alloc ?_ _)); refine blk_far ?_ NB189_199.out _; (with_reducible repeat (first | refine blk_drewN ?_ _ | refine blk_drew ?_ | refine blk_alloc ?_ _)); exact BK189.out) hb); have n1_ := Aside0.mk (blk_below (g := gb190) (o := .cells #[.slice A1_0 l1_0.length c1_0, .slice (some ad198) l1_1.length c1_1] 29 (0, 0)) (by (with_reducible repeat (first | refine blk_drewN ?_ _ | refine blk_drew ?_ | refine blk_alloc ?_ _)); refine blk_far ?_ NB190_199.out _; (with_reducible repeat (first | refine blk_drewN ?_ _ | refine blk_drew ?_ | refine blk_alloc ?_ _)); refine blk_far ?_ NB190_199.out _; (with_reducible repeat (first | refine blk_drewN ?_ _ | refine blk_drew ?_ | refine blk_alloc ?_ _)); refine blk_far ?_ NB190_199.out _; (with_reducible repeat (first | refine blk_drewN ?_ _ | refine blk_drew ?_ | refine blk_alloc ?_ _)); exact BK190.out) hb); have n2_ := Aside0.mk (blk_below (g := gb199) (o := .cells #[.string ((rd_T25 l1_1 x8_3).f0), .string ((rd_T25 l1_1 x8_3).f1), .int .i64 ((rd_T25 l1_1 x8_3).f2)] 25 (0, 0)) (by (with_reducible repeat (first | refine blk_drewN ?_ _ | refine blk_drew ?_ | refine blk_alloc ?_ _)); refine blk_put (cs := #[.string ((rd_T25 l1_1 x8_3).f0), .string ((rd_T25 l1_1 x8_3).f1), .int .i64 0]) ?_ 2 _ rfl; (with_reducible repeat (first | refine blk_drewN ?_ _ | refine blk_drew ?_ | refine blk_alloc ?_ _)); refine blk_put (cs := #[.string ((rd_T25 l1_1 x8_3).f0), .string (⟨#[]⟩ : ByteArray), .int .i64 0]) ?_ 1 _ rfl; (with_reducible repeat (first | refine blk_drewN ?_ _ | refine blk_drew ?_ | refine blk_alloc ?_ _)); refine blk_put (cs := #[.string (⟨#[]⟩ : ByteArray), .string (⟨#[]⟩ : ByteArray), .int .i64 0]) ?_ 0 _ rfl; (with_reducible repeat (first | refine blk_drewN ?_ _ | refine blk_drew ?_ | refine blk_alloc ?_ _)); exact BK199.out) hb); have n3_ := hb_ HB hb; clear BK189; clear BK190; clear BK199; clear HB; have BK189 := n0_; have BK190 := n1_; have BK199 := n2_; have HB := n3_; clear n0_ n1_ n2_ n3_; (try clear hb); (try clear hb2); (try clear hk); (try clear hi); obtain ⟨hcz63_0, hcz63_1, hcz63_2, hfz63_0, hfz63_1, hfz63_2⟩ := bs3_ BK199))
              go_ret
              exact ⟨er_, hf_⟩
             ·rw [if_neg c54] at H
              have c54b0 : decide (((rd_T25 l1_1 x8_3).f2) < (-1000000)) = false := decide_eq_false c54
              clear c54
              by_cases c64 : ((rd_T25 l1_1 x8_3).f2) > 1000000
              ·rw [if_pos c64] at H
               have c64b0 : decide (1000000 < ((rd_T25 l1_1 x8_3).f2)) = true := decide_eq_true c64
               clear c64
               obtain rfl := Option.some.inj H
               have hnb65 := NB190_189.out
               have hnc65 := NB189_190.out
               obtain ⟨hcz66_0, hcz66_1, hfz66_0, hfz66_1⟩ := bs2_ BK190
               have p198 : 0 ≤ (x8_3 : Int) := od_
               have q198 : x8_3 < (l1_1.length : Int) := od_
               obtain ⟨ad198, e198, hx198_0, hx198_1, hx198_2⟩ := at_T25 HR1_1.out x8_3 p198 q198
               cases e198
               replace hx198_0 := rr_ HB hx198_0
               replace hx198_1 := rr_ HB hx198_1
               replace hx198_2 := rr_ HB hx198_2
               replace p198 := eq_true p198
               replace q198 := eq_true q198
               go_wp2_with (first | ((with_reducible refine gate_dst (N := 9) rfl ?_); (try (refine gate_guard (by rfl) ?_; dsimp only)); refine box_event ?hg (N := 9) ?hd (cs := #[.string (⟨#[]⟩ : ByteArray), .string (⟨#[]⟩ : ByteArray), .int .i64 0]) (t := 25) ?hr ?_; (case hd => rfl); (case hg => rfl); (case hr => first | (go_simp; done) | (go_simp; rfl)); intro gb199 hg w67 hbox hb; have n0_ := bb_ BK189 hb; have n1_ := bb_ BK190 hb; have n2_ := hb_ HB hb; have n3_ := Aside0.mk (hbox); have n4_ := Aside0.mk ((by rw [hg]; exact (below_size (by repeat (first | (with_reducible first | exact HB.out | apply below_alloc | apply pw_below_drewN | apply below_drew1 | refine below_set ?_ GE189.out | refine below_set ?_ GE190.out) | exact HB.out))) : w.heap.size ≤ gb199)); have n5_ := Aside0.mk ((by rw [hg]; exact (below_size (by repeat (first | (with_reducible first | exact HB.out | apply below_alloc | apply pw_below_drewN | apply below_drew1 | refine below_set ?_ GE189.out | refine below_set ?_ GE190.out) | exact HB.out))) : w.heap.size ≤ gb199)); have n6_ := Aside0.mk ((by rw [hg]; exact Nat.ne_of_lt (blk_lt (g := gb189) (o := .cells #[.slice A0_0 l0_0.length c0_0, .slice A0_1 l0_1.length c0_1] 36 (0, 0)) (by (with_reducible repeat (first | refine blk_drewN ?_ _ | refine blk_drew ?_ | refine blk_alloc ?_ _)); exact BK189.out)) : gb189 ≠ gb199)); have n7_ := Aside0.mk ((by rw [hg]; exact Nat.ne_of_gt (blk_lt (g := gb189) (o := .cells #[.slice A0_0 l0_0.length c0_0, .slice A0_1 l0_1.length c0_1] 36 (0, 0)) (by (with_reducible repeat (first | refine blk_drewN ?_ _ | refine blk_drew ?_ | refine blk_alloc ?_ _)); exact BK189.out)) : gb199 ≠ gb189)); have n8_ := Aside0.mk ((by rw [hg]; exact Nat.ne_of_lt (blk_lt (g := gb190) (o := .cells #[.slice A1_0 l1_0.length c1_0, .slice (some ad198) l1_1.length c1_1] 29 (0, 0)) (by (with_reducible repeat (first | refine blk_drewN ?_ _ | refine blk_drew ?_ | refine blk_alloc ?_ _)); exact BK190.out)) : gb190 ≠ gb199)); have n9_ := Aside0.mk ((by rw [hg]; exact Nat.ne_of_gt (blk_lt (g := gb190) (o := .cells #[.slice A1_0 l1_0.length c1_0, .slice (some ad198) l1_1.length c1_1] 29 (0, 0)) (by (with_reducible repeat (first | refine blk_drewN ?_ _ | refine blk_drew ?_ | refine blk_alloc ?_ _)); exact BK190.out)) : gb199 ≠ gb190)); clear BK189; clear BK190; clear HB; have BK189 := n0_; have BK190 := n1_; have HB := n2_; have BK199 := n3_; have GW199 := n4_; have GE199 := n5_; have NB189_199 := n6_; have NB199_189 := n7_; have NB190_199 := n8_; have NB199_190 := n9_; clear n0_ n1_ n2_ n3_ n4_ n5_ n6_ n7_ n8_ n9_; clear hb hbox hg; have hnb68 := NB199_189.out; have hnc68 := NB189_199.out; have hnb69 := NB199_190.out; have hnc69 := NB190_199.out; obtain ⟨hcz70_0, hcz70_1, hcz70_2, hfz70_0, hfz70_1, hfz70_2⟩ := bs3_ BK199; obtain ⟨hcz71_0, hcz71_1, hfz71_0, hfz71_1⟩ := bs2_ BK189) | ((with_reducible refine gate_callee (f := 40) rfl ?_); refine gl_ (some 95) Try.func40 #[.slice A0_0 l0_0.length c0_0, .string ((rd_T25 l1_1 x8_3).f0)] ?_; (with_reducible refine (sentryref4_File.calls k3 _ _ l0_0 ((rd_T25 l1_1 x8_3).f0) true _ ?side1 ?side2 A42.out).mono ?_); (case side1 => exact Kd.C_below HR0_0.out (by repeat (first | (with_reducible first | exact HB.out | apply below_alloc | apply pw_below_drewN | apply below_drew1 | refine below_set ?_ GE189.out | refine below_set ?_ GE190.out | refine below_set ?_ GE199.out) | exact HB.out))); (case side2 => exact HC0_0.out); rintro e w' ⟨rfl, ⟨nd, rfl⟩⟩; refine ⟨_, rfl, ?_⟩) | (go_at_call 74; (with_reducible refine (sentryref4_Op.calls k3 ((rd_T25 l1_1 x8_3).f1) t201 _ A44.out).mono ?_); rintro e w72 ⟨rfl, hb⟩; have n0_ := Aside0.mk (blk_below (g := gb189) (o := .cells #[.slice A0_0 l0_0.length c0_0, .slice A0_1 l0_1.length c0_1] 36 (0, 0)) (by (with_reducible repeat (first | refine blk_drewN ?_ _ | refine blk_drew ?_ | refine blk_alloc ?_ _)); refine blk_far ?_ NB189_199.out _; (with_reducible repeat (first | refine blk_drewN ?_ _ | refine blk_drew ?_ | refine blk_alloc ?_ _)); refine blk_far ?_ NB189_199.out _; (with_reducible repeat (first | refine blk_drewN ?_ _ | refine blk_drew ?_ | refine blk_alloc ?_ _)); refine blk_far ?_ NB189_199.out _; (with_reducible repeat (first | refine blk_drewN ?_ _ | refine blk_drew ?_ | refine blk_alloc ?_ _)); exact BK189.out) hb); have n1_ := Aside0.mk (blk_below (g := gb190) (o := .cells #[.slice A1_0 l1_0.length c1_0, .slice (some ad198) l1_1.length c1_1] 29 (0, 0)) (by (with_reducible repeat (first | refine blk_drewN ?_ _ | refine blk_drew ?_ | refine blk_alloc ?_ _)); refine blk_far ?_ NB190_199.out _; (with_reducible repeat (first | refine blk_drewN ?_ _ | refine blk_drew ?_ | refine blk_alloc ?_ _)); refine blk_far ?_ NB190_199.out _; (with_reducible repeat (first | refine blk_drewN ?_ _ | refine blk_drew ?_ | refine blk_alloc ?_ _)); refine blk_far ?_ NB190_199.out _; (with_reducible repeat (first | refine blk_drewN ?_ _ | refine blk_drew ?_ | refine blk_alloc ?_ _)); exact BK190.out) hb); have n2_ := Aside0.mk (blk_below (g := gb199) (o := .cells #[.string ((rd_T25 l1_1 x8_3).f0), .string ((rd_T25 l1_1 x8_3).f1), .int .i64 ((rd_T25 l1_1 x8_3).f2)] 25 (0, 0)) (by (with_reducible repeat (first | refine blk_drewN ?_ _ | refine blk_drew ?_ | refine blk_alloc ?_ _)); refine blk_put (cs := #[.string ((rd_T25 l1_1 x8_3).f0), .string ((rd_T25 l1_1 x8_3).f1), .int .i64 0]) ?_ 2 _ rfl; (with_reducible repeat (first | refine blk_drewN ?_ _ | refine blk_drew ?_ | refine blk_alloc ?_ _)); refine blk_put (cs := #[.string ((rd_T25 l1_1 x8_3).f0), .string (⟨#[]⟩ : ByteArray), .int .i64 0]) ?_ 1 _ rfl; (with_reducible repeat (first | refine blk_drewN ?_ _ | refine blk_drew ?_ | refine blk_alloc ?_ _)); refine blk_put (cs := #[.string (⟨#[]⟩ : ByteArray), .string (⟨#[]⟩ : ByteArray), .int .i64 0]) ?_ 0 _ rfl; (with_reducible repeat (first | refine blk_drewN ?_ _ | refine blk_drew ?_ | refine blk_alloc ?_ _)); exact BK199.out) hb); have n3_ := hb_ HB hb; clear BK189; clear BK190; clear BK199; clear HB; have BK189 := n0_; have BK190 := n1_; have BK199 := n2_; have HB := n3_; clear n0_ n1_ n2_ n3_; (try clear hb); (try clear hb2); (try clear hk); (try clear hi); obtain ⟨hcz73_0, hcz73_1, hcz73_2, hfz73_0, hfz73_1, hfz73_2⟩ := bs3_ BK199))
               go_ret
               exact ⟨er_, hf_⟩
              ·rw [if_neg c64] at H
               have c64b0 : decide (1000000 < ((rd_T25 l1_1 x8_3).f2)) = false := decide_eq_false c64
               clear c64
               have H' := Aside0.mk H
               clear H
               have hnb74 := NB190_189.out
               have hnc74 := NB189_190.out
               obtain ⟨hcz75_0, hcz75_1, hfz75_0, hfz75_1⟩ := bs2_ BK190
               have p198 : 0 ≤ (x8_3 : Int) := od_
               have q198 : x8_3 < (l1_1.length : Int) := od_
               obtain ⟨ad198, e198, hx198_0, hx198_1, hx198_2⟩ := at_T25 HR1_1.out x8_3 p198 q198
               cases e198
               replace hx198_0 := rr_ HB hx198_0
               replace hx198_1 := rr_ HB hx198_1
               replace hx198_2 := rr_ HB hx198_2
               replace p198 := eq_true p198
               replace q198 := eq_true q198
               go_wp2_with (first | ((with_reducible refine gate_dst (N := 9) rfl ?_); (try (refine gate_guard (by rfl) ?_; dsimp only)); refine box_event ?hg (N := 9) ?hd (cs := #[.string (⟨#[]⟩ : ByteArray), .string (⟨#[]⟩ : ByteArray), .int .i64 0]) (t := 25) ?hr ?_; (case hd => rfl); (case hg => rfl); (case hr => first | (go_simp; done) | (go_simp; rfl)); intro gb199 hg w76 hbox hb; have n0_ := bb_ BK189 hb; have n1_ := bb_ BK190 hb; have n2_ := hb_ HB hb; have n3_ := Aside0.mk (hbox); have n4_ := Aside0.mk ((by rw [hg]; exact (below_size (by repeat (first | (with_reducible first | exact HB.out | apply below_alloc | apply pw_below_drewN | apply below_drew1 | refine below_set ?_ GE189.out | refine below_set ?_ GE190.out) | exact HB.out))) : w.heap.size ≤ gb199)); have n5_ := Aside0.mk ((by rw [hg]; exact (below_size (by repeat (first | (with_reducible first | exact HB.out | apply below_alloc | apply pw_below_drewN | apply below_drew1 | refine below_set ?_ GE189.out | refine below_set ?_ GE190.out) | exact HB.out))) : w.heap.size ≤ gb199)); have n6_ := Aside0.mk ((by rw [hg]; exact Nat.ne_of_lt (blk_lt (g := gb189) (o := .cells #[.slice A0_0 l0_0.length c0_0, .slice A0_1 l0_1.length c0_1] 36 (0, 0)) (by (with_reducible repeat (first | refine blk_drewN ?_ _ | refine blk_drew ?_ | refine blk_alloc ?_ _)); exact BK189.out)) : gb189 ≠ gb199)); have n7_ := Aside0.mk ((by rw [hg]; exact Nat.ne_of_gt (blk_lt (g := gb189) (o := .cells #[.slice A0_0 l0_0.length c0_0, .slice A0_1 l0_1.length c0_1] 36 (0, 0)) (by (with_reducible repeat (first | refine blk_drewN ?_ _ | refine blk_drew ?_ | refine blk_alloc ?_ _)); exact BK189.out)) : gb199 ≠ gb189)); have n8_ := Aside0.mk ((by rw [hg]; exact Nat.ne_of_lt (blk_lt (g := gb190) (o := .cells #[.slice A1_0 l1_0.length c1_0, .slice (some ad198) l1_1.length c1_1] 29 (0, 0)) (by (with_reducible repeat (first | refine blk_drewN ?_ _ | refine blk_drew ?_ | refine blk_alloc ?_ _)); exact BK190.out)) : gb190 ≠ gb199)); have n9_ := Aside0.mk ((by rw [hg]; exact Nat.ne_of_gt (blk_lt (g := gb190) (o := .cells #[.slice A1_0 l1_0.length c1_0, .slice (some ad198) l1_1.length c1_1] 29 (0, 0)) (by (with_reducible repeat (first | refine blk_drewN ?_ _ | refine blk_drew ?_ | refine blk_alloc ?_ _)); exact BK190.out)) : gb199 ≠ gb190)); clear BK189; clear BK190; clear HB; have BK189 := n0_; have BK190 := n1_; have HB := n2_; have BK199 := n3_; have GW199 := n4_; have GE199 := n5_; have NB189_199 := n6_; have NB199_189 := n7_; have NB190_199 := n8_; have NB199_190 := n9_; clear n0_ n1_ n2_ n3_ n4_ n5_ n6_ n7_ n8_ n9_; clear hb hbox hg; have hnb77 := NB199_189.out; have hnc77 := NB189_199.out; have hnb78 := NB199_190.out; have hnc78 := NB190_199.out; obtain ⟨hcz79_0, hcz79_1, hcz79_2, hfz79_0, hfz79_1, hfz79_2⟩ := bs3_ BK199; obtain ⟨hcz80_0, hcz80_1, hfz80_0, hfz80_1⟩ := bs2_ BK189) | ((with_reducible refine gate_callee (f := 40) rfl ?_); refine gl_ (some 95) Try.func40 #[.slice A0_0 l0_0.length c0_0, .string ((rd_T25 l1_1 x8_3).f0)] ?_; (with_reducible refine (sentryref4_File.calls k3 _ _ l0_0 ((rd_T25 l1_1 x8_3).f0) true _ ?side1 ?side2 A42.out).mono ?_); (case side1 => exact Kd.C_below HR0_0.out (by repeat (first | (with_reducible first | exact HB.out | apply below_alloc | apply pw_below_drewN | apply below_drew1 | refine below_set ?_ GE189.out | refine below_set ?_ GE190.out | refine below_set ?_ GE199.out) | exact HB.out))); (case side2 => exact HC0_0.out); rintro e w' ⟨rfl, ⟨nd, rfl⟩⟩; refine ⟨_, rfl, ?_⟩) | (go_at_call 74; (with_reducible refine (sentryref4_Op.calls k3 ((rd_T25 l1_1 x8_3).f1) t201 _ A44.out).mono ?_); rintro e w81 ⟨rfl, hb⟩; have n0_ := Aside0.mk (blk_below (g := gb189) (o := .cells #[.slice A0_0 l0_0.length c0_0, .slice A0_1 l0_1.length c0_1] 36 (0, 0)) (by (with_reducible repeat (first | refine blk_drewN ?_ _ | refine blk_drew ?_ | refine blk_alloc ?_ _)); refine blk_far ?_ NB189_199.out _; (with_reducible repeat (first | refine blk_drewN ?_ _ | refine blk_drew ?_ | refine blk_alloc ?_ _)); refine blk_far ?_ NB189_199.out _; (with_reducible repeat (first | refine blk_drewN ?_ _ | refine blk_drew ?_ | refine blk_alloc ?_ _)); refine blk_far ?_ NB189_199.out _; (with_reducible repeat (first | refine blk_drewN ?_ _ | refine blk_drew ?_ | refine blk_alloc ?_ _)); exact BK189.out) hb); have n1_ := Aside0.mk (blk_below (g := gb190) (o := .cells #[.slice A1_0 l1_0.length c1_0, .slice (some ad198) l1_1.length c1_1] 29 (0, 0)) (by (with_reducible repeat (first | refine blk_drewN ?_ _ | refine blk_drew ?_ | refine blk_alloc ?_ _)); refine blk_far ?_ NB190_199.out _; (with_reducible repeat (first | refine blk_drewN ?_ _ | refine blk_drew ?_ | refine blk_alloc ?_ _)); refine blk_far ?_ NB190_199.out _; (with_reducible repeat (first | refine blk_drewN ?_ _ | refine blk_drew ?_ | refine blk_alloc ?_ _)); refine blk_far ?_ NB190_199.out _; (with_reducible repeat (first | refine blk_drewN ?_ _ | refine blk_drew ?_ | refine blk_alloc ?_ _)); exact BK190.out) hb); have n2_ := Aside0.mk (blk_below (g := gb199) (o := .cells #[.string ((rd_T25 l1_1 x8_3).f0), .string ((rd_T25 l1_1 x8_3).f1), .int .i64 ((rd_T25 l1_1 x8_3).f2)] 25 (0, 0)) (by (with_reducible repeat (first | refine blk_drewN ?_ _ | refine blk_drew ?_ | refine blk_alloc ?_ _)); refine blk_put (cs := #[.string ((rd_T25 l1_1 x8_3).f0), .string ((rd_T25 l1_1 x8_3).f1), .int .i64 0]) ?_ 2 _ rfl; (with_reducible repeat (first | refine blk_drewN ?_ _ | refine blk_drew ?_ | refine blk_alloc ?_ _)); refine blk_put (cs := #[.string ((rd_T25 l1_1 x8_3).f0), .string (⟨#[]⟩ : ByteArray), .int .i64 0]) ?_ 1 _ rfl; (with_reducible repeat (first | refine blk_drewN ?_ _ | refine blk_drew ?_ | refine blk_alloc ?_ _)); refine blk_put (cs := #[.string (⟨#[]⟩ : ByteArray), .string (⟨#[]⟩ : ByteArray), .int .i64 0]) ?_ 0 _ rfl; (with_reducible repeat (first | refine blk_drewN ?_ _ | refine blk_drew ?_ | refine blk_alloc ?_ _)); exact BK199.out) hb); have n3_ := hb_ HB hb; clear BK189; clear BK190; clear BK199; clear HB; have BK189 := n0_; have BK190 := n1_; have BK199 := n2_; have HB := n3_; clear n0_ n1_ n2_ n3_; (try clear hb); (try clear hb2); (try clear hk); (try clear hi); obtain ⟨hcz82_0, hcz82_1, hcz82_2, hfz82_0, hfz82_1, hfz82_2⟩ := bs3_ BK199))
               go_roundg k3
               case measure => have := HJ2.out; have := HK2.out; have := HK3.out; omega
               case rel => exact ⟨(wrap64 (x8_3 + 1)), (by first | rfl | (simp; done) | (simp [*]; done)), H', ⟨by have := HJ2.out; have := HK2.out; have := HK3.out; omega⟩, ⟨gx_ BK189⟩, ⟨gx_ BK190⟩, ⟨hf_⟩⟩
           ·replace c43 := Bool.eq_false_iff.mpr c43
            subst c43
            have H1 : (some false) = some r := by rw [if_neg (show ¬ (false = true) by decide)] at H; exact H
            clear H
            have H := H1
            clear H1
            obtain rfl := Option.some.inj H
            have hnb83 := NB190_189.out
            have hnc83 := NB189_190.out
            obtain ⟨hcz84_0, hcz84_1, hfz84_0, hfz84_1⟩ := bs2_ BK190
            have p198 : 0 ≤ (x8_3 : Int) := od_
            have q198 : x8_3 < (l1_1.length : Int) := od_
            obtain ⟨ad198, e198, hx198_0, hx198_1, hx198_2⟩ := at_T25 HR1_1.out x8_3 p198 q198
            cases e198
            replace hx198_0 := rr_ HB hx198_0
            replace hx198_1 := rr_ HB hx198_1
            replace hx198_2 := rr_ HB hx198_2
            replace p198 := eq_true p198
            replace q198 := eq_true q198
            go_wp2_with (first | ((with_reducible refine gate_dst (N := 9) rfl ?_); (try (refine gate_guard (by rfl) ?_; dsimp only)); refine box_event ?hg (N := 9) ?hd (cs := #[.string (⟨#[]⟩ : ByteArray), .string (⟨#[]⟩ : ByteArray), .int .i64 0]) (t := 25) ?hr ?_; (case hd => rfl); (case hg => rfl); (case hr => first | (go_simp; done) | (go_simp; rfl)); intro gb199 hg w85 hbox hb; have n0_ := bb_ BK189 hb; have n1_ := bb_ BK190 hb; have n2_ := hb_ HB hb; have n3_ := Aside0.mk (hbox); have n4_ := Aside0.mk ((by rw [hg]; exact (below_size (by repeat (first | (with_reducible first | exact HB.out | apply below_alloc | apply pw_below_drewN | apply below_drew1 | refine below_set ?_ GE189.out | refine below_set ?_ GE190.out) | exact HB.out))) : w.heap.size ≤ gb199)); have n5_ := Aside0.mk ((by rw [hg]; exact (below_size (by repeat (first | (with_reducible first | exact HB.out | apply below_alloc | apply pw_below_drewN | apply below_drew1 | refine below_set ?_ GE189.out | refine below_set ?_ GE190.out) | exact HB.out))) : w.heap.size ≤ gb199)); have n6_ := Aside0.mk ((by rw [hg]; exact Nat.ne_of_lt (blk_lt (g := gb189) (o := .cells #[.slice A0_0 l0_0.length c0_0, .slice A0_1 l0_1.length c0_1] 36 (0, 0)) (by (with_reducible repeat (first | refine blk_drewN ?_ _ | refine blk_drew ?_ | refine blk_alloc ?_ _)); exact BK189.out)) : gb189 ≠ gb199)); have n7_ := Aside0.mk ((by rw [hg]; exact Nat.ne_of_gt (blk_lt (g := gb189) (o := .cells #[.slice A0_0 l0_0.length c0_0, .slice A0_1 l0_1.length c0_1] 36 (0, 0)) (by (with_reducible repeat (first | refine blk_drewN ?_ _ | refine blk_drew ?_ | refine blk_alloc ?_ _)); exact BK189.out)) : gb199 ≠ gb189)); have n8_ := Aside0.mk ((by rw [hg]; exact Nat.ne_of_lt (blk_lt (g := gb190) (o := .cells #[.slice A1_0 l1_0.length c1_0, .slice (some ad198) l1_1.length c1_1] 29 (0, 0)) (by (with_reducible repeat (first | refine blk_drewN ?_ _ | refine blk_drew ?_ | refine blk_alloc ?_ _)); exact BK190.out)) : gb190 ≠ gb199)); have n9_ := Aside0.mk ((by rw [hg]; exact Nat.ne_of_gt (blk_lt (g := gb190) (o := .cells #[.slice A1_0 l1_0.length c1_0, .slice (some ad198) l1_1.length c1_1] 29 (0, 0)) (by (with_reducible repeat (first | refine blk_drewN ?_ _ | refine blk_drew ?_ | refine blk_alloc ?_ _)); exact BK190.out)) : gb199 ≠ gb190)); clear BK189; clear BK190; clear HB; have BK189 := n0_; have BK190 := n1_; have HB := n2_; have BK199 := n3_; have GW199 := n4_; have GE199 := n5_; have NB189_199 := n6_; have NB199_189 := n7_; have NB190_199 := n8_; have NB199_190 := n9_; clear n0_ n1_ n2_ n3_ n4_ n5_ n6_ n7_ n8_ n9_; clear hb hbox hg; have hnb86 := NB199_189.out; have hnc86 := NB189_199.out; have hnb87 := NB199_190.out; have hnc87 := NB190_199.out; obtain ⟨hcz88_0, hcz88_1, hcz88_2, hfz88_0, hfz88_1, hfz88_2⟩ := bs3_ BK199; obtain ⟨hcz89_0, hcz89_1, hfz89_0, hfz89_1⟩ := bs2_ BK189) | ((with_reducible refine gate_callee (f := 40) rfl ?_); refine gl_ (some 95) Try.func40 #[.slice A0_0 l0_0.length c0_0, .string ((rd_T25 l1_1 x8_3).f0)] ?_; (with_reducible refine (sentryref4_File.calls k3 _ _ l0_0 ((rd_T25 l1_1 x8_3).f0) false _ ?side1 ?side2 A42.out).mono ?_); (case side1 => exact Kd.C_below HR0_0.out (by repeat (first | (with_reducible first | exact HB.out | apply below_alloc | apply pw_below_drewN | apply below_drew1 | refine below_set ?_ GE189.out | refine below_set ?_ GE190.out | refine below_set ?_ GE199.out) | exact HB.out))); (case side2 => exact HC0_0.out); rintro e w' ⟨rfl, ⟨nd, rfl⟩⟩; refine ⟨_, rfl, ?_⟩))
            go_ret
            exact ⟨er_, hf_⟩
          ·rw [if_neg c41] at H
           exact absurd H (by simp)
         ·rw [if_neg c40] at H
          have c40b0 : decide (x8_3 < (l1_1.length : Int)) = false := decide_eq_false c40
          clear c40
          obtain rfl := Option.some.inj H
          have hnb90 := NB190_189.out
          have hnc90 := NB189_190.out
          obtain ⟨hcz91_0, hcz91_1, hfz91_0, hfz91_1⟩ := bs2_ BK190
          go_wp2
          go_ret
          exact ⟨er_, hf_⟩
end Go.Proofs.Ytchellnfenekaaa.Pm
end
section
namespace Go.Proofs.Ytchellnfenekaaa.Pm
open Go.RowKit Go.Proofs.YtchellnfenekaaaW.PrintWords Go.Proofs.YtchellnfenekaaaW.PrintLast Go.Proofs.YtchellnfenekaaaW.PrintMore
attribute [local go_sem] max2_int min2_int max_two min_two max_three min_three max_four min_four   -- for this text's walks alone
set_option linter.unusedVariables false
set_option linter.unusedSimpArgs false
def sentryref4_sentries.l0 : Nat → List (S29) → Int → List ByteArray → List (S32) → Option (Bool)
 | 0, _, _, _, _ => none
 | k + 1, x1, x5, x203000, x203001 => if x5 < (x1.length : Int) then (if 0 ≤ x5 then ((sentryref4_sentry.f k x203000 x203001 ((rd_T29 x1 x5).f0) ((rd_T29 x1 x5).f1)).bind fun t204 => (if t204 = true then (sentryref4_sentries.l0 k x1 (wrap64 (x5 + 1)) x203000 x203001) else (some false))) else (none)) else (some (decide ((x1.length : Int) ≤ 3)))
def sentryref4_sentries.f (k : Nat) (l0_0 : List ByteArray) (l0_1 : List (S32)) (l1 : List (S29)) : Option (Bool) := sentryref4_sentries.l0 k l1 0 l0_0 l0_1
theorem sentryref4_sentries.mono_l : ∀ k, (∀ y0 y1 y2 y3, LeO (sentryref4_sentries.l0 k y0 y1 y2 y3) (sentryref4_sentries.l0 (k + 1) y0 y1 y2 y3))
 | 0 => fun _ _ _ _ r h => by simp [sentryref4_sentries.l0] at h
 | k + 1 => by
  have ih0 := sentryref4_sentries.mono_l k
  ·intro y0 y1 y2 y3
   unfold sentryref4_sentries.l0
   repeat' first
   | (with_reducible exact ih0 _ _ _ _)
   | (with_reducible exact sentryref4_sentry.mono _ _ _ _ _)
   | (with_reducible exact LeO.refl _)
   | (with_reducible exact LeO.none _)
   | (with_reducible refine LeO.ite ?_ ?_)
   | (with_reducible refine LeO.bind ?_ (fun _ => ?_))
   | exact ih0 _ _ _ _
   | exact sentryref4_sentry.mono _ _ _ _ _
   | exact LeO.none _
   | refine LeO.ite ?_ ?_
   | refine LeO.bind ?_ (fun _ => ?_)
theorem sentryref4_sentries.mono : ∀ a0 a1 a2 k, LeO (sentryref4_sentries.f k a0 a1 a2) (sentryref4_sentries.f (k + 1) a0 a1 a2) := by
 intro a0 a1 a2 k
 have ih0 := sentryref4_sentries.mono_l k
 unfold sentryref4_sentries.f
 repeat' first
   | (with_reducible exact ih0 _ _ _ _)
   | (with_reducible exact sentryref4_sentry.mono _ _ _ _ _)
   | (with_reducible exact LeO.refl _)
   | (with_reducible exact LeO.none _)
   | (with_reducible refine LeO.ite ?_ ?_)
   | (with_reducible refine LeO.bind ?_ (fun _ => ?_))
   | exact ih0 _ _ _ _
   | exact sentryref4_sentry.mono _ _ _ _ _
   | exact LeO.none _
   | refine LeO.ite ?_ ?_
   | refine LeO.bind ?_ (fun _ => ?_)
set_option maxHeartbeats 8000000 in
set_option maxRecDepth 100000 in
theorem sentryref4_sentries.calls (k : Nat) (A0_0 : Option Addr) (c0_0 : Nat) (l0_0 : List ByteArray) (A0_1 : Option Addr) (c0_1 : Nat) (l0_1 : List (S32)) (A1 : Option Addr) (c1 : Nat) (l1 : List (S29)) (r : Bool) (w : World) (hr0_0 : Kd.C Kd.string w A0_0 l0_0.length l0_0) (hc0_0 : l0_0.length ≤ c0_0) (hr0_1 : Kd.C k32 w A0_1 l0_1.length l0_1) (hc0_1 : l0_1.length ≤ c0_1) (hr1 : Kd.C k29 w A1 l1.length l1) (hc1 : l1.length ≤ c1) (h : sentryref4_sentries.f k l0_0 l0_1 l1 = some r) :
  Calls Try.prog 42 #[.agg #[.slice A0_0 l0_0.length c0_0, .slice A0_1 l0_1.length c0_1], .slice A1 l1.length c1] w fun e w' => e = .returned (.bool r) ∧ Below w.heap.size w w' := by
 have hu36 := Try.underlying36
 have hu29 := Try.underlying29
 have HR0_0 := Aside0.mk hr0_0
 have HC0_0 := Aside0.mk hc0_0
 clear hr0_0 hc0_0
 have HR0_1 := Aside0.mk hr0_1
 have HC0_1 := Aside0.mk hc0_1
 clear hr0_1 hc0_1
 have HR1 := Aside0.mk hr1
 have HC1 := Aside0.mk hc1
 clear hr1 hc1
 have HB := Aside0.mk (Below.refl w.heap.size w)
 have H : (sentryref4_sentries.l0 k l1 0 l0_0 l0_1) = some r := h
 clear h
 have H' := Aside0.mk H
 clear H
 go_enter Try.func42, Try.ntmps42
 go_wp2_with (first | ((with_reducible refine gate_dst (N := 2) rfl ?_); refine box_event ?hg (N := 2) ?hd (cs := #[.slice A0_0 l0_0.length c0_0, .slice A0_1 l0_1.length c0_1]) (t := 36) ?hr ?_; (case hd => rfl); (case hg => rfl); (case hr => first | (go_simp; done) | (go_simp; rfl)); intro gb202 hg w3 hbox hb; have n0_ := hb_ HB hb; have n1_ := Aside0.mk (hbox); have n2_ := Aside0.mk ((by rw [hg]; exact (below_size (by repeat (first | (with_reducible first | exact HB.out | apply below_alloc | apply pw_below_drewN | apply below_drew1) | exact HB.out))) : w.heap.size ≤ gb202)); have n3_ := Aside0.mk ((by rw [hg]; exact (below_size (by repeat (first | (with_reducible first | exact HB.out | apply below_alloc | apply pw_below_drewN | apply below_drew1) | exact HB.out))) : w.heap.size ≤ gb202)); clear HB; have HB := n0_; have BK202 := n1_; have GW202 := n2_; have GE202 := n3_; clear n0_ n1_ n2_ n3_; clear hb hbox hg))
 go_loopg [5] k (fun kq v5 w' => ∃ (x5_1 : Int), v5 = .int .i64 x5_1 ∧ Aside0 (sentryref4_sentries.l0 kq l1 x5_1 l0_0 l0_1 = some r) ∧ Aside0 (kq ≤ k) ∧ Aside0 (w'.heap[gb202]? = some (.cells #[(.slice A0_0 l0_0.length c0_0), (.slice A0_1 l0_1.length c0_1)] 36 (0, 0))) ∧ Aside0 (Below w.heap.size w w'))
 case atStart => exact ⟨(0), (by first | rfl | (simp; done) | (simp [*]; done)), H', ⟨Nat.le_refl _⟩, ⟨gx_ BK202⟩, ⟨hf_⟩⟩
 case round =>
  clear H'
  (try clear c1); (try clear p2)
  obtain ⟨x5_1, rfl, HA, HK1, BK202, HB⟩ := hrel
  cases gk with
  | zero => exact absurd HA.out (by simp [sentryref4_sentries.l0])
  | succ k1 =>
   have H := HA.out
   clear HA
   simp only [sentryref4_sentries.l0] at H
   by_cases c4 : x5_1 < (l1.length : Int)
   ·rw [if_pos c4] at H
    have c4b0 : decide (x5_1 < (l1.length : Int)) = true := decide_eq_true c4
    clear c4
    by_cases c5 : 0 ≤ x5_1
    ·rw [if_pos c5] at H
     have c5b0 : decide (0 ≤ x5_1) = true := decide_eq_true c5
     clear c5
     replace H := Option.bind_eq_some_iff.mp H
     obtain ⟨t204, A60, H⟩ := H
     replace H : (if t204 = true then (sentryref4_sentries.l0 k1 l1 (wrap64 (x5_1 + 1)) l0_0 l0_1) else (some false)) = some r := H
     have A6 := Aside0.mk A60
     clear A60
     by_cases c7 : t204 = true
     ·subst c7
      have H1 : (sentryref4_sentries.l0 k1 l1 (wrap64 (x5_1 + 1)) l0_0 l0_1) = some r := by rw [if_pos rfl] at H; exact H
      clear H
      have H := H1
      clear H1
      have H' := Aside0.mk H
      clear H
      try go_wp2
      replace BK202 := Aside0.mk (blk_drew BK202.out)
      replace HB := Aside0.mk (below_drew1 HB.out)
      have p203 : 0 ≤ (x5_1 : Int) := od_
      have q203 : x5_1 < (l1.length : Int) := od_
      obtain ⟨ad203, A203_0, c203_0, A203_1, c203_1, e203, hx203_0, hx203_1, hl203_0, hi203_0, hl203_1, hi203_1⟩ := at_T29 HR1.out x5_1 p203 q203
      have hw203_1 := hx203_1
      have hw203_0 := hx203_0
      cases e203
      replace hx203_0 := rr_ HB hx203_0
      replace hx203_1 := rr_ HB hx203_1
      have HR203_0 := Aside0.mk hi203_0
      have HC203_0 := Aside0.mk hl203_0
      clear hi203_0 hl203_0
      have HR203_1 := Aside0.mk hi203_1
      have HC203_1 := Aside0.mk hl203_1
      clear hi203_1 hl203_1
      replace p203 := eq_true p203
      replace q203 := eq_true q203
      refine start_ (n := 7) (S := fun w' => w'.cell? ⟨gb202, 0, none⟩ = some (.slice A0_0 l0_0.length c0_0) ∧ w'.cell? ⟨gb202, 1, none⟩ = some (.slice A0_1 l0_1.length c0_1) ∧ w'.cell? (ad203.add ((x5_1).toNat * 2)) = some (.slice A203_0 ((rd_T29 l1 x5_1).f0).length c203_0) ∧ w'.cell? ⟨(ad203.add ((x5_1).toNat * 2)).block, (ad203.add ((x5_1).toNat * 2)).off + 1, none⟩ = some (.slice A203_1 ((rd_T29 l1 x5_1).f1).length c203_1)) (ds := []) #[false, false, false, false, false, false, false] (by kernel_rfl) rfl rfl ⟨(bk0_ BK202 :), (bk1_ BK202 :), (rr_ HB hw203_0 :), (rr_ HB hw203_1 :)⟩ (fun hHeld => ?_)
      generalize wr.drew = w8 at BK202 HB HR203_0 HR203_1 hx203_0 hx203_1 hHeld ⊢
      refine pure_ (i := 1) (N := some 13) (v := ?_) (a' := ?_) #[false, true, false, false, false, false, false] rfl rfl (by kernel_rfl) (fun _ _ _ h => h) (Or.inl ⟨by rfl, ?_⟩) ?_ ?_
      rotate_left
      ·intro w'
       go_simp
       with_reducible rfl
      rotate_left
      ·simp only [Act.put, List.setIfInBounds_toArray, List.set_cons_zero, List.set_cons_succ, i64_w, i32_w]
       rfl
      refine pure_ (i := 2) (N := some 14) (v := ?_) (a' := ?_) #[false, true, true, false, false, false, false] rfl rfl (by kernel_rfl) (fun _ _ _ h => h) (Or.inl ⟨by rfl, ?_⟩) ?_ ?_
      rotate_left
      ·intro w'
       go_simp
       with_reducible rfl
      rotate_left
      ·simp only [Act.put, List.setIfInBounds_toArray, List.set_cons_zero, List.set_cons_succ, i64_w, i32_w]
       rfl
      refine pure_ (i := 3) (N := some 15) (v := ?_) (a' := ?_) #[false, true, true, true, false, false, false] rfl rfl (by kernel_rfl) (fun _ _ _ h => h) (Or.inl ⟨by rfl, ?_⟩) ?_ ?_
      rotate_left
      ·intro w'
       go_simp
       with_reducible rfl
      rotate_left
      ·simp only [Act.put, List.setIfInBounds_toArray, List.set_cons_zero, List.set_cons_succ, i64_w, i32_w]
       rfl
      refine take_ (i := 0) (N := some 12) (v := ?_) (a' := ?_) #[true, true, true, true, false, false, false] rfl rfl (by kernel_rfl) (fun _ _ _ h => h) (Or.inl ⟨by rfl, ?_⟩) hHeld ?_ ?_
      rotate_left
      ·rintro w' ⟨s0, s1, s2, s3⟩
       go_simp
       with_reducible rfl
      rotate_left
      ·simp only [Act.put, List.setIfInBounds_toArray, List.set_cons_zero, List.set_cons_succ, i64_w, i32_w]
       rfl
      refine take_ (i := 4) (N := some 16) (v := ?_) (a' := ?_) #[true, true, true, true, true, false, false] rfl rfl (by kernel_rfl) (fun _ _ _ h => h) (Or.inl ⟨by rfl, ?_⟩) hHeld ?_ ?_
      rotate_left
      ·rintro w' ⟨s0, s1, s2, s3⟩
       go_simp
       with_reducible rfl
      rotate_left
      ·simp only [Act.put, List.setIfInBounds_toArray, List.set_cons_zero, List.set_cons_succ, i64_w, i32_w]
       rfl
      refine one_ (i := 5) (N := some 17) #[true, true, true, true, true, true, false] rfl rfl (by kernel_rfl) (by decide) (fun K hK => ?_)
      refine go_s_ Try.func63 #[.agg #[.slice A0_0 l0_0.length c0_0, .slice A0_1 l0_1.length c0_1], .agg #[.slice A203_0 ((rd_T29 l1 x5_1).f0).length c203_0, .slice A203_1 ((rd_T29 l1 x5_1).f1).length c203_1]] ?_
      with_reducible refine (sentryref4_sentry.calls k1 _ _ l0_0 _ _ l0_1 _ _ ((rd_T29 l1 x5_1).f0) _ _ ((rd_T29 l1 x5_1).f1) true _ ?side1 ?side2 ?side3 ?side4 ?side5 ?side6 ?side7 ?side8 A6.out).mono ?_
      (case side1 => exact kc_ HR0_0 HB)
      (case side2 => exact HC0_0.out)
      (case side3 => exact kc_ HR0_1 HB)
      (case side4 => exact HC0_1.out)
      (case side5 => exact kc_ HR203_0 HB)
      (case side6 => exact HC203_0.out)
      (case side7 => exact kc_ HR203_1 HB)
      (case side8 => exact HC203_1.out)
      rintro e w9 ⟨rfl, hb⟩
      refine ⟨_, rfl, ?_⟩
      replace BK202 := bb_ BK202 hb
      replace HB := hb_ HB hb
      (try clear hb); (try clear hb2); (try clear hk); (try clear hi)
      refine hK.out _ _ ⟨(bk0_ BK202 :), (bk1_ BK202 :), (rr_ HB hw203_0 :), (rr_ HB hw203_1 :)⟩ (fun hHeld => ?_)
      clear hK K
      refine nz_ (some 17) ?_
      refine pure_ (i := 6) (N := some 18) (v := ?_) (a' := ?_) #[true, true, true, true, true, true, true] rfl rfl (by kernel_rfl) (fun _ _ _ h => h) (Or.inl ⟨by rfl, ?_⟩) ?_ ?_
      rotate_left
      ·intro w'
       go_simp
       with_reducible rfl
      rotate_left
      ·simp only [Act.put, List.setIfInBounds_toArray, List.set_cons_zero, List.set_cons_succ, i64_w, i32_w]
       rfl
      refine done_ (by kernel_rfl) ?_
      try go_wp2
      go_roundg k1
      case measure => have := HK1.out; omega
      case rel => exact ⟨(wrap64 (x5_1 + 1)), (by first | rfl | (simp; done) | (simp [*]; done)), H', ⟨by have := HK1.out; omega⟩, ⟨gx_ BK202⟩, ⟨hf_⟩⟩
     ·replace c7 := Bool.eq_false_iff.mpr c7
      subst c7
      have H1 : (some false) = some r := by rw [if_neg (show ¬ (false = true) by decide)] at H; exact H
      clear H
      have H := H1
      clear H1
      obtain rfl := Option.some.inj H
      try go_wp2
      replace BK202 := Aside0.mk (blk_drew BK202.out)
      replace HB := Aside0.mk (below_drew1 HB.out)
      have p203 : 0 ≤ (x5_1 : Int) := od_
      have q203 : x5_1 < (l1.length : Int) := od_
      obtain ⟨ad203, A203_0, c203_0, A203_1, c203_1, e203, hx203_0, hx203_1, hl203_0, hi203_0, hl203_1, hi203_1⟩ := at_T29 HR1.out x5_1 p203 q203
      have hw203_1 := hx203_1
      have hw203_0 := hx203_0
      cases e203
      replace hx203_0 := rr_ HB hx203_0
      replace hx203_1 := rr_ HB hx203_1
      have HR203_0 := Aside0.mk hi203_0
      have HC203_0 := Aside0.mk hl203_0
      clear hi203_0 hl203_0
      have HR203_1 := Aside0.mk hi203_1
      have HC203_1 := Aside0.mk hl203_1
      clear hi203_1 hl203_1
      replace p203 := eq_true p203
      replace q203 := eq_true q203
      refine start_ (n := 7) (S := fun w' => w'.cell? ⟨gb202, 0, none⟩ = some (.slice A0_0 l0_0.length c0_0) ∧ w'.cell? ⟨gb202, 1, none⟩ = some (.slice A0_1 l0_1.length c0_1) ∧ w'.cell? (ad203.add ((x5_1).toNat * 2)) = some (.slice A203_0 ((rd_T29 l1 x5_1).f0).length c203_0) ∧ w'.cell? ⟨(ad203.add ((x5_1).toNat * 2)).block, (ad203.add ((x5_1).toNat * 2)).off + 1, none⟩ = some (.slice A203_1 ((rd_T29 l1 x5_1).f1).length c203_1)) (ds := []) #[false, false, false, false, false, false, false] (by kernel_rfl) rfl rfl ⟨(bk0_ BK202 :), (bk1_ BK202 :), (rr_ HB hw203_0 :), (rr_ HB hw203_1 :)⟩ (fun hHeld => ?_)
      generalize wr.drew = w10 at BK202 HB HR203_0 HR203_1 hx203_0 hx203_1 hHeld ⊢
      refine pure_ (i := 1) (N := some 13) (v := ?_) (a' := ?_) #[false, true, false, false, false, false, false] rfl rfl (by kernel_rfl) (fun _ _ _ h => h) (Or.inl ⟨by rfl, ?_⟩) ?_ ?_
      rotate_left
      ·intro w'
       go_simp
       with_reducible rfl
      rotate_left
      ·simp only [Act.put, List.setIfInBounds_toArray, List.set_cons_zero, List.set_cons_succ, i64_w, i32_w]
       rfl
      refine pure_ (i := 2) (N := some 14) (v := ?_) (a' := ?_) #[false, true, true, false, false, false, false] rfl rfl (by kernel_rfl) (fun _ _ _ h => h) (Or.inl ⟨by rfl, ?_⟩) ?_ ?_
      rotate_left
      ·intro w'
       go_simp
       with_reducible rfl
      rotate_left
      ·simp only [Act.put, List.setIfInBounds_toArray, List.set_cons_zero, List.set_cons_succ, i64_w, i32_w]
       rfl
      refine pure_ (i := 3) (N := some 15) (v := ?_) (a' := ?_) #[false, true, true, true, false, false, false] rfl rfl (by kernel_rfl) (fun _ _ _ h => h) (Or.inl ⟨by rfl, ?_⟩) ?_ ?_
      rotate_left
      ·intro w'
       go_simp
       with_reducible rfl
      rotate_left
      ·simp only [Act.put, List.setIfInBounds_toArray, List.set_cons_zero, List.set_cons_succ, i64_w, i32_w]
       rfl
      refine take_ (i := 0) (N := some 12) (v := ?_) (a' := ?_) #[true, true, true, true, false, false, false] rfl rfl (by kernel_rfl) (fun _ _ _ h => h) (Or.inl ⟨by rfl, ?_⟩) hHeld ?_ ?_
      rotate_left
      ·rintro w' ⟨s0, s1, s2, s3⟩
       go_simp
       with_reducible rfl
      rotate_left
      ·simp only [Act.put, List.setIfInBounds_toArray, List.set_cons_zero, List.set_cons_succ, i64_w, i32_w]
       rfl
      refine take_ (i := 4) (N := some 16) (v := ?_) (a' := ?_) #[true, true, true, true, true, false, false] rfl rfl (by kernel_rfl) (fun _ _ _ h => h) (Or.inl ⟨by rfl, ?_⟩) hHeld ?_ ?_
      rotate_left
      ·rintro w' ⟨s0, s1, s2, s3⟩
       go_simp
       with_reducible rfl
      rotate_left
      ·simp only [Act.put, List.setIfInBounds_toArray, List.set_cons_zero, List.set_cons_succ, i64_w, i32_w]
       rfl
      refine one_ (i := 5) (N := some 17) #[true, true, true, true, true, true, false] rfl rfl (by kernel_rfl) (by decide) (fun K hK => ?_)
      refine go_s_ Try.func63 #[.agg #[.slice A0_0 l0_0.length c0_0, .slice A0_1 l0_1.length c0_1], .agg #[.slice A203_0 ((rd_T29 l1 x5_1).f0).length c203_0, .slice A203_1 ((rd_T29 l1 x5_1).f1).length c203_1]] ?_
      with_reducible refine (sentryref4_sentry.calls k1 _ _ l0_0 _ _ l0_1 _ _ ((rd_T29 l1 x5_1).f0) _ _ ((rd_T29 l1 x5_1).f1) false _ ?side1 ?side2 ?side3 ?side4 ?side5 ?side6 ?side7 ?side8 A6.out).mono ?_
      (case side1 => exact kc_ HR0_0 HB)
      (case side2 => exact HC0_0.out)
      (case side3 => exact kc_ HR0_1 HB)
      (case side4 => exact HC0_1.out)
      (case side5 => exact kc_ HR203_0 HB)
      (case side6 => exact HC203_0.out)
      (case side7 => exact kc_ HR203_1 HB)
      (case side8 => exact HC203_1.out)
      rintro e w11 ⟨rfl, hb⟩
      refine ⟨_, rfl, ?_⟩
      replace BK202 := bb_ BK202 hb
      replace HB := hb_ HB hb
      (try clear hb); (try clear hb2); (try clear hk); (try clear hi)
      refine hK.out _ _ ⟨(bk0_ BK202 :), (bk1_ BK202 :), (rr_ HB hw203_0 :), (rr_ HB hw203_1 :)⟩ (fun hHeld => ?_)
      clear hK K
      refine nz_ (some 17) ?_
      refine pure_ (i := 6) (N := some 18) (v := ?_) (a' := ?_) #[true, true, true, true, true, true, true] rfl rfl (by kernel_rfl) (fun _ _ _ h => h) (Or.inl ⟨by rfl, ?_⟩) ?_ ?_
      rotate_left
      ·intro w'
       go_simp
       with_reducible rfl
      rotate_left
      ·simp only [Act.put, List.setIfInBounds_toArray, List.set_cons_zero, List.set_cons_succ, i64_w, i32_w]
       rfl
      refine done_ (by kernel_rfl) ?_
      try go_wp2
      go_ret
      exact ⟨er_, hf_⟩
    ·rw [if_neg c5] at H
     exact absurd H (by simp)
   ·rw [if_neg c4] at H
    have c4b0 : decide (x5_1 < (l1.length : Int)) = false := decide_eq_false c4
    clear c4
    obtain rfl := Option.some.inj H
    go_wp2
    go_ret
    exact ⟨er_, hf_⟩
end Go.Proofs.Ytchellnfenekaaa.Pm
end
section
namespace Go.Proofs.Ytchellnfenekaaa.Pm
open Go.RowKit Go.Proofs.YtchellnfenekaaaW.PrintWords Go.Proofs.YtchellnfenekaaaW.PrintLast Go.Proofs.YtchellnfenekaaaW.PrintMore
attribute [local go_sem] max2_int min2_int max_two min_two max_three min_three max_four min_four   -- for this text's walks alone
set_option linter.unusedVariables false
set_option linter.unusedSimpArgs false
def sentryref1_first.f (a0 : Int) : Option (Bool) := if a0 ≥ 97 then (if a0 ≤ 122 then (some true) else (if a0 ≥ 65 then (if a0 ≤ 90 then (some true) else (some (a0 == 95))) else (some (a0 == 95)))) else (if a0 ≥ 65 then (if a0 ≤ 90 then (some true) else (some (a0 == 95))) else (some (a0 == 95)))
set_option maxHeartbeats 8000000 in
set_option maxRecDepth 100000 in
theorem sentryref1_first.calls (a0 : Int) (r : Bool) (w : World) (h : sentryref1_first.f a0 = some r) :
  Calls Try.prog 59 #[.int .u8 a0] w fun e w' => e = .returned (.bool r) ∧ Drawn0 w w' := by
 have H : (if a0 ≥ 97 then (if a0 ≤ 122 then (some true) else (if a0 ≥ 65 then (if a0 ≤ 90 then (some true) else (some (a0 == 95))) else (some (a0 == 95)))) else (if a0 ≥ 65 then (if a0 ≤ 90 then (some true) else (some (a0 == 95))) else (some (a0 == 95)))) = some r := h
 clear h
 by_cases c2 : a0 ≥ 97
 ·rw [if_pos c2] at H
  have c2b0 : decide (97 ≤ a0) = true := decide_eq_true c2
  clear c2
  by_cases c3 : a0 ≤ 122
  ·rw [if_pos c3] at H
   have c3b0 : decide (a0 ≤ 122) = true := decide_eq_true c3
   clear c3
   obtain rfl := Option.some.inj H
   go_enter Try.func59, Try.ntmps59
   go_wp2
   go_ret
   exact ⟨by first | rfl | (simp; done) | (simp [*]; done), by repeat (first | exact Drawn0.refl _ | apply Drawn0.step)⟩
  ·rw [if_neg c3] at H
   have c3b0 : decide (a0 ≤ 122) = false := decide_eq_false c3
   clear c3
   by_cases c4 : a0 ≥ 65
   ·rw [if_pos c4] at H
    have c4b0 : decide (65 ≤ a0) = true := decide_eq_true c4
    clear c4
    by_cases c5 : a0 ≤ 90
    ·rw [if_pos c5] at H
     have c5b0 : decide (a0 ≤ 90) = true := decide_eq_true c5
     clear c5
     obtain rfl := Option.some.inj H
     go_enter Try.func59, Try.ntmps59
     go_wp2
     go_ret
     exact ⟨by first | rfl | (simp; done) | (simp [*]; done), by repeat (first | exact Drawn0.refl _ | apply Drawn0.step)⟩
    ·rw [if_neg c5] at H
     have c5b0 : decide (a0 ≤ 90) = false := decide_eq_false c5
     clear c5
     obtain rfl := Option.some.inj H
     go_enter Try.func59, Try.ntmps59
     go_wp2
     go_ret
     exact ⟨by first | rfl | (simp; done) | (simp [*]; done), by repeat (first | exact Drawn0.refl _ | apply Drawn0.step)⟩
   ·rw [if_neg c4] at H
    have c4b0 : decide (65 ≤ a0) = false := decide_eq_false c4
    clear c4
    obtain rfl := Option.some.inj H
    go_enter Try.func59, Try.ntmps59
    go_wp2
    go_ret
    exact ⟨by first | rfl | (simp; done) | (simp [*]; done), by repeat (first | exact Drawn0.refl _ | apply Drawn0.step)⟩
 ·rw [if_neg c2] at H
  have c2b0 : decide (97 ≤ a0) = false := decide_eq_false c2
  clear c2
  by_cases c6 : a0 ≥ 65
  ·rw [if_pos c6] at H
   have c6b0 : decide (65 ≤ a0) = true := decide_eq_true c6
   clear c6
   by_cases c7 : a0 ≤ 90
   ·rw [if_pos c7] at H
    have c7b0 : decide (a0 ≤ 90) = true := decide_eq_true c7
    clear c7
    obtain rfl := Option.some.inj H
    go_enter Try.func59, Try.ntmps59
    go_wp2
    go_ret
    exact ⟨by first | rfl | (simp; done) | (simp [*]; done), by repeat (first | exact Drawn0.refl _ | apply Drawn0.step)⟩
   ·rw [if_neg c7] at H
    have c7b0 : decide (a0 ≤ 90) = false := decide_eq_false c7
    clear c7
    obtain rfl := Option.some.inj H
    go_enter Try.func59, Try.ntmps59
    go_wp2
    go_ret
    exact ⟨by first | rfl | (simp; done) | (simp [*]; done), by repeat (first | exact Drawn0.refl _ | apply Drawn0.step)⟩
  ·rw [if_neg c6] at H
   have c6b0 : decide (65 ≤ a0) = false := decide_eq_false c6
   clear c6
   obtain rfl := Option.some.inj H
   go_enter Try.func59, Try.ntmps59
   go_wp2
   go_ret
   exact ⟨by first | rfl | (simp; done) | (simp [*]; done), by repeat (first | exact Drawn0.refl _ | apply Drawn0.step)⟩
end Go.Proofs.Ytchellnfenekaaa.Pm
end
section
namespace Go.Proofs.Ytchellnfenekaaa.Pm
open Go.RowKit Go.Proofs.YtchellnfenekaaaW.PrintWords Go.Proofs.YtchellnfenekaaaW.PrintLast Go.Proofs.YtchellnfenekaaaW.PrintMore
attribute [local go_sem] max2_int min2_int max_two min_two max_three min_three max_four min_four   -- for this text's walks alone
set_option linter.unusedVariables false
set_option linter.unusedSimpArgs false
def sentryref1_Byte.f (a0 : Int) : Option (Bool) := (sentryref1_first.f a0).bind fun t162 => (if t162 = true then (some true) else (if a0 ≥ 48 then (if a0 ≤ 57 then (some true) else (if a0 = 45 then (some true) else (some (a0 == 46)))) else (if a0 = 45 then (some true) else (some (a0 == 46)))))
set_option maxHeartbeats 8000000 in
set_option maxRecDepth 100000 in
theorem sentryref1_Byte.calls (a0 : Int) (r : Bool) (w : World) (h : sentryref1_Byte.f a0 = some r) :
  Calls Try.prog 60 #[.int .u8 a0] w fun e w' => e = .returned (.bool r) ∧ Drawn0 w w' := by
 have H : ((sentryref1_first.f a0).bind fun t162 => (if t162 = true then (some true) else (if a0 ≥ 48 then (if a0 ≤ 57 then (some true) else (if a0 = 45 then (some true) else (some (a0 == 46)))) else (if a0 = 45 then (some true) else (some (a0 == 46)))))) = some r := h
 clear h
 replace H := Option.bind_eq_some_iff.mp H
 obtain ⟨t162, A20, H⟩ := H
 replace H : (if t162 = true then (some true) else (if a0 ≥ 48 then (if a0 ≤ 57 then (some true) else (if a0 = 45 then (some true) else (some (a0 == 46)))) else (if a0 = 45 then (some true) else (some (a0 == 46))))) = some r := H
 have A2 := Aside0.mk A20
 clear A20
 by_cases c3 : t162 = true
 ·subst c3
  have H1 : (some true) = some r := by rw [if_pos rfl] at H; exact H
  clear H
  have H := H1
  clear H1
  obtain rfl := Option.some.inj H
  go_enter Try.func60, Try.ntmps60
  go_wp2_with (first | ((with_reducible refine gate_callee (f := 59) rfl ?_); refine gl_ (some 4) Try.func59 #[.int .u8 a0] ?_; (with_reducible refine (sentryref1_first.calls a0 true _ A2.out).mono ?_); rintro e w' ⟨rfl, ⟨nd, rfl⟩⟩; refine ⟨_, rfl, ?_⟩))
  go_ret
  exact ⟨by first | rfl | (simp; done) | (simp [*]; done), by repeat (first | exact Drawn0.refl _ | apply Drawn0.step)⟩
 ·replace c3 := Bool.eq_false_iff.mpr c3
  subst c3
  have H1 : (if a0 ≥ 48 then (if a0 ≤ 57 then (some true) else (if a0 = 45 then (some true) else (some (a0 == 46)))) else (if a0 = 45 then (some true) else (some (a0 == 46)))) = some r := by rw [if_neg (show ¬ (false = true) by decide)] at H; exact H
  clear H
  have H := H1
  clear H1
  by_cases c4 : a0 ≥ 48
  ·rw [if_pos c4] at H
   have c4b0 : decide (48 ≤ a0) = true := decide_eq_true c4
   clear c4
   by_cases c5 : a0 ≤ 57
   ·rw [if_pos c5] at H
    have c5b0 : decide (a0 ≤ 57) = true := decide_eq_true c5
    clear c5
    obtain rfl := Option.some.inj H
    go_enter Try.func60, Try.ntmps60
    go_wp2_with (first | ((with_reducible refine gate_callee (f := 59) rfl ?_); refine gl_ (some 4) Try.func59 #[.int .u8 a0] ?_; (with_reducible refine (sentryref1_first.calls a0 false _ A2.out).mono ?_); rintro e w' ⟨rfl, ⟨nd, rfl⟩⟩; refine ⟨_, rfl, ?_⟩))
    go_ret
    exact ⟨by first | rfl | (simp; done) | (simp [*]; done), by repeat (first | exact Drawn0.refl _ | apply Drawn0.step)⟩
   ·rw [if_neg c5] at H
    have c5b0 : decide (a0 ≤ 57) = false := decide_eq_false c5
    clear c5
    by_cases c6 : a0 = 45
    ·rw [if_pos c6] at H
     have c6b0 : (a0 == 45) = true := beq_iff_eq.mpr c6
     have c6b1 : (a0 != 45) = false := bne_eq_false_iff_eq.mpr c6
     clear c6
     obtain rfl := Option.some.inj H
     go_enter Try.func60, Try.ntmps60
     go_wp2_with (first | ((with_reducible refine gate_callee (f := 59) rfl ?_); refine gl_ (some 4) Try.func59 #[.int .u8 a0] ?_; (with_reducible refine (sentryref1_first.calls a0 false _ A2.out).mono ?_); rintro e w' ⟨rfl, ⟨nd, rfl⟩⟩; refine ⟨_, rfl, ?_⟩))
     go_ret
     exact ⟨by first | rfl | (simp; done) | (simp [*]; done), by repeat (first | exact Drawn0.refl _ | apply Drawn0.step)⟩
    ·rw [if_neg c6] at H
     have c6b0 : (a0 == 45) = false := beq_eq_false_iff_ne.mpr c6
     have c6b1 : (a0 != 45) = true := bne_iff_ne.mpr c6
     obtain rfl := Option.some.inj H
     go_enter Try.func60, Try.ntmps60
     go_wp2_with (first | ((with_reducible refine gate_callee (f := 59) rfl ?_); refine gl_ (some 4) Try.func59 #[.int .u8 a0] ?_; (with_reducible refine (sentryref1_first.calls a0 false _ A2.out).mono ?_); rintro e w' ⟨rfl, ⟨nd, rfl⟩⟩; refine ⟨_, rfl, ?_⟩))
     go_ret
     exact ⟨by first | rfl | (simp; done) | (simp [*]; done), by repeat (first | exact Drawn0.refl _ | apply Drawn0.step)⟩
  ·rw [if_neg c4] at H
   have c4b0 : decide (48 ≤ a0) = false := decide_eq_false c4
   clear c4
   by_cases c7 : a0 = 45
   ·rw [if_pos c7] at H
    have c7b0 : (a0 == 45) = true := beq_iff_eq.mpr c7
    have c7b1 : (a0 != 45) = false := bne_eq_false_iff_eq.mpr c7
    clear c7
    obtain rfl := Option.some.inj H
    go_enter Try.func60, Try.ntmps60
    go_wp2_with (first | ((with_reducible refine gate_callee (f := 59) rfl ?_); refine gl_ (some 4) Try.func59 #[.int .u8 a0] ?_; (with_reducible refine (sentryref1_first.calls a0 false _ A2.out).mono ?_); rintro e w' ⟨rfl, ⟨nd, rfl⟩⟩; refine ⟨_, rfl, ?_⟩))
    go_ret
    exact ⟨by first | rfl | (simp; done) | (simp [*]; done), by repeat (first | exact Drawn0.refl _ | apply Drawn0.step)⟩
   ·rw [if_neg c7] at H
    have c7b0 : (a0 == 45) = false := beq_eq_false_iff_ne.mpr c7
    have c7b1 : (a0 != 45) = true := bne_iff_ne.mpr c7
    obtain rfl := Option.some.inj H
    go_enter Try.func60, Try.ntmps60
    go_wp2_with (first | ((with_reducible refine gate_callee (f := 59) rfl ?_); refine gl_ (some 4) Try.func59 #[.int .u8 a0] ?_; (with_reducible refine (sentryref1_first.calls a0 false _ A2.out).mono ?_); rintro e w' ⟨rfl, ⟨nd, rfl⟩⟩; refine ⟨_, rfl, ?_⟩))
    go_ret
    exact ⟨by first | rfl | (simp; done) | (simp [*]; done), by repeat (first | exact Drawn0.refl _ | apply Drawn0.step)⟩
end Go.Proofs.Ytchellnfenekaaa.Pm
end
