/- The law PackTells: for every input the call answers true, and the input reads as it did. No condition. (Walks and laws of several texts, merged, and what is not used struck, by a program.) -/
import Derived.Test.YtaiglhfmmdajdaaMPackTells5
import Derived.Test.YtaiglhfmmdajdaaMPackTells6
import Derived.Test.YtaiglhfmmdajdaaMPackTells0
import Derived.Lib.EndianBits
import Derived.Lib.Hide
import Derived.Lib.Varint
import Derived.Test.YtaiglhfmmdajdaaMPackTells4
import Derived.Test.YtaiglhfmmdajdaaMPackTells3
import Derived.Test.YtaiglhfmmdajdaaMPackTells1
import Derived.Test.YtaiglhfmmdajdaaMPackTells2
import Derived.ChangeSlices
import Derived.SizedLaws
import Derived.Below
import Derived.ChangeOld
import Derived.OpenShut
import Derived.ProofKit
import Derived.ShutString
import Derived.Test.YtaiglhfmmdajdaaRows
import Derived.WalkKit
section
namespace Go.Proofs.Ytaiglhfmmdajdaa.Pm
open Go.RowKit Go.Proofs.YtaiglhfmmdajdaaW.PrintWords Go.Proofs.YtaiglhfmmdajdaaW.PrintLast Go.Proofs.YtaiglhfmmdajdaaW.PrintMore
attribute [local go_sem] max2_int min2_int max_two min_two max_three min_three max_four min_four   -- for this text's walks alone
set_option linter.unusedVariables false
set_option linter.unusedSimpArgs false
theorem legal_parts (fs : List ByteArray) (l : List (S48)) (h : isB fs l = true) : (fs.length ≤ 6 ∧ 1 ≤ l.length ∧ l.length ≤ 16) ∧ namesB fs = true ∧ (∀ i : Nat, i < l.length → ritem l i = true) ∧ (∀ i : Nat, i < l.length → sentsB fs l (rd_T48 l i).f5 = true ∧ sentsB fs l (rd_T48 l i).f6 = true) := by
  rw [← ris_eq] at h
  unfold risB at h
  rw [Bool.and_eq_true, Bool.and_eq_true, Bool.and_eq_true, decide_eq_true_eq, all_range] at h
  obtain ⟨h1, h2, h3, h4⟩ := h
  refine ⟨h1, h2, fun i hi => List.all_eq_true.1 h3 i (List.mem_range.2 hi), fun i hi => ?_⟩
  have := h4 i hi
  rw [Bool.and_eq_true] at this
  exact this
theorem legal_facts (fs : List ByteArray) (l : List (S48)) (h : isB fs l = true) : fs.length ≤ 6 ∧ 1 ≤ l.length ∧ l.length ≤ 16 ∧ (∀ i : Nat, i < l.length → placeI l (nmA l i) = i ∧ (nmA l i).toList ≠ []) ∧ (paA l 0).toList = [] ∧ ∀ q : Nat, 0 < q → q < l.length → ∃ p : Nat, p < q ∧ placeI l (paA l q) = p ∧ (paA l q).toList ≠ [] ∧ kdA l p = 1 := by
  obtain ⟨⟨h1, h2, h3⟩, -, hi, -⟩ := legal_parts fs l h
  have hr : ∀ i : Nat, i < l.length → nameB (nmA l i) = true ∧ placeI l (nmA l i) = i ∧ rplace l i = true := by
    intro i hl
    have := hi i hl
    unfold ritem at this
    rw [Bool.and_eq_true, Bool.and_eq_true, Bool.and_eq_true, decide_eq_true_eq] at this
    exact ⟨this.1, this.2.1, this.2.2.2⟩
  refine ⟨h1, h2, h3, fun i hl => ⟨(hr i hl).2.1, nameB_ne _ (hr i hl).1⟩, ?_, fun q h0 hq => ?_⟩
  · have := (hr 0 (by omega)).2.2
    rw [show rplace l 0 = planB (rd_T48 l 0).f1 (rd_T48 l 0).f2 (rd_T48 l 0).f3 (rd_T48 l 0).f5.length (rd_T48 l 0).f6.length from rfl] at this
    unfold planB at this
    simp only [Bool.and_eq_true, decide_eq_true_eq] at this
    exact this.2.1
  · have := (hr q hq).2.2
    unfold rplace at this
    rw [if_neg (by omega), Bool.and_eq_true, Bool.and_eq_true, decide_eq_true_eq, Bool.not_eq_true', decide_eq_false_iff_not] at this
    obtain ⟨e, ⟨a, b, c⟩, -⟩ := this
    obtain ⟨p, hp⟩ := Int.eq_ofNat_of_zero_le a
    rw [hp] at b c
    exact ⟨p, by omega, hp, e, c⟩
theorem fits_of (fs : List ByteArray) (l : List (S48)) (hf : fs.length ≤ 140737488351232) (hl : l.length ≤ 140737488351232) (hg : ∀ x ∈ l, goodItem x) : Fits fs l :=
  ⟨by omega, by omega, fun x hx => by
    obtain ⟨_, _, h5, h6, s5, s6⟩ := hg x hx
    exact ⟨⟨by omega, fun s hs => by obtain ⟨a, b⟩ := s5 s hs; constructor <;> omega⟩, ⟨by omega, fun s hs => by obtain ⟨a, b⟩ := s6 s hs; constructor <;> omega⟩⟩⟩
end Go.Proofs.Ytaiglhfmmdajdaa.Pm
end
section
namespace Go.Proofs.Ytaiglhfmmdajdaa.Pm
open Go.RowKit Go.Proofs.YtaiglhfmmdajdaaW.PrintWords Go.Proofs.YtaiglhfmmdajdaaW.PrintLast Go.Proofs.YtaiglhfmmdajdaaW.PrintMore
attribute [local go_sem] max2_int min2_int max_two min_two max_three min_three max_four min_four   -- for this text's walks alone
set_option linter.unusedVariables false
set_option linter.unusedSimpArgs false
theorem rd_s (l : List (S54)) (i : Nat) (h : i < l.length) : rd_T54 l (i : Int) = l[i] := by simp [rd_T54, List.getD_eq_getElem?_getD, List.getElem?_eq_getElem h]
theorem hv_add {a b c : Int} (h1 : 0 ≤ a) (h2 : a ≤ 1152921504606846976) (h3 : 0 ≤ b) (h4 : b ≤ 140737488351232) (h5 : 0 ≤ c) (h6 : c ≤ 140737488351232) : wrap64 (wrap64 (a + b) + c) = a + b + c := by
  unfold wrap64; omega
theorem hv_sum {y a b c d : Int} (h1 : 0 ≤ y) (h2 : y < 400) (a1 : 0 ≤ a) (a2 : a ≤ 140737488351232) (b1 : 0 ≤ b) (b2 : b ≤ 140737488351232) (c1 : 0 ≤ c) (c2 : c ≤ 140737488351232) (d1 : 0 ≤ d) (d2 : d ≤ 140737488351232) : wrap64 (wrap64 (wrap64 (wrap64 (y + a) + b) + wrap64 (c / 50)) + wrap64 (d / 50)) = y + a + b + c / 50 + d / 50 ∧ 0 ≤ c / 50 ∧ c / 50 ≤ 140737488351232 ∧ 0 ≤ d / 50 ∧ d / 50 ≤ 140737488351232 := by
  have e1 : 0 ≤ c / 50 ∧ c / 50 ≤ 140737488351232 := by omega
  have e2 : 0 ≤ d / 50 ∧ d / 50 ≤ 140737488351232 := by omega
  refine ⟨?_, e1.1, e1.2, e2.1, e2.2⟩
  revert e1 e2
  generalize c / 50 = c
  generalize d / 50 = d
  intro e1 e2
  rw [show wrap64 c = c by unfold wrap64; omega, show wrap64 d = d by unfold wrap64; omega, hv_add (a := y) h1 (by omega) a1 a2 b1 b2, hv_add (a := y + a + b) (by omega) (by omega) e1.1 e1.2 e2.1 e2.2]
theorem ev_hv2 (fs : List ByteArray) (l : List (S48)) (N0 : Int) (h0 : 0 ≤ N0) (x : S48) (hx : goodItem x) (i : Nat) (hi : i < l.length) (hl : l.length ≤ 140737488351232)
    (hR : ∀ y : Int, N0 ≤ y → y ≤ 1152921504606846976 → ∃ b, Ev (fun k => sentrylaw6_heavy.l0 k y (((i + 1 : Nat)) : Int) fs l) b ∧ (b = false → N0 < 400)) (d : Nat) : ∀ (j : Nat) (y : Int), j + d = x.f6.length → N0 ≤ y → y ≤ 1152921504606846976 → ∃ b, Ev (fun k => sentrylaw6_heavy.l2 k y (i : Int) (j : Int) fs l x.f0 x.f1 x.f2 x.f3 x.f4 x.f5 x.f6) b ∧ (b = false → N0 < 400) := by
  obtain ⟨_, _, _, g6, _, hs6⟩ := hx
  induction d with
  | zero =>
    intro j y hj h1 h2
    obtain ⟨b, hb, hc⟩ := hR y h1 h2
    refine ⟨b, Ev.step (f := fun k => sentrylaw6_heavy.l0 k y (((i + 1 : Nat)) : Int) fs l) (fun k => ?_) hb, hc⟩
    simp only [sentrylaw6_heavy.l2]
    rw [if_neg (by omega), wrap_lt (n := (l.length : Int)) (by omega) (by omega) (by omega)]
    rfl
  | succ d ih =>
    intro j y hj h1 h2
    by_cases hc : y < 400
    case neg =>
      obtain ⟨b, hb, hc'⟩ := hR y h1 h2
      refine ⟨b, Ev.step (f := fun k => sentrylaw6_heavy.l0 k y (((i + 1 : Nat)) : Int) fs l) (fun k => ?_) hb, hc'⟩
      simp only [sentrylaw6_heavy.l2]
      rw [if_pos (by omega), if_neg hc, wrap_lt (n := (l.length : Int)) (by omega) (by omega) (by omega)]
      rfl
    have hjl : j < x.f6.length := by omega
    obtain ⟨ga, gb⟩ := hs6 x.f6[j] (List.getElem_mem hjl)
    obtain ⟨b, hb, hc'⟩ := ih (j + 1) (y + (x.f6[j]).f0.length + (x.f6[j]).f1.length) (by omega) (by omega) (by omega)
    refine ⟨b, Ev.step (f := fun k => sentrylaw6_heavy.l2 k (y + (x.f6[j]).f0.length + (x.f6[j]).f1.length) (i : Int) (((j + 1 : Nat)) : Int) fs l x.f0 x.f1 x.f2 x.f3 x.f4 x.f5 x.f6) (fun k => ?_) hb, hc'⟩
    simp only [sentrylaw6_heavy.l2]
    rw [if_pos (by omega), if_pos hc, if_pos (by omega), rd_s _ _ hjl, hv_add (by omega) (by omega) (by omega) (by omega) (by omega) (by omega), wrap_lt (n := (x.f6.length : Int)) (by omega) (by omega) (by omega)]
    rfl
theorem ev_hv1 (fs : List ByteArray) (l : List (S48)) (N0 : Int) (h0 : 0 ≤ N0) (x : S48) (hx : goodItem x) (i : Nat) (hi : i < l.length) (hl : l.length ≤ 140737488351232)
    (hR : ∀ y : Int, N0 ≤ y → y ≤ 1152921504606846976 → ∃ b, Ev (fun k => sentrylaw6_heavy.l0 k y (((i + 1 : Nat)) : Int) fs l) b ∧ (b = false → N0 < 400)) (d : Nat) : ∀ (j : Nat) (y : Int), j + d = x.f5.length → N0 ≤ y → y ≤ 1152921504606846976 → ∃ b, Ev (fun k => sentrylaw6_heavy.l1 k y (i : Int) (j : Int) fs l x.f0 x.f1 x.f2 x.f3 x.f4 x.f5 x.f6) b ∧ (b = false → N0 < 400) := by
  have hx0 := hx
  obtain ⟨_, _, g5, _, hs5, _⟩ := hx
  have hnext : ∀ y : Int, N0 ≤ y → y ≤ 1152921504606846976 → ∃ b, Ev (fun k => sentrylaw6_heavy.j3 k y (i : Int) fs l x.f0 x.f1 x.f2 x.f3 x.f4 x.f5 x.f6) b ∧ (b = false → N0 < 400) := by
    intro y h1 h2
    obtain ⟨b, hb, hc⟩ := ev_hv2 fs l N0 h0 x hx0 i hi hl hR x.f6.length 0 y (by omega) h1 h2
    exact ⟨b, Ev.step (fun k => by simp only [sentrylaw6_heavy.j3]; rfl) hb, hc⟩
  induction d with
  | zero =>
    intro j y hj h1 h2
    obtain ⟨b, hb, hc⟩ := hnext y h1 h2
    refine ⟨b, Ev.step (fun k => ?_) hb, hc⟩
    simp only [sentrylaw6_heavy.l1]
    rw [if_neg (by omega)]
  | succ d ih =>
    intro j y hj h1 h2
    by_cases hc : y < 400
    case neg =>
      obtain ⟨b, hb, hc'⟩ := hnext y h1 h2
      refine ⟨b, Ev.step (fun k => ?_) hb, hc'⟩
      simp only [sentrylaw6_heavy.l1]
      rw [if_pos (by omega), if_neg hc]
    have hjl : j < x.f5.length := by omega
    obtain ⟨ga, gb⟩ := hs5 x.f5[j] (List.getElem_mem hjl)
    obtain ⟨b, hb, hc'⟩ := ih (j + 1) (y + (x.f5[j]).f0.length + (x.f5[j]).f1.length) (by omega) (by omega) (by omega)
    refine ⟨b, Ev.step (f := fun k => sentrylaw6_heavy.l1 k (y + (x.f5[j]).f0.length + (x.f5[j]).f1.length) (i : Int) (((j + 1 : Nat)) : Int) fs l x.f0 x.f1 x.f2 x.f3 x.f4 x.f5 x.f6) (fun k => ?_) hb, hc'⟩
    simp only [sentrylaw6_heavy.l1]
    rw [if_pos (by omega), if_pos hc, if_pos (by omega), rd_s _ _ hjl, hv_add (by omega) (by omega) (by omega) (by omega) (by omega) (by omega), wrap_lt (n := (x.f5.length : Int)) (by omega) (by omega) (by omega)]
    rfl
theorem ev_hv0 (fs : List ByteArray) (l : List (S48)) (hg : ∀ x ∈ l, goodItem x) (hl : l.length ≤ 140737488351232) (N0 : Int) (h0 : 0 ≤ N0) (d : Nat) : ∀ (i : Nat) (y : Int), i + d = l.length → N0 ≤ y → y ≤ 1152921504606846976 → ∃ b, Ev (fun k => sentrylaw6_heavy.l0 k y (i : Int) fs l) b ∧ (b = false → N0 < 400) := by
  have hend : ∀ (i : Nat) (y : Int), N0 ≤ y → ∃ b, Ev (fun k => sentrylaw6_heavy.j1 k y (i : Int) false fs l) b ∧ (b = false → N0 < 400) := by
    intro i y h1
    refine ⟨decide (y ≥ 400), Ev.step (f := fun _ => some (decide (y ≥ 400))) (fun k => by simp [sentrylaw6_heavy.j1]) (Ev.now _), fun h => ?_⟩
    have := of_decide_eq_false h
    omega
  induction d with
  | zero =>
    intro i y hi h1 h2
    obtain ⟨b, hb, hc⟩ := hend i y h1
    refine ⟨b, Ev.step (fun k => ?_) hb, hc⟩
    simp only [sentrylaw6_heavy.l0]
    rw [if_neg (by omega)]
  | succ d ih =>
    intro i y hi h1 h2
    by_cases hc : y < 400
    case neg =>
      obtain ⟨b, hb, hc'⟩ := hend i y h1
      refine ⟨b, Ev.step (fun k => ?_) hb, hc'⟩
      simp only [sentrylaw6_heavy.l0]
      rw [if_pos (by omega), decide_eq_false hc]
    have hil : i < l.length := by omega
    have hrd : rd_T48 l (i : Int) = l[i] := by simp [rd_T48, List.getD_eq_getElem?_getD, List.getElem?_eq_getElem hil]
    obtain ⟨x, hx⟩ : ∃ x, x = l[i] := ⟨_, rfl⟩
    have hgx : goodItem x := by rw [hx]; exact hg _ (List.getElem_mem hil)
    have hgx0 := hgx
    obtain ⟨g0, g2, g5, g6, _, _⟩ := hgx
    obtain ⟨z, hz⟩ : ∃ z : Int, z = y + x.f5.length + x.f6.length + (x.f0.size : Int) / 50 + (x.f2.size : Int) / 50 := ⟨_, rfl⟩
    obtain ⟨hsum, q1, q2, q3, q4⟩ := hv_sum (y := y) (a := (x.f5.length : Int)) (b := (x.f6.length : Int)) (c := (x.f0.size : Int)) (d := (x.f2.size : Int)) (by omega) hc (by omega) (by omega) (by omega) (by omega) (by omega) (by omega) (by omega) (by omega)
    rw [← hz] at hsum
    have hzb : N0 ≤ z ∧ z ≤ 1152921504606846976 := by
      clear hsum
      revert hz q1 q2 q3 q4
      generalize (x.f0.size : Int) / 50 = c
      generalize (x.f2.size : Int) / 50 = d
      intro hz q1 q2 q3 q4
      omega
    clear hz q1 q2 q3 q4
    obtain ⟨b, hb, hc'⟩ := ev_hv1 fs l N0 h0 x hgx0 i hil hl (fun y' h1' h2' => ih (i + 1) y' (by omega) h1' h2') x.f5.length 0 z (by omega) hzb.1 hzb.2
    have hb' : Ev (fun k => sentrylaw6_heavy.l1 k z (i : Int) 0 fs l x.f0 x.f1 x.f2 x.f3 x.f4 x.f5 x.f6) b := hb
    refine ⟨b, Ev.step (f := fun k => sentrylaw6_heavy.j1 k y (i : Int) true fs l) (fun k => ?_) (Ev.step (fun k => ?_) hb'), hc'⟩
    · simp only [sentrylaw6_heavy.l0]
      rw [if_pos (by omega), decide_eq_true hc]
    · simp only [sentrylaw6_heavy.j1]
      rw [if_pos trivial, if_pos (by omega), if_pos (by omega), hrd, ← hx, hsum]
theorem ev_heavy (fs : List ByteArray) (l : List (S48)) (hf : fs.length ≤ 140737488351232) (hl : l.length ≤ 140737488351232) (hg : ∀ x ∈ l, goodItem x) : ∃ b, Ev (fun k => sentrylaw6_heavy.f k fs l) b ∧ (b = false → fs.length + l.length < 400) := by
  unfold sentrylaw6_heavy.f
  rw [show wrap64 ((fs.length : Int) + (l.length : Int)) = (fs.length : Int) + (l.length : Int) by unfold wrap64; omega]
  obtain ⟨b, hb, hc⟩ := ev_hv0 fs l hg hl ((fs.length : Int) + (l.length : Int)) (by omega) l.length 0 _ (by omega) (Int.le_refl _) (by omega)
  exact ⟨b, hb, fun h => by have := hc h; omega⟩
end Go.Proofs.Ytaiglhfmmdajdaa.Pm
end
section
namespace Go.Proofs.Ytaiglhfmmdajdaa.Pm
open Go.RowKit Go.Proofs.YtaiglhfmmdajdaaW.PrintWords Go.Proofs.YtaiglhfmmdajdaaW.PrintLast Go.Proofs.YtaiglhfmmdajdaaW.PrintMore
attribute [local go_sem] max2_int min2_int max_two min_two max_three min_three max_four min_four   -- for this text's walks alone
set_option linter.unusedVariables false
set_option linter.unusedSimpArgs false
theorem and127 (n : Int) (h0 : 0 ≤ n) (h1 : n < 9223372036854775808) : Go.bits .and .i64 n 127 = n % 128 := by
  obtain ⟨a, rfl⟩ := Int.eq_ofNat_of_zero_le h0
  have hw : ∀ m : Int, 0 ≤ m → m < 2 ^ 63 → IntKind.i64.wrap m = m := fun m hm1 hm2 => by rw [IntKind.wrap_i64]; omega
  have h := (bits_nat .i64 63 (by decide) hw a 127 (by omega) (by decide)).1
  have e : ((127 : Nat) : Int) = 127 := rfl
  rw [e] at h
  have h2 : a &&& 127 = a % 128 := Nat.and_two_pow_sub_one_eq_mod a 7
  rw [h, h2]
  omega
theorem byteW_val (n : Int) : byteW n = n % 128 + 128 := by
  unfold byteW
  rw [Lib.u8_or128_any _ (by omega) (by omega)]
  omega
theorem byteL_val (n : Int) (h0 : 0 ≤ n) (h1 : n < 9223372036854775808) : (Go.bits .or .i64 (Go.bits .and .i64 n 127) 128) % 256 = n % 128 + 128 := by
  rw [and127 n h0 h1]
  have hw : ∀ m : Int, 0 ≤ m → m < 2 ^ 63 → IntKind.i64.wrap m = m := fun m hm1 hm2 => by rw [IntKind.wrap_i64]; omega
  rw [bits_join_low .i64 63 (by decide) hw 7 (n % 128) 128 (by omega) (by omega) (by omega) (by decide) (by decide) (by decide)]
  omega
theorem numL_numW (d : Nat) : ∀ (n : Int) (e : Nat), 0 ≤ n → n < 9223372036854775808 → n < (128 : Int) ^ d → 1 ≤ d → d ≤ e → numL e n = numW d n := by
  induction d with
  | zero => intro n e _ _ _ h; omega
  | succ d ih =>
    intro n e h0 h63 hn _ he
    obtain ⟨e, rfl⟩ : ∃ m, e = m + 1 := ⟨e - 1, by omega⟩
    simp only [numL, numW]
    by_cases h : n < 128
    · rw [if_pos h, if_neg (by omega)]
    · have hd : 1 ≤ d := by
        rcases Nat.eq_zero_or_pos d with rfl | h'
        · simp at hn; omega
        · exact h'
      have hn' : n / 128 < (128 : Int) ^ d := by
        rw [Int.pow_succ] at hn
        omega
      rw [if_neg h, if_pos (by omega), byteL_val n h0 h63, byteW_val, ih (n / 128) e (by omega) (by omega) hn' hd (by omega)]
      rfl
theorem numL11 (n : Int) (h0 : 0 ≤ n) (h63 : n < 9223372036854775808) : numL 11 n = numW 10 n := by
  have h : (128 : Int) ^ 10 = 1180591620717411303424 := by decide
  exact numL_numW 10 n 11 h0 h63 (by rw [h]; omega) (by decide) (by decide)
theorem ev_numW (n : Int) (h0 : 0 ≤ n) (h63 : n < 9223372036854775808) : Ev (fun k => sentryref6_num.f k n) (numW 10 n) := by
  have h : (128 : Int) ^ 11 = 151115727451828646838272 := by decide
  rw [← numL11 n h0 h63]
  exact Ev.at 12 (fun k hk => num_eq 11 n k (by rw [h]; omega) (by decide) (by decide) (by omega))
theorem ev_signedW (x : Int) (h : -1000000 ≤ x ∧ x ≤ 1000000) : Ev (fun k => sentryref6_signed.f k x) (numW 10 (sgn x)) := by
  unfold sgn
  by_cases h0 : x < 0
  · rw [if_pos h0]
    have hw1 : wrap64 (wrap64 (-2 * x) - 1) = -2 * x - 1 := by unfold wrap64; omega
    refine Ev.congr (f := fun k => (sentryref6_num.f k (-2 * x - 1)).bind fun t => some t) (fun k => ?_) ((ev_numW (-2 * x - 1) (by omega) (by omega)).bind (Ev.now _))
    unfold sentryref6_signed.f
    rw [if_pos h0, hw1]
  · rw [if_neg h0]
    have hw1 : wrap64 (2 * x) = 2 * x := by unfold wrap64; omega
    refine Ev.congr (f := fun k => (sentryref6_num.f k (2 * x)).bind fun t => some t) (fun k => ?_) ((ev_numW (2 * x) (by omega) (by omega)).bind (Ev.now _))
    unfold sentryref6_signed.f
    rw [if_neg h0, hw1]
theorem evc {α : Type} {g : Nat → Option (List Int)} {t : List Int} {next : Nat → List Int → Option α} {r : α} (pre : List Int) (hg : Ev g t) (hl : pre.length + t.length < 140737488355328) (hn : Ev (fun k => next k (pre ++ t)) r) :
    Ev (fun k => (g k).bind fun t => if pre.length + t.length < 140737488355328 then (some (pre ++ t)).bind (next k) else none) r :=
  hg.bind (Ev.congr (fun k => if_pos hl) hn)
theorem ev_text6 (s : ByteArray) (h : s.size ≤ 1000) : sentryref6_text.f s = some (textW s) := by
  unfold sentryref6_text.f textW
  rw [if_pos (by omega), numL11 _ (by omega) (by omega)]
theorem rop_fidx (s : ByteArray) (l : List ByteArray) (hn : l.length ≤ 9223372036854775807) (d : Nat) : ∀ (i k : Nat), i + d = l.length → d < k → sentryref4_Op.l0 k s l i = some (match (l.drop i).findIdx? (fun x => s.toList == x.toList) with | some j => ((i + j : Nat) : Int) | none => -1) := by
  induction d with
  | zero =>
    intro i k hi hk
    obtain ⟨k, rfl⟩ : ∃ m, k = m + 1 := ⟨k - 1, by omega⟩
    simp only [sentryref4_Op.l0]
    rw [if_neg (by omega), List.drop_of_length_le (by omega)]
    rfl
  | succ d ih =>
    intro i k hi hk
    obtain ⟨k, rfl⟩ : ∃ m, k = m + 1 := ⟨k - 1, by omega⟩
    have hlt : i < l.length := by omega
    simp only [sentryref4_Op.l0]
    rw [if_pos (by omega), if_pos (by omega), rdOf_get _ _ _ hlt, List.drop_eq_getElem_cons hlt, List.findIdx?_cons]
    by_cases he : l[i].toList = s.toList
    · rw [if_pos he]
      rw [show (s.toList == l[i].toList) = true by simpa using he.symm]
      simp
    · rw [if_neg he, show (s.toList == l[i].toList) = false by simpa using fun h => he h.symm, wrap_lt (n := (l.length : Int)) (by omega) (by omega) (by omega)]
      have := ih (i + 1) k (by omega) (by omega)
      rw [show ((i : Int) + 1) = ((i + 1 : Nat) : Int) by omega, this]
      cases (List.drop (i + 1) l).findIdx? (fun x => s.toList == x.toList) with
      | none => rfl
      | some j => simp only [Option.map_some, Nat.add_assoc, Nat.add_comm 1 j]; rfl
theorem ev_op6 (s : ByteArray) : Ev (fun k => sentryref4_Op.f k s) (idxI opsL s) := Ev.at 7 (fun k hk => by
  unfold sentryref4_Op.f idxI fidx
  have := rop_fidx s opsL (by decide) 6 0 k (by decide) (by omega)
  have e : ((0 : Nat) : Int) = 0 := rfl
  rw [e] at this
  refine this.trans ?_
  rw [List.drop_zero]
  cases opsL.findIdx? (fun x => s.toList == x.toList) with
  | none => rfl
  | some j => simp)
theorem idxI_some (l : List ByteArray) (s : ByteArray) (h : memB l s = true) : ∃ q : Nat, q < l.length ∧ l.findIdx? (fun x => s.toList == x.toList) = some q ∧ idxI l s = q := by
  unfold memB at h
  cases hf : l.findIdx? (fun x => s.toList == x.toList) with
  | none =>
    rw [List.findIdx?_eq_none_iff] at hf
    obtain ⟨x, hx, hp⟩ := List.any_eq_true.1 h
    rw [hf x hx] at hp
    cases hp
  | some q =>
    obtain ⟨hq, _⟩ := List.findIdx?_eq_some_iff_getElem.1 hf
    exact ⟨q, hq, rfl, by unfold idxI fidx; rw [hf]⟩
theorem ev_file6 {R : List Int} (fs : List ByteArray) (items : List (S48)) (l : List (S54)) (acc : List Int) (i j : Int) (c : S50) (hn : fs.length ≤ 9223372036854775806) (d : Nat) : ∀ (t q : Nat), t + d = fs.length → (fs.drop t).findIdx? (fun x => c.f0.toList == x.toList) = some q →
    Ev (fun k => sentryref6_sentries.j4 k l acc i j ((t + q : Nat) : Int) fs items c.f0 c.f1 c.f2) R → Ev (fun k => sentryref6_sentries.l3 k l acc i j (t : Int) fs items c.f0 c.f1 c.f2) R := by
  induction d with
  | zero =>
    intro t q ht hq
    rw [List.drop_of_length_le (by omega)] at hq
    cases hq
  | succ d ih =>
    intro t q ht hq hR
    have hlt : t < fs.length := by omega
    rw [List.drop_eq_getElem_cons hlt, List.findIdx?_cons] at hq
    by_cases he : fs[t].toList = c.f0.toList
    · rw [show (c.f0.toList == fs[t].toList) = true by simpa using he.symm] at hq
      obtain rfl : 0 = q := by simpa using hq
      refine Ev.step (f := fun k => sentryref6_sentries.j4 k l acc i j ((t + 0 : Nat) : Int) fs items c.f0 c.f1 c.f2) (fun k => ?_) hR
      simp only [sentryref6_sentries.l3]
      rw [if_pos (by omega), if_pos (by omega), rdOf_get _ _ _ hlt, if_pos he]
      rfl
    · rw [show (c.f0.toList == fs[t].toList) = false by simpa using fun h => he h.symm] at hq
      obtain ⟨q', hq', rfl⟩ : ∃ q', (fs.drop (t + 1)).findIdx? (fun x => c.f0.toList == x.toList) = some q' ∧ q = q' + 1 := by
        cases hf : (fs.drop (t + 1)).findIdx? (fun x => c.f0.toList == x.toList) with
        | none => rw [hf] at hq; simp at hq
        | some q' => rw [hf] at hq; simp at hq; exact ⟨q', rfl, hq.symm⟩
      refine Ev.step (f := fun k => sentryref6_sentries.l3 k l acc i j ((t + 1 : Nat) : Int) fs items c.f0 c.f1 c.f2) (fun k => ?_) (ih (t + 1) q' (by omega) hq' (by rw [show t + 1 + q' = t + (q' + 1) by omega]; exact hR))
      simp only [sentryref6_sentries.l3]
      rw [if_pos (by omega), if_pos (by omega), rdOf_get _ _ _ hlt, if_neg he, wrap_lt (n := (fs.length : Int)) (by omega) (by omega) (by omega)]
      rfl
/-- What is asked of a sentry whose bytes are told: all its texts are there. -/
def sIn (fs : List ByteArray) (items : List (S48)) (s : S54) : Prop := sOk s ∧ (∀ x ∈ s.f0, 0 ≤ placeI items x.f0 ∧ 0 ≤ x.f1) ∧ ∀ c ∈ s.f1, memB fs c.f0 = true ∧ memB opsL c.f1 = true
theorem rd_c (l : List (S50)) (i : Nat) (h : i < l.length) : rd_T50 l (i : Int) = l[i] := by simp [rd_T50, List.getD_eq_getElem?_getD, List.getElem?_eq_getElem h]
theorem rd_o (l : List (S103)) (i : Nat) (h : i < l.length) : rd_T103 l (i : Int) = l[i] := by simp [rd_T103, List.getD_eq_getElem?_getD, List.getElem?_eq_getElem h]
theorem rd_s6 (l : List (S54)) (i : Nat) (h : i < l.length) : rd_T54 l (i : Int) = l[i] := by simp [rd_T54, List.getD_eq_getElem?_getD, List.getElem?_eq_getElem h]
theorem ev_ifs6 {R : List Int} (fs : List ByteArray) (items : List (S48)) (l : List (S54)) (i : Nat) (s : S54) (hil : i < l.length) (hsl : l[i] = s) (hs : sIn fs items s) (hn : fs.length ≤ 9223372036854775806) (hll : l.length ≤ 1000) (d : Nat) : ∀ (j : Nat) (acc : List Int), j + d = s.f1.length → acc.length + 30 * d ≤ 100000000000000 →
    Ev (fun k => sentryref6_sentries.l0 k l (acc ++ (s.f1.drop j).flatMap (ifW fs)) ((i + 1 : Nat) : Int) fs items) R → Ev (fun k => sentryref6_sentries.l2 k l acc (i : Int) (j : Int) fs items) R := by
  induction d with
  | zero =>
    intro j acc hj _ hR
    rw [List.drop_of_length_le (by omega)] at hR
    refine Ev.step (f := fun k => sentryref6_sentries.l0 k l acc ((i + 1 : Nat) : Int) fs items) (fun k => ?_) (by simpa using hR)
    simp only [sentryref6_sentries.l2]
    rw [if_pos (by omega), if_pos (by omega), rd_s6 _ _ hil, hsl, if_neg (by omega), wrap_lt (n := (l.length : Int)) (by omega) (by omega) (by omega)]
    rfl
  | succ d ih =>
    intro j acc hj hacc hR
    have hlt : j < s.f1.length := by have := hs.1.2.1; omega
    have h2 := hs.1.2.1
    obtain ⟨c, hc⟩ : ∃ c, c = s.f1[j] := ⟨_, rfl⟩
    have hcm : c ∈ s.f1 := by rw [hc]; exact List.getElem_mem _
    obtain ⟨hm, ho⟩ := hs.2.2 c hcm
    obtain ⟨q, hq, hqf, hqi⟩ := idxI_some fs c.f0 hm
    obtain ⟨q2, hq2, hqf2, hqi2⟩ := idxI_some opsL c.f1 ho
    rw [List.drop_eq_getElem_cons hlt, List.flatMap_cons, ← hc, ← List.append_assoc] at hR
    have hwl := ifW_le fs c
    have hnx := ih (j + 1) (acc ++ ifW fs c) (by omega) (by rw [List.length_append]; omega) hR
    have l1 := numW_length 10 (idxI fs c.f0)
    have l2 := numW_length 10 (idxI opsL c.f1)
    have l3 := numW_length 10 (sgn c.f2)
    have h6 : opsL.length = 6 := rfl
    have hj4 : Ev (fun k => sentryref6_sentries.j4 k l acc (i : Int) (j : Int) ((0 + q : Nat) : Int) fs items c.f0 c.f1 c.f2) R := by
      rw [Nat.zero_add, ← hqi]
      refine Ev.step (fun k => by simp only [sentryref6_sentries.j4]; rfl) ?_
      refine evc acc (ev_numW _ (by omega) (by omega)) (by omega) ?_
      refine Ev.bind (ev_op6 c.f1) ?_
      refine evc (acc ++ numW 10 (idxI fs c.f0)) (ev_numW _ (by omega) (by omega)) (by rw [List.length_append]; omega) ?_
      refine Ev.bind (ev_signedW c.f2 (hs.1.2.2.2 c hcm)) ?_
      refine Ev.congr (fun k => if_pos (by rw [List.length_append, List.length_append]; omega)) ?_
      rw [wrap_lt (n := (s.f1.length : Int)) (by omega) (by omega) (by omega)]
      have e : acc ++ numW 10 (idxI fs c.f0) ++ numW 10 (idxI opsL c.f1) ++ numW 10 (sgn c.f2) = acc ++ ifW fs c := by unfold ifW; simp only [List.append_assoc]
      rw [e]
      exact hnx
    have hl3 := ev_file6 fs items l acc (i : Int) (j : Int) c hn fs.length 0 q (by omega) (by rw [List.drop_zero]; exact hqf) hj4
    refine Ev.step (f := fun k => sentryref6_sentries.l3 k l acc (i : Int) (j : Int) ((0 : Nat) : Int) fs items c.f0 c.f1 c.f2) (fun k => ?_) hl3
    simp only [sentryref6_sentries.l2]
    rw [if_pos (by omega), if_pos (by omega), rd_s6 _ _ hil, hsl, if_pos (by omega), if_pos (by omega), rd_c _ _ hlt, ← hc]
    rfl
theorem ev_ons6 {R : List Int} (fs : List ByteArray) (items : List (S48)) (l : List (S54)) (i : Nat) (s : S54) (hil : i < l.length) (hsl : l[i] = s) (hs : sIn fs items s) (hn : fs.length ≤ 9223372036854775806) (hni : items.length ≤ 9223372036854775806) (hll : l.length ≤ 1000) (d : Nat) : ∀ (j : Nat) (acc : List Int), j + d = s.f0.length → acc.length + 20 * d ≤ 90000000000000 →
    Ev (fun k => sentryref6_sentries.l0 k l (acc ++ (s.f0.drop j).flatMap (onW items) ++ numW 10 s.f1.length ++ s.f1.flatMap (ifW fs)) ((i + 1 : Nat) : Int) fs items) R → Ev (fun k => sentryref6_sentries.l1 k l acc (i : Int) (j : Int) fs items) R := by
  induction d with
  | zero =>
    intro j acc hj hacc hR
    rw [List.drop_of_length_le (by omega)] at hR
    have h2 := hs.1.2.1
    have l1 := numW_length 10 (s.f1.length : Int)
    have hnx := ev_ifs6 fs items l i s hil hsl hs hn hll s.f1.length 0 (acc ++ numW 10 s.f1.length) (by omega) (by rw [List.length_append]; omega) (R := R) (by simpa using hR)
    refine Ev.step (f := fun k => (sentryref6_num.f k (s.f1.length : Int)).bind fun t204 => (if acc.length + t204.length < 140737488355328 then (some (acc ++ t204)).bind (fun y => sentryref6_sentries.l2 k l y i 0 fs items) else (none))) (fun k => ?_) (evc acc (ev_numW _ (by omega) (by omega)) (by omega) hnx)
    simp only [sentryref6_sentries.l1]
    rw [if_pos (by omega), if_pos (by omega), rd_s6 _ _ hil, hsl, if_neg (by omega)]
    rfl
  | succ d ih =>
    intro j acc hj hacc hR
    have hlt : j < s.f0.length := by omega
    have h3 := hs.1.1
    obtain ⟨c, hc⟩ : ∃ c, c = s.f0[j] := ⟨_, rfl⟩
    have hcm : c ∈ s.f0 := by rw [hc]; exact List.getElem_mem _
    obtain ⟨hp, he⟩ := hs.2.1 c hcm
    have hpl := placeI_lt items c.f0
    have he2 := hs.1.2.2.1 c hcm
    rw [List.drop_eq_getElem_cons hlt, List.flatMap_cons, ← hc, ← List.append_assoc] at hR
    have hwl := onW_le items c
    have hnx := ih (j + 1) (acc ++ onW items c) (by omega) (by rw [List.length_append]; omega) hR
    have l1 := numW_length 10 (placeI items c.f0)
    have l2 := numW_length 10 c.f1
    refine Ev.step (f := fun k => (sentryref4_Place.f k fs items c.f0).bind fun t188 => ((sentryref6_num.f k t188).bind fun t189 => (if acc.length + t189.length < 140737488355328 then ((some (acc ++ t189 : List Int)).bind fun y192 => ((sentryref6_num.f k c.f1).bind fun t197 => (if y192.length + t197.length < 140737488355328 then (some (y192 ++ t197)).bind (fun y => sentryref6_sentries.l1 k l y i ((j + 1 : Nat) : Int) fs items) else (none)))) else (none)))) (fun k => ?_) ?_
    · simp only [sentryref6_sentries.l1]
      rw [if_pos (by omega), if_pos (by omega), rd_s6 _ _ hil, hsl, if_pos (by omega), if_pos (by omega), rd_o _ _ hlt, ← hc, wrap_lt (n := (s.f0.length : Int)) (by omega) (by omega) (by omega)]
      rfl
    · refine Ev.bind (ev_place fs items c.f0 (by omega)) ?_
      refine evc acc (ev_numW _ (by omega) (by omega)) (by omega) ?_
      refine evc (acc ++ numW 10 (placeI items c.f0)) (ev_numW _ (by omega) (by omega)) (by rw [List.length_append]; omega) ?_
      have e : acc ++ numW 10 (placeI items c.f0) ++ numW 10 c.f1 = acc ++ onW items c := by unfold onW; simp only [List.append_assoc]
      rw [e]
      exact hnx
theorem ev_sents6 (fs : List ByteArray) (items : List (S48)) (l : List (S54)) (hs : ∀ s ∈ l, sIn fs items s) (hn : fs.length ≤ 9223372036854775806) (hni : items.length ≤ 9223372036854775806) (hll : l.length ≤ 3) : Ev (fun k => sentryref6_sentries.f k fs items l) (sentsW fs items l) := by
  have main : ∀ (d i : Nat) (acc : List Int), i + d = l.length → acc.length + 140 * d ≤ 80000000000000 → Ev (fun k => sentryref6_sentries.l0 k l acc (i : Int) fs items) (acc ++ (l.drop i).flatMap (sentW fs items)) := by
    intro d
    induction d with
    | zero =>
      intro i acc hi _
      rw [List.drop_of_length_le (by omega)]
      refine Ev.step (f := fun k => some acc) (fun k => ?_) (by simpa using Ev.now acc)
      simp only [sentryref6_sentries.l0]
      rw [if_neg (by omega)]
    | succ d ih =>
      intro i acc hi hacc
      have hlt : i < l.length := by omega
      obtain ⟨s, hsx⟩ : ∃ s, s = l[i] := ⟨_, rfl⟩
      have hsm := hs s (by rw [hsx]; exact List.getElem_mem _)
      have hw := sentW_le fs items s hsm.1
      have h3 := hsm.1.1
      have hnx := ih (i + 1) (acc ++ sentW fs items s) (by omega) (by rw [List.length_append]; omega)
      rw [List.drop_eq_getElem_cons hlt, List.flatMap_cons, ← hsx, ← List.append_assoc]
      have l1 := numW_length 10 (s.f0.length : Int)
      have e : acc ++ numW 10 s.f0.length ++ s.f0.flatMap (onW items) ++ numW 10 s.f1.length ++ s.f1.flatMap (ifW fs) = acc ++ sentW fs items s := by unfold sentW; simp only [List.append_assoc]
      rw [← e] at hnx
      have h2 := ev_ons6 fs items l i s hlt hsx.symm hsm hn hni (by omega) s.f0.length 0 (acc ++ numW 10 s.f0.length) (by omega) (by rw [List.length_append]; omega) (by rw [List.drop_zero]; exact hnx)
      rw [e] at h2
      refine Ev.step (f := fun k => (sentryref6_num.f k (s.f0.length : Int)).bind fun t179 => (if acc.length + t179.length < 140737488355328 then (some (acc ++ t179)).bind (fun y => sentryref6_sentries.l1 k l y i 0 fs items) else (none))) (fun k => ?_) (evc acc (ev_numW _ (by omega) (by omega)) (by omega) h2)
      simp only [sentryref6_sentries.l0]
      rw [if_pos (by omega), if_pos (by omega), rd_s6 _ _ hlt, ← hsx]
      rfl
  unfold sentsW
  have h := main l.length 0 (numW 10 l.length) (by omega) (by have := numW_length 10 (l.length : Int); omega)
  exact Ev.congr (fun k => rfl) ((ev_numW (l.length : Int) (by omega) (by omega)).bind h)
end Go.Proofs.Ytaiglhfmmdajdaa.Pm
end
section
namespace Go.Proofs.Ytaiglhfmmdajdaa.Pm
open Go.RowKit Go.Proofs.YtaiglhfmmdajdaaW.PrintWords Go.Proofs.YtaiglhfmmdajdaaW.PrintLast Go.Proofs.YtaiglhfmmdajdaaW.PrintMore
attribute [local go_sem] max2_int min2_int max_two min_two max_three min_three max_four min_four   -- for this text's walks alone
set_option linter.unusedVariables false
set_option linter.unusedSimpArgs false
def iIn (fs : List ByteArray) (items : List (S48)) (x : S48) : Prop := x.f0.size ≤ 1000 ∧ 0 ≤ x.f1 ∧ x.f1 < 9223372036854775808 ∧ 0 ≤ x.f4 ∧ x.f4 < 9223372036854775808 ∧ (x.f2.toList = [] → placeI items x.f2 = -1) ∧ (x.f5.length ≤ 3 ∧ ∀ s ∈ x.f5, sIn fs items s) ∧ x.f6.length ≤ 3 ∧ ∀ s ∈ x.f6, sIn fs items s
def MIn (fs : List ByteArray) (items : List (S48)) : Prop := fs.length ≤ 6 ∧ items.length ≤ 16 ∧ (∀ s ∈ fs, s.size ≤ 1000) ∧ ∀ x ∈ items, iIn fs items x
theorem rd_i6 (l : List (S48)) (i : Nat) (h : i < l.length) : rd_T48 l (i : Int) = l[i] := by simp [rd_T48, List.getD_eq_getElem?_getD, List.getElem?_eq_getElem h]
theorem iIn_ok {fs : List ByteArray} {items : List (S48)} {x : S48} (h : iIn fs items x) : iOk x := ⟨h.1, h.2.2.1, h.2.2.2.2.1, ⟨h.2.2.2.2.2.2.1.1, fun s hs => (h.2.2.2.2.2.2.1.2 s hs).1⟩, h.2.2.2.2.2.2.2.1, fun s hs => (h.2.2.2.2.2.2.2.2 s hs).1⟩
theorem placeI_ge (l : List (S48)) (s : ByteArray) : -1 ≤ placeI l s := fidx_ge _ _
theorem ev_items6 (fs : List ByteArray) (items : List (S48)) (h : MIn fs items) (d : Nat) : ∀ (i : Nat) (acc : List Int), i + d = items.length → acc.length + 1000 * d ≤ 50000000000000 →
    Ev (fun k => sentryref6_body.l2 k acc (i : Int) fs items) (acc ++ (items.drop i).flatMap (itemW fs items)) := by
  have hfl := h.1
  have hil := h.2.1
  induction d with
  | zero =>
    intro i acc hi _
    rw [List.drop_of_length_le (by omega)]
    refine Ev.step (f := fun k => some acc) (fun k => ?_) (by simpa using Ev.now acc)
    simp only [sentryref6_body.l2]
    rw [if_neg (by omega)]
  | succ d ih =>
    intro i acc hi hacc
    have hlt : i < items.length := by omega
    obtain ⟨x, hx⟩ : ∃ x, x = items[i] := ⟨_, rfl⟩
    have hin := h.2.2.2 x (by rw [hx]; exact List.getElem_mem _)
    have hwl := itemW_le fs items x (iIn_ok hin)
    have hnx := ih (i + 1) (acc ++ itemW fs items x) (by omega) (by rw [List.length_append]; omega)
    rw [List.drop_eq_getElem_cons hlt, List.flatMap_cons, ← hx, ← List.append_assoc]
    obtain ⟨g1, g2, g3, g4, g5, g6, g7, g8⟩ := hin
    have p1 := placeI_ge items x.f2
    have p2 := placeI_lt items x.f2
    have w1 := numW_length 10 x.f1
    have w2 := numW_length 10 (placeI items x.f2 + 1)
    have w3 := numW_length 10 (if x.f3 = true then 1 else 0)
    have w4 := numW_length 10 x.f4
    have w5 := sentsW_le fs items x.f5 g7.1 (fun s hs => (g7.2 s hs).1)
    have w6 := sentsW_le fs items x.f6 g8.1 (fun s hs => (g8.2 s hs).1)
    have key : ∀ q : Int, q = placeI items x.f2 + 1 → Ev (fun k => sentryref6_body.j4 k acc (i : Int) (if x.f3 = true then 1 else 0) q fs items x.f0 x.f1 x.f2 x.f3 x.f4 x.f5 x.f6) (acc ++ itemW fs items x ++ (items.drop (i + 1)).flatMap (itemW fs items)) := by
      intro q hq
      refine Ev.step (fun k => by simp only [sentryref6_body.j4]; rfl) ?_
      refine evc acc (ev_numW x.f1 g2 g3) (by omega) ?_
      refine evc (acc ++ numW 10 x.f1) (by rw [hq]; exact ev_numW _ (by omega) (by omega)) (by rw [List.length_append]; omega) ?_
      refine evc (acc ++ numW 10 x.f1 ++ numW 10 (placeI items x.f2 + 1)) (ev_numW (if x.f3 = true then 1 else 0) (by split <;> omega) (by split <;> omega)) (by simp only [List.length_append]; omega) ?_
      refine evc (acc ++ numW 10 x.f1 ++ numW 10 (placeI items x.f2 + 1) ++ numW 10 (if x.f3 = true then 1 else 0)) (ev_numW x.f4 g4 g5) (by simp only [List.length_append]; omega) ?_
      refine evc (acc ++ numW 10 x.f1 ++ numW 10 (placeI items x.f2 + 1) ++ numW 10 (if x.f3 = true then 1 else 0) ++ numW 10 x.f4) (ev_sents6 fs items x.f5 g7.2 (by omega) (by omega) g7.1) (by simp only [List.length_append]; omega) ?_
      refine Ev.bind (ev_sents6 fs items x.f6 g8.2 (by omega) (by omega) g8.1) ?_
      refine Ev.congr (fun k => if_pos (by simp only [List.length_append]; omega)) ?_
      rw [wrap_lt (n := (items.length : Int)) (by omega) (by omega) (by omega)]
      have e : acc ++ numW 10 x.f1 ++ numW 10 (placeI items x.f2 + 1) ++ numW 10 (if x.f3 = true then 1 else 0) ++ numW 10 x.f4 ++ sentsW fs items x.f5 ++ sentsW fs items x.f6 = acc ++ itemW fs items x := by unfold itemW; simp only [List.append_assoc]
      rw [e]
      exact hnx
    have key3 : Ev (fun k => sentryref6_body.j3 k acc (i : Int) (if x.f3 = true then 1 else 0) fs items x.f0 x.f1 x.f2 x.f3 x.f4 x.f5 x.f6) (acc ++ itemW fs items x ++ (items.drop (i + 1)).flatMap (itemW fs items)) := by
      by_cases hp : x.f2.toList = []
      · refine Ev.step (f := fun k => sentryref6_body.j4 k acc (i : Int) (if x.f3 = true then 1 else 0) 0 fs items x.f0 x.f1 x.f2 x.f3 x.f4 x.f5 x.f6) (fun k => ?_) (key 0 (by rw [g6 hp]; rfl))
        simp only [sentryref6_body.j3]
        rw [if_pos hp]
      · refine Ev.step (f := fun k => (sentryref4_Place.f k fs items x.f2).bind fun t260 => (sentryref6_body.j4 k acc (i : Int) (if x.f3 = true then 1 else 0) (wrap64 (t260 + 1)) fs items x.f0 x.f1 x.f2 x.f3 x.f4 x.f5 x.f6)) (fun k => ?_) (Ev.bind (ev_place fs items x.f2 (by omega)) (key _ (by unfold wrap64; omega)))
        simp only [sentryref6_body.j3]
        rw [if_neg hp]
    refine Ev.step (f := fun k => sentryref6_body.j3 k acc (i : Int) (if x.f3 = true then 1 else 0) fs items x.f0 x.f1 x.f2 x.f3 x.f4 x.f5 x.f6) (fun k => ?_) key3
    simp only [sentryref6_body.l2]
    rw [if_pos (by omega), if_pos (by omega), rd_i6 _ _ hlt, ← hx]
    split <;> rfl
theorem ev_ids6 (fs : List ByteArray) (items : List (S48)) (h : MIn fs items) (d : Nat) : ∀ (i : Nat) (acc : List Int), i + d = items.length → acc.length + 1100 * d ≤ 40000000000000 →
    Ev (fun k => sentryref6_body.l1 k acc (i : Int) fs items) (acc ++ ((items.drop i).map (fun x => x.f0)).flatMap textW ++ numW 10 fs.length ++ items.flatMap (itemW fs items)) := by
  have hfl := h.1
  have hil := h.2.1
  induction d with
  | zero =>
    intro i acc hi hacc
    rw [List.drop_of_length_le (by omega)]
    have w1 := numW_length 10 (fs.length : Int)
    have hnx := ev_items6 fs items h items.length 0 (acc ++ numW 10 fs.length) (by omega) (by rw [List.length_append]; omega)
    refine Ev.step (f := fun k => (sentryref6_num.f k (fs.length : Int)).bind fun t252 => (if acc.length + t252.length < 140737488355328 then (some (acc ++ t252)).bind (fun y => sentryref6_body.l2 k y 0 fs items) else (none))) (fun k => ?_) (evc acc (ev_numW (fs.length : Int) (by omega) (by omega)) (by omega) (by simpa using hnx))
    simp only [sentryref6_body.l1]
    rw [if_neg (by omega)]
    rfl
  | succ d ih =>
    intro i acc hi hacc
    have hlt : i < items.length := by omega
    obtain ⟨x, hx⟩ : ∃ x, x = items[i] := ⟨_, rfl⟩
    have hin := h.2.2.2 x (by rw [hx]; exact List.getElem_mem _)
    have hwl := textW_le x.f0 hin.1
    have hnx := ih (i + 1) (acc ++ textW x.f0) (by omega) (by rw [List.length_append]; omega)
    rw [List.drop_eq_getElem_cons hlt, List.map_cons, List.flatMap_cons, ← hx, ← List.append_assoc]
    refine Ev.step (f := fun k => sentryref6_body.l1 k (acc ++ textW x.f0) ((i + 1 : Nat) : Int) fs items) (fun k => ?_) hnx
    simp only [sentryref6_body.l1]
    rw [if_pos (by omega), if_pos (by omega), rd_i6 _ _ hlt, ← hx, ev_text6 _ hin.1, wrap_lt (n := (items.length : Int)) (by omega) (by omega) (by omega), Option.bind_some, if_pos (by omega)]
    rfl
theorem ev_files6 (fs : List ByteArray) (items : List (S48)) (h : MIn fs items) (d : Nat) : ∀ (i : Nat) (acc : List Int), i + d = fs.length → acc.length + 1100 * d ≤ 30000000000000 →
    Ev (fun k => sentryref6_body.l0 k acc (i : Int) fs items) (acc ++ (fs.drop i).flatMap textW ++ (items.map (fun x => x.f0)).flatMap textW ++ numW 10 fs.length ++ items.flatMap (itemW fs items)) := by
  have hfl := h.1
  have hil := h.2.1
  induction d with
  | zero =>
    intro i acc hi hacc
    rw [List.drop_of_length_le (by omega)]
    have hnx := ev_ids6 fs items h items.length 0 acc (by omega) (by omega)
    refine Ev.step (f := fun k => sentryref6_body.l1 k acc 0 fs items) (fun k => ?_) (by simpa using hnx)
    simp only [sentryref6_body.l0]
    rw [if_neg (by omega)]
  | succ d ih =>
    intro i acc hi hacc
    have hlt : i < fs.length := by omega
    obtain ⟨x, hx⟩ : ∃ x, x = fs[i] := ⟨_, rfl⟩
    have hin := h.2.2.1 x (by rw [hx]; exact List.getElem_mem _)
    have hwl := textW_le x hin
    have hnx := ih (i + 1) (acc ++ textW x) (by omega) (by rw [List.length_append]; omega)
    rw [List.drop_eq_getElem_cons hlt, List.flatMap_cons, ← hx, ← List.append_assoc]
    refine Ev.step (f := fun k => sentryref6_body.l0 k (acc ++ textW x) ((i + 1 : Nat) : Int) fs items) (fun k => ?_) hnx
    simp only [sentryref6_body.l0]
    rw [if_pos (by omega), if_pos (by omega), rdOf_get _ _ _ hlt, ← hx, ev_text6 _ hin, wrap_lt (n := (fs.length : Int)) (by omega) (by omega) (by omega), Option.bind_some, if_pos (by omega)]
    rfl
theorem ev_body (fs : List ByteArray) (items : List (S48)) (h : MIn fs items) : Ev (fun k => sentryref6_body.f k fs items) (modelW fs items) := by
  have hfl := h.1
  have hil := h.2.1
  have w1 := numW_length 10 ((fs.length : Int) + items.length)
  have hnx := ev_files6 fs items h fs.length 0 (numW 10 ((fs.length : Int) + items.length)) (by omega) (by omega)
  have e : modelW fs items = numW 10 ((fs.length : Int) + items.length) ++ (fs.drop 0).flatMap textW ++ (items.map (fun x => x.f0)).flatMap textW ++ numW 10 fs.length ++ items.flatMap (itemW fs items) := by
    unfold modelW textsOf
    rw [List.drop_zero, List.flatMap_append, List.length_append, List.length_map]
    simp only [List.append_assoc]
    rfl
  rw [e]
  have hw : wrap64 ((fs.length : Int) + (items.length : Int)) = (fs.length : Int) + items.length := by unfold wrap64; omega
  refine Ev.congr (f := fun k => (sentryref6_num.f k ((fs.length : Int) + items.length)).bind fun t => sentryref6_body.l0 k t 0 fs items) (fun k => ?_) (Ev.bind (ev_numW _ (by omega) (by omega)) hnx)
  unfold sentryref6_body.f
  rw [hw]
theorem sIn_of (fs : List ByteArray) (items : List (S48)) (ss : List (S54)) (h : sentsB fs items ss = true) : ss.length ≤ 3 ∧ ∀ s ∈ ss, sIn fs items s := by
  obtain ⟨h3, hok⟩ := sOk_of fs items ss h
  unfold sentsB at h
  rw [Bool.and_eq_true, decide_eq_true_eq, Bool.not_eq_true', List.any_eq_false] at h
  refine ⟨h3, fun s hs => ⟨hok s hs, ?_⟩⟩
  have h2 := h.2 s hs
  rw [Bool.not_eq_true, Bool.not_eq_false'] at h2
  unfold sentryB at h2
  rw [Bool.and_eq_true, decide_eq_true_eq, Bool.and_eq_true, List.all_eq_true] at h2
  obtain ⟨-, c, d⟩ := h2
  refine ⟨fun x hx => ?_, fun y hy => ?_⟩
  · obtain ⟨i, hi, rfl⟩ := List.getElem_of_mem hx
    have := c i (List.mem_range.2 hi)
    unfold onOk at this
    rw [Bool.and_eq_true] at this
    have h3 := this.1
    rw [rd_o _ _ hi] at h3
    unfold onB at h3
    split at h3
    case isFalse => cases h3
    rename_i hp
    refine ⟨hp, ?_⟩
    unfold legalB at h3
    split at h3
    · omega
    · split at h3
      · omega
      · split at h3
        · omega
        · cases h3
  · unfold ifsOk at d
    rw [Bool.not_eq_true', List.any_eq_false] at d
    have h3 := d y hy
    rw [Bool.not_eq_true, Bool.not_eq_false'] at h3
    unfold ifB at h3
    rw [Bool.and_eq_true, Bool.and_eq_true] at h3
    exact ⟨h3.2.1, h3.1⟩
theorem MIn_of (fs : List ByteArray) (items : List (S48)) (h : isB fs items = true) : MIn fs items := by
  have hm := MOk_of fs items h
  have hf := legal_facts fs items h
  refine ⟨hm.1, hm.2.1, hm.2.2.1, fun x hx => ?_⟩
  have hi := hm.2.2.2 x hx
  unfold isB at h
  rw [Bool.and_eq_true, Bool.and_eq_true, Bool.and_eq_true, Bool.and_eq_true, Bool.and_eq_true, decide_eq_true_eq, Bool.not_eq_true', List.any_eq_false] at h
  obtain ⟨-, -, -, -, -, f⟩ := h
  have h2 := f x hx
  rw [Bool.not_eq_true, Bool.not_eq_false'] at h2
  unfold itemB at h2
  rw [Bool.and_eq_true, Bool.and_eq_true, Bool.and_eq_true, Bool.and_eq_true, decide_eq_true_eq] at h2
  obtain ⟨p, q, r, s, -⟩ := h2
  refine ⟨hi.1, by omega, hi.2.1, ?_, hi.2.2.1, fun he => ?_, sIn_of fs items _ q, sIn_of fs items _ r⟩
  · split at s
    · rw [decide_eq_true_eq] at s; omega
    · rw [decide_eq_true_eq] at s; omega
  · have h1 := placeI_ge items x.f2
    rcases Int.lt_or_le (placeI items x.f2) 0 with h0 | h0
    · omega
    · obtain ⟨p, hp⟩ := Int.eq_ofNat_of_zero_le h0
      obtain ⟨hl, hn⟩ := placeI_at items x.f2 p hp
      exact absurd (hn.trans he) (hf.2.2.2.1 p hl).2
theorem ev_rpack (fs : List ByteArray) (items : List (S48)) (hF : Fits fs items) : Ev (fun k => sentryref6_Pack.f k fs items) (if isB fs items = true then (packL fs items, 0) else ([], 1)) := by
  have hi := ev_ris fs items hF
  rw [ris_eq] at hi
  by_cases h : isB fs items = true
  · rw [if_pos h]
    rw [h] at hi
    have hm := MIn_of fs items h
    have hl := modelW_le fs items (MOk_of fs items h)
    refine Ev.congr (fun k => rfl) (Ev.bind hi (Ev.congr (fun k => if_pos rfl) (Ev.bind (ev_body fs items hm) (Ev.congr (f := fun k => some (packL fs items, 0)) (fun k => ?_) (Ev.now _)))))
    unfold sentryref6_Seal.f
    rw [if_pos (by omega)]
    rfl
  · rw [if_neg h]
    rw [Bool.not_eq_true] at h
    rw [h] at hi
    exact Ev.congr (fun k => rfl) (Ev.bind hi (Ev.congr (fun k => if_neg (by decide)) (Ev.now _)))
end Go.Proofs.Ytaiglhfmmdajdaa.Pm
end
section
namespace Go.Proofs.Ytaiglhfmmdajdaa.Pm
open Go.RowKit Go.Proofs.YtaiglhfmmdajdaaW.PrintWords Go.Proofs.YtaiglhfmmdajdaaW.PrintLast Go.Proofs.YtaiglhfmmdajdaaW.PrintMore
attribute [local go_sem] max2_int min2_int max_two min_two max_three min_three max_four min_four   -- for this text's walks alone
set_option linter.unusedVariables false
set_option linter.unusedSimpArgs false
theorem ref_sum_any (l : List Int) (h : l.length ≤ 9223372036854775806) : Ev (fun k => sentryref6_Sum.f k l) (sumL l) := Ev.at (l.length + 1) (fun k hk => ref_sum l h k (by omega))
theorem pack_sum_any (l : List Int) (h : l.length ≤ 9223372036854775806) : Ev (fun k => pack_Sum.f k l) (sumL l) := Ev.at (l.length + 1) (fun k hk => pack_sum l h k (by omega))
theorem ev_known6 : Ev (fun k => (sentrylaw6_known.f).bind fun t => some t) true := Ev.congr (f := fun _ => some true) (fun k => rfl) (Ev.now true)
theorem ev_tells6 (fs : List ByteArray) (l : List (S48)) (b : List Int) (hf : fs.length ≤ 140737488351232) (hl : l.length ≤ 140737488351232) (hg : ∀ x ∈ l, goodItem x) : Ev (fun k => sentrylaw6_PackTells.f k fs l b) true := by
  obtain ⟨v, hv, -⟩ := ev_heavy fs l hf hl hg
  have hjt : Ev (fun k => sentrylaw6_PackTells.j0 k b true fs l) true := Ev.step (f := fun _ => some true) (fun k => by simp [sentrylaw6_PackTells.j0]) (Ev.now true)
  refine Ev.congr (fun k => rfl) (Ev.bind hv ?_)
  cases v with
  | true => exact Ev.congr (fun k => if_pos rfl) hjt
  | false =>
    refine Ev.congr (fun k => if_neg (by decide)) ?_
    by_cases hb : (b.length : Int) > 5000
    · rw [decide_eq_true hb]; exact hjt
    · rw [decide_eq_false hb]
      refine Ev.step (fun k => by simp only [sentrylaw6_PackTells.j0]; exact if_neg (by decide)) ?_
      have hp : pack_Pack.f fs l = some (if isB fs l = true then (packL fs l, 0) else ([], 1)) := by unfold pack_Pack.f; split <;> rfl
      rw [hp]
      refine Ev.bind (Ev.now _) (Ev.bind (ev_rpack fs l (fits_of fs l hf hl hg)) ?_)
      refine Ev.congr (fun k => if_pos rfl) (Ev.congr (fun k => if_pos rfl) (Ev.bind (pack_sum_any b (by omega)) (Ev.bind (ref_sum_any b (by omega)) (Ev.congr (fun k => if_pos rfl) ev_known6))))
theorem packTells_any (A0 : Option Addr) (c0 : Nat) (fs : List ByteArray) (A1 : Option Addr) (c1 : Nat) (l : List (S48)) (A2 : Option Addr) (c2 : Nat) (b : List Int) (w : World) (hr0 : Kd.C Kd.string w A0 fs.length fs) (hc0 : fs.length ≤ c0) (hr1 : Kd.C k48 w A1 l.length l) (hc1 : l.length ≤ c1) (hr2 : Kd.C (Kd.int .u8) w A2 b.length b) (hc2 : b.length ≤ c2)
    (hf : fs.length ≤ 140737488351232) (hl : l.length ≤ 140737488351232) (hg : ∀ x ∈ l, goodItem x) :
    Calls Try.prog 3 #[.agg #[.slice A0 fs.length c0, .slice A1 l.length c1], .slice A2 b.length c2] w fun e w' => e = .returned (.bool true) ∧ Below w.heap.size w w' := by
  obtain ⟨k, hk⟩ := ev_tells6 fs l b hf hl hg
  exact sentrylaw6_PackTells.calls k A0 c0 fs A1 c1 l A2 c2 b true w hr0 hc0 hr1 hc1 hr2 hc2 (hk k (Nat.le_refl k))
end Go.Proofs.Ytaiglhfmmdajdaa.Pm
end
section
namespace Go.Proofs.YtaiglhfmmdajdaaW.PrintWords
open Go.ChangeShapes Go.WideShapes
/-- A row's slice of whole numbers is no longer than its weight allows. -/
theorem sized_ints {H : Type} {enc : TypeId × Value → H} {P : Program} {W : World} {base : Nat} {spare : Nat → Bool} {held : Bool} {t e : TypeId} {k : IntKind} {a : Option Addr} {len cap : Nat} {d : DataW H} {ps : List MemPlace} {ts : List TypeId} {ds : List (DataW H)} {j : Nat}
    (hsz : (DataW.weightsEach P ts ds).all (· ≤ reachBytes) = true) (ht : ts[j]? = some t) (hd : ds[j]? = some d) (hu : P.underlying t = some (.slice e)) (he : P.underlying e = some (.int k)) (hc : P.cellsOf e = 1) {B : Nat} (hB : P.bytesOf e = B)
    (h : DataW.Trod enc P W base spare held t (.slice a len cap) d ps) : len * B ≤ 140737488351232 := by
  obtain ⟨fuel, hf⟩ := h
  rcases open_ints hu he hc hf with ⟨hcs, _⟩ | ⟨x, l, c, zs, hcs, _, hl, _, hz, hx, _, _⟩
  · simp [Value.cells] at hcs
    obtain ⟨rfl, rfl, rfl⟩ := hcs
    simp
  · simp [Value.cells] at hcs
    obtain ⟨rfl, rfl, rfl⟩ := hcs
    obtain ⟨hx, _⟩ := Prod.mk.inj hx
    subst hx
    have z := sized_slice hsz ht hd hu
    rw [hB] at z
    have hl2 : len ≤ zs.length := by
      rw [hz]
      split
      · exact hl
      · exact Nat.le_refl _
    have h1 : (lits (H := H) k (zs.take len)).length + (lits (H := H) k (zs.drop len)).length = zs.length := by
      simp [lits]
      omega
    rw [h1] at z
    exact Nat.le_trans (Nat.mul_le_mul_right _ hl2) z
end Go.Proofs.YtaiglhfmmdajdaaW.PrintWords
end
section
namespace Go.Proofs.Ytaiglhfmmdajdaa.packTells
open Go.ChangeShapes Go.WideShapes Go.ChangeAt Go.RowKit Go.Proofs.YtaiglhfmmdajdaaW.PrintWords
open Go.ChangeMaps (open_string shut_string)
set_option linter.unusedVariables false
theorem own : ownKnob Try.prog.godebug = none := by kernel_rfl
theorem laidOut : laidOutB Try.prog = true := by kernel_rfl
def IsRow (k : IntKind) (w : World) (a : Option Addr) (len cap : Nat) (zs : List Int) : Prop :=
  (a = none ∧ len = 0 ∧ cap = 0 ∧ zs = []) ∨
  ∃ x, a = some x ∧ len ≤ cap ∧ cap ≤ maxLen ∧ zs.length = cap ∧ (∀ i, i < zs.length → w.cell? (x.add i) = some (.int k (zs.getD i 0))) ∧ ∀ n ∈ zs, (Lit.int k n).wf = true
set_option maxRecDepth 100000 in
theorem lifted (os : Os) (started : os.Started) (H : Type) (enc : TypeId × Value → H) :
    ReturnsInHanded {} Try.checked os 3 .any (Rows.packTellsSpec.pre6 enc Try.prog Try.f3 Rows.packTellsRow.domain false) (Rows.packTellsSpec.post enc Try.prog Try.f3 false true false false) := by
  refine returnsInHanded_of_change_sized (C := Try.checked) own started (by kernel_rfl) Try.func3
    (ChangeSpec.witness6 (enc := enc) (C := Try.checked) false ⟨#[], #[.agg #[.slice none 0 0, .slice none 0 0], .slice none 0 0], []⟩ 8 (by kernel_rfl) (by kernel_rfl) (by kernel_rfl) (by kernel_rfl)) ?_
  intro W base args ds gs before hval0 hW hcnd hsz0 _
  have hsz : (DataW.weightsEach Try.prog (Try.f3.params.toList ++ Rows.packTellsSpec.plain.varTypes Try.prog) (ds ++ gs)).all (· ≤ reachBytes) = true := hsz0
  have hval : ∀ (j : Nat) t v, Try.f3.params[j]? = some t → args[j]? = some v → Value.okWide Try.prog W .any base t v := hval0
  have hW' := hW
  obtain ⟨p, q, hA0, hV, rfl, hfz, hnd⟩ := hW
  have hA : DataW.TrodAll enc Try.prog W 0 (fun _ => true) true Try.f3.params.toList args.toList ds p := hA0
  rw [Try.params3] at hA hval hsz
  obtain ⟨v0, vs0, d0, ds0, p0, q0, hargs, rfl, rfl, h0, r0⟩ := trodAll_cons hA
  obtain ⟨v1, vs1, d1, ds1, p1, q1, rfl, rfl, rfl, h1, r1⟩ := trodAll_cons r0
  obtain ⟨rfl, rfl, rfl⟩ := trodAll_nil r1
  obtain rfl : args = #[v0, v1] := by cases args; simp_all
  obtain ⟨rfl, rfl⟩ := trodVars_none hV
  have k0 := h0
  have lt0 : ∀ x ∈ p0, x.block < W.heap.size := by obtain ⟨m, hm⟩ := k0; exact DataW.trod_lt m _ _ _ hm
  obtain ⟨A0, c0, fs0, B0, e0, l0, rfl, rdf0, hcf0, rdl0, hcl0, hf0, hl0, hg0⟩ := Pm.open_model (hval 0 25 v0 rfl rfl) h0 (Pm.light_of hsz (j := 0) (t := 25) rfl rfl)
  obtain ⟨a1, len1, cap1, rfl⟩ := okWide_slice Try.underlying26 (hval 1 26 v1 rfl rfl)
  have k1 := h1
  have lt1 : ∀ x ∈ p1, x.block < W.heap.size := by obtain ⟨m, hm⟩ := k1; exact DataW.trod_lt m _ _ _ hm
  obtain ⟨z1, w1⟩ : ∃ zs, IsRow .u8 W a1 len1 cap1 zs := by
    obtain ⟨fuel, hf⟩ := h1
    rcases open_ints Try.underlying26 Try.underlying5 (by kernel_rfl) hf with ⟨hcs, _⟩ | ⟨x, l, c, zs, hcs, _, hl, hm, hz, _, hcell, hwz⟩
    · simp [Value.cells] at hcs
      obtain ⟨rfl, rfl, rfl⟩ := hcs
      exact ⟨[], .inl ⟨rfl, rfl, rfl, rfl⟩⟩
    · simp [Value.cells] at hcs
      obtain ⟨rfl, rfl, rfl⟩ := hcs
      exact ⟨zs, .inr ⟨_, rfl, hl, hm, by simpa using hz, hcell, hwz⟩⟩
  have y1 : len1 * 1 ≤ 140737488351232 := sized_ints hsz (j := 1) (t := 26) rfl rfl Try.underlying26 Try.underlying5 (by kernel_rfl) (by kernel_rfl) h1
  obtain ⟨l1, rfl, hr1, hm1, hw1, hc1⟩ := ReadsInt.ofRowC w1
  have rd1 : Kd.C (Kd.int .u8) W a1 l1.length l1 := Kd.C_of_reads (d := (0 : Int)) (h1 := fun _ => rfl) hr1
  clear hA0 hval0 hsz0 hsz
  refine (Pm.packTells_any A0 c0 fs0 B0 e0 l0 a1 cap1 l1 W rdf0 hcf0 rdl0 hcl0 rd1 hc1 hf0 hl0 hg0).mono fun e W' ⟨he, bel⟩ => ?_
  subst he
  exact ⟨_, rfl, _, _, _, [], _, [], hW', trodAll_mk1 (shut_bool Try.underlying4 _), (trodAll_cons_mk (Below.trod laidOut (by kernel_rfl) (of_decide_eq_true (by kernel_rfl)) k0 bel lt0) (trodAll_cons_mk (Below.trod laidOut (by kernel_rfl) (of_decide_eq_true (by kernel_rfl)) k1 bel lt1) trodAll_mk0)), rfl, bel.frame _, fun h => by cases h⟩
theorem over : Rows.packTellsRow.holds Try.pinned (OpenSpec.ofChange Rows.packTellsSpec) :=
  OpenClaim.holds_of_wide 3 Try.f3 rfl rfl rfl rfl rfl rfl rfl ⟨rfl, rfl, rfl, rfl, rfl⟩ rfl rfl rfl rfl rfl (by kernel_rfl) Try.func3 (by kernel_rfl)
    (of_decide_eq_true (by kernel_rfl)) (by unfold Func.isWrapper; first | (rw [if_pos (by decide +kernel)]; kernel_rfl) | (rw [if_neg (by decide +kernel)]; exact ⟨rfl, rfl⟩))
    (fun os started H enc _ => lifted os started H enc)
theorem proved : Rows.PackTellsSaid := over
end Go.Proofs.Ytaiglhfmmdajdaa.packTells
namespace Go.Proofs.Ytaiglhfmmdajdaa
/-- The row, under a short name, for the claim. -/
theorem packTells_holds : Rows.PackTellsSaid := packTells.proved
end Go.Proofs.Ytaiglhfmmdajdaa
end
