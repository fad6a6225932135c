/- The law ModelCopy: for every input the call answers true, and the input reads as it did. No condition. (Walks and laws of several texts, merged, and what is not used struck, by a program.) -/
import Derived.Test.YtchellnfenekaaaMModelCopy0
import Derived.Laws.Strings
import Derived.Test.YtchellnfenekaaaMModelCopy1
import Derived.Test.YtchellnfenekaaaMModelCopy3
import Derived.Test.YtchellnfenekaaaMModelCopy2
import Derived.Lib.Hide
import Derived.Below
import Derived.ChangeOld
import Derived.ChangeSlices
import Derived.OpenShut
import Derived.ProofKit
import Derived.ShutString
import Derived.SizedLaws
import Derived.Test.YtchellnfenekaaaRows
import Derived.WalkKit
section
namespace Go.Proofs.Ytchellnfenekaaa.Pm
open Go.RowKit Go.Proofs.YtchellnfenekaaaW.PrintWords Go.Proofs.YtchellnfenekaaaW.PrintLast Go.Proofs.YtchellnfenekaaaW.PrintMore
attribute [local go_sem] max2_int min2_int max_two min_two max_three min_three max_four min_four   -- for this text's walks alone
set_option linter.unusedVariables false
set_option linter.unusedSimpArgs false
def slices_Equal_string_string.l0 : Nat → List ByteArray → List ByteArray → Int → Int → Option (Bool)
 | 0, _, _, _, _ => none
 | k + 1, x0, x1, x12, x13 => if x13 < x12 then (if 0 ≤ x13 then (if x13 < (x0.length : Int) then (if x13 < (x1.length : Int) then (if (rdOf ByteArray.empty x0 x13).toList = (rdOf ByteArray.empty x1 x13).toList then (slices_Equal_string_string.l0 k x0 x1 x12 (wrap64 (x13 + 1))) else (some false)) else (none)) else (none)) else (none)) else (some true)
def slices_Equal_string_string.f (k : Nat) (l0 : List ByteArray) (l1 : List ByteArray) : Option (Bool) := if (l0.length : Int) = (l1.length : Int) then (slices_Equal_string_string.l0 k l0 l1 (l0.length : Int) 0) else (some false)
theorem slices_Equal_string_string.mono_l : ∀ k, (∀ y0 y1 y2 y3, LeO (slices_Equal_string_string.l0 k y0 y1 y2 y3) (slices_Equal_string_string.l0 (k + 1) y0 y1 y2 y3))
 | 0 => fun _ _ _ _ r h => by simp [slices_Equal_string_string.l0] at h
 | k + 1 => by
  have ih0 := slices_Equal_string_string.mono_l k
  ·intro y0 y1 y2 y3
   unfold slices_Equal_string_string.l0
   repeat' first
   | (with_reducible exact ih0 _ _ _ _)
   | (with_reducible exact LeO.refl _)
   | (with_reducible exact LeO.none _)
   | (with_reducible refine LeO.ite ?_ ?_)
   | (with_reducible refine LeO.bind ?_ (fun _ => ?_))
   | exact ih0 _ _ _ _
   | exact LeO.none _
   | refine LeO.ite ?_ ?_
   | refine LeO.bind ?_ (fun _ => ?_)
theorem slices_Equal_string_string.mono : ∀ a0 a1 k, LeO (slices_Equal_string_string.f k a0 a1) (slices_Equal_string_string.f (k + 1) a0 a1) := by
 intro a0 a1 k
 have ih0 := slices_Equal_string_string.mono_l k
 unfold slices_Equal_string_string.f
 repeat' first
   | (with_reducible exact ih0 _ _ _ _)
   | (with_reducible exact LeO.refl _)
   | (with_reducible exact LeO.none _)
   | (with_reducible refine LeO.ite ?_ ?_)
   | (with_reducible refine LeO.bind ?_ (fun _ => ?_))
   | exact ih0 _ _ _ _
   | exact LeO.none _
   | refine LeO.ite ?_ ?_
   | refine LeO.bind ?_ (fun _ => ?_)
set_option maxHeartbeats 8000000 in
set_option maxRecDepth 100000 in
theorem slices_Equal_string_string.calls (k : Nat) (A0 : Option Addr) (c0 : Nat) (l0 : List ByteArray) (A1 : Option Addr) (c1 : Nat) (l1 : List ByteArray) (r : Bool) (w : World) (hr0 : Kd.C Kd.string w A0 l0.length l0) (hc0 : l0.length ≤ c0) (hr1 : Kd.C Kd.string w A1 l1.length l1) (hc1 : l1.length ≤ c1) (h : slices_Equal_string_string.f k l0 l1 = some r) :
  Calls Try.prog 53 #[.slice A0 l0.length c0, .slice A1 l1.length c1] w fun e w' => e = .returned (.bool r) ∧ Drawn0 w w' := by
 have HR0 := Aside0.mk hr0
 have HC0 := Aside0.mk hc0
 clear hr0 hc0
 have HR1 := Aside0.mk hr1
 have HC1 := Aside0.mk hc1
 clear hr1 hc1
 have H : (if (l0.length : Int) = (l1.length : Int) then (slices_Equal_string_string.l0 k l0 l1 (l0.length : Int) 0) else (some false)) = some r := h
 clear h
 by_cases c3 : (l0.length : Int) = (l1.length : Int)
 ·rw [if_pos c3] at H
  have c3b0 : ((l0.length : Int) == (l1.length : Int)) = true := beq_iff_eq.mpr c3
  have c3b1 : ((l0.length : Int) != (l1.length : Int)) = false := bne_eq_false_iff_eq.mpr c3
  have c3b2 : (l0.length == l1.length) = true := by first | simpa using c3 | (simp at c3 ⊢; omega)
  clear c3
  have H' := Aside0.mk H
  clear H
  go_enter Try.func53, Try.ntmps53
  go_wp2
  repeat (go_quiet (fail); try go_wp2)
  go_loopg [13] k (fun kq v13 w' => ∃ (x13_1 : Int), v13 = .int .i64 x13_1 ∧ Aside0 (slices_Equal_string_string.l0 kq l0 l1 (l0.length : Int) x13_1 = some r) ∧ Aside0 (kq ≤ k) ∧ Drawn0 w w')
  case atStart => exact ⟨(0), (by first | rfl | (simp; done) | (simp [*]; done)), H', ⟨Nat.le_refl _⟩, by repeat (first | exact Drawn0.refl _ | apply Drawn0.step)⟩
  case round =>
   clear H'
   (try clear c1); (try clear p2); (try clear c3); (try clear c3b0); (try clear c3b1); (try clear c3b2)
   obtain ⟨x13_1, rfl, HA, HK1, ⟨m1, rfl⟩⟩ := hrel
   cases gk with
   | zero => exact absurd HA.out (by simp [slices_Equal_string_string.l0])
   | succ k1 =>
    have H := HA.out
    clear HA
    simp only [slices_Equal_string_string.l0] at H
    by_cases c4 : x13_1 < (l0.length : Int)
    ·rw [if_pos c4] at H
     have c4b0 : decide (x13_1 < (l0.length : Int)) = true := decide_eq_true c4
     clear c4
     by_cases c5 : 0 ≤ x13_1
     ·rw [if_pos c5] at H
      have c5b0 : decide (0 ≤ x13_1) = true := decide_eq_true c5
      clear c5
      by_cases c6 : x13_1 < (l0.length : Int)
      ·rw [if_pos c6] at H
       have c6b0 : decide (x13_1 < (l0.length : Int)) = true := decide_eq_true c6
       clear c6
       by_cases c7 : x13_1 < (l1.length : Int)
       ·rw [if_pos c7] at H
        have c7b0 : decide (x13_1 < (l1.length : Int)) = true := decide_eq_true c7
        clear c7
        by_cases c8 : (rdOf ByteArray.empty l0 x13_1).toList = (rdOf ByteArray.empty l1 x13_1).toList
        ·rw [if_pos c8] at H
         have c8b0 : ((rdOf ByteArray.empty l0 x13_1).toList == (rdOf ByteArray.empty l1 x13_1).toList) = true := beq_iff_eq.mpr c8
         have c8b1 : ((rdOf ByteArray.empty l0 x13_1).toList != (rdOf ByteArray.empty l1 x13_1).toList) = false := bne_eq_false_iff_eq.mpr c8
         clear c8
         have H' := Aside0.mk H
         clear H
         have p402 : 0 ≤ (x13_1 : Int) := od_
         have q402 : x13_1 < (l0.length : Int) := od_
         obtain ⟨ad402, e402, hx402_0⟩ := Kd.at_string HR0.out x13_1 p402 q402
         cases e402
         replace p402 := eq_true p402
         replace q402 := eq_true q402
         have p403 : 0 ≤ (x13_1 : Int) := od_
         have q403 : x13_1 < (l1.length : Int) := od_
         obtain ⟨ad403, e403, hx403_0⟩ := Kd.at_string HR1.out x13_1 p403 q403
         cases e403
         replace p403 := eq_true p403
         replace q403 := eq_true q403
         go_wp2
         repeat (go_quiet (fail); try go_wp2)
         go_roundg k1
         case measure => have := HK1.out; omega
         case rel => exact ⟨(wrap64 (x13_1 + 1)), (by first | rfl | (simp; done) | (simp [*]; done)), H', ⟨by have := HK1.out; omega⟩, by repeat (first | exact Drawn0.refl _ | apply Drawn0.step)⟩
        ·rw [if_neg c8] at H
         have c8b0 : ((rdOf ByteArray.empty l0 x13_1).toList == (rdOf ByteArray.empty l1 x13_1).toList) = false := beq_eq_false_iff_ne.mpr c8
         have c8b1 : ((rdOf ByteArray.empty l0 x13_1).toList != (rdOf ByteArray.empty l1 x13_1).toList) = true := bne_iff_ne.mpr c8
         obtain rfl := Option.some.inj H
         have p402 : 0 ≤ (x13_1 : Int) := od_
         have q402 : x13_1 < (l0.length : Int) := od_
         obtain ⟨ad402, e402, hx402_0⟩ := Kd.at_string HR0.out x13_1 p402 q402
         cases e402
         replace p402 := eq_true p402
         replace q402 := eq_true q402
         have p403 : 0 ≤ (x13_1 : Int) := od_
         have q403 : x13_1 < (l1.length : Int) := od_
         obtain ⟨ad403, e403, hx403_0⟩ := Kd.at_string HR1.out x13_1 p403 q403
         cases e403
         replace p403 := eq_true p403
         replace q403 := eq_true q403
         go_wp2
         repeat (go_quiet (fail); try go_wp2)
         go_ret
         exact ⟨by first | rfl | (simp; done) | (simp [*]; done), by repeat (first | exact Drawn0.refl _ | apply Drawn0.step)⟩
       ·rw [if_neg c7] at H
        exact absurd H (by simp)
      ·rw [if_neg c6] at H
       exact absurd H (by simp)
     ·rw [if_neg c5] at H
      exact absurd H (by simp)
    ·rw [if_neg c4] at H
     have c4b0 : decide (x13_1 < (l0.length : Int)) = false := decide_eq_false c4
     clear c4
     obtain rfl := Option.some.inj H
     go_wp2
     repeat (go_quiet (fail); try go_wp2)
     go_ret
     exact ⟨by first | rfl | (simp; done) | (simp [*]; done), by repeat (first | exact Drawn0.refl _ | apply Drawn0.step)⟩
 ·rw [if_neg c3] at H
  have c3b0 : ((l0.length : Int) == (l1.length : Int)) = false := beq_eq_false_iff_ne.mpr c3
  have c3b1 : ((l0.length : Int) != (l1.length : Int)) = true := bne_iff_ne.mpr c3
  have c3b2 : (l0.length == l1.length) = false := by first | simpa using c3 | (simp at c3 ⊢; omega)
  obtain rfl := Option.some.inj H
  go_enter Try.func53, Try.ntmps53
  go_wp2
  repeat (go_quiet (fail); try go_wp2)
  go_ret
  exact ⟨by first | rfl | (simp; done) | (simp [*]; done), by repeat (first | exact Drawn0.refl _ | apply Drawn0.step)⟩
end Go.Proofs.Ytchellnfenekaaa.Pm
end
section
namespace Go.Proofs.Ytchellnfenekaaa.Pm
open Go.RowKit Go.Proofs.YtchellnfenekaaaW.PrintWords Go.Proofs.YtchellnfenekaaaW.PrintLast Go.Proofs.YtchellnfenekaaaW.PrintMore
attribute [local go_sem] max2_int min2_int max_two min_two max_three min_three max_four min_four   -- for this text's walks alone
set_option linter.unusedVariables false
set_option linter.unusedSimpArgs false
def Evb (g : Nat → Option Bool) (P : Prop) : Prop := ∃ r, Ev g r ∧ (r = true ↔ P)
theorem ba_ext' {a b : ByteArray} (h : a.toList = b.toList) : a = b := by
  rw [ByteArray.toList_eq, ByteArray.toList_eq] at h
  exact Go.WideShapes.bytes_inj h
theorem Evb.yes {P : Prop} (h : P) : Evb (fun _ => some true) P := ⟨true, Ev.now true, by simp [h]⟩
theorem Evb.no {P : Prop} (h : ¬ P) : Evb (fun _ => some false) P := ⟨false, Ev.now false, by simp [h]⟩
theorem Evb.iff {g : Nat → Option Bool} {P Q : Prop} (h : Evb g P) (e : P ↔ Q) : Evb g Q := by obtain ⟨r, h1, h2⟩ := h; exact ⟨r, h1, h2.trans e⟩
theorem Evb.step {f g : Nat → Option Bool} {P : Prop} (h : ∀ k, g (k + 1) = f k) (hf : Evb f P) : Evb g P := by obtain ⟨r, h1, h2⟩ := hf; exact ⟨r, Ev.step h h1, h2⟩
theorem Evb.congr {f g : Nat → Option Bool} {P : Prop} (h : ∀ k, g k = f k) (hf : Evb f P) : Evb g P := by obtain ⟨r, h1, h2⟩ := hf; exact ⟨r, Ev.congr h h1, h2⟩
theorem Evb.and {g n : Nat → Option Bool} {P Q : Prop} (hg : Evb g P) (hn : P → Evb n Q) : Evb (fun k => (g k).bind fun t => if t = true then n k else some false) (P ∧ Q) := by
  obtain ⟨r, h1, h2⟩ := hg
  cases r with
  | true =>
    obtain ⟨r, h3, h4⟩ := hn (h2.1 rfl)
    exact ⟨r, Ev.bind h1 (Ev.congr (fun k => if_pos rfl) h3), h4.trans ⟨fun h => ⟨h2.1 rfl, h⟩, fun h => h.2⟩⟩
  | false => exact ⟨false, Ev.bind h1 (Ev.congr (fun k => if_neg (by decide)) (Ev.now false)), by simp; intro h; exact absurd (h2.2 h) (by decide)⟩
theorem drop_iff {α : Type} {l m : List α} (h : l.length = m.length) (i : Nat) (hi : i < l.length) : l.drop i = m.drop i ↔ l[i] = m[i]'(h ▸ hi) ∧ l.drop (i + 1) = m.drop (i + 1) := by
  have hj : i < m.length := h ▸ hi
  rw [List.drop_eq_getElem_cons hi, List.drop_eq_getElem_cons hj, List.cons.injEq]
theorem evb_texts (l m : List ByteArray) (hn : l.length ≤ 9223372036854775806) : Evb (fun k => sentryref4_SameTexts.f k l m) (l = m) := by
  by_cases hl : l.length = m.length
  case neg => exact Evb.congr (fun k => by unfold sentryref4_SameTexts.f; exact if_neg (by omega)) (Evb.no (fun h => hl (by rw [h])))
  have main : ∀ (d i : Nat), i + d = l.length → Evb (fun k => sentryref4_SameTexts.l0 k l m (i : Int)) (l.drop i = m.drop i) := by
    intro d
    induction d with
    | zero =>
      intro i hi
      refine Evb.step (f := fun _ => some true) (fun k => ?_) (Evb.yes (by rw [List.drop_of_length_le (by omega), List.drop_of_length_le (by omega)]))
      simp only [sentryref4_SameTexts.l0]
      rw [if_neg (by omega)]
    | succ d ih =>
      intro i hi
      have h1 : i < l.length := by omega
      have h2 : i < m.length := by omega
      by_cases he : l[i].toList = m[i].toList
      · refine Evb.step (f := fun k => sentryref4_SameTexts.l0 k l m ((i + 1 : Nat) : Int)) (fun k => ?_) ((ih (i + 1) (by omega)).iff ?_)
        · simp only [sentryref4_SameTexts.l0]
          rw [if_pos (by omega), if_pos (by omega), if_pos (by omega), rdOf_get _ _ _ h1, rdOf_get _ _ _ h2, if_pos he, wrap_lt (n := (l.length : Int)) (by omega) (by omega) (by omega)]
          rfl
        · rw [drop_iff hl i h1]
          exact ⟨fun h => ⟨ba_ext' he, h⟩, fun h => h.2⟩
      · refine Evb.step (f := fun _ => some false) (fun k => ?_) (Evb.no ?_)
        · simp only [sentryref4_SameTexts.l0]
          rw [if_pos (by omega), if_pos (by omega), if_pos (by omega), rdOf_get _ _ _ h1, rdOf_get _ _ _ h2, if_neg he]
        · rw [drop_iff hl i h1]
          exact fun h => he (by rw [h.1])
  exact Evb.congr (fun k => by unfold sentryref4_SameTexts.f; exact if_pos (by omega)) (main l.length 0 (by omega))
theorem evb_s2 {Q : Prop} (l m : List (S29)) (i : Nat) (h1 : i < l.length) (h2 : i < m.length) (hl : l[i].f1.length = m[i].f1.length) (hn : l[i].f1.length ≤ 9223372036854775806) (hln : l.length ≤ 9223372036854775806) (hR : Evb (fun k => sentryref4_SameSentries.l0 k l m ((i + 1 : Nat) : Int)) Q) (d : Nat) : ∀ j : Nat, j + d = l[i].f1.length → Evb (fun k => sentryref4_SameSentries.l2 k l m (i : Int) (j : Int)) (l[i].f1.drop j = m[i].f1.drop j ∧ Q) := by
  have r1 : rd_T29 l (i : Int) = l[i] := by simp [rd_T29, List.getD_eq_getElem?_getD, List.getElem?_eq_getElem h1]
  have r2 : rd_T29 m (i : Int) = m[i] := by simp [rd_T29, List.getD_eq_getElem?_getD, List.getElem?_eq_getElem h2]
  induction d with
  | zero =>
    intro j hj
    refine Evb.step (f := fun k => sentryref4_SameSentries.l0 k l m ((i + 1 : Nat) : Int)) (fun k => ?_) (hR.iff ?_)
    · simp only [sentryref4_SameSentries.l2]
      rw [if_pos (by omega), if_pos (by omega), r1, if_neg (by omega), wrap_lt (n := (l.length : Int)) (by omega) (by omega) (by omega)]
      rfl
    · rw [List.drop_of_length_le (by omega), List.drop_of_length_le (by omega)]
      simp
  | succ d ih =>
    intro j hj
    have g1 : j < l[i].f1.length := by omega
    have g2 : j < m[i].f1.length := by omega
    have q1 : rd_T25 l[i].f1 (j : Int) = l[i].f1[j] := by simp [rd_T25, List.getD_eq_getElem?_getD, List.getElem?_eq_getElem g1]
    have q2 : rd_T25 m[i].f1 (j : Int) = m[i].f1[j] := by simp [rd_T25, List.getD_eq_getElem?_getD, List.getElem?_eq_getElem g2]
    have hb : (!((l[i].f1[j].f0.toList) == (m[i].f1[j].f0.toList)) || (!((l[i].f1[j].f1.toList) == (m[i].f1[j].f1.toList)) || (!(l[i].f1[j].f2 == m[i].f1[j].f2)))) = true ↔ l[i].f1[j] ≠ m[i].f1[j] := by
      generalize l[i].f1[j] = a
      generalize m[i].f1[j] = b
      obtain ⟨a0, a1, a2⟩ := a
      obtain ⟨b0, b1, b2⟩ := b
      simp only [Bool.or_eq_true, Bool.not_eq_true', beq_eq_false_iff_ne, ne_eq, S25.mk.injEq]
      constructor
      · rintro (h | h | h) ⟨e1, e2, e3⟩
        · exact h (by rw [e1])
        · exact h (by rw [e2])
        · exact h e3
      · intro h
        by_cases e1 : a0.toList = b0.toList
        · by_cases e2 : a1.toList = b1.toList
          · exact .inr (.inr (fun e3 => h ⟨ba_ext' e1, ba_ext' e2, e3⟩))
          · exact .inr (.inl e2)
        · exact .inl e1
    by_cases he : l[i].f1[j] = m[i].f1[j]
    · refine Evb.step (f := fun k => sentryref4_SameSentries.l2 k l m (i : Int) ((j + 1 : Nat) : Int)) (fun k => ?_) ((ih (j + 1) (by omega)).iff ?_)
      · simp only [sentryref4_SameSentries.l2]
        rw [if_pos (by omega), if_pos (by omega), r1, if_pos (by omega), if_pos (by omega), if_pos (by omega), r2, if_pos (by omega), q1, q2, if_neg (fun h => hb.1 h he), wrap_lt (n := (l[i].f1.length : Int)) (by omega) (by omega) (by omega)]
        rfl
      · rw [drop_iff hl j g1]
        exact ⟨fun h => ⟨⟨he, h.1⟩, h.2⟩, fun h => ⟨h.1.2, h.2⟩⟩
    · refine Evb.step (f := fun _ => some false) (fun k => ?_) (Evb.no ?_)
      · simp only [sentryref4_SameSentries.l2]
        rw [if_pos (by omega), if_pos (by omega), r1, if_pos (by omega), if_pos (by omega), if_pos (by omega), r2, if_pos (by omega), q1, q2, if_pos (hb.2 he)]
      · rw [drop_iff hl j g1]
        exact fun h => he h.1.1
theorem evb_s1 {Q : Prop} (l m : List (S29)) (i : Nat) (h1 : i < l.length) (h2 : i < m.length) (hl : l[i].f0.length = m[i].f0.length) (hl1 : l[i].f1.length = m[i].f1.length) (hn : l[i].f0.length ≤ 9223372036854775806) (hn1 : l[i].f1.length ≤ 9223372036854775806) (hln : l.length ≤ 9223372036854775806) (hR : Evb (fun k => sentryref4_SameSentries.l0 k l m ((i + 1 : Nat) : Int)) Q) (d : Nat) : ∀ j : Nat, j + d = l[i].f0.length → Evb (fun k => sentryref4_SameSentries.l1 k l m (i : Int) (j : Int)) (l[i].f0.drop j = m[i].f0.drop j ∧ l[i].f1 = m[i].f1 ∧ Q) := by
  have r1 : rd_T29 l (i : Int) = l[i] := by simp [rd_T29, List.getD_eq_getElem?_getD, List.getElem?_eq_getElem h1]
  have r2 : rd_T29 m (i : Int) = m[i] := by simp [rd_T29, List.getD_eq_getElem?_getD, List.getElem?_eq_getElem h2]
  induction d with
  | zero =>
    intro j hj
    refine Evb.step (f := fun k => sentryref4_SameSentries.l2 k l m (i : Int) ((0 : Nat) : Int)) (fun k => ?_) ((evb_s2 l m i h1 h2 hl1 hn1 hln hR l[i].f1.length 0 (by omega)).iff ?_)
    · simp only [sentryref4_SameSentries.l1]
      rw [if_pos (by omega), if_pos (by omega), r1, if_neg (by omega)]
      rfl
    · rw [List.drop_of_length_le (l := l[i].f0) (by omega), List.drop_of_length_le (l := m[i].f0) (by omega)]
      simp
  | succ d ih =>
    intro j hj
    have g1 : j < l[i].f0.length := by omega
    have g2 : j < m[i].f0.length := by omega
    have q1 : rd_T39 l[i].f0 (j : Int) = l[i].f0[j] := by simp [rd_T39, List.getD_eq_getElem?_getD, List.getElem?_eq_getElem g1]
    have q2 : rd_T39 m[i].f0 (j : Int) = m[i].f0[j] := by simp [rd_T39, List.getD_eq_getElem?_getD, List.getElem?_eq_getElem g2]
    have hb : (!((l[i].f0[j].f0.toList) == (m[i].f0[j].f0.toList)) || (!(l[i].f0[j].f1 == m[i].f0[j].f1))) = true ↔ l[i].f0[j] ≠ m[i].f0[j] := by
      generalize l[i].f0[j] = a
      generalize m[i].f0[j] = b
      obtain ⟨a0, a1⟩ := a
      obtain ⟨b0, b1⟩ := b
      simp only [Bool.or_eq_true, Bool.not_eq_true', beq_eq_false_iff_ne, ne_eq, S39.mk.injEq]
      constructor
      · rintro (h | h) ⟨e1, e2⟩
        · exact h (by rw [e1])
        · exact h e2
      · intro h
        by_cases e1 : a0.toList = b0.toList
        · exact .inr (fun e3 => h ⟨ba_ext' e1, e3⟩)
        · exact .inl e1
    by_cases he : l[i].f0[j] = m[i].f0[j]
    · refine Evb.step (f := fun k => sentryref4_SameSentries.l1 k l m (i : Int) ((j + 1 : Nat) : Int)) (fun k => ?_) ((ih (j + 1) (by omega)).iff ?_)
      · simp only [sentryref4_SameSentries.l1]
        rw [if_pos (by omega), if_pos (by omega), r1, if_pos (by omega), if_pos (by omega), if_pos (by omega), r2, if_pos (by omega), q1, q2, if_neg (fun h => hb.1 h he), wrap_lt (n := (l[i].f0.length : Int)) (by omega) (by omega) (by omega)]
        rfl
      · rw [drop_iff hl j g1]
        exact ⟨fun h => ⟨⟨he, h.1⟩, h.2⟩, fun h => ⟨h.1.2, h.2⟩⟩
    · refine Evb.step (f := fun _ => some false) (fun k => ?_) (Evb.no ?_)
      · simp only [sentryref4_SameSentries.l1]
        rw [if_pos (by omega), if_pos (by omega), r1, if_pos (by omega), if_pos (by omega), if_pos (by omega), r2, if_pos (by omega), q1, q2, if_pos (hb.2 he)]
      · rw [drop_iff hl j g1]
        exact fun h => he h.1.1
def fitS (l : List (S29)) : Prop := l.length ≤ 9223372036854775806 ∧ ∀ s ∈ l, s.f0.length ≤ 9223372036854775806 ∧ s.f1.length ≤ 9223372036854775806
theorem evb_sents (l m : List (S29)) (hn : fitS l) : Evb (fun k => sentryref4_SameSentries.f k l m) (l = m) := by
  by_cases hl : l.length = m.length
  case neg => exact Evb.congr (fun k => by unfold sentryref4_SameSentries.f; exact if_neg (by omega)) (Evb.no (fun h => hl (by rw [h])))
  have main : ∀ (d i : Nat), i + d = l.length → Evb (fun k => sentryref4_SameSentries.l0 k l m (i : Int)) (l.drop i = m.drop i) := by
    intro d
    induction d with
    | zero =>
      intro i hi
      refine Evb.step (f := fun _ => some true) (fun k => ?_) (Evb.yes (by rw [List.drop_of_length_le (by omega), List.drop_of_length_le (by omega)]))
      simp only [sentryref4_SameSentries.l0]
      rw [if_neg (by omega)]
    | succ d ih =>
      intro i hi
      have h1 : i < l.length := by omega
      have h2 : i < m.length := by omega
      have r1 : rd_T29 l (i : Int) = l[i] := by simp [rd_T29, List.getD_eq_getElem?_getD, List.getElem?_eq_getElem h1]
      have r2 : rd_T29 m (i : Int) = m[i] := by simp [rd_T29, List.getD_eq_getElem?_getD, List.getElem?_eq_getElem h2]
      have hb := hn.2 _ (List.getElem_mem h1)
      have hno : ∀ b, b = true → Evb (fun k => sentryref4_SameSentries.j1 k l m (i : Int) b) False := fun b e => Evb.step (f := fun _ => some false) (fun k => by simp [sentryref4_SameSentries.j1, e]) (Evb.no id)
      have hln := hn.1
      by_cases e0 : l[i].f0.length = m[i].f0.length
      · by_cases e1 : l[i].f1.length = m[i].f1.length
        · refine Evb.step (f := fun k => sentryref4_SameSentries.j1 k l m (i : Int) false) (fun k => ?_) (Evb.step (f := fun k => sentryref4_SameSentries.l1 k l m (i : Int) ((0 : Nat) : Int)) (fun k => ?_) ((evb_s1 l m i h1 h2 e0 e1 hb.1 hb.2 hn.1 (ih (i + 1) (by omega)) l[i].f0.length 0 (by omega)).iff ?_))
          · simp only [sentryref4_SameSentries.l0]
            rw [if_pos (by omega), if_pos (by omega), if_pos (by omega), r1, r2, if_pos (by omega), show (((l[i].f1.length : Nat) : Int) != (m[i].f1.length : Int)) = false by rw [e1]; simp]
          · simp only [sentryref4_SameSentries.j1]
            rw [if_neg (by decide)]
            rfl
          · rw [drop_iff hl i h1]
            constructor
            · rintro ⟨a, b, c⟩
              refine ⟨?_, c⟩
              simp only [List.drop_zero] at a
              revert a b
              generalize l[i] = x
              generalize m[i] = y
              obtain ⟨x0, x1⟩ := x
              obtain ⟨y0, y1⟩ := y
              intro a b
              simp only at a b
              rw [a, b]
            · rintro ⟨a, c⟩
              exact ⟨by rw [a], by rw [a], c⟩
        · refine Evb.step (f := fun k => sentryref4_SameSentries.j1 k l m (i : Int) true) (fun k => ?_) ((hno true rfl).iff ?_)
          · simp only [sentryref4_SameSentries.l0]
            rw [if_pos (by omega), if_pos (by omega), if_pos (by omega), r1, r2, if_pos (by omega), show (((l[i].f1.length : Nat) : Int) != (m[i].f1.length : Int)) = true by simp; omega]
          · rw [drop_iff hl i h1]
            exact ⟨False.elim, fun h => e1 (by rw [h.1])⟩
      · refine Evb.step (f := fun k => sentryref4_SameSentries.j1 k l m (i : Int) true) (fun k => ?_) ((hno true rfl).iff ?_)
        · simp only [sentryref4_SameSentries.l0]
          rw [if_pos (by omega), if_pos (by omega), if_pos (by omega), r1, r2, if_neg (by omega)]
        · rw [drop_iff hl i h1]
          exact ⟨False.elim, fun h => e0 (by rw [h.1])⟩
  exact Evb.congr (fun k => by unfold sentryref4_SameSentries.f; exact if_pos (by omega)) (main l.length 0 (by omega))
theorem evb_item (x y : S32) (h5 : fitS x.f5) (h6 : fitS x.f6) : Evb (fun k => sentryref4_SameItem.f k x.f0 x.f1 x.f2 x.f3 x.f4 x.f5 x.f6 y.f0 y.f1 y.f2 y.f3 y.f4 y.f5 y.f6) (x = y) := by
  obtain ⟨x0, x1, x2, x3, x4, x5, x6⟩ := x
  obtain ⟨y0, y1, y2, y3, y4, y5, y6⟩ := y
  simp only at h5 h6 ⊢
  unfold sentryref4_SameItem.f
  rw [show ((⟨x0, x1, x2, x3, x4, x5, x6⟩ : S32) = ⟨y0, y1, y2, y3, y4, y5, y6⟩) = (x0 = y0 ∧ x1 = y1 ∧ x2 = y2 ∧ x3 = y3 ∧ x4 = y4 ∧ x5 = y5 ∧ x6 = y6) by rw [S32.mk.injEq]]
  by_cases e0 : x0.toList = y0.toList
  case neg => exact Evb.congr (fun k => if_neg e0) (Evb.no (fun h => e0 (by rw [h.1])))
  by_cases e1 : x1 = y1
  case neg => exact Evb.congr (fun k => by rw [if_pos e0, if_neg e1]) (Evb.no (fun h => e1 h.2.1))
  by_cases e2 : x2.toList = y2.toList
  case neg => exact Evb.congr (fun k => by rw [if_pos e0, if_pos e1, if_neg e2]) (Evb.no (fun h => e2 (by rw [h.2.2.1])))
  by_cases e3 : x3 = y3
  case neg => exact Evb.congr (fun k => by rw [if_pos e0, if_pos e1, if_pos e2, if_neg (by simpa using e3)]) (Evb.no (fun h => e3 h.2.2.2.1))
  by_cases e4 : x4 = y4
  case neg => exact Evb.congr (fun k => by rw [if_pos e0, if_pos e1, if_pos e2, if_pos (by simpa using e3), if_neg e4]) (Evb.no (fun h => e4 h.2.2.2.2.1))
  refine Evb.congr (fun k => by rw [if_pos e0, if_pos e1, if_pos e2, if_pos (by simpa using e3), if_pos e4]) ((Evb.and (evb_sents x5 y5 h5) (fun _ => Evb.congr (fun k => ?_) (evb_sents x6 y6 h6))).iff ?_)
  · cases sentryref4_SameSentries.f k x6 y6 <;> rfl
  · exact ⟨fun h => ⟨ba_ext' e0, e1, ba_ext' e2, e3, e4, h.1, h.2⟩, fun h => ⟨h.2.2.2.2.2.1, h.2.2.2.2.2.2⟩⟩
theorem evb_items (l m : List (S32)) (hn : l.length ≤ 9223372036854775806) (hs : ∀ x ∈ l, fitS x.f5 ∧ fitS x.f6) : Evb (fun k => sentryref4_SameItems.f k l m) (l = m) := by
  by_cases hl : l.length = m.length
  case neg => exact Evb.congr (fun k => by unfold sentryref4_SameItems.f; exact if_neg (by omega)) (Evb.no (fun h => hl (by rw [h])))
  have main : ∀ (d i : Nat), i + d = l.length → Evb (fun k => sentryref4_SameItems.l0 k l m (i : Int)) (l.drop i = m.drop i) := by
    intro d
    induction d with
    | zero =>
      intro i hi
      refine Evb.step (f := fun _ => some true) (fun k => ?_) (Evb.yes (by rw [List.drop_of_length_le (by omega), List.drop_of_length_le (by omega)]))
      simp only [sentryref4_SameItems.l0]
      rw [if_neg (by omega)]
    | succ d ih =>
      intro i hi
      have h1 : i < l.length := by omega
      have h2 : i < m.length := by omega
      have r1 : rd_T32 l (i : Int) = l[i] := by simp [rd_T32, List.getD_eq_getElem?_getD, List.getElem?_eq_getElem h1]
      have r2 : rd_T32 m (i : Int) = m[i] := by simp [rd_T32, List.getD_eq_getElem?_getD, List.getElem?_eq_getElem h2]
      have hb := hs _ (List.getElem_mem h1)
      refine Evb.step (fun k => ?_) ((Evb.and (evb_item l[i] m[i] hb.1 hb.2) (fun _ => ih (i + 1) (by omega))).iff (drop_iff hl i h1).symm)
      simp only [sentryref4_SameItems.l0]
      rw [if_pos (by omega), if_pos (by omega), if_pos (by omega), r1, r2, wrap_lt (n := (l.length : Int)) (by omega) (by omega) (by omega)]
      rfl
  exact Evb.congr (fun k => by unfold sentryref4_SameItems.f; exact if_pos (by omega)) (main l.length 0 (by omega))
theorem ev_same (fs gs : List ByteArray) (l m : List (S32)) (hf : fs.length ≤ 9223372036854775806) (hn : l.length ≤ 9223372036854775806) (hs : ∀ x ∈ l, fitS x.f5 ∧ fitS x.f6) : Evb (fun k => sentryref4_Same.f k fs l gs m) (fs = gs ∧ l = m) := by
  unfold sentryref4_Same.f
  refine Evb.and (evb_texts fs gs hf) (fun _ => Evb.congr (fun k => ?_) (evb_items l m hn hs))
  cases sentryref4_SameItems.f k l m <;> rfl
end Go.Proofs.Ytchellnfenekaaa.Pm
end
section
namespace Go.Proofs.Ytchellnfenekaaa.Pm
open Go.RowKit Go.Proofs.YtchellnfenekaaaW.PrintWords Go.Proofs.YtchellnfenekaaaW.PrintLast Go.Proofs.YtchellnfenekaaaW.PrintMore
attribute [local go_sem] max2_int min2_int max_two min_two max_three min_three max_four min_four   -- for this text's walks alone
set_option linter.unusedVariables false
set_option linter.unusedSimpArgs false
theorem Evb.eqP {g : Nat → Option Bool} {P : Prop} (h : Evb g P) : ∃ k, g k = some (eqP P) := by
  obtain ⟨r, ⟨k, hk⟩, h2⟩ := h
  exact ⟨k, by rw [eqP_of h2]; exact hk k (Nat.le_refl _)⟩
end Go.Proofs.Ytchellnfenekaaa.Pm
end
section
namespace Go.Proofs.Ytchellnfenekaaa.Pm
open Go.RowKit Go.Proofs.YtchellnfenekaaaW.PrintWords Go.Proofs.YtchellnfenekaaaW.PrintLast Go.Proofs.YtchellnfenekaaaW.PrintMore
attribute [local go_sem] max2_int min2_int max_two min_two max_three min_three max_four min_four   -- for this text's walks alone
set_option linter.unusedVariables false
set_option linter.unusedSimpArgs false
end Go.Proofs.Ytchellnfenekaaa.Pm
end
section
namespace Go.Proofs.Ytchellnfenekaaa.Pm
open Go.RowKit Go.Proofs.YtchellnfenekaaaW.PrintWords Go.Proofs.YtchellnfenekaaaW.PrintLast Go.Proofs.YtchellnfenekaaaW.PrintMore
attribute [local go_sem] max2_int min2_int max_two min_two max_three min_three max_four min_four   -- for this text's walks alone
set_option linter.unusedVariables false
set_option linter.unusedSimpArgs false
theorem rd_s (l : List (S29)) (i : Nat) (h : i < l.length) : rd_T29 l (i : Int) = l[i] := by simp [rd_T29, List.getD_eq_getElem?_getD, List.getElem?_eq_getElem h]
theorem hv_add {a b c : Int} (h1 : 0 ≤ a) (h2 : a ≤ 1152921504606846976) (h3 : 0 ≤ b) (h4 : b ≤ 140737488351232) (h5 : 0 ≤ c) (h6 : c ≤ 140737488351232) : wrap64 (wrap64 (a + b) + c) = a + b + c := by
  unfold wrap64; omega
theorem hv_sum {y a b c d : Int} (h1 : 0 ≤ y) (h2 : y < 400) (a1 : 0 ≤ a) (a2 : a ≤ 140737488351232) (b1 : 0 ≤ b) (b2 : b ≤ 140737488351232) (c1 : 0 ≤ c) (c2 : c ≤ 140737488351232) (d1 : 0 ≤ d) (d2 : d ≤ 140737488351232) : wrap64 (wrap64 (wrap64 (wrap64 (y + a) + b) + wrap64 (c / 50)) + wrap64 (d / 50)) = y + a + b + c / 50 + d / 50 ∧ 0 ≤ c / 50 ∧ c / 50 ≤ 140737488351232 ∧ 0 ≤ d / 50 ∧ d / 50 ≤ 140737488351232 := by
  have e1 : 0 ≤ c / 50 ∧ c / 50 ≤ 140737488351232 := by omega
  have e2 : 0 ≤ d / 50 ∧ d / 50 ≤ 140737488351232 := by omega
  refine ⟨?_, e1.1, e1.2, e2.1, e2.2⟩
  revert e1 e2
  generalize c / 50 = c
  generalize d / 50 = d
  intro e1 e2
  rw [show wrap64 c = c by unfold wrap64; omega, show wrap64 d = d by unfold wrap64; omega, hv_add (a := y) h1 (by omega) a1 a2 b1 b2, hv_add (a := y + a + b) (by omega) (by omega) e1.1 e1.2 e2.1 e2.2]
theorem ev_hv2 (fs : List ByteArray) (l : List (S32)) (N0 : Int) (h0 : 0 ≤ N0) (x : S32) (hx : goodItem x) (i : Nat) (hi : i < l.length) (hl : l.length ≤ 140737488351232)
    (hR : ∀ y : Int, N0 ≤ y → y ≤ 1152921504606846976 → ∃ b, Ev (fun k => sentrylaw4_heavy.l0 k y (((i + 1 : Nat)) : Int) fs l) b ∧ (b = false → N0 < 400)) (d : Nat) : ∀ (j : Nat) (y : Int), j + d = x.f6.length → N0 ≤ y → y ≤ 1152921504606846976 → ∃ b, Ev (fun k => sentrylaw4_heavy.l2 k y (i : Int) (j : Int) fs l x.f0 x.f1 x.f2 x.f3 x.f4 x.f5 x.f6) b ∧ (b = false → N0 < 400) := by
  obtain ⟨_, _, _, g6, _, hs6⟩ := hx
  induction d with
  | zero =>
    intro j y hj h1 h2
    obtain ⟨b, hb, hc⟩ := hR y h1 h2
    refine ⟨b, Ev.step (f := fun k => sentrylaw4_heavy.l0 k y (((i + 1 : Nat)) : Int) fs l) (fun k => ?_) hb, hc⟩
    simp only [sentrylaw4_heavy.l2]
    rw [if_neg (by omega), wrap_lt (n := (l.length : Int)) (by omega) (by omega) (by omega)]
    rfl
  | succ d ih =>
    intro j y hj h1 h2
    by_cases hc : y < 400
    case neg =>
      obtain ⟨b, hb, hc'⟩ := hR y h1 h2
      refine ⟨b, Ev.step (f := fun k => sentrylaw4_heavy.l0 k y (((i + 1 : Nat)) : Int) fs l) (fun k => ?_) hb, hc'⟩
      simp only [sentrylaw4_heavy.l2]
      rw [if_pos (by omega), if_neg hc, wrap_lt (n := (l.length : Int)) (by omega) (by omega) (by omega)]
      rfl
    have hjl : j < x.f6.length := by omega
    obtain ⟨ga, gb⟩ := hs6 x.f6[j] (List.getElem_mem hjl)
    obtain ⟨b, hb, hc'⟩ := ih (j + 1) (y + (x.f6[j]).f0.length + (x.f6[j]).f1.length) (by omega) (by omega) (by omega)
    refine ⟨b, Ev.step (f := fun k => sentrylaw4_heavy.l2 k (y + (x.f6[j]).f0.length + (x.f6[j]).f1.length) (i : Int) (((j + 1 : Nat)) : Int) fs l x.f0 x.f1 x.f2 x.f3 x.f4 x.f5 x.f6) (fun k => ?_) hb, hc'⟩
    simp only [sentrylaw4_heavy.l2]
    rw [if_pos (by omega), if_pos hc, if_pos (by omega), rd_s _ _ hjl, hv_add (by omega) (by omega) (by omega) (by omega) (by omega) (by omega), wrap_lt (n := (x.f6.length : Int)) (by omega) (by omega) (by omega)]
    rfl
theorem ev_hv1 (fs : List ByteArray) (l : List (S32)) (N0 : Int) (h0 : 0 ≤ N0) (x : S32) (hx : goodItem x) (i : Nat) (hi : i < l.length) (hl : l.length ≤ 140737488351232)
    (hR : ∀ y : Int, N0 ≤ y → y ≤ 1152921504606846976 → ∃ b, Ev (fun k => sentrylaw4_heavy.l0 k y (((i + 1 : Nat)) : Int) fs l) b ∧ (b = false → N0 < 400)) (d : Nat) : ∀ (j : Nat) (y : Int), j + d = x.f5.length → N0 ≤ y → y ≤ 1152921504606846976 → ∃ b, Ev (fun k => sentrylaw4_heavy.l1 k y (i : Int) (j : Int) fs l x.f0 x.f1 x.f2 x.f3 x.f4 x.f5 x.f6) b ∧ (b = false → N0 < 400) := by
  have hx0 := hx
  obtain ⟨_, _, g5, _, hs5, _⟩ := hx
  have hnext : ∀ y : Int, N0 ≤ y → y ≤ 1152921504606846976 → ∃ b, Ev (fun k => sentrylaw4_heavy.j3 k y (i : Int) fs l x.f0 x.f1 x.f2 x.f3 x.f4 x.f5 x.f6) b ∧ (b = false → N0 < 400) := by
    intro y h1 h2
    obtain ⟨b, hb, hc⟩ := ev_hv2 fs l N0 h0 x hx0 i hi hl hR x.f6.length 0 y (by omega) h1 h2
    exact ⟨b, Ev.step (fun k => by simp only [sentrylaw4_heavy.j3]; rfl) hb, hc⟩
  induction d with
  | zero =>
    intro j y hj h1 h2
    obtain ⟨b, hb, hc⟩ := hnext y h1 h2
    refine ⟨b, Ev.step (fun k => ?_) hb, hc⟩
    simp only [sentrylaw4_heavy.l1]
    rw [if_neg (by omega)]
  | succ d ih =>
    intro j y hj h1 h2
    by_cases hc : y < 400
    case neg =>
      obtain ⟨b, hb, hc'⟩ := hnext y h1 h2
      refine ⟨b, Ev.step (fun k => ?_) hb, hc'⟩
      simp only [sentrylaw4_heavy.l1]
      rw [if_pos (by omega), if_neg hc]
    have hjl : j < x.f5.length := by omega
    obtain ⟨ga, gb⟩ := hs5 x.f5[j] (List.getElem_mem hjl)
    obtain ⟨b, hb, hc'⟩ := ih (j + 1) (y + (x.f5[j]).f0.length + (x.f5[j]).f1.length) (by omega) (by omega) (by omega)
    refine ⟨b, Ev.step (f := fun k => sentrylaw4_heavy.l1 k (y + (x.f5[j]).f0.length + (x.f5[j]).f1.length) (i : Int) (((j + 1 : Nat)) : Int) fs l x.f0 x.f1 x.f2 x.f3 x.f4 x.f5 x.f6) (fun k => ?_) hb, hc'⟩
    simp only [sentrylaw4_heavy.l1]
    rw [if_pos (by omega), if_pos hc, if_pos (by omega), rd_s _ _ hjl, hv_add (by omega) (by omega) (by omega) (by omega) (by omega) (by omega), wrap_lt (n := (x.f5.length : Int)) (by omega) (by omega) (by omega)]
    rfl
theorem ev_hv0 (fs : List ByteArray) (l : List (S32)) (hg : ∀ x ∈ l, goodItem x) (hl : l.length ≤ 140737488351232) (N0 : Int) (h0 : 0 ≤ N0) (d : Nat) : ∀ (i : Nat) (y : Int), i + d = l.length → N0 ≤ y → y ≤ 1152921504606846976 → ∃ b, Ev (fun k => sentrylaw4_heavy.l0 k y (i : Int) fs l) b ∧ (b = false → N0 < 400) := by
  have hend : ∀ (i : Nat) (y : Int), N0 ≤ y → ∃ b, Ev (fun k => sentrylaw4_heavy.j1 k y (i : Int) false fs l) b ∧ (b = false → N0 < 400) := by
    intro i y h1
    refine ⟨decide (y ≥ 400), Ev.step (f := fun _ => some (decide (y ≥ 400))) (fun k => by simp [sentrylaw4_heavy.j1]) (Ev.now _), fun h => ?_⟩
    have := of_decide_eq_false h
    omega
  induction d with
  | zero =>
    intro i y hi h1 h2
    obtain ⟨b, hb, hc⟩ := hend i y h1
    refine ⟨b, Ev.step (fun k => ?_) hb, hc⟩
    simp only [sentrylaw4_heavy.l0]
    rw [if_neg (by omega)]
  | succ d ih =>
    intro i y hi h1 h2
    by_cases hc : y < 400
    case neg =>
      obtain ⟨b, hb, hc'⟩ := hend i y h1
      refine ⟨b, Ev.step (fun k => ?_) hb, hc'⟩
      simp only [sentrylaw4_heavy.l0]
      rw [if_pos (by omega), decide_eq_false hc]
    have hil : i < l.length := by omega
    have hrd : rd_T32 l (i : Int) = l[i] := by simp [rd_T32, List.getD_eq_getElem?_getD, List.getElem?_eq_getElem hil]
    obtain ⟨x, hx⟩ : ∃ x, x = l[i] := ⟨_, rfl⟩
    have hgx : goodItem x := by rw [hx]; exact hg _ (List.getElem_mem hil)
    have hgx0 := hgx
    obtain ⟨g0, g2, g5, g6, _, _⟩ := hgx
    obtain ⟨z, hz⟩ : ∃ z : Int, z = y + x.f5.length + x.f6.length + (x.f0.size : Int) / 50 + (x.f2.size : Int) / 50 := ⟨_, rfl⟩
    obtain ⟨hsum, q1, q2, q3, q4⟩ := hv_sum (y := y) (a := (x.f5.length : Int)) (b := (x.f6.length : Int)) (c := (x.f0.size : Int)) (d := (x.f2.size : Int)) (by omega) hc (by omega) (by omega) (by omega) (by omega) (by omega) (by omega) (by omega) (by omega)
    rw [← hz] at hsum
    have hzb : N0 ≤ z ∧ z ≤ 1152921504606846976 := by
      clear hsum
      revert hz q1 q2 q3 q4
      generalize (x.f0.size : Int) / 50 = c
      generalize (x.f2.size : Int) / 50 = d
      intro hz q1 q2 q3 q4
      omega
    clear hz q1 q2 q3 q4
    obtain ⟨b, hb, hc'⟩ := ev_hv1 fs l N0 h0 x hgx0 i hil hl (fun y' h1' h2' => ih (i + 1) y' (by omega) h1' h2') x.f5.length 0 z (by omega) hzb.1 hzb.2
    have hb' : Ev (fun k => sentrylaw4_heavy.l1 k z (i : Int) 0 fs l x.f0 x.f1 x.f2 x.f3 x.f4 x.f5 x.f6) b := hb
    refine ⟨b, Ev.step (f := fun k => sentrylaw4_heavy.j1 k y (i : Int) true fs l) (fun k => ?_) (Ev.step (fun k => ?_) hb'), hc'⟩
    · simp only [sentrylaw4_heavy.l0]
      rw [if_pos (by omega), decide_eq_true hc]
    · simp only [sentrylaw4_heavy.j1]
      rw [if_pos trivial, if_pos (by omega), if_pos (by omega), hrd, ← hx, hsum]
theorem ev_heavy (fs : List ByteArray) (l : List (S32)) (hf : fs.length ≤ 140737488351232) (hl : l.length ≤ 140737488351232) (hg : ∀ x ∈ l, goodItem x) : ∃ b, Ev (fun k => sentrylaw4_heavy.f k fs l) b ∧ (b = false → fs.length + l.length < 400) := by
  unfold sentrylaw4_heavy.f
  rw [show wrap64 ((fs.length : Int) + (l.length : Int)) = (fs.length : Int) + (l.length : Int) by unfold wrap64; omega]
  obtain ⟨b, hb, hc⟩ := ev_hv0 fs l hg hl ((fs.length : Int) + (l.length : Int)) (by omega) l.length 0 _ (by omega) (Int.le_refl _) (by omega)
  exact ⟨b, hb, fun h => by have := hc h; omega⟩
end Go.Proofs.Ytchellnfenekaaa.Pm
end
section
namespace Go.Proofs.Ytchellnfenekaaa.Pm
open Go.RowKit Go.Proofs.YtchellnfenekaaaW.PrintWords Go.Proofs.YtchellnfenekaaaW.PrintLast Go.Proofs.YtchellnfenekaaaW.PrintMore
attribute [local go_sem] max2_int min2_int max_two min_two max_three min_three max_four min_four   -- for this text's walks alone
set_option linter.unusedVariables false
set_option linter.unusedSimpArgs false
def model_ids.l0 : Nat → List ByteArray → List (S32) → Int → Int → Option (List ByteArray)
 | 0, _, _, _, _ => none
 | k + 1, x3, x7, x8, x9 => if x9 < x8 then (if 0 ≤ x9 then (if x9 < (x7.length : Int) then (if x3.length < 8796093022208 then (model_ids.l0 k (x3 ++ [(rd_T32 x7 x9).f0]) x7 x8 (wrap64 (x9 + 1))) else (none)) else (none)) else (none)) else (some x3)
def model_ids.f (k : Nat) (l0_0 : List ByteArray) (l0_1 : List (S32)) : Option (List ByteArray) := model_ids.l0 k ([] : List ByteArray) l0_1 (l0_1.length : Int) 0
theorem model_ids.mono_l : ∀ k, (∀ y0 y1 y2 y3, LeO (model_ids.l0 k y0 y1 y2 y3) (model_ids.l0 (k + 1) y0 y1 y2 y3))
 | 0 => fun _ _ _ _ r h => by simp [model_ids.l0] at h
 | k + 1 => by
  have ih0 := model_ids.mono_l k
  ·intro y0 y1 y2 y3
   unfold model_ids.l0
   repeat' first
   | (with_reducible exact ih0 _ _ _ _)
   | (with_reducible exact LeO.refl _)
   | (with_reducible exact LeO.none _)
   | (with_reducible refine LeO.ite ?_ ?_)
   | (with_reducible refine LeO.bind ?_ (fun _ => ?_))
   | exact ih0 _ _ _ _
   | exact LeO.none _
   | refine LeO.ite ?_ ?_
   | refine LeO.bind ?_ (fun _ => ?_)
theorem model_ids.mono : ∀ a0 a1 k, LeO (model_ids.f k a0 a1) (model_ids.f (k + 1) a0 a1) := by
 intro a0 a1 k
 have ih0 := model_ids.mono_l k
 unfold model_ids.f
 repeat' first
   | (with_reducible exact ih0 _ _ _ _)
   | (with_reducible exact LeO.refl _)
   | (with_reducible exact LeO.none _)
   | (with_reducible refine LeO.ite ?_ ?_)
   | (with_reducible refine LeO.bind ?_ (fun _ => ?_))
   | exact ih0 _ _ _ _
   | exact LeO.none _
   | refine LeO.ite ?_ ?_
   | refine LeO.bind ?_ (fun _ => ?_)
set_option maxHeartbeats 8000000 in
set_option maxRecDepth 100000 in
theorem model_ids.calls (k : Nat) (A0_0 : Option Addr) (c0_0 : Nat) (l0_0 : List ByteArray) (A0_1 : Option Addr) (c0_1 : Nat) (l0_1 : List (S32)) (r : List ByteArray) (w : World) (hr0_0 : Kd.C Kd.string w A0_0 l0_0.length l0_0) (hc0_0 : l0_0.length ≤ c0_0) (hr0_1 : Kd.C k32 w A0_1 l0_1.length l0_1) (hc0_1 : l0_1.length ≤ c0_1) (h : model_ids.f k l0_0 l0_1 = some r) :
  Calls Try.prog 33 #[.agg #[.slice A0_0 l0_0.length c0_0, .slice A0_1 l0_1.length c0_1]] w fun e w' => ∃ v0_ : Value, e = .returned (v0_) ∧ Kd.R Kd.string 9 w' w.heap.size (fun _ => True) v0_ r ∧ Below w.heap.size w w' := by
 have hu36 := Try.underlying36
 have hu32 := Try.underlying32
 have HR0_0 := Aside0.mk hr0_0
 have HC0_0 := Aside0.mk hc0_0
 clear hr0_0 hc0_0
 have HR0_1 := Aside0.mk hr0_1
 have HC0_1 := Aside0.mk hc0_1
 clear hr0_1 hc0_1
 have HB := Aside0.mk (Below.refl w.heap.size w)
 have H : (model_ids.l0 k ([] : List ByteArray) l0_1 (l0_1.length : Int) 0) = some r := h
 clear h
 have H' := Aside0.mk H
 clear H
 go_enter Try.func33, Try.ntmps33
 go_wp2_with (first | ((with_reducible refine gate_dst (N := 1) rfl ?_); refine box_event ?hg (N := 1) ?hd (cs := #[.slice A0_0 l0_0.length c0_0, .slice A0_1 l0_1.length c0_1]) (t := 36) ?hr ?_; (case hd => rfl); (case hg => rfl); (case hr => first | (go_simp; done) | (go_simp; rfl)); intro gb104 hg w2 hbox hb; have n0_ := hb_ HB hb; have n1_ := Aside0.mk (hbox); have n2_ := Aside0.mk ((by rw [hg]; exact (below_size (by repeat (first | (with_reducible first | exact HB.out | apply below_alloc | apply pw_below_drewN | apply below_drew1) | exact HB.out))) : w.heap.size ≤ gb104)); have n3_ := Aside0.mk ((by rw [hg]; exact (below_size (by repeat (first | (with_reducible first | exact HB.out | apply below_alloc | apply pw_below_drewN | apply below_drew1) | exact HB.out))) : w.heap.size ≤ gb104)); clear HB; have HB := n0_; have BK104 := n1_; have GW104 := n2_; have GE104 := n3_; clear n0_ n1_ n2_ n3_; clear hb hbox hg; obtain ⟨hcz3_0, hcz3_1, hfz3_0, hfz3_1⟩ := bs2_ BK104))
 go_loopg [3, 9] k (fun kq v3 v9 w' => ∃ (x3_1 : List ByteArray) (x9_1 : Int), v9 = .int .i64 x9_1 ∧ Aside0 (model_ids.l0 kq x3_1 l0_1 (l0_1.length : Int) x9_1 = some r) ∧ Aside0 (kq ≤ k) ∧ Aside0 (Kd.R Kd.string 9 w' w.heap.size (fun _ => True) v3 x3_1) ∧ Aside0 (w'.heap[gb104]? = some (.cells #[(.slice A0_0 l0_0.length c0_0), (.slice A0_1 l0_1.length c0_1)] 36 (0, 0))) ∧ Aside0 (Below w.heap.size w w'))
 case atStart => exact ⟨(([] : List ByteArray)), (0), (by first | rfl | (simp; done) | (simp [*]; done)), H', ⟨Nat.le_refl _⟩, ⟨by first | exact Kd.R_nil _ _ _ _ _ | exact Kd.N_nil _ _ _ _ _ | exact Kd.V_nil _ _ _ _ _ | exact Kd.Q_nil _ _ _ _ _ | exact Kd.S_nil _ _ _ _ _⟩, ⟨gx_ BK104⟩, ⟨hf_⟩⟩
 case round =>
  clear H'
  (try clear p2); (try clear c3); (try clear hcz3_0); (try clear hcz3_1); (try clear hfz3_0); (try clear hfz3_1)
  obtain ⟨x3_1, x9_1, rfl, HA, HK1, HO_3, BK104, HB⟩ := hrel
  cases gk with
  | zero => exact absurd HA.out (by simp [model_ids.l0])
  | succ k1 =>
   have H := HA.out
   clear HA
   simp only [model_ids.l0] at H
   by_cases c4 : x9_1 < (l0_1.length : Int)
   ·rw [if_pos c4] at H
    have c4b0 : decide (x9_1 < (l0_1.length : Int)) = true := decide_eq_true c4
    clear c4
    by_cases c5 : 0 ≤ x9_1
    ·rw [if_pos c5] at H
     have c5b0 : decide (0 ≤ x9_1) = true := decide_eq_true c5
     clear c5
     by_cases c6 : x9_1 < (l0_1.length : Int)
     ·rw [if_pos c6] at H
      have c6b0 : decide (x9_1 < (l0_1.length : Int)) = true := decide_eq_true c6
      clear c6
      by_cases c7 : x3_1.length < 8796093022208
      ·rw [if_pos c7] at H
       have LMc7 := Aside0.mk c7
       clear c7
       obtain ⟨y107, hy107⟩ : ∃ y_ : List ByteArray, y_ = (x3_1 ++ [(rd_T32 l0_1 x9_1).f0]) := ⟨_, rfl⟩
       replace H : (model_ids.l0 k1 y107 l0_1 (l0_1.length : Int) (wrap64 (x9_1 + 1))) = some r := by first | (rw [hy107]; with_reducible exact H) | (have H2_ := (Option.bind_some _ _).symm.trans H; rw [hy107]; with_reducible exact H2_) | (have H2_ := (Option.bind_some _ _).symm.trans H; with_reducible exact H2_) | with_reducible exact H | (rw [hy107]; exact H) | exact H
       have Ny107 := Aside0.mk hy107
       clear hy107
       have H' := Aside0.mk H
       clear H
       have p105 : 0 ≤ (x9_1 : Int) := od_
       have q105 : x9_1 < (l0_1.length : Int) := od_
       obtain ⟨ad105, A105_5, c105_5, A105_6, c105_6, e105, hx105_0, hx105_1, hx105_2, hx105_3, hx105_4, hx105_5, hx105_6, hl105_5, hi105_5, hl105_6, hi105_6⟩ := at_T32 HR0_1.out x9_1 p105 q105
       cases e105
       replace hx105_0 := rr_ HB hx105_0
       replace hx105_1 := rr_ HB hx105_1
       replace hx105_2 := rr_ HB hx105_2
       replace hx105_3 := rr_ HB hx105_3
       replace hx105_4 := rr_ HB hx105_4
       replace hx105_5 := rr_ HB hx105_5
       replace hx105_6 := rr_ HB hx105_6
       have HR105_5 := Aside0.mk hi105_5
       have HC105_5 := Aside0.mk hl105_5
       clear hi105_5 hl105_5
       have HR105_6 := Aside0.mk hi105_6
       have HC105_6 := Aside0.mk hl105_6
       clear hi105_6 hl105_6
       replace p105 := eq_true p105
       replace q105 := eq_true q105
       go_wp2_with (first | ((with_reducible refine gate_dst (N := 5) rfl ?_); refine box_event ?hg (N := 5) ?hd (cs := #[.string (⟨#[]⟩ : ByteArray), .int .i64 0, .string (⟨#[]⟩ : ByteArray), .bool false, .int .i64 0, .slice none 0 0, .slice none 0 0]) (t := 32) ?hr ?_; (case hd => rfl); (case hg => rfl); (case hr => first | (go_simp; done) | (go_simp; rfl)); intro gb106 hg w8 hbox hb; have n0_ := Aside0.mk (Kd.R_below (by (with_reducible repeat (first | apply Kd.R_alloc | apply Kd.R_drewN | apply Kd.R_drew)); exact HO_3.out) hb); have n1_ := bb_ BK104 hb; have n2_ := hb_ HB hb; have n3_ := Aside0.mk (hbox); have n4_ := Aside0.mk ((by rw [hg]; exact (below_size (by repeat (first | (with_reducible first | exact HB.out | apply below_alloc | apply pw_below_drewN | apply below_drew1 | refine below_set ?_ GE104.out) | exact HB.out))) : w.heap.size ≤ gb106)); have n5_ := Aside0.mk ((by rw [hg]; exact (below_size (by repeat (first | (with_reducible first | exact HB.out | apply below_alloc | apply pw_below_drewN | apply below_drew1 | refine below_set ?_ GE104.out) | exact HB.out))) : w.heap.size ≤ gb106)); have n6_ := Aside0.mk ((by rw [hg]; exact Nat.ne_of_lt (blk_lt (g := gb104) (o := .cells #[.slice A0_0 l0_0.length c0_0, .slice (some ad105) l0_1.length c0_1] 36 (0, 0)) (by (with_reducible repeat (first | refine blk_drewN ?_ _ | refine blk_drew ?_ | refine blk_alloc ?_ _)); exact BK104.out)) : gb104 ≠ gb106)); have n7_ := Aside0.mk ((by rw [hg]; exact Nat.ne_of_gt (blk_lt (g := gb104) (o := .cells #[.slice A0_0 l0_0.length c0_0, .slice (some ad105) l0_1.length c0_1] 36 (0, 0)) (by (with_reducible repeat (first | refine blk_drewN ?_ _ | refine blk_drew ?_ | refine blk_alloc ?_ _)); exact BK104.out)) : gb106 ≠ gb104)); clear HO_3; clear BK104; clear HB; have HO_3 := n0_; have BK104 := n1_; have HB := n2_; have BK106 := n3_; have GW106 := n4_; have GE106 := n5_; have NB104_106 := n6_; have NB106_104 := n7_; clear n0_ n1_ n2_ n3_ n4_ n5_ n6_ n7_; clear hb hbox hg; have hnb9 := NB106_104.out; have hnc9 := NB104_106.out; obtain ⟨hcz10_0, hcz10_1, hcz10_2, hcz10_3, hcz10_4, hcz10_5, hcz10_6, hfz10_0, hfz10_1, hfz10_2, hfz10_3, hfz10_4, hfz10_5, hfz10_6⟩ := bs7_ BK106) | ((with_reducible refine gate_builtin (b := .append) (xs := #[.tmp 13, .tmp 16]) rfl ?_); at_builtin; refine Kd.R_append Kd.string (w0 := w) w.heap.size rfl (.tmp 13) (.tmp 16) 33 9 (.string ⟨#[]⟩) 16 rfl Try.underlying33 info9 rfl (by decide) (by omega) u3 x3_1 ((rd_T32 l0_1 x9_1).f0) [.string ((rd_T32 l0_1 x9_1).f0)] (fun _ => True) (fun _ => False) rfl (by first | (go_simp; done) | (go_simp; rfl)) ?aP (fun _ hk => hk.elim) ?aF ?aO ?aB ?aS ?aL ?_; (case aP => exact rfl); (case aB => exact (by repeat (first | (with_reducible first | exact HB.out | apply below_alloc | apply pw_below_drewN | apply below_drew1 | refine below_set ?_ GE104.out | refine below_set ?_ GE106.out) | exact HB.out))); (case aF => exact (fun _ _ => trivial)); (case aO => exact (by (with_reducible repeat (first | apply Kd.R_alloc | apply Kd.R_drewN | apply Kd.R_drew)); exact Kd.R_mono (Kd.R_far (p := ⟨gb106, 6, none⟩) (Kd.R_far (p := ⟨gb106, 5, none⟩) (Kd.R_far (p := ⟨gb106, 4, none⟩) (Kd.R_far (p := ⟨gb106, 3, none⟩) (Kd.R_far (p := ⟨gb106, 2, none⟩) (Kd.R_far (p := ⟨gb106, 1, none⟩) (Kd.R_far (p := ⟨gb106, 0, none⟩) (Kd.R_types HO_3.out BK106.out (by decide)) (fun _ hk => hk.2) (.string ((rd_T32 l0_1 x9_1).f0))) (fun _ hk => hk.2) (.int .i64 ((rd_T32 l0_1 x9_1).f1))) (fun _ hk => hk.2) (.string ((rd_T32 l0_1 x9_1).f2))) (fun _ hk => hk.2) (.bool ((rd_T32 l0_1 x9_1).f3))) (fun _ hk => hk.2) (.int .i64 ((rd_T32 l0_1 x9_1).f4))) (fun _ hk => hk.2) (.slice A105_5 ((rd_T32 l0_1 x9_1).f5).length c105_5)) (fun _ hk => hk.2) (.slice A105_6 ((rd_T32 l0_1 x9_1).f6).length c105_6)) (fun _ hk => trivial))); (case aS => exact (below_size (by repeat (first | (with_reducible first | exact HB.out | apply below_alloc | apply pw_below_drewN | apply below_drew1 | refine below_set ?_ GE104.out | refine below_set ?_ GE106.out) | exact HB.out)))); (case aL => have := LMc7.out; omega); intro v108 w11 ho hb hg hat; rw [← Ny107.out] at ho; have n0_ := Aside0.mk (blk_grown (g := gb104) (o := .cells #[.slice A0_0 l0_0.length c0_0, .slice (some ad105) l0_1.length c0_1] 36 (0, 0)) (by (with_reducible repeat (first | refine blk_drewN ?_ _ | refine blk_drew ?_ | refine blk_alloc ?_ _)); refine blk_far ?_ NB104_106.out _; (with_reducible repeat (first | refine blk_drewN ?_ _ | refine blk_drew ?_ | refine blk_alloc ?_ _)); refine blk_far ?_ NB104_106.out _; (with_reducible repeat (first | refine blk_drewN ?_ _ | refine blk_drew ?_ | refine blk_alloc ?_ _)); refine blk_far ?_ NB104_106.out _; (with_reducible repeat (first | refine blk_drewN ?_ _ | refine blk_drew ?_ | refine blk_alloc ?_ _)); refine blk_far ?_ NB104_106.out _; (with_reducible repeat (first | refine blk_drewN ?_ _ | refine blk_drew ?_ | refine blk_alloc ?_ _)); refine blk_far ?_ NB104_106.out _; (with_reducible repeat (first | refine blk_drewN ?_ _ | refine blk_drew ?_ | refine blk_alloc ?_ _)); refine blk_far ?_ NB104_106.out _; (with_reducible repeat (first | refine blk_drewN ?_ _ | refine blk_drew ?_ | refine blk_alloc ?_ _)); refine blk_far ?_ NB104_106.out _; (with_reducible repeat (first | refine blk_drewN ?_ _ | refine blk_drew ?_ | refine blk_alloc ?_ _)); exact BK104.out) hg (Kd.R_ne HO_3.out BK104.out (by decide))); have n1_ := Aside0.mk (blk_grown (g := gb106) (o := .cells #[.string ((rd_T32 l0_1 x9_1).f0), .int .i64 ((rd_T32 l0_1 x9_1).f1), .string ((rd_T32 l0_1 x9_1).f2), .bool ((rd_T32 l0_1 x9_1).f3), .int .i64 ((rd_T32 l0_1 x9_1).f4), .slice A105_5 ((rd_T32 l0_1 x9_1).f5).length c105_5, .slice A105_6 ((rd_T32 l0_1 x9_1).f6).length c105_6] 32 (0, 0)) (by (with_reducible repeat (first | refine blk_drewN ?_ _ | refine blk_drew ?_ | refine blk_alloc ?_ _)); refine blk_put (cs := #[.string ((rd_T32 l0_1 x9_1).f0), .int .i64 ((rd_T32 l0_1 x9_1).f1), .string ((rd_T32 l0_1 x9_1).f2), .bool ((rd_T32 l0_1 x9_1).f3), .int .i64 ((rd_T32 l0_1 x9_1).f4), .slice A105_5 ((rd_T32 l0_1 x9_1).f5).length c105_5, .slice none 0 0]) ?_ 6 _ rfl; (with_reducible repeat (first | refine blk_drewN ?_ _ | refine blk_drew ?_ | refine blk_alloc ?_ _)); refine blk_put (cs := #[.string ((rd_T32 l0_1 x9_1).f0), .int .i64 ((rd_T32 l0_1 x9_1).f1), .string ((rd_T32 l0_1 x9_1).f2), .bool ((rd_T32 l0_1 x9_1).f3), .int .i64 ((rd_T32 l0_1 x9_1).f4), .slice none 0 0, .slice none 0 0]) ?_ 5 _ rfl; (with_reducible repeat (first | refine blk_drewN ?_ _ | refine blk_drew ?_ | refine blk_alloc ?_ _)); refine blk_put (cs := #[.string ((rd_T32 l0_1 x9_1).f0), .int .i64 ((rd_T32 l0_1 x9_1).f1), .string ((rd_T32 l0_1 x9_1).f2), .bool ((rd_T32 l0_1 x9_1).f3), .int .i64 0, .slice none 0 0, .slice none 0 0]) ?_ 4 _ rfl; (with_reducible repeat (first | refine blk_drewN ?_ _ | refine blk_drew ?_ | refine blk_alloc ?_ _)); refine blk_put (cs := #[.string ((rd_T32 l0_1 x9_1).f0), .int .i64 ((rd_T32 l0_1 x9_1).f1), .string ((rd_T32 l0_1 x9_1).f2), .bool false, .int .i64 0, .slice none 0 0, .slice none 0 0]) ?_ 3 _ rfl; (with_reducible repeat (first | refine blk_drewN ?_ _ | refine blk_drew ?_ | refine blk_alloc ?_ _)); refine blk_put (cs := #[.string ((rd_T32 l0_1 x9_1).f0), .int .i64 ((rd_T32 l0_1 x9_1).f1), .string (⟨#[]⟩ : ByteArray), .bool false, .int .i64 0, .slice none 0 0, .slice none 0 0]) ?_ 2 _ rfl; (with_reducible repeat (first | refine blk_drewN ?_ _ | refine blk_drew ?_ | refine blk_alloc ?_ _)); refine blk_put (cs := #[.string ((rd_T32 l0_1 x9_1).f0), .int .i64 0, .string (⟨#[]⟩ : ByteArray), .bool false, .int .i64 0, .slice none 0 0, .slice none 0 0]) ?_ 1 _ rfl; (with_reducible repeat (first | refine blk_drewN ?_ _ | refine blk_drew ?_ | refine blk_alloc ?_ _)); refine blk_put (cs := #[.string (⟨#[]⟩ : ByteArray), .int .i64 0, .string (⟨#[]⟩ : ByteArray), .bool false, .int .i64 0, .slice none 0 0, .slice none 0 0]) ?_ 0 _ rfl; (with_reducible repeat (first | refine blk_drewN ?_ _ | refine blk_drew ?_ | refine blk_alloc ?_ _)); exact BK106.out) hg (Kd.R_ne HO_3.out BK106.out (by decide))); have n2_ := Aside0.mk (hb); have n3_ := Aside0.mk (ho); clear BK104; clear BK106; clear HB; clear HO_3; have BK104 := n0_; have BK106 := n1_; have HB := n2_; have HO109 := n3_; clear n0_ n1_ n2_ n3_; clear ho hb hg hat))
       go_roundg k1
       case measure => have := HK1.out; omega
       case rel => exact ⟨(y107), (wrap64 (x9_1 + 1)), (by first | rfl | (simp; done) | (simp [*]; done)), H', ⟨by have := HK1.out; omega⟩, ⟨by (with_reducible repeat (first | apply Kd.R_alloc | apply Kd.R_drewN | apply Kd.R_drew)); exact HO109.out⟩, ⟨gx_ BK104⟩, ⟨hf_⟩⟩
      ·rw [if_neg c7] at H
       exact absurd H (by simp)
     ·rw [if_neg c6] at H
      exact absurd H (by simp)
    ·rw [if_neg c5] at H
     exact absurd H (by simp)
   ·rw [if_neg c4] at H
    have c4b0 : decide (x9_1 < (l0_1.length : Int)) = false := decide_eq_false c4
    clear c4
    obtain rfl := Option.some.inj H
    go_wp2
    go_ret
    exact ⟨_, by first | rfl | (simp [errW_none, errW_some] <;> rfl) | (simp [*, errW_none, errW_some] <;> rfl), by (with_reducible repeat (first | apply Kd.R_alloc | apply Kd.R_drewN | apply Kd.R_drew)); exact HO_3.out, by repeat (first | (with_reducible first | exact HB.out | apply below_alloc | apply pw_below_drewN | apply below_drew1 | refine below_set ?_ GE104.out) | exact HB.out)⟩
end Go.Proofs.Ytchellnfenekaaa.Pm
end
section
namespace Go.Proofs.Ytchellnfenekaaa.Pm
open Go.RowKit Go.Proofs.YtchellnfenekaaaW.PrintWords Go.Proofs.YtchellnfenekaaaW.PrintLast Go.Proofs.YtchellnfenekaaaW.PrintMore
attribute [local go_sem] max2_int min2_int max_two min_two max_three min_three max_four min_four   -- for this text's walks alone
set_option linter.unusedVariables false
set_option linter.unusedSimpArgs false
def model_isItem.j0 : Nat → Bool → ByteArray → Int → ByteArray → Bool → Int → List (S29) → List (S29) → Option (Bool)
 | 0, _, _, _, _, _, _, _, _ => none
 | k + 1, x29, x429000, x429001, x429002, x429003, x429004, x429005, x429006 => if x29 = true then (some false) else (if x429001 = 5 then (if x429001 = 4 then (if x429004 ≥ 1 then (if x429004 ≤ 100 then (if x429003 = true then (some (!true)) else (some (!(decide ((x429005.length : Int) > 0))))) else (some false)) else (some false)) else (if x429004 ≥ 1 then (if x429004 ≤ 100 then (if x429003 = true then (some (!true)) else (some (!(decide ((x429005.length : Int) > 0))))) else (some false)) else (some false))) else (if x429001 = 4 then (if x429004 ≥ 0 then (if x429004 ≤ 0 then (if x429003 = true then (some (!true)) else (some (!(decide ((x429005.length : Int) > 0))))) else (some false)) else (some false)) else (if x429004 ≥ 0 then (if x429004 ≤ 0 then (some (!false)) else (some false)) else (some false))))
def model_isItem.f (k : Nat) (l0_0 : List ByteArray) (l0_1 : List (S32)) (a1_0 : ByteArray) (a1_1 : Int) (a1_2 : ByteArray) (a1_3 : Bool) (a1_4 : Int) (l1_5 : List (S29)) (l1_6 : List (S29)) : Option (Bool) := if a1_1 < 1 then (model_isItem.j0 k true a1_0 a1_1 a1_2 a1_3 a1_4 l1_5 l1_6) else (if a1_1 > 5 then (model_isItem.j0 k true a1_0 a1_1 a1_2 a1_3 a1_4 l1_5 l1_6) else ((model_areSentries.f l0_0 l0_1 l1_5).bind fun t429 => (if t429 = true then ((model_areSentries.f l0_0 l0_1 l1_6).bind fun t430 => (model_isItem.j0 k (!t430) a1_0 a1_1 a1_2 a1_3 a1_4 l1_5 l1_6)) else (model_isItem.j0 k true a1_0 a1_1 a1_2 a1_3 a1_4 l1_5 l1_6))))
theorem model_isItem.mono_l : ∀ k, (∀ y0 y1 y2 y3 y4 y5 y6 y7, LeO (model_isItem.j0 k y0 y1 y2 y3 y4 y5 y6 y7) (model_isItem.j0 (k + 1) y0 y1 y2 y3 y4 y5 y6 y7))
 | 0 => fun _ _ _ _ _ _ _ _ r h => by simp [model_isItem.j0] at h
 | k + 1 => by
  have ih0 := model_isItem.mono_l k
  ·intro y0 y1 y2 y3 y4 y5 y6 y7
   unfold model_isItem.j0
   repeat' first
   | (with_reducible exact ih0 _ _ _ _ _ _ _ _)
   | (with_reducible exact LeO.refl _)
   | (with_reducible exact LeO.none _)
   | (with_reducible refine LeO.ite ?_ ?_)
   | (with_reducible refine LeO.bind ?_ (fun _ => ?_))
   | exact ih0 _ _ _ _ _ _ _ _
   | exact LeO.none _
   | refine LeO.ite ?_ ?_
   | refine LeO.bind ?_ (fun _ => ?_)
theorem model_isItem.mono : ∀ a0 a1 a2 a3 a4 a5 a6 a7 a8 k, LeO (model_isItem.f k a0 a1 a2 a3 a4 a5 a6 a7 a8) (model_isItem.f (k + 1) a0 a1 a2 a3 a4 a5 a6 a7 a8) := by
 intro a0 a1 a2 a3 a4 a5 a6 a7 a8 k
 have ih0 := model_isItem.mono_l k
 unfold model_isItem.f
 repeat' first
   | (with_reducible exact ih0 _ _ _ _ _ _ _ _)
   | (with_reducible exact LeO.refl _)
   | (with_reducible exact LeO.none _)
   | (with_reducible refine LeO.ite ?_ ?_)
   | (with_reducible refine LeO.bind ?_ (fun _ => ?_))
   | exact ih0 _ _ _ _ _ _ _ _
   | exact LeO.none _
   | refine LeO.ite ?_ ?_
   | refine LeO.bind ?_ (fun _ => ?_)
set_option maxHeartbeats 8000000 in
set_option maxRecDepth 100000 in
theorem model_isItem.calls (k : Nat) (A0_0 : Option Addr) (c0_0 : Nat) (l0_0 : List ByteArray) (A0_1 : Option Addr) (c0_1 : Nat) (l0_1 : List (S32)) (a1_0 : ByteArray) (a1_1 : Int) (a1_2 : ByteArray) (a1_3 : Bool) (a1_4 : Int) (A1_5 : Option Addr) (c1_5 : Nat) (l1_5 : List (S29)) (A1_6 : Option Addr) (c1_6 : Nat) (l1_6 : List (S29)) (r : Bool) (w : World) (hr0_0 : Kd.C Kd.string w A0_0 l0_0.length l0_0) (hc0_0 : l0_0.length ≤ c0_0) (hr0_1 : Kd.C k32 w A0_1 l0_1.length l0_1) (hc0_1 : l0_1.length ≤ c0_1) (hr1_5 : Kd.C k29 w A1_5 l1_5.length l1_5) (hc1_5 : l1_5.length ≤ c1_5) (hr1_6 : Kd.C k29 w A1_6 l1_6.length l1_6) (hc1_6 : l1_6.length ≤ c1_6) (h : model_isItem.f k l0_0 l0_1 a1_0 a1_1 a1_2 a1_3 a1_4 l1_5 l1_6 = some r) :
  Calls Try.prog 38 #[.agg #[.slice A0_0 l0_0.length c0_0, .slice A0_1 l0_1.length c0_1], .agg #[.string a1_0, .int .i64 a1_1, .string a1_2, .bool a1_3, .int .i64 a1_4, .slice A1_5 l1_5.length c1_5, .slice A1_6 l1_6.length c1_6]] w fun e w' => e = .returned (.bool r) ∧ Below w.heap.size w w' := by
 have hu36 := Try.underlying36
 have hu32 := Try.underlying32
 have HR0_0 := Aside0.mk hr0_0
 have HC0_0 := Aside0.mk hc0_0
 clear hr0_0 hc0_0
 have HR0_1 := Aside0.mk hr0_1
 have HC0_1 := Aside0.mk hc0_1
 clear hr0_1 hc0_1
 have HR1_5 := Aside0.mk hr1_5
 have HC1_5 := Aside0.mk hc1_5
 clear hr1_5 hc1_5
 have HR1_6 := Aside0.mk hr1_6
 have HC1_6 := Aside0.mk hc1_6
 clear hr1_6 hc1_6
 have HB := Aside0.mk (Below.refl w.heap.size w)
 have H : (if a1_1 < 1 then (model_isItem.j0 k true a1_0 a1_1 a1_2 a1_3 a1_4 l1_5 l1_6) else (if a1_1 > 5 then (model_isItem.j0 k true a1_0 a1_1 a1_2 a1_3 a1_4 l1_5 l1_6) else ((model_areSentries.f l0_0 l0_1 l1_5).bind fun t429 => (if t429 = true then ((model_areSentries.f l0_0 l0_1 l1_6).bind fun t430 => (model_isItem.j0 k (!t430) a1_0 a1_1 a1_2 a1_3 a1_4 l1_5 l1_6)) else (model_isItem.j0 k true a1_0 a1_1 a1_2 a1_3 a1_4 l1_5 l1_6))))) = some r := h
 clear h
 have HC3 := Aside0.mk H
 clear H
 go_enter Try.func38, Try.ntmps38
 go_upto_region 1 with (first | ((with_reducible refine gate_dst (N := 2) rfl ?_); (try (refine gate_guard (by rfl) ?_; dsimp only)); refine box_event ?hg (N := 2) ?hd (cs := #[.slice A0_0 l0_0.length c0_0, .slice A0_1 l0_1.length c0_1]) (t := 36) ?hr ?_; (case hd => rfl); (case hg => rfl); (case hr => first | (go_simp; done) | (go_simp; rfl)); intro gb427 hg w4 hbox hb; have n0_ := hb_ HB hb; have n1_ := Aside0.mk (hbox); have n2_ := Aside0.mk ((by rw [hg]; exact (below_size (by repeat (first | (with_reducible first | exact HB.out | apply below_alloc | apply pw_below_drewN | apply below_drew1) | exact HB.out))) : w.heap.size ≤ gb427)); have n3_ := Aside0.mk ((by rw [hg]; exact (below_size (by repeat (first | (with_reducible first | exact HB.out | apply below_alloc | apply pw_below_drewN | apply below_drew1) | exact HB.out))) : w.heap.size ≤ gb427)); clear HB; have HB := n0_; have BK427 := n1_; have GW427 := n2_; have GE427 := n3_; clear n0_ n1_ n2_ n3_; clear hb hbox hg) | ((with_reducible refine gate_dst (N := 3) rfl ?_); (try (refine gate_guard (by rfl) ?_; dsimp only)); refine box_event ?hg (N := 3) ?hd (cs := #[.string a1_0, .int .i64 a1_1, .string a1_2, .bool a1_3, .int .i64 a1_4, .slice A1_5 l1_5.length c1_5, .slice A1_6 l1_6.length c1_6]) (t := 32) ?hr ?_; (case hd => rfl); (case hg => rfl); (case hr => first | (go_simp; done) | (go_simp; rfl)); intro gb428 hg w5 hbox hb; have n0_ := bb_ BK427 hb; have n1_ := hb_ HB hb; have n2_ := Aside0.mk (hbox); have n3_ := Aside0.mk ((by rw [hg]; exact (below_size (by repeat (first | (with_reducible first | exact HB.out | apply below_alloc | apply pw_below_drewN | apply below_drew1 | refine below_set ?_ GE427.out) | exact HB.out))) : w.heap.size ≤ gb428)); have n4_ := Aside0.mk ((by rw [hg]; exact (below_size (by repeat (first | (with_reducible first | exact HB.out | apply below_alloc | apply pw_below_drewN | apply below_drew1 | refine below_set ?_ GE427.out) | exact HB.out))) : w.heap.size ≤ gb428)); have n5_ := Aside0.mk ((by rw [hg]; exact Nat.ne_of_lt (blk_lt (g := gb427) (o := .cells #[.slice A0_0 l0_0.length c0_0, .slice A0_1 l0_1.length c0_1] 36 (0, 0)) (by (with_reducible repeat (first | refine blk_drewN ?_ _ | refine blk_drew ?_ | refine blk_alloc ?_ _)); exact BK427.out)) : gb427 ≠ gb428)); have n6_ := Aside0.mk ((by rw [hg]; exact Nat.ne_of_gt (blk_lt (g := gb427) (o := .cells #[.slice A0_0 l0_0.length c0_0, .slice A0_1 l0_1.length c0_1] 36 (0, 0)) (by (with_reducible repeat (first | refine blk_drewN ?_ _ | refine blk_drew ?_ | refine blk_alloc ?_ _)); exact BK427.out)) : gb428 ≠ gb427)); clear BK427; clear HB; have BK427 := n0_; have HB := n1_; have BK428 := n2_; have GW428 := n3_; have GE428 := n4_; have NB427_428 := n5_; have NB428_427 := n6_; clear n0_ n1_ n2_ n3_ n4_ n5_ n6_; clear hb hbox hg))
 (try simp only [Act.put, List.setIfInBounds_toArray, List.set_cons_zero, List.set_cons_succ])
 go_cut [29] (fun v29 wc => ∃ (kq : Nat) (x29_2 : Bool), v29 = .bool x29_2 ∧ Aside0 (model_isItem.j0 kq x29_2 a1_0 a1_1 a1_2 a1_3 a1_4 l1_5 l1_6 = some r) ∧ Aside0 (kq ≤ k) ∧ Aside0 (wc.heap[gb427]? = some (.cells #[(.slice A0_0 l0_0.length c0_0), (.slice A0_1 l0_1.length c0_1)] 36 (0, 0))) ∧ Aside0 (wc.heap[gb428]? = some (.cells #[.string a1_0, .int .i64 a1_1, .string a1_2, .bool a1_3, .int .i64 a1_4, (.slice A1_5 l1_5.length c1_5), (.slice A1_6 l1_6.length c1_6)] 32 (0, 0))) ∧ Aside0 (Below w.heap.size w wc))
 case first =>
  have H := HC3.out
  clear HC3
  by_cases c6 : a1_1 < 1
  ·rw [if_pos c6] at H
   have c6b0 : decide (a1_1 < 1) = true := decide_eq_true c6
   clear c6
   (first | rw [c6b0] | (simp only [i64_w, i32_w]; rw [c6b0]) | skip)
   have H' := Aside0.mk H
   clear H
   have hnb7 := NB428_427.out
   have hnc7 := NB427_428.out
   obtain ⟨hcz8_0, hcz8_1, hcz8_2, hcz8_3, hcz8_4, hcz8_5, hcz8_6, hfz8_0, hfz8_1, hfz8_2, hfz8_3, hfz8_4, hfz8_5, hfz8_6⟩ := bs7_ BK428
   go_wp2
   go_meet
   case rel => exact ⟨_, (true), (by first | rfl | (simp; done) | (simp [*]; done)), H', ⟨by first | omega | exact Nat.le_refl _⟩, ⟨gx_ BK427⟩, ⟨gx_ BK428⟩, ⟨hf_⟩⟩
  ·rw [if_neg c6] at H
   have c6b0 : decide (a1_1 < 1) = false := decide_eq_false c6
   clear c6
   (first | rw [c6b0] | (simp only [i64_w, i32_w]; rw [c6b0]) | skip)
   by_cases c9 : a1_1 > 5
   ·rw [if_pos c9] at H
    have c9b0 : decide (5 < a1_1) = true := decide_eq_true c9
    clear c9
    have H' := Aside0.mk H
    clear H
    have hnb10 := NB428_427.out
    have hnc10 := NB427_428.out
    obtain ⟨hcz11_0, hcz11_1, hcz11_2, hcz11_3, hcz11_4, hcz11_5, hcz11_6, hfz11_0, hfz11_1, hfz11_2, hfz11_3, hfz11_4, hfz11_5, hfz11_6⟩ := bs7_ BK428
    go_wp2
    go_meet
    case rel => exact ⟨_, (true), (by first | rfl | (simp; done) | (simp [*]; done)), H', ⟨by first | omega | exact Nat.le_refl _⟩, ⟨gx_ BK427⟩, ⟨gx_ BK428⟩, ⟨hf_⟩⟩
   ·rw [if_neg c9] at H
    have c9b0 : decide (5 < a1_1) = false := decide_eq_false c9
    clear c9
    replace H := Option.bind_eq_some_iff.mp H
    obtain ⟨t429, A120, H⟩ := H
    replace H : (if t429 = true then ((model_areSentries.f l0_0 l0_1 l1_6).bind fun t430 => (model_isItem.j0 k (!t430) a1_0 a1_1 a1_2 a1_3 a1_4 l1_5 l1_6)) else (model_isItem.j0 k true a1_0 a1_1 a1_2 a1_3 a1_4 l1_5 l1_6)) = some r := H
    have A12 := Aside0.mk A120
    clear A120
    by_cases c13 : t429 = true
    ·subst c13
     have H1 : ((model_areSentries.f l0_0 l0_1 l1_6).bind fun t430 => (model_isItem.j0 k (!t430) a1_0 a1_1 a1_2 a1_3 a1_4 l1_5 l1_6)) = some r := by rw [if_pos rfl] at H; exact H
     clear H
     have H := H1
     clear H1
     replace H := Option.bind_eq_some_iff.mp H
     obtain ⟨t430, A140, H⟩ := H
     replace H : (model_isItem.j0 k (!t430) a1_0 a1_1 a1_2 a1_3 a1_4 l1_5 l1_6) = some r := H
     have A14 := Aside0.mk A140
     clear A140
     have H' := Aside0.mk H
     clear H
     have hnb15 := NB428_427.out
     have hnc15 := NB427_428.out
     obtain ⟨hcz16_0, hcz16_1, hcz16_2, hcz16_3, hcz16_4, hcz16_5, hcz16_6, hfz16_0, hfz16_1, hfz16_2, hfz16_3, hfz16_4, hfz16_5, hfz16_6⟩ := bs7_ BK428
     obtain ⟨hcz17_0, hcz17_1, hfz17_0, hfz17_1⟩ := bs2_ BK427
     go_wp2_with (first | (go_at_call 58; (with_reducible refine (model_areSentries.calls _ _ l0_0 _ _ l0_1 _ _ l1_5 true _ ?side1 ?side2 ?side3 ?side4 ?side5 ?side6 A12.out).mono ?_); (case side1 => exact kc_ HR0_0 HB); (case side2 => exact HC0_0.out); (case side3 => exact kc_ HR0_1 HB); (case side4 => exact HC0_1.out); (case side5 => exact kc_ HR1_5 HB); (case side6 => exact HC1_5.out); rintro e w18 ⟨rfl, hb⟩; have n0_ := bb_ BK427 hb; have n1_ := bb_ BK428 hb; have n2_ := hb_ HB hb; clear BK427; clear BK428; clear HB; have BK427 := n0_; have BK428 := n1_; have HB := n2_; clear n0_ n1_ n2_; (try clear hb); (try clear hb2); (try clear hk); (try clear hi); obtain ⟨hcz19_0, hcz19_1, hfz19_0, hfz19_1⟩ := bs2_ BK427; obtain ⟨hcz20_0, hcz20_1, hcz20_2, hcz20_3, hcz20_4, hcz20_5, hcz20_6, hfz20_0, hfz20_1, hfz20_2, hfz20_3, hfz20_4, hfz20_5, hfz20_6⟩ := bs7_ BK428) | (go_at_call 58; (with_reducible refine (model_areSentries.calls _ _ l0_0 _ _ l0_1 _ _ l1_6 t430 _ ?side1 ?side2 ?side3 ?side4 ?side5 ?side6 A14.out).mono ?_); (case side1 => exact kc_ HR0_0 HB); (case side2 => exact HC0_0.out); (case side3 => exact kc_ HR0_1 HB); (case side4 => exact HC0_1.out); (case side5 => exact kc_ HR1_6 HB); (case side6 => exact HC1_6.out); rintro e w21 ⟨rfl, hb⟩; have n0_ := bb_ BK427 hb; have n1_ := bb_ BK428 hb; have n2_ := hb_ HB hb; clear BK427; clear BK428; clear HB; have BK427 := n0_; have BK428 := n1_; have HB := n2_; clear n0_ n1_ n2_; (try clear hb); (try clear hb2); (try clear hk); (try clear hi)))
     go_meet
     case rel => exact ⟨_, (!t430), (by first | rfl | (simp; done) | (simp [*]; done)), H', ⟨by first | omega | exact Nat.le_refl _⟩, ⟨gx_ BK427⟩, ⟨gx_ BK428⟩, ⟨hf_⟩⟩
    ·replace c13 := Bool.eq_false_iff.mpr c13
     subst c13
     have H1 : (model_isItem.j0 k true a1_0 a1_1 a1_2 a1_3 a1_4 l1_5 l1_6) = some r := by rw [if_neg (show ¬ (false = true) by decide)] at H; exact H
     clear H
     have H := H1
     clear H1
     have H' := Aside0.mk H
     clear H
     have hnb22 := NB428_427.out
     have hnc22 := NB427_428.out
     obtain ⟨hcz23_0, hcz23_1, hcz23_2, hcz23_3, hcz23_4, hcz23_5, hcz23_6, hfz23_0, hfz23_1, hfz23_2, hfz23_3, hfz23_4, hfz23_5, hfz23_6⟩ := bs7_ BK428
     obtain ⟨hcz24_0, hcz24_1, hfz24_0, hfz24_1⟩ := bs2_ BK427
     go_wp2_with (first | (go_at_call 58; (with_reducible refine (model_areSentries.calls _ _ l0_0 _ _ l0_1 _ _ l1_5 false _ ?side1 ?side2 ?side3 ?side4 ?side5 ?side6 A12.out).mono ?_); (case side1 => exact kc_ HR0_0 HB); (case side2 => exact HC0_0.out); (case side3 => exact kc_ HR0_1 HB); (case side4 => exact HC0_1.out); (case side5 => exact kc_ HR1_5 HB); (case side6 => exact HC1_5.out); rintro e w25 ⟨rfl, hb⟩; have n0_ := bb_ BK427 hb; have n1_ := bb_ BK428 hb; have n2_ := hb_ HB hb; clear BK427; clear BK428; clear HB; have BK427 := n0_; have BK428 := n1_; have HB := n2_; clear n0_ n1_ n2_; (try clear hb); (try clear hb2); (try clear hk); (try clear hi)))
     go_meet
     case rel => exact ⟨_, (true), (by first | rfl | (simp; done) | (simp [*]; done)), H', ⟨by first | omega | exact Nat.le_refl _⟩, ⟨gx_ BK427⟩, ⟨gx_ BK428⟩, ⟨hf_⟩⟩
 case rest =>
  clear HC3
  (try clear c1); (try clear c2); (try clear p2); (try clear c3); (try clear c6); (try clear c6b0); (try clear c7); (try clear c9); (try clear c9b0); (try clear c10); (try clear c13); (try clear c15); (try clear c22); (try clear hcz11_0); (try clear hcz11_1); (try clear hcz11_2); (try clear hcz11_3); (try clear hcz11_4); (try clear hcz11_5); (try clear hcz11_6); (try clear hcz16_0); (try clear hcz16_1); (try clear hcz16_2); (try clear hcz16_3); (try clear hcz16_4); (try clear hcz16_5); (try clear hcz16_6); (try clear hcz17_0); (try clear hcz17_1); (try clear hcz19_0); (try clear hcz19_1); (try clear hcz20_0); (try clear hcz20_1); (try clear hcz20_2); (try clear hcz20_3); (try clear hcz20_4); (try clear hcz20_5); (try clear hcz20_6); (try clear hcz23_0); (try clear hcz23_1); (try clear hcz23_2); (try clear hcz23_3); (try clear hcz23_4); (try clear hcz23_5); (try clear hcz23_6); (try clear hcz24_0); (try clear hcz24_1); (try clear hcz8_0); (try clear hcz8_1); (try clear hcz8_2); (try clear hcz8_3); (try clear hcz8_4); (try clear hcz8_5); (try clear hcz8_6); (try clear hfz11_0); (try clear hfz11_1); (try clear hfz11_2); (try clear hfz11_3); (try clear hfz11_4); (try clear hfz11_5); (try clear hfz11_6); (try clear hfz16_0); (try clear hfz16_1); (try clear hfz16_2); (try clear hfz16_3); (try clear hfz16_4); (try clear hfz16_5); (try clear hfz16_6); (try clear hfz17_0); (try clear hfz17_1); (try clear hfz19_0); (try clear hfz19_1); (try clear hfz20_0); (try clear hfz20_1); (try clear hfz20_2); (try clear hfz20_3); (try clear hfz20_4); (try clear hfz20_5); (try clear hfz20_6); (try clear hfz23_0); (try clear hfz23_1); (try clear hfz23_2); (try clear hfz23_3); (try clear hfz23_4); (try clear hfz23_5); (try clear hfz23_6); (try clear hfz24_0); (try clear hfz24_1); (try clear hfz8_0); (try clear hfz8_1); (try clear hfz8_2); (try clear hfz8_3); (try clear hfz8_4); (try clear hfz8_5); (try clear hfz8_6)
  obtain ⟨kq, x29_2, rfl, HA, HJ2, BK427, BK428, HB⟩ := hcut
  cases kq with
  | zero => exact absurd HA.out (by simp [model_isItem.j0])
  | succ kj2 =>
   have H := HA.out
   clear HA
   simp only [model_isItem.j0] at H
   by_cases c26 : x29_2 = true
   ·subst c26
    have H1 : (some false) = some r := by rw [if_pos rfl] at H; exact H
    clear H
    have H := H1
    clear H1
    obtain rfl := Option.some.inj H
    go_wp2
    go_ret
    exact ⟨er_, hf_⟩
   ·replace c26 := Bool.eq_false_iff.mpr c26
    subst c26
    have H1 : (if a1_1 = 5 then (if a1_1 = 4 then (if a1_4 ≥ 1 then (if a1_4 ≤ 100 then (if a1_3 = true then (some (!true)) else (some (!(decide ((l1_5.length : Int) > 0))))) else (some false)) else (some false)) else (if a1_4 ≥ 1 then (if a1_4 ≤ 100 then (if a1_3 = true then (some (!true)) else (some (!(decide ((l1_5.length : Int) > 0))))) else (some false)) else (some false))) else (if a1_1 = 4 then (if a1_4 ≥ 0 then (if a1_4 ≤ 0 then (if a1_3 = true then (some (!true)) else (some (!(decide ((l1_5.length : Int) > 0))))) else (some false)) else (some false)) else (if a1_4 ≥ 0 then (if a1_4 ≤ 0 then (some (!false)) else (some false)) else (some false)))) = some r := by rw [if_neg (show ¬ (false = true) by decide)] at H; exact H
    clear H
    have H := H1
    clear H1
    by_cases c27 : a1_1 = 5
    ·rw [if_pos c27] at H
     have c27b0 : (a1_1 == 5) = true := beq_iff_eq.mpr c27
     have c27b1 : (a1_1 != 5) = false := bne_eq_false_iff_eq.mpr c27
     clear c27
     by_cases c28 : a1_1 = 4
     ·rw [if_pos c28] at H
      have c28b0 : (a1_1 == 4) = true := beq_iff_eq.mpr c28
      have c28b1 : (a1_1 != 4) = false := bne_eq_false_iff_eq.mpr c28
      clear c28
      by_cases c29 : a1_4 ≥ 1
      ·rw [if_pos c29] at H
       have c29b0 : decide (1 ≤ a1_4) = true := decide_eq_true c29
       clear c29
       by_cases c30 : a1_4 ≤ 100
       ·rw [if_pos c30] at H
        have c30b0 : decide (a1_4 ≤ 100) = true := decide_eq_true c30
        clear c30
        by_cases c31 : a1_3 = true
        ·subst c31
         have H1 : (some (!true)) = some r := by rw [if_pos rfl] at H; exact H
         clear H
         have H := H1
         clear H1
         obtain rfl := Option.some.inj H
         have hnb32 := NB428_427.out
         have hnc32 := NB427_428.out
         obtain ⟨hcz33_0, hcz33_1, hcz33_2, hcz33_3, hcz33_4, hcz33_5, hcz33_6, hfz33_0, hfz33_1, hfz33_2, hfz33_3, hfz33_4, hfz33_5, hfz33_6⟩ := bs7_ BK428
         go_wp2
         go_ret
         exact ⟨er_, hf_⟩
        ·replace c31 := Bool.eq_false_iff.mpr c31
         subst c31
         have H1 : (some (!(decide ((l1_5.length : Int) > 0)))) = some r := by rw [if_neg (show ¬ (false = true) by decide)] at H; exact H
         clear H
         have H := H1
         clear H1
         obtain rfl := Option.some.inj H
         have hnb34 := NB428_427.out
         have hnc34 := NB427_428.out
         obtain ⟨hcz35_0, hcz35_1, hcz35_2, hcz35_3, hcz35_4, hcz35_5, hcz35_6, hfz35_0, hfz35_1, hfz35_2, hfz35_3, hfz35_4, hfz35_5, hfz35_6⟩ := bs7_ BK428
         go_wp2
         go_ret
         exact ⟨er_, hf_⟩
       ·rw [if_neg c30] at H
        have c30b0 : decide (a1_4 ≤ 100) = false := decide_eq_false c30
        clear c30
        obtain rfl := Option.some.inj H
        have hnb36 := NB428_427.out
        have hnc36 := NB427_428.out
        obtain ⟨hcz37_0, hcz37_1, hcz37_2, hcz37_3, hcz37_4, hcz37_5, hcz37_6, hfz37_0, hfz37_1, hfz37_2, hfz37_3, hfz37_4, hfz37_5, hfz37_6⟩ := bs7_ BK428
        go_wp2
        go_ret
        exact ⟨er_, hf_⟩
      ·rw [if_neg c29] at H
       have c29b0 : decide (1 ≤ a1_4) = false := decide_eq_false c29
       clear c29
       obtain rfl := Option.some.inj H
       have hnb38 := NB428_427.out
       have hnc38 := NB427_428.out
       obtain ⟨hcz39_0, hcz39_1, hcz39_2, hcz39_3, hcz39_4, hcz39_5, hcz39_6, hfz39_0, hfz39_1, hfz39_2, hfz39_3, hfz39_4, hfz39_5, hfz39_6⟩ := bs7_ BK428
       go_wp2
       go_ret
       exact ⟨er_, hf_⟩
     ·rw [if_neg c28] at H
      have c28b0 : (a1_1 == 4) = false := beq_eq_false_iff_ne.mpr c28
      have c28b1 : (a1_1 != 4) = true := bne_iff_ne.mpr c28
      by_cases c40 : a1_4 ≥ 1
      ·rw [if_pos c40] at H
       have c40b0 : decide (1 ≤ a1_4) = true := decide_eq_true c40
       clear c40
       by_cases c41 : a1_4 ≤ 100
       ·rw [if_pos c41] at H
        have c41b0 : decide (a1_4 ≤ 100) = true := decide_eq_true c41
        clear c41
        by_cases c42 : a1_3 = true
        ·subst c42
         have H1 : (some (!true)) = some r := by rw [if_pos rfl] at H; exact H
         clear H
         have H := H1
         clear H1
         obtain rfl := Option.some.inj H
         have hnb43 := NB428_427.out
         have hnc43 := NB427_428.out
         obtain ⟨hcz44_0, hcz44_1, hcz44_2, hcz44_3, hcz44_4, hcz44_5, hcz44_6, hfz44_0, hfz44_1, hfz44_2, hfz44_3, hfz44_4, hfz44_5, hfz44_6⟩ := bs7_ BK428
         go_wp2
         go_ret
         exact ⟨er_, hf_⟩
        ·replace c42 := Bool.eq_false_iff.mpr c42
         subst c42
         have H1 : (some (!(decide ((l1_5.length : Int) > 0)))) = some r := by rw [if_neg (show ¬ (false = true) by decide)] at H; exact H
         clear H
         have H := H1
         clear H1
         obtain rfl := Option.some.inj H
         have hnb45 := NB428_427.out
         have hnc45 := NB427_428.out
         obtain ⟨hcz46_0, hcz46_1, hcz46_2, hcz46_3, hcz46_4, hcz46_5, hcz46_6, hfz46_0, hfz46_1, hfz46_2, hfz46_3, hfz46_4, hfz46_5, hfz46_6⟩ := bs7_ BK428
         go_wp2
         go_ret
         exact ⟨er_, hf_⟩
       ·rw [if_neg c41] at H
        have c41b0 : decide (a1_4 ≤ 100) = false := decide_eq_false c41
        clear c41
        obtain rfl := Option.some.inj H
        have hnb47 := NB428_427.out
        have hnc47 := NB427_428.out
        obtain ⟨hcz48_0, hcz48_1, hcz48_2, hcz48_3, hcz48_4, hcz48_5, hcz48_6, hfz48_0, hfz48_1, hfz48_2, hfz48_3, hfz48_4, hfz48_5, hfz48_6⟩ := bs7_ BK428
        go_wp2
        go_ret
        exact ⟨er_, hf_⟩
      ·rw [if_neg c40] at H
       have c40b0 : decide (1 ≤ a1_4) = false := decide_eq_false c40
       clear c40
       obtain rfl := Option.some.inj H
       have hnb49 := NB428_427.out
       have hnc49 := NB427_428.out
       obtain ⟨hcz50_0, hcz50_1, hcz50_2, hcz50_3, hcz50_4, hcz50_5, hcz50_6, hfz50_0, hfz50_1, hfz50_2, hfz50_3, hfz50_4, hfz50_5, hfz50_6⟩ := bs7_ BK428
       go_wp2
       go_ret
       exact ⟨er_, hf_⟩
    ·rw [if_neg c27] at H
     have c27b0 : (a1_1 == 5) = false := beq_eq_false_iff_ne.mpr c27
     have c27b1 : (a1_1 != 5) = true := bne_iff_ne.mpr c27
     by_cases c51 : a1_1 = 4
     ·rw [if_pos c51] at H
      have c51b0 : (a1_1 == 4) = true := beq_iff_eq.mpr c51
      have c51b1 : (a1_1 != 4) = false := bne_eq_false_iff_eq.mpr c51
      clear c51
      by_cases c52 : a1_4 ≥ 0
      ·rw [if_pos c52] at H
       have c52b0 : decide (0 ≤ a1_4) = true := decide_eq_true c52
       clear c52
       by_cases c53 : a1_4 ≤ 0
       ·rw [if_pos c53] at H
        have c53b0 : decide (a1_4 ≤ 0) = true := decide_eq_true c53
        clear c53
        by_cases c54 : a1_3 = true
        ·subst c54
         have H1 : (some (!true)) = some r := by rw [if_pos rfl] at H; exact H
         clear H
         have H := H1
         clear H1
         obtain rfl := Option.some.inj H
         have hnb55 := NB428_427.out
         have hnc55 := NB427_428.out
         obtain ⟨hcz56_0, hcz56_1, hcz56_2, hcz56_3, hcz56_4, hcz56_5, hcz56_6, hfz56_0, hfz56_1, hfz56_2, hfz56_3, hfz56_4, hfz56_5, hfz56_6⟩ := bs7_ BK428
         go_wp2
         go_ret
         exact ⟨er_, hf_⟩
        ·replace c54 := Bool.eq_false_iff.mpr c54
         subst c54
         have H1 : (some (!(decide ((l1_5.length : Int) > 0)))) = some r := by rw [if_neg (show ¬ (false = true) by decide)] at H; exact H
         clear H
         have H := H1
         clear H1
         obtain rfl := Option.some.inj H
         have hnb57 := NB428_427.out
         have hnc57 := NB427_428.out
         obtain ⟨hcz58_0, hcz58_1, hcz58_2, hcz58_3, hcz58_4, hcz58_5, hcz58_6, hfz58_0, hfz58_1, hfz58_2, hfz58_3, hfz58_4, hfz58_5, hfz58_6⟩ := bs7_ BK428
         go_wp2
         go_ret
         exact ⟨er_, hf_⟩
       ·rw [if_neg c53] at H
        have c53b0 : decide (a1_4 ≤ 0) = false := decide_eq_false c53
        clear c53
        obtain rfl := Option.some.inj H
        have hnb59 := NB428_427.out
        have hnc59 := NB427_428.out
        obtain ⟨hcz60_0, hcz60_1, hcz60_2, hcz60_3, hcz60_4, hcz60_5, hcz60_6, hfz60_0, hfz60_1, hfz60_2, hfz60_3, hfz60_4, hfz60_5, hfz60_6⟩ := bs7_ BK428
        go_wp2
        go_ret
        exact ⟨er_, hf_⟩
      ·rw [if_neg c52] at H
       have c52b0 : decide (0 ≤ a1_4) = false := decide_eq_false c52
       clear c52
       obtain rfl := Option.some.inj H
       have hnb61 := NB428_427.out
       have hnc61 := NB427_428.out
       obtain ⟨hcz62_0, hcz62_1, hcz62_2, hcz62_3, hcz62_4, hcz62_5, hcz62_6, hfz62_0, hfz62_1, hfz62_2, hfz62_3, hfz62_4, hfz62_5, hfz62_6⟩ := bs7_ BK428
       go_wp2
       go_ret
       exact ⟨er_, hf_⟩
     ·rw [if_neg c51] at H
      have c51b0 : (a1_1 == 4) = false := beq_eq_false_iff_ne.mpr c51
      have c51b1 : (a1_1 != 4) = true := bne_iff_ne.mpr c51
      by_cases c63 : a1_4 ≥ 0
      ·rw [if_pos c63] at H
       have c63b0 : decide (0 ≤ a1_4) = true := decide_eq_true c63
       clear c63
       by_cases c64 : a1_4 ≤ 0
       ·rw [if_pos c64] at H
        have c64b0 : decide (a1_4 ≤ 0) = true := decide_eq_true c64
        clear c64
        obtain rfl := Option.some.inj H
        have hnb65 := NB428_427.out
        have hnc65 := NB427_428.out
        obtain ⟨hcz66_0, hcz66_1, hcz66_2, hcz66_3, hcz66_4, hcz66_5, hcz66_6, hfz66_0, hfz66_1, hfz66_2, hfz66_3, hfz66_4, hfz66_5, hfz66_6⟩ := bs7_ BK428
        go_wp2
        go_ret
        exact ⟨er_, hf_⟩
       ·rw [if_neg c64] at H
        have c64b0 : decide (a1_4 ≤ 0) = false := decide_eq_false c64
        clear c64
        obtain rfl := Option.some.inj H
        have hnb67 := NB428_427.out
        have hnc67 := NB427_428.out
        obtain ⟨hcz68_0, hcz68_1, hcz68_2, hcz68_3, hcz68_4, hcz68_5, hcz68_6, hfz68_0, hfz68_1, hfz68_2, hfz68_3, hfz68_4, hfz68_5, hfz68_6⟩ := bs7_ BK428
        go_wp2
        go_ret
        exact ⟨er_, hf_⟩
      ·rw [if_neg c63] at H
       have c63b0 : decide (0 ≤ a1_4) = false := decide_eq_false c63
       clear c63
       obtain rfl := Option.some.inj H
       have hnb69 := NB428_427.out
       have hnc69 := NB427_428.out
       obtain ⟨hcz70_0, hcz70_1, hcz70_2, hcz70_3, hcz70_4, hcz70_5, hcz70_6, hfz70_0, hfz70_1, hfz70_2, hfz70_3, hfz70_4, hfz70_5, hfz70_6⟩ := bs7_ BK428
       go_wp2
       go_ret
       exact ⟨er_, hf_⟩
end Go.Proofs.Ytchellnfenekaaa.Pm
end
section
namespace Go.Proofs.Ytchellnfenekaaa.Pm
open Go.RowKit Go.Proofs.YtchellnfenekaaaW.PrintWords Go.Proofs.YtchellnfenekaaaW.PrintLast Go.Proofs.YtchellnfenekaaaW.PrintMore
attribute [local go_sem] max2_int min2_int max_two min_two max_three min_three max_four min_four   -- for this text's walks alone
set_option linter.unusedVariables false
set_option linter.unusedSimpArgs false
def model_isPlan.f (a0_0 : ByteArray) (a0_1 : Int) (a0_2 : ByteArray) (a0_3 : Bool) (a0_4 : Int) (l0_5 : List (S29)) (l0_6 : List (S29)) : Option (Bool) := if a0_1 = 1 then (if a0_2.toList = ([] : List UInt8) then (if a0_3 = true then (some false) else (some ((wrap64 ((l0_5.length : Int) + (l0_6.length : Int))) == 0))) else (some false)) else (some false)
set_option maxHeartbeats 8000000 in
set_option maxRecDepth 100000 in
theorem model_isPlan.calls (a0_0 : ByteArray) (a0_1 : Int) (a0_2 : ByteArray) (a0_3 : Bool) (a0_4 : Int) (A0_5 : Option Addr) (c0_5 : Nat) (l0_5 : List (S29)) (A0_6 : Option Addr) (c0_6 : Nat) (l0_6 : List (S29)) (r : Bool) (w : World) (hr0_5 : Kd.C k29 w A0_5 l0_5.length l0_5) (hc0_5 : l0_5.length ≤ c0_5) (hr0_6 : Kd.C k29 w A0_6 l0_6.length l0_6) (hc0_6 : l0_6.length ≤ c0_6) (h : model_isPlan.f a0_0 a0_1 a0_2 a0_3 a0_4 l0_5 l0_6 = some r) :
  Calls Try.prog 34 #[.agg #[.string a0_0, .int .i64 a0_1, .string a0_2, .bool a0_3, .int .i64 a0_4, .slice A0_5 l0_5.length c0_5, .slice A0_6 l0_6.length c0_6]] w fun e w' => e = .returned (.bool r) ∧ Below w.heap.size w w' := by
 have hu32 := Try.underlying32
 have HR0_5 := Aside0.mk hr0_5
 have HC0_5 := Aside0.mk hc0_5
 clear hr0_5 hc0_5
 have HR0_6 := Aside0.mk hr0_6
 have HC0_6 := Aside0.mk hc0_6
 clear hr0_6 hc0_6
 have HB := Aside0.mk (Below.refl w.heap.size w)
 have H : (if a0_1 = 1 then (if a0_2.toList = ([] : List UInt8) then (if a0_3 = true then (some false) else (some ((wrap64 ((l0_5.length : Int) + (l0_6.length : Int))) == 0))) else (some false)) else (some false)) = some r := h
 clear h
 by_cases c2 : a0_1 = 1
 ·rw [if_pos c2] at H
  have c2b0 : (a0_1 == 1) = true := beq_iff_eq.mpr c2
  have c2b1 : (a0_1 != 1) = false := bne_eq_false_iff_eq.mpr c2
  clear c2
  by_cases c3 : a0_2.toList = ([] : List UInt8)
  ·rw [if_pos c3] at H
   have c3b0 : (a0_2.toList == ([] : List UInt8)) = true := beq_iff_eq.mpr c3
   have c3b1 : (a0_2.toList != ([] : List UInt8)) = false := bne_eq_false_iff_eq.mpr c3
   clear c3
   by_cases c4 : a0_3 = true
   ·subst c4
    have H1 : (some false) = some r := by rw [if_pos rfl] at H; exact H
    clear H
    have H := H1
    clear H1
    obtain rfl := Option.some.inj H
    go_enter Try.func34, Try.ntmps34
    go_wp2_with (first | ((with_reducible refine gate_dst (N := 1) rfl ?_); (try (refine gate_guard (by rfl) ?_; dsimp only)); refine box_event ?hg (N := 1) ?hd (cs := #[.string a0_0, .int .i64 a0_1, .string a0_2, .bool true, .int .i64 a0_4, .slice A0_5 l0_5.length c0_5, .slice A0_6 l0_6.length c0_6]) (t := 32) ?hr ?_; (case hd => rfl); (case hg => rfl); (case hr => first | (go_simp; done) | (go_simp; rfl)); intro gb110 hg w5 hbox hb; have n0_ := hb_ HB hb; have n1_ := Aside0.mk (hbox); have n2_ := Aside0.mk ((by rw [hg]; exact (below_size (by repeat (first | (with_reducible first | exact HB.out | apply below_alloc | apply pw_below_drewN | apply below_drew1) | exact HB.out))) : w.heap.size ≤ gb110)); have n3_ := Aside0.mk ((by rw [hg]; exact (below_size (by repeat (first | (with_reducible first | exact HB.out | apply below_alloc | apply pw_below_drewN | apply below_drew1) | exact HB.out))) : w.heap.size ≤ gb110)); clear HB; have HB := n0_; have BK110 := n1_; have GW110 := n2_; have GE110 := n3_; clear n0_ n1_ n2_ n3_; clear hb hbox hg; obtain ⟨hcz6_0, hcz6_1, hcz6_2, hcz6_3, hcz6_4, hcz6_5, hcz6_6, hfz6_0, hfz6_1, hfz6_2, hfz6_3, hfz6_4, hfz6_5, hfz6_6⟩ := bs7_ BK110))
    go_ret
    exact ⟨er_, hf_⟩
   ·replace c4 := Bool.eq_false_iff.mpr c4
    subst c4
    have H1 : (some ((wrap64 ((l0_5.length : Int) + (l0_6.length : Int))) == 0)) = some r := by rw [if_neg (show ¬ (false = true) by decide)] at H; exact H
    clear H
    have H := H1
    clear H1
    obtain rfl := Option.some.inj H
    go_enter Try.func34, Try.ntmps34
    go_wp2_with (first | ((with_reducible refine gate_dst (N := 1) rfl ?_); (try (refine gate_guard (by rfl) ?_; dsimp only)); refine box_event ?hg (N := 1) ?hd (cs := #[.string a0_0, .int .i64 a0_1, .string a0_2, .bool false, .int .i64 a0_4, .slice A0_5 l0_5.length c0_5, .slice A0_6 l0_6.length c0_6]) (t := 32) ?hr ?_; (case hd => rfl); (case hg => rfl); (case hr => first | (go_simp; done) | (go_simp; rfl)); intro gb110 hg w7 hbox hb; have n0_ := hb_ HB hb; have n1_ := Aside0.mk (hbox); have n2_ := Aside0.mk ((by rw [hg]; exact (below_size (by repeat (first | (with_reducible first | exact HB.out | apply below_alloc | apply pw_below_drewN | apply below_drew1) | exact HB.out))) : w.heap.size ≤ gb110)); have n3_ := Aside0.mk ((by rw [hg]; exact (below_size (by repeat (first | (with_reducible first | exact HB.out | apply below_alloc | apply pw_below_drewN | apply below_drew1) | exact HB.out))) : w.heap.size ≤ gb110)); clear HB; have HB := n0_; have BK110 := n1_; have GW110 := n2_; have GE110 := n3_; clear n0_ n1_ n2_ n3_; clear hb hbox hg; obtain ⟨hcz8_0, hcz8_1, hcz8_2, hcz8_3, hcz8_4, hcz8_5, hcz8_6, hfz8_0, hfz8_1, hfz8_2, hfz8_3, hfz8_4, hfz8_5, hfz8_6⟩ := bs7_ BK110))
    go_ret
    exact ⟨er_, hf_⟩
  ·rw [if_neg c3] at H
   have c3b0 : (a0_2.toList == ([] : List UInt8)) = false := beq_eq_false_iff_ne.mpr c3
   have c3b1 : (a0_2.toList != ([] : List UInt8)) = true := bne_iff_ne.mpr c3
   obtain rfl := Option.some.inj H
   go_enter Try.func34, Try.ntmps34
   go_wp2_with (first | ((with_reducible refine gate_dst (N := 1) rfl ?_); (try (refine gate_guard (by rfl) ?_; dsimp only)); refine box_event ?hg (N := 1) ?hd (cs := #[.string a0_0, .int .i64 a0_1, .string a0_2, .bool a0_3, .int .i64 a0_4, .slice A0_5 l0_5.length c0_5, .slice A0_6 l0_6.length c0_6]) (t := 32) ?hr ?_; (case hd => rfl); (case hg => rfl); (case hr => first | (go_simp; done) | (go_simp; rfl)); intro gb110 hg w9 hbox hb; have n0_ := hb_ HB hb; have n1_ := Aside0.mk (hbox); have n2_ := Aside0.mk ((by rw [hg]; exact (below_size (by repeat (first | (with_reducible first | exact HB.out | apply below_alloc | apply pw_below_drewN | apply below_drew1) | exact HB.out))) : w.heap.size ≤ gb110)); have n3_ := Aside0.mk ((by rw [hg]; exact (below_size (by repeat (first | (with_reducible first | exact HB.out | apply below_alloc | apply pw_below_drewN | apply below_drew1) | exact HB.out))) : w.heap.size ≤ gb110)); clear HB; have HB := n0_; have BK110 := n1_; have GW110 := n2_; have GE110 := n3_; clear n0_ n1_ n2_ n3_; clear hb hbox hg; obtain ⟨hcz10_0, hcz10_1, hcz10_2, hcz10_3, hcz10_4, hcz10_5, hcz10_6, hfz10_0, hfz10_1, hfz10_2, hfz10_3, hfz10_4, hfz10_5, hfz10_6⟩ := bs7_ BK110))
   go_ret
   exact ⟨er_, hf_⟩
 ·rw [if_neg c2] at H
  have c2b0 : (a0_1 == 1) = false := beq_eq_false_iff_ne.mpr c2
  have c2b1 : (a0_1 != 1) = true := bne_iff_ne.mpr c2
  obtain rfl := Option.some.inj H
  go_enter Try.func34, Try.ntmps34
  go_wp2_with (first | ((with_reducible refine gate_dst (N := 1) rfl ?_); (try (refine gate_guard (by rfl) ?_; dsimp only)); refine box_event ?hg (N := 1) ?hd (cs := #[.string a0_0, .int .i64 a0_1, .string a0_2, .bool a0_3, .int .i64 a0_4, .slice A0_5 l0_5.length c0_5, .slice A0_6 l0_6.length c0_6]) (t := 32) ?hr ?_; (case hd => rfl); (case hg => rfl); (case hr => first | (go_simp; done) | (go_simp; rfl)); intro gb110 hg w11 hbox hb; have n0_ := hb_ HB hb; have n1_ := Aside0.mk (hbox); have n2_ := Aside0.mk ((by rw [hg]; exact (below_size (by repeat (first | (with_reducible first | exact HB.out | apply below_alloc | apply pw_below_drewN | apply below_drew1) | exact HB.out))) : w.heap.size ≤ gb110)); have n3_ := Aside0.mk ((by rw [hg]; exact (below_size (by repeat (first | (with_reducible first | exact HB.out | apply below_alloc | apply pw_below_drewN | apply below_drew1) | exact HB.out))) : w.heap.size ≤ gb110)); clear HB; have HB := n0_; have BK110 := n1_; have GW110 := n2_; have GE110 := n3_; clear n0_ n1_ n2_ n3_; clear hb hbox hg; obtain ⟨hcz12_0, hcz12_1, hcz12_2, hcz12_3, hcz12_4, hcz12_5, hcz12_6, hfz12_0, hfz12_1, hfz12_2, hfz12_3, hfz12_4, hfz12_5, hfz12_6⟩ := bs7_ BK110))
  go_ret
  exact ⟨er_, hf_⟩
end Go.Proofs.Ytchellnfenekaaa.Pm
end
section
namespace Go.Proofs.Ytchellnfenekaaa.Pm
open Go.RowKit Go.Proofs.YtchellnfenekaaaW.PrintWords Go.Proofs.YtchellnfenekaaaW.PrintLast Go.Proofs.YtchellnfenekaaaW.PrintMore
attribute [local go_sem] max2_int min2_int max_two min_two max_three min_three max_four min_four   -- for this text's walks alone
set_option linter.unusedVariables false
set_option linter.unusedSimpArgs false
def nameOk (l : List ByteArray) (i : Nat) : Bool := nameB (rdOf ByteArray.empty l (i : Int)) && !memB (l.take i) (rdOf ByteArray.empty l (i : Int))
def namesB (l : List ByteArray) : Bool := (List.range l.length).all (nameOk l)
def model_areNames.f (l0 : List ByteArray) : Option Bool := some (namesB l0)
set_option maxHeartbeats 8000000 in
set_option maxRecDepth 100000 in
theorem model_areNames.calls (A0 : Option Addr) (c0 : Nat) (l0 : List ByteArray) (r : Bool) (w : World) (hr0 : Kd.C Kd.string w A0 l0.length l0) (hc0 : l0.length ≤ c0) (h : model_areNames.f l0 = some r) :
    Calls Try.prog 32 #[.slice A0 l0.length c0] w fun e w' => e = .returned (.bool r) ∧ Below w.heap.size w w' := by
  obtain rfl := Option.some.inj h
  clear h
  have HR := Lib.hid hr0
  have hbig : l0.length ≤ 9223372036854775807 := hr0.2.1
  clear hr0
  obtain ⟨n, hn⟩ : ∃ n, n = l0.length := ⟨_, rfl⟩
  have HN := Lib.hid hn
  rw [← hn] at hc0 hbig ⊢
  clear hn
  go_enter Try.func32, Try.ntmps32
  go_wp2
  go_loopg [7] n (fun gg s7 wr => ∃ i : Nat, s7 = .int .i64 i ∧ i ≤ n ∧ n - i ≤ gg ∧ Hid (Below w.heap.size w wr ∧ ∀ j, j < i → nameOk l0 j = true))
  case atStart => exact ⟨0, rfl, Nat.zero_le _, by omega, Lib.hid ⟨Below.refl _ _, fun j hj => by omega⟩⟩
  case round =>
    obtain ⟨i, rfl, hin, hig, X⟩ := hrel
    by_cases hlt : i < n
    case neg =>
      have hltz : ¬ (i : Int) < (n : Int) := by omega
      obtain rfl : i = n := by omega
      have he : namesB l0 = true := by unfold namesB; rw [List.all_eq_true, ← HN.out]; intro j hj; exact X.out.2 j (List.mem_range.1 hj)
      have HE := Lib.hid he
      clear he
      go_wp2
      go_ret
      exact ⟨by rw [HE.out]; rfl, X.out.1⟩
    have hltz : (i : Int) < (n : Int) := by omega
    obtain ⟨ad, e, hx⟩ := Kd.at_string HR.out (i : Int) (by omega) (by have := HN.out; omega)
    cases e
    simp only [Int.toNat_natCast] at hx
    replace hx := keepc X.out.1 hx
    obtain ⟨x, hxx⟩ : ∃ x, x = rdOf ByteArray.empty l0 (i : Int) := ⟨_, rfl⟩
    rw [← hxx] at hx
    have hok : nameOk l0 i = (nameB x && !memB (l0.take i) x) := by rw [hxx]; rfl
    have HOK := Lib.hid hok
    clear hxx hok
    have hnm := name_Is.calls x _ wr rfl
    have hic : i ≤ c0 := by omega
    have hic2 : (i : Int) ≤ (c0 : Int) := by omega
    have hi0 : (0 : Int) ≤ (i : Int) := by omega
    cases hq : nameB x with
    | false =>
      have he : namesB l0 = false := by unfold namesB; exact List.all_eq_false.2 ⟨i, List.mem_range.2 (by have := HN.out; omega), by rw [HOK.out, hq]; simp⟩
      have HE := Lib.hid he
      rw [hq] at hnm
      clear he hq
      go_wp2_with (go_at_call 55; refine hnm.mono ?_; rintro e w' ⟨rfl, hb'⟩)
      go_ret
      exact ⟨by rw [HE.out]; rfl, keepb hb' X.out.1⟩
    | true =>
      rw [hq] at hnm HOK
      clear hq
      go_wp2_with fail
      go_at_call 55
      refine hnm.mono ?_
      rintro e w' ⟨rfl, hb'⟩
      have el : (l0.take i).length = i := by rw [List.length_take]; have := HN.out; omega
      have hct := slices_Contains_string_string.calls (n + 1) (some ad) c0 (l0.take i) x _ w' (Kd.C_below (Kd.C_below (Kd.C_take HR.out (show i ≤ l0.length by have := HN.out; omega)) X.out.1) hb') (by rw [el]; omega) (contains_eq (l0.take i) x (by rw [el]; omega) (n + 1) (by rw [el]; omega))
      rw [el] at hct
      have HB := Lib.hid (keepb hb' X.out.1)
      clear hb' el hnm
      cases hq2 : memB (l0.take i) x with
      | true =>
        have he : namesB l0 = false := by unfold namesB; exact List.all_eq_false.2 ⟨i, List.mem_range.2 (by have := HN.out; omega), by rw [HOK.out, hq2]; simp⟩
        have HE := Lib.hid he
        rw [hq2] at hct
        clear he hq2
        go_wp2_with (go_at_call 56; refine hct.mono ?_; rintro e w2 ⟨rfl, ⟨nd, rfl⟩⟩)
        go_ret
        exact ⟨by rw [HE.out]; rfl, pw_below_drewN HB.out _⟩
      | false =>
        rw [hq2] at hct HOK
        clear hq2
        go_wp2_with (go_at_call 56; refine hct.mono ?_; rintro e w2 ⟨rfl, ⟨nd, rfl⟩⟩)
        go_roundg (n - (i + 1))
        case measure => omega
        case rel =>
          refine ⟨i + 1, by go_num, by omega, by omega, Lib.hid ⟨pw_below_drewN HB.out _, fun j hj => ?_⟩⟩
          by_cases e : j = i
          · subst e; rw [HOK.out]; rfl
          · exact X.out.2 j (by omega)
end Go.Proofs.Ytchellnfenekaaa.Pm
end
section
namespace Go.Proofs.Ytchellnfenekaaa.Pm
open Go.RowKit Go.Proofs.YtchellnfenekaaaW.PrintWords Go.Proofs.YtchellnfenekaaaW.PrintLast Go.Proofs.YtchellnfenekaaaW.PrintMore
attribute [local go_sem] max2_int min2_int max_two min_two max_three min_three max_four min_four   -- for this text's walks alone
set_option linter.unusedVariables false
set_option linter.unusedSimpArgs false
def idxP (s : ByteArray) (y : ByteArray) : Bool := s.toList == y.toList
theorem index_at (l : List ByteArray) (s : ByteArray) (hn : l.length ≤ 9223372036854775807) (d : Nat) : ∀ (i k : Nat), i + d = l.length → d < k → (∀ j, j < i → idxP s (l.getD j ByteArray.empty) = false) → slices_Index_string_string.l0 k l s l.length i = some (fidx (idxP s) l) := by
  induction d with
  | zero =>
    intro i k hi hk hno
    obtain ⟨k, rfl⟩ : ∃ m, k = m + 1 := ⟨k - 1, by omega⟩
    simp only [slices_Index_string_string.l0]
    rw [if_neg (by omega), fidx_miss (idxP s) l ByteArray.empty (fun j hj => hno j (by omega))]
  | succ d ih =>
    intro i k hi hk hno
    obtain ⟨k, rfl⟩ : ∃ m, k = m + 1 := ⟨k - 1, by omega⟩
    have hlt : i < l.length := by omega
    have hg : l.getD i ByteArray.empty = l[i] := by rw [List.getD_eq_getElem?_getD, List.getElem?_eq_getElem hlt]; rfl
    simp only [slices_Index_string_string.l0]
    rw [if_pos (by omega), if_pos (by omega), if_pos (by omega), rdOf_get _ _ _ hlt]
    by_cases he : s.toList = l[i].toList
    · rw [if_pos he, fidx_hit (idxP s) l i ByteArray.empty hlt (by rw [hg]; simpa [idxP] using he) hno]
    · rw [if_neg he, wrap_lt (n := (l.length : Int)) (by omega) (by omega) (by omega)]
      refine ih (i + 1) k (by omega) (by omega) (fun j hj => ?_)
      by_cases e : j = i
      · subst e; rw [hg]; simpa [idxP] using he
      · exact hno j (by omega)
theorem index_eq (l : List ByteArray) (s : ByteArray) (hn : l.length ≤ 9223372036854775807) (k : Nat) (hk : l.length < k) : slices_Index_string_string.f k l s = some (fidx (idxP s) l) :=
  index_at l s hn l.length 0 k (by omega) hk (fun j hj => by omega)
def stkStep (l : List (S32)) (i : Nat) (st : List ByteArray) : Option (List ByteArray) :=
  if i = 0 then some (st ++ [(rd_T32 l i).f0]) else
    let t := st.take (fidx (idxP (rd_T32 l i).f2) st + 1).toNat
    if t.length = 0 ∨ 5 < t.length ∨ (rd_T32 l (placeI l (rd_T32 l i).f2)).f1 ≠ 1 then none else some (t ++ [(rd_T32 l i).f0])
def stk (l : List (S32)) : Nat → Option (List ByteArray)
  | 0 => some []
  | i + 1 => (stk l i).bind (stkStep l i)
def standsB (l : List (S32)) : Bool := (stk l l.length).isSome
def model_stands.f (l0_0 : List ByteArray) (l0_1 : List (S32)) : Option Bool := some (standsB l0_1)
theorem stk_none (l : List (S32)) (i : Nat) (h : stk l i = none) : ∀ d, stk l (i + d) = none := by
  intro d
  induction d with
  | zero => exact h
  | succ d ih => show (stk l (i + d)).bind _ = none; rw [ih]; rfl
theorem stk_false (l : List (S32)) (i : Nat) (hi : i < l.length) (st : List ByteArray) (h : stk l i = some st) (h2 : stkStep l i st = none) : standsB l = false := by
  have h3 : stk l (i + 1) = none := by show (stk l i).bind _ = none; rw [h]; exact h2
  have h4 := stk_none l (i + 1) h3 (l.length - (i + 1))
  rw [show i + 1 + (l.length - (i + 1)) = l.length by omega] at h4
  unfold standsB
  rw [h4]; rfl
theorem stkStep_length (l : List (S32)) (i : Nat) (st st' : List ByteArray) (h : stkStep l i st = some st') (hs : i = 0 → st = []) : 0 < st'.length ∧ st'.length ≤ 6 := by
  unfold stkStep at h
  split at h
  · rename_i h0
    obtain rfl := Option.some.inj h
    rw [hs h0]; simp
  · simp only at h
    split at h
    · cases h
    · rename_i h1
      obtain rfl := Option.some.inj h
      simp only [List.length_append, List.length_singleton]
      omega
theorem stkStep_mem (l : List (S32)) (i : Nat) (hi : i < l.length) (st st' : List ByteArray) (h : stkStep l i st = some st') (hm : ∀ s ∈ st, ∃ y ∈ l, y.f0 = s) : ∀ s ∈ st', ∃ y ∈ l, y.f0 = s := by
  have hx : rd_T32 l (i : Int) ∈ l := by
    simp [rd_T32, List.getD_eq_getElem?_getD, List.getElem?_eq_getElem hi]
  unfold stkStep at h
  split at h
  · obtain rfl := Option.some.inj h
    intro s hs
    rcases List.mem_append.1 hs with hs | hs
    · exact hm s hs
    · rw [List.mem_singleton.1 hs]; exact ⟨_, hx, rfl⟩
  · simp only at h
    split at h
    · cases h
    · obtain rfl := Option.some.inj h
      intro s hs
      rcases List.mem_append.1 hs with hs | hs
      · exact hm s (List.mem_of_mem_take hs)
      · rw [List.mem_singleton.1 hs]; exact ⟨_, hx, rfl⟩
theorem stk_facts (l : List (S32)) (i : Nat) (hi : i ≤ l.length) (st : List ByteArray) (h : stk l i = some st) : st.length ≤ 6 ∧ (0 < i → 0 < st.length) ∧ (i = 0 → st = []) ∧ ∀ s ∈ st, ∃ y ∈ l, y.f0 = s := by
  induction i generalizing st with
  | zero =>
    obtain rfl := Option.some.inj h
    exact ⟨by simp, by omega, fun _ => rfl, by simp⟩
  | succ i ih =>
    have h' : (stk l i).bind (stkStep l i) = some st := h
    obtain ⟨s0, hs0, h2⟩ := Option.bind_eq_some_iff.1 h'
    obtain ⟨_, _, h0, hm⟩ := ih (by omega) s0 hs0
    have hl := stkStep_length l i s0 st h2 h0
    exact ⟨hl.2, fun _ => hl.1, by omega, stkStep_mem l i (by omega) s0 st h2 hm⟩
theorem place_mem (l : List (S32)) (id : ByteArray) (h : ∃ y ∈ l, y.f0.toList = id.toList) : 0 ≤ placeI l id := by
  obtain ⟨y, hy, he⟩ := h
  have ha := fidx_any (model_Place.p id) l
  have h2 : l.any (model_Place.p id) = true := List.any_eq_true.2 ⟨y, hy, by simpa [model_Place.p] using he⟩
  rw [h2] at ha
  exact of_decide_eq_true ha
theorem stk_hit (l : List (S32)) (s : ByteArray) (st : List ByteArray) (hm : ∀ s ∈ st, ∃ y ∈ l, y.f0 = s) (j : Nat) (hj : fidx (idxP s) st = j) : j < st.length ∧ 0 ≤ placeI l s := by
  have hlt := fidx_lt (idxP s) st
  have hjl : j < st.length := by omega
  refine ⟨hjl, place_mem l s ?_⟩
  unfold fidx at hj
  cases h : st.findIdx? (idxP s) with
  | none => rw [h] at hj; simp only at hj; omega
  | some q =>
    obtain ⟨hq, hp, _⟩ := List.findIdx?_eq_some_iff_getElem.1 h
    obtain ⟨y, hy, he⟩ := hm st[q] (List.getElem_mem hq)
    exact ⟨y, hy, by rw [he]; unfold idxP at hp; exact (by simpa using hp : s.toList = st[q].toList).symm⟩
theorem info_str : (Try.prog.info? 9).map (fun i => (i.zero, i.size, i.bytes)) = some (some (.string ⟨#[]⟩), 1, 16) := by kernel_rfl
theorem append_full (B : Nat) (W : World) (A : Option Addr) (st : List ByteArray) (x : ByteArray) (hC : Kd.C Kd.string W A st.length st) (hs : st.length ≤ 6) (hB : B ≤ W.heap.size) :
    ∃ v' w', (Builtin.append_ #[33, 33] 33 #[.slice A st.length st.length, .slice (some ⟨W.heap.size, 0, none⟩) 1 1]).run Try.prog (W.alloc (.cells #[.string x] 9)) = .ok v' w' ∧ Kd.R Kd.string 9 w' B (fun _ => True) v' (st ++ [x]) ∧ Below W.heap.size W w' := by
  obtain ⟨i0, hi0, hz0, hz1, hz2⟩ := info_parts info_str
  have hnew : ∀ (j : Nat) (u : Value), [Value.string x][j]? = some u → (W.alloc (.cells #[.string x] 9)).cell? ((⟨W.heap.size, 0, none⟩ : Addr).add j) = some u := World.news_of_block (cs := #[.string x]) (t := 9) (fr := (0, 0)) (heap_alloc_new W _)
  have hsz : (W.alloc (.cells #[.string x] 9)).heap.size = W.heap.size + 1 := by simp
  have hba := below_alloc (Below.refl W.heap.size W) (.cells #[.string x] 9)
  cases A with
  | none =>
    have h0 : st.length = 0 := by
      rcases Nat.eq_zero_or_pos st.length with h0 | h0
      · exact h0
      · obtain ⟨ad, h, _⟩ := hC.2.2 h0
        cases h
    obtain rfl := List.eq_nil_of_length_eq_zero h0
    obtain ⟨v', w', hr, ho, hg, _, hat⟩ := run_append_own_at (P := Try.prog) (w := W.alloc (.cells #[.string x] 9)) B 33 33 9 i0 (.string ⟨#[]⟩) 1 16 Try.underlying33 hi0 hz0 hz1 hz2 rfl (by decide) (.slice none 0 0) 0 [] (World.ownsRow_nil _ _ _ _) ⟨W.heap.size, 0, none⟩ 1 1 [.string x] rfl hnew (by simp [Value.oneCell']) (by simp [maxLen]) (by omega) (by omega)
    refine ⟨v', w', hr, Kd.R_of_own (by simpa [encs] using ho) (fun _ _ => trivial), ?_⟩
    exact hba.grown hg (by omega) (by simp [Value.ownBlock])
  | some ad =>
    have hold : ∀ (j : Nat) (u : Value), (encs Value.string st)[j]? = some u → (W.alloc (.cells #[.string x] 9)).cell? (ad.add j) = some u := by
      intro j u hj
      have hjl : j < st.length := by simpa [encs] using (List.getElem?_eq_some_iff.1 hj).1
      obtain ⟨ad', c, e, _, hK, hcc⟩ := Kd.C_get hC ByteArray.empty (j : Int) (by omega) (by omega)
      cases e
      obtain rfl : c = [.string (st.getD j ByteArray.empty)] := hK
      have h1 := hcc 0 _ rfl
      have hu : u = .string (st.getD j ByteArray.empty) := by
        simp [encs, List.getElem?_map, List.getElem?_eq_getElem hjl] at hj
        rw [List.getD_eq_getElem?_getD, List.getElem?_eq_getElem hjl]
        exact hj.symm
      rw [hu]
      exact keepc hba (by simpa [Kd.string, Kd.scalar] using h1)
    obtain ⟨v', w', hr, ho, hg⟩ := run_append_arg_grows (P := Try.prog) (w := W.alloc (.cells #[.string x] 9)) 33 33 9 i0 (.string ⟨#[]⟩) 1 16 Try.underlying33 hi0 hz0 hz1 hz2 rfl (by decide) ad st.length st.length (encs Value.string st) (by simp [encs]) hold ⟨W.heap.size, 0, none⟩ 1 1 [.string x] rfl hnew (by omega) (by simp [maxLen]; omega) (by omega)
    refine ⟨v', w', hr, Kd.R_of_own (own_weaken (by simpa [encs] using ho) (by omega)) (fun _ _ => trivial), ?_⟩
    exact hba.grown hg (by omega) (by simp)
theorem app_event {P : Program} {o : Oper} {a : Act} {W w1 : World} {s x : Operand} {t : TypeId} {v u v1 : Value} (ho : o.op = .call { callee := .builtin .append, args := #[s, x], argTypes := #[t, t] }) (hs : a.eval s = v) (hx : a.eval x = u) (hr : (Builtin.append_ #[t, t] o.type #[v, u]).run P W = .ok v1 w1) : (execOp a.eval o).run P W = .ok (.value v1) w1 := by
  unfold execOp
  simp only [ho, resolve, invoke, builtin, Sem.run_bind, Sem.run_pure, Result.andThen_ok, List.map_toArray, List.map_cons, List.map_nil, hs, hx, hr]
theorem fidx_neg {α : Type} (p : α → Bool) (l : List α) (h : fidx p l < 0) : fidx p l = -1 := by
  unfold fidx at h ⊢
  cases e : l.findIdx? p with
  | none => rfl
  | some i => rw [e] at h; simp only at h; omega
set_option maxHeartbeats 16000000 in
set_option maxRecDepth 100000 in
theorem model_stands.calls (A0_0 : Option Addr) (c0_0 : Nat) (l0_0 : List ByteArray) (A0_1 : Option Addr) (c0_1 : Nat) (l0_1 : List (S32)) (r : Bool) (w : World) (hr0_0 : Kd.C Kd.string w A0_0 l0_0.length l0_0) (hc0_0 : l0_0.length ≤ c0_0) (hr0_1 : Kd.C k32 w A0_1 l0_1.length l0_1) (hc0_1 : l0_1.length ≤ c0_1) (h : model_stands.f l0_0 l0_1 = some r) :
    Calls Try.prog 35 #[.agg #[.slice A0_0 l0_0.length c0_0, .slice A0_1 l0_1.length c0_1]] w fun e w' => e = .returned (.bool r) ∧ Below w.heap.size w w' := by
  obtain rfl := Option.some.inj h
  clear h
  have hu36 := Try.underlying36
  have hu32 := Try.underlying32
  have HR := Lib.hid (And.intro hr0_0 hr0_1)
  have hbig : l0_1.length ≤ 9223372036854775807 := hr0_1.2.1
  clear hr0_0 hr0_1
  obtain ⟨n, hn⟩ : ∃ n, n = l0_1.length := ⟨_, rfl⟩
  have HN := Lib.hid hn
  rw [← hn] at hc0_1 hbig ⊢
  clear hn
  go_enter Try.func35, Try.ntmps35
  go_wp2
  obtain ⟨W1, hW1⟩ : ∃ W1, W1 = w.alloc (.cells #[.slice A0_0 l0_0.length c0_0, .slice A0_1 n c0_1] 36) := ⟨_, rfl⟩
  have hb1 : Below w.heap.size w W1 := by rw [hW1]; exact below_alloc (Below.refl _ _) _
  have hm0 : W1.cell? ⟨w.heap.size, 0, none⟩ = some (.slice A0_0 l0_0.length c0_0) := by rw [hW1]; simp
  have hm1 : W1.cell? ⟨w.heap.size, 1, none⟩ = some (.slice A0_1 n c0_1) := by rw [hW1]; simp
  have hsz : W1.heap.size = w.heap.size + 1 := by rw [hW1]; simp
  rw [← hW1]
  have H1 := Lib.hid (And.intro hb1 (And.intro hm0 (And.intro hm1 hsz)))
  clear hW1 hb1 hm0 hm1 hsz
  go_loopg [3, 9] n (fun gg s3 s9 wr => ∃ (i : Nat) (v : Value) (st : List ByteArray), s9 = .int .i64 i ∧ s3 = v ∧ i ≤ n ∧ n - i ≤ gg ∧ Hid (stk l0_1 i = some st ∧ Kd.R Kd.string 9 wr W1.heap.size (fun _ => True) v st ∧ Below W1.heap.size W1 wr))
  case atStart => exact ⟨0, _, [], rfl, rfl, Nat.zero_le _, by omega, Lib.hid ⟨rfl, Kd.R_nil _ _ _ _ _, Below.refl _ _⟩⟩
  case round =>
    obtain ⟨i, v, st, rfl, rfl, hin, hig, X⟩ := hrel
    have hbw : Below w.heap.size w wr := below_then H1.out.1 H1.out.1.size X.out.2.2
    have HBW := Lib.hid hbw
    clear hbw
    by_cases hlt : i < n
    case neg =>
      have hltz : ¬ (i : Int) < (n : Int) := by omega
      obtain rfl : i = n := by omega
      have he : standsB l0_1 = true := by unfold standsB; rw [← HN.out, X.out.1]; rfl
      have HE := Lib.hid he
      clear he
      go_wp2
      go_ret
      exact ⟨by rw [HE.out]; rfl, HBW.out⟩
    have hltz : (i : Int) < (n : Int) := by omega
    obtain ⟨ad, B5, d5, B6, d6, e, hx0, hx1, hx2, hx3, hx4, hx5, hx6, _, _, _, _⟩ := at_T32 HR.out.2 (i : Int) (by omega) (by have := HN.out; omega)
    cases e
    simp only [Int.toNat_natCast] at hx0 hx1 hx2 hx3 hx4 hx5 hx6
    obtain ⟨x, hx⟩ : ∃ x, x = rd_T32 l0_1 (i : Int) := ⟨_, rfl⟩
    rw [← hx] at hx0 hx1 hx2 hx3 hx4 hx5 hx6
    have HX := Lib.hid hx
    clear hx
    replace hx0 := keepc HBW.out hx0
    replace hx1 := keepc HBW.out hx1
    replace hx2 := keepc HBW.out hx2
    replace hx3 := keepc HBW.out hx3
    replace hx4 := keepc HBW.out hx4
    replace hx5 := keepc HBW.out hx5
    replace hx6 := keepc HBW.out hx6
    obtain ⟨st1, st2, st3, st4⟩ := stk_facts l0_1 i (by have := HN.out; omega) st X.out.1
    have HS := Lib.hid (And.intro st1 (And.intro st2 (And.intro st3 st4)))
    clear st1 st2 st3 st4
    obtain ⟨A, cc, rfl, hlc, hCst⟩ := Kd.R_reads X.out.2.1
    have HC := Lib.hid hCst
    clear hCst
    have hsl : (st.length : Int) ≤ 6 := by have := HS.out.1; omega
    -- the world behind the box of x, and what it holds
    have key : ∃ W2, W2 = wr.alloc (.cells #[.string x.f0, .int .i64 x.f1, .string x.f2, .bool x.f3, .int .i64 x.f4, .slice B5 x.f5.length d5, .slice B6 x.f6.length d6] 32) ∧ Below wr.heap.size wr W2 ∧ W2.cell? ⟨wr.heap.size, 0, none⟩ = some (.string x.f0) ∧ W2.cell? ⟨wr.heap.size, 2, none⟩ = some (.string x.f2) := ⟨_, rfl, below_alloc (Below.refl _ _) _, by simp, by simp⟩
    obtain ⟨W2, hW2, hb2, hid0, hp2⟩ := key
    have hlo : w.heap.size + 1 ≤ wr.heap.size := by have := X.out.2.2.size; have := H1.out.2.2.2; omega
    have hm0 : W2.cell? ⟨w.heap.size, 0, none⟩ = some (.slice A0_0 l0_0.length c0_0) := keepc hb2 ((X.out.2.2.cell (p := ⟨_, _, none⟩) (by simp only; have := H1.out.2.2.2; omega)).trans H1.out.2.1)
    have hm1 : W2.cell? ⟨w.heap.size, 1, none⟩ = some (.slice (some ad) n c0_1) := keepc hb2 ((X.out.2.2.cell (p := ⟨_, _, none⟩) (by simp only; have := H1.out.2.2.2; omega)).trans H1.out.2.2.1)
    have hbw2 : Below w.heap.size w W2 := keepb hb2 HBW.out
    have F2 := Lib.hid (And.intro hb2 (And.intro hm0 (And.intro hm1 (And.intro hbw2 (And.intro hid0 hp2)))))
    have HW2 := Lib.hid hW2
    clear hb2 hid0 hp2 hm0 hm1 hbw2 hW2
    by_cases hi0 : i = 0
    · have hnp : ¬ 0 < i := by omega
      have HI := Lib.hid hi0
      clear hi0
      obtain ⟨m, hm⟩ : ∃ m, m = st.length := ⟨_, rfl⟩
      have HM := Lib.hid hm
      rw [← hm] at hlc hsl ⊢
      clear hm
      have hm6 : m ≤ cc := hlc
      have hmz : (0 : Int) ≤ (m : Int) := by omega
      have hmc : (m : Int) ≤ (cc : Int) := by omega
      go_wp2
      rw [← HW2.out]
      clear hx0 hx1 hx2 hx3 hx4 hx5 hx6
      obtain ⟨W5, hW5⟩ : ∃ W, W = W2 := ⟨_, rfl⟩
      have hid0 : W5.cell? ⟨wr.heap.size, 0, none⟩ = some (.string x.f0) := by rw [hW5]; exact F2.out.2.2.2.2.1
      have hb5 : Below wr.heap.size wr W5 := by rw [hW5]; exact F2.out.1
      rw [← hW5]
      clear hW5
      have happ := fun (W6 : World) (h6 : Below W5.heap.size W5 W6) => append_full W1.heap.size W6 A st x.f0 (Kd.C_below (Kd.C_below HC.out hb5) h6) (by have := HS.out.1; omega) (by have := X.out.2.2.size; have := hb5.size; have := h6.size; omega)
      rw [← HM.out] at happ
      refine start_ (n := 11) (S := fun w' => w'.cell? ⟨wr.heap.size, 0, none⟩ = some (.string x.f0) ∧ Below W5.heap.size W5 w') (ds := []) #[false, false, false, false, false, false, false, false, false, false, false] (by kernel_rfl) rfl rfl ⟨hid0, below_drew1 (Below.refl _ _)⟩ (fun hHeld => ?_)
      generalize W5.drew = W6 at hHeld ⊢
      refine pure_ (i := 0) (N := (some 43)) (v := ?_) (a' := ?_) #[true, false, false, false, false, false, false, false, false, false, false] rfl rfl (by kernel_rfl) (fun _ _ _ h => h) (Or.inl ⟨by rfl, ?_⟩) ?_ ?_
      rotate_left
      · intro w'
        go_simp
        with_reducible rfl
      rotate_left
      · simp only [Act.put, List.setIfInBounds_toArray, List.set_cons_zero, List.set_cons_succ, i64_w, i32_w]
        rfl
      refine pure_ (i := 1) (N := (some 44)) (v := ?_) (a' := ?_) #[true, true, false, false, false, false, false, false, false, false, false] rfl rfl (by kernel_rfl) (fun _ _ _ h => h) (Or.inl ⟨by rfl, ?_⟩) ?_ ?_
      rotate_left
      · intro w'
        go_simp
        with_reducible rfl
      rotate_left
      · simp only [Act.put, List.setIfInBounds_toArray, List.set_cons_zero, List.set_cons_succ, i64_w, i32_w]
        rfl
      refine pure_ (i := 2) (N := (some 45)) (v := ?_) (a' := ?_) #[true, true, true, false, false, false, false, false, false, false, false] rfl rfl (by kernel_rfl) (fun _ _ _ h => h) (Or.inl ⟨by rfl, ?_⟩) ?_ ?_
      rotate_left
      · intro w'
        go_simp
        with_reducible rfl
      rotate_left
      · simp only [Act.put, List.setIfInBounds_toArray, List.set_cons_zero, List.set_cons_succ, i64_w, i32_w]
        rfl
      refine pure_ (i := 3) (N := (some 46)) (v := ?_) (a' := ?_) #[true, true, true, true, false, false, false, false, false, false, false] rfl rfl (by kernel_rfl) (fun _ _ _ h => h) (Or.inl ⟨by rfl, ?_⟩) ?_ ?_
      rotate_left
      · intro w'
        go_simp
        with_reducible rfl
      rotate_left
      · simp only [Act.put, List.setIfInBounds_toArray, List.set_cons_zero, List.set_cons_succ, i64_w, i32_w]
        rfl
      refine pure_ (i := 4) (N := (some 47)) (v := ?_) (a' := ?_) #[true, true, true, true, true, false, false, false, false, false, false] rfl rfl (by kernel_rfl) (fun _ _ _ h => h) (Or.inl ⟨by rfl, ?_⟩) ?_ ?_
      rotate_left
      · intro w'
        go_simp
        with_reducible rfl
      rotate_left
      · simp only [Act.put, List.setIfInBounds_toArray, List.set_cons_zero, List.set_cons_succ, i64_w, i32_w]
        rfl
      refine pure_ (i := 5) (N := (some 48)) (v := ?_) (a' := ?_) #[true, true, true, true, true, true, false, false, false, false, false] rfl rfl (by kernel_rfl) (fun _ _ _ h => h) (Or.inl ⟨by rfl, ?_⟩) ?_ ?_
      rotate_left
      · intro w'
        go_simp
        with_reducible rfl
      rotate_left
      · simp only [Act.put, List.setIfInBounds_toArray, List.set_cons_zero, List.set_cons_succ, i64_w, i32_w]
        rfl
      refine pure_ (i := 6) (N := (some 49)) (v := ?_) (a' := ?_) #[true, true, true, true, true, true, true, false, false, false, false] rfl rfl (by kernel_rfl) (fun _ _ _ h => h) (Or.inl ⟨by rfl, ?_⟩) ?_ ?_
      rotate_left
      · intro w'
        go_simp
        with_reducible rfl
      rotate_left
      · simp only [Act.put, List.setIfInBounds_toArray, List.set_cons_zero, List.set_cons_succ, i64_w, i32_w]
        rfl
      refine take_ (i := 7) (N := (some 50)) (v := ?_) (a' := ?_) #[true, true, true, true, true, true, true, true, false, false, false] rfl rfl (by kernel_rfl) (fun _ _ _ h => h) (Or.inl ⟨by rfl, ?_⟩) hHeld ?_ ?_
      rotate_left
      · rintro w' ⟨s0, _⟩
        go_simp
        with_reducible rfl
      rotate_left
      · simp only [Act.put, List.setIfInBounds_toArray, List.set_cons_zero, List.set_cons_succ, i64_w, i32_w]
        rfl
      refine one_ (i := 8) (N := some 51) #[true, true, true, true, true, true, true, true, true, false, false] rfl rfl (by kernel_rfl) (by decide) (fun K hK => ?_)
      refine event_step (by rfl) (v := .slice (some ⟨W6.heap.size, 0, none⟩) 1 1) (w1 := W6.alloc (.cells #[.string x.f0] 9)) ?_ ?_
      · go_simp
      refine hK.out _ _ ⟨keepc (below_alloc (Below.refl _ _) _) hHeld.1, keepb (below_alloc (Below.refl _ _) _) hHeld.2⟩ (fun hHeld2 => ?_)
      clear hK K
      refine norm_ (a' := ?_) ?_ ?_
      rotate_left
      · show Act.put _ (some 51) _ = _
        simp only [Act.put, List.setIfInBounds_toArray, List.set_cons_zero, List.set_cons_succ, i64_w, i32_w]
        rfl
      obtain ⟨v9, w9, hrun9, hR9, hB9⟩ := happ W6 hHeld.2
      refine one_ (i := 9) (N := some 52) #[true, true, true, true, true, true, true, true, true, true, false] rfl rfl (by kernel_rfl) (by decide) (fun K hK => ?_)
      refine event_step (by rfl) (v := v9) (w1 := w9) ?_ ?_
      · exact app_event rfl rfl rfl hrun9
      refine hK.out _ _ ⟨keepc hB9 hHeld.1, keepb hB9 hHeld.2⟩ (fun hHeld3 => ?_)
      clear hK K
      refine norm_ (a' := ?_) ?_ ?_
      rotate_left
      · show Act.put _ (some 52) _ = _
        simp only [Act.put, List.setIfInBounds_toArray, List.set_cons_zero, List.set_cons_succ, i64_w, i32_w]
        rfl
      refine pure_ (i := 10) (N := some 3) (v := ?_) (a' := ?_) #[true, true, true, true, true, true, true, true, true, true, true] rfl rfl (by kernel_rfl) (fun _ _ _ h => h) (Or.inl ⟨by rfl, ?_⟩) ?_ ?_
      rotate_left
      · intro w'
        go_simp
        with_reducible rfl
      rotate_left
      · simp only [Act.put, List.setIfInBounds_toArray, List.set_cons_zero, List.set_cons_succ, i64_w, i32_w]
        rfl
      refine done_ (by kernel_rfl) ?_
      have hnext : stk l0_1 (i + 1) = some (st ++ [x.f0]) := by
        show (stk l0_1 i).bind _ = _
        rw [X.out.1]
        show stkStep l0_1 i st = _
        unfold stkStep
        rw [if_pos HI.out, ← HX.out]
      have hbe : Below W1.heap.size W1 w9 := below_then (below_then X.out.2.2 X.out.2.2.size hb5) (below_then X.out.2.2 X.out.2.2.size hb5).size hHeld3.2
      have XX := Lib.hid (And.intro hnext (And.intro hR9 hbe))
      clear hnext hbe hHeld hHeld2 hHeld3 hrun9 hR9 hB9 happ hid0
      go_wp2
      go_roundg (n - (i + 1))
      case measure => omega
      case rel => exact ⟨i + 1, v9, st ++ [x.f0], by go_num, rfl, by omega, by omega, XX⟩
    · have hipos : 0 < i := by omega
      clear hi0
      have hidx := slices_Index_string_string.calls (st.length + 1) A cc st x.f2 _ W2 (Kd.C_below HC.out F2.out.1) hlc (index_eq st x.f2 (by have := HS.out.1; omega) (st.length + 1) (by omega))
      by_cases hneg : fidx (idxP x.f2) st < 0
      · have e1 := fidx_neg _ _ hneg
        have he : standsB l0_1 = false := stk_false l0_1 i (by have := HN.out; omega) st X.out.1 (by
          unfold stkStep
          rw [if_neg (by omega), ← HX.out, e1]
          simp)
        have HE := Lib.hid he
        rw [e1] at hidx
        clear e1 hneg he
        go_wp2_with fail
        rw [← HW2.out]
        clear hx0 hx1 hx2 hx3 hx4 hx5 hx6
        refine hidx.mono ?_
        rintro e w3 ⟨rfl, ⟨nd, rfl⟩⟩
        obtain ⟨W3, hW3⟩ : ∃ W, W = W2.drewN nd := ⟨_, rfl⟩
        have hb3 : Below W2.heap.size W2 W3 := by rw [hW3]; exact pw_below_drewN (Below.refl _ _) _
        rw [← hW3]
        clear hW3
        have hm0 := keepc hb3 F2.out.2.1
        have hm1 := keepc hb3 F2.out.2.2.1
        have hp2 := keepc hb3 F2.out.2.2.2.2.2
        have hbw3 := keepb hb3 F2.out.2.2.2.1
        have HB3 := Lib.hid hbw3
        clear hidx hb3 hbw3
        go_wp2
        refine start_ (n := 20) (S := fun w' => (w'.cell? ⟨w.heap.size, 0, none⟩ = some (.slice A0_0 l0_0.length c0_0) ∧ w'.cell? ⟨w.heap.size, 1, none⟩ = some (.slice (some ad) n c0_1) ∧ w'.cell? ⟨wr.heap.size, 2, none⟩ = some (.string x.f2)) ∧ Below W3.heap.size W3 w') (ds := []) #[false, false, false, false, false, false, false, false, false, false, false, false, false, false, false, false, false, false, false, false] (by kernel_rfl) rfl rfl ⟨⟨hm0, hm1, hp2⟩, below_drew1 (Below.refl _ _)⟩ (fun hHeld => ?_)
        generalize W3.drew = W4 at hHeld ⊢
        refine pure_ (i := 0) (N := (some 23)) (v := ?_) (a' := ?_) #[true, false, false, false, false, false, false, false, false, false, false, false, false, false, false, false, false, false, false, false] rfl rfl (by kernel_rfl) (fun _ _ _ h => h) (Or.inl ⟨by rfl, ?_⟩) ?_ ?_
        rotate_left
        · intro w'
          go_simp
          with_reducible rfl
        rotate_left
        · simp only [Act.put, List.setIfInBounds_toArray, List.set_cons_zero, List.set_cons_succ, i64_w, i32_w]
          rfl
        refine pure_ (i := 1) (N := (some 24)) (v := ?_) (a' := ?_) #[true, true, false, false, false, false, false, false, false, false, false, false, false, false, false, false, false, false, false, false] rfl rfl (by kernel_rfl) (fun _ _ _ h => h) (Or.inl ⟨by rfl, ?_⟩) ?_ ?_
        rotate_left
        · intro w'
          go_simp
          with_reducible rfl
        rotate_left
        · simp only [Act.put, List.setIfInBounds_toArray, List.set_cons_zero, List.set_cons_succ, i64_w, i32_w]
          rfl
        refine pure_ (i := 2) (N := (some 25)) (v := ?_) (a' := ?_) #[true, true, true, false, false, false, false, false, false, false, false, false, false, false, false, false, false, false, false, false] rfl rfl (by kernel_rfl) (fun _ _ _ h => h) (Or.inl ⟨by rfl, ?_⟩) ?_ ?_
        rotate_left
        · intro w'
          go_simp
          with_reducible rfl
        rotate_left
        · simp only [Act.put, List.setIfInBounds_toArray, List.set_cons_zero, List.set_cons_succ, i64_w, i32_w]
          rfl
        refine pure_ (i := 3) (N := (some 26)) (v := ?_) (a' := ?_) #[true, true, true, true, false, false, false, false, false, false, false, false, false, false, false, false, false, false, false, false] rfl rfl (by kernel_rfl) (fun _ _ _ h => h) (Or.inl ⟨by rfl, ?_⟩) ?_ ?_
        rotate_left
        · intro w'
          go_simp
          with_reducible rfl
        rotate_left
        · simp only [Act.put, List.setIfInBounds_toArray, List.set_cons_zero, List.set_cons_succ, i64_w, i32_w]
          rfl
        refine pure_ (i := 4) (N := (some 27)) (v := undef) (a' := ?_) #[true, true, true, true, true, false, false, false, false, false, false, false, false, false, false, false, false, false, false, false] rfl rfl (by kernel_rfl) (fun _ _ _ h => h) (Or.inr ⟨by rfl, rfl⟩) ?_ ?_
        rotate_left
        · simp only [Act.put, List.setIfInBounds_toArray, List.set_cons_zero, List.set_cons_succ, i64_w, i32_w]
          rfl
        refine pure_ (i := 5) (N := (some 28)) (v := undef) (a' := ?_) #[true, true, true, true, true, true, false, false, false, false, false, false, false, false, false, false, false, false, false, false] rfl rfl (by kernel_rfl) (fun _ _ _ h => h) (Or.inr ⟨by rfl, rfl⟩) ?_ ?_
        rotate_left
        · simp only [Act.put, List.setIfInBounds_toArray, List.set_cons_zero, List.set_cons_succ, i64_w, i32_w]
          rfl
        refine pure_ (i := 6) (N := (some 29)) (v := undef) (a' := ?_) #[true, true, true, true, true, true, true, false, false, false, false, false, false, false, false, false, false, false, false, false] rfl rfl (by kernel_rfl) (fun _ _ _ h => h) (Or.inr ⟨by rfl, rfl⟩) ?_ ?_
        rotate_left
        · simp only [Act.put, List.setIfInBounds_toArray, List.set_cons_zero, List.set_cons_succ, i64_w, i32_w]
          rfl
        refine pure_ (i := 7) (N := (some 30)) (v := ?_) (a' := ?_) #[true, true, true, true, true, true, true, true, false, false, false, false, false, false, false, false, false, false, false, false] rfl rfl (by kernel_rfl) (fun _ _ _ h => h) (Or.inl ⟨by rfl, ?_⟩) ?_ ?_
        rotate_left
        · intro w'
          go_simp
          with_reducible rfl
        rotate_left
        · simp only [Act.put, List.setIfInBounds_toArray, List.set_cons_zero, List.set_cons_succ, i64_w, i32_w]
          rfl
        refine pure_ (i := 8) (N := (some 31)) (v := ?_) (a' := ?_) #[true, true, true, true, true, true, true, true, true, false, false, false, false, false, false, false, false, false, false, false] rfl rfl (by kernel_rfl) (fun _ _ _ h => h) (Or.inl ⟨by rfl, ?_⟩) ?_ ?_
        rotate_left
        · intro w'
          go_simp
          with_reducible rfl
        rotate_left
        · simp only [Act.put, List.setIfInBounds_toArray, List.set_cons_zero, List.set_cons_succ, i64_w, i32_w]
          rfl
        refine pure_ (i := 9) (N := (some 32)) (v := undef) (a' := ?_) #[true, true, true, true, true, true, true, true, true, true, false, false, false, false, false, false, false, false, false, false] rfl rfl (by kernel_rfl) (fun _ _ _ h => h) (Or.inr ⟨by rfl, rfl⟩) ?_ ?_
        rotate_left
        · simp only [Act.put, List.setIfInBounds_toArray, List.set_cons_zero, List.set_cons_succ, i64_w, i32_w]
          rfl
        refine pure_ (i := 10) (N := (some 33)) (v := undef) (a' := ?_) #[true, true, true, true, true, true, true, true, true, true, true, false, false, false, false, false, false, false, false, false] rfl rfl (by kernel_rfl) (fun _ _ _ h => h) (Or.inr ⟨by rfl, rfl⟩) ?_ ?_
        rotate_left
        · simp only [Act.put, List.setIfInBounds_toArray, List.set_cons_zero, List.set_cons_succ, i64_w, i32_w]
          rfl
        refine pure_ (i := 11) (N := (some 34)) (v := undef) (a' := ?_) #[true, true, true, true, true, true, true, true, true, true, true, true, false, false, false, false, false, false, false, false] rfl rfl (by kernel_rfl) (fun _ _ _ h => h) (Or.inr ⟨by rfl, rfl⟩) ?_ ?_
        rotate_left
        · simp only [Act.put, List.setIfInBounds_toArray, List.set_cons_zero, List.set_cons_succ, i64_w, i32_w]
          rfl
        refine pure_ (i := 12) (N := (some 35)) (v := undef) (a' := ?_) #[true, true, true, true, true, true, true, true, true, true, true, true, true, false, false, false, false, false, false, false] rfl rfl (by kernel_rfl) (fun _ _ _ h => h) (Or.inr ⟨by rfl, rfl⟩) ?_ ?_
        rotate_left
        · simp only [Act.put, List.setIfInBounds_toArray, List.set_cons_zero, List.set_cons_succ, i64_w, i32_w]
          rfl
        refine pure_ (i := 13) (N := (some 36)) (v := undef) (a' := ?_) #[true, true, true, true, true, true, true, true, true, true, true, true, true, true, false, false, false, false, false, false] rfl rfl (by kernel_rfl) (fun _ _ _ h => h) (Or.inr ⟨by rfl, rfl⟩) ?_ ?_
        rotate_left
        · simp only [Act.put, List.setIfInBounds_toArray, List.set_cons_zero, List.set_cons_succ, i64_w, i32_w]
          rfl
        refine pure_ (i := 14) (N := (some 37)) (v := undef) (a' := ?_) #[true, true, true, true, true, true, true, true, true, true, true, true, true, true, true, false, false, false, false, false] rfl rfl (by kernel_rfl) (fun _ _ _ h => h) (Or.inr ⟨by rfl, rfl⟩) ?_ ?_
        rotate_left
        · simp only [Act.put, List.setIfInBounds_toArray, List.set_cons_zero, List.set_cons_succ, i64_w, i32_w]
          rfl
        refine pure_ (i := 15) (N := (some 38)) (v := undef) (a' := ?_) #[true, true, true, true, true, true, true, true, true, true, true, true, true, true, true, true, false, false, false, false] rfl rfl (by kernel_rfl) (fun _ _ _ h => h) (Or.inr ⟨by rfl, rfl⟩) ?_ ?_
        rotate_left
        · simp only [Act.put, List.setIfInBounds_toArray, List.set_cons_zero, List.set_cons_succ, i64_w, i32_w]
          rfl
        refine pure_ (i := 16) (N := (some 39)) (v := undef) (a' := ?_) #[true, true, true, true, true, true, true, true, true, true, true, true, true, true, true, true, true, false, false, false] rfl rfl (by kernel_rfl) (fun _ _ _ h => h) (Or.inr ⟨by rfl, rfl⟩) ?_ ?_
        rotate_left
        · simp only [Act.put, List.setIfInBounds_toArray, List.set_cons_zero, List.set_cons_succ, i64_w, i32_w]
          rfl
        refine pure_ (i := 17) (N := (some 40)) (v := undef) (a' := ?_) #[true, true, true, true, true, true, true, true, true, true, true, true, true, true, true, true, true, true, false, false] rfl rfl (by kernel_rfl) (fun _ _ _ h => h) (Or.inr ⟨by rfl, rfl⟩) ?_ ?_
        rotate_left
        · simp only [Act.put, List.setIfInBounds_toArray, List.set_cons_zero, List.set_cons_succ, i64_w, i32_w]
          rfl
        refine pure_ (i := 18) (N := (some 41)) (v := undef) (a' := ?_) #[true, true, true, true, true, true, true, true, true, true, true, true, true, true, true, true, true, true, true, false] rfl rfl (by kernel_rfl) (fun _ _ _ h => h) (Or.inr ⟨by rfl, rfl⟩) ?_ ?_
        rotate_left
        · simp only [Act.put, List.setIfInBounds_toArray, List.set_cons_zero, List.set_cons_succ, i64_w, i32_w]
          rfl
        refine pure_ (i := 19) (N := (some 42)) (v := ?_) (a' := ?_) #[true, true, true, true, true, true, true, true, true, true, true, true, true, true, true, true, true, true, true, true] rfl rfl (by kernel_rfl) (fun _ _ _ h => h) (Or.inl ⟨by rfl, ?_⟩) ?_ ?_
        rotate_left
        · intro w'
          go_simp
          with_reducible rfl
        rotate_left
        · simp only [Act.put, List.setIfInBounds_toArray, List.set_cons_zero, List.set_cons_succ, i64_w, i32_w]
          rfl
        refine done_ (by kernel_rfl) ?_
        have hfin := keepb hHeld.2 HB3.out
        have HF := Lib.hid hfin
        clear hHeld hfin
        go_wp2
        go_ret
        exact ⟨by rw [HE.out]; rfl, HF.out⟩
      · obtain ⟨j, hj⟩ : ∃ j : Nat, fidx (idxP x.f2) st = j := ⟨(fidx (idxP x.f2) st).toNat, by omega⟩
        obtain ⟨hjl, hpl0⟩ := stk_hit l0_1 x.f2 st HS.out.2.2.2 j hj
        rw [hj] at hidx
        have HJ := Lib.hid hj
        clear hj hneg
        have htk : (st.take (fidx (idxP x.f2) st + 1).toNat) = st.take (j + 1) := by rw [HJ.out]; congr 1
        have hlen : (st.take (j + 1)).length = j + 1 := by rw [List.length_take]; omega
        have HT := Lib.hid (And.intro htk hlen)
        clear htk hlen
        have hj0 : (0 : Int) ≤ (j : Int) := by omega
        have hj6 : (j : Int) < 6 := by have := HS.out.1; omega
        have hjs : j + 1 ≤ st.length := by omega
        have hjs2 : (j : Int) + 1 ≤ (st.length : Int) := by omega
        have hjc : j + 1 ≤ cc := by omega
        have hjc2 : (j : Int) + 1 ≤ (cc : Int) := by omega
        have hd0 : ((j : Int) + 1 == 0) = false := by
          have : (j : Int) + 1 ≠ 0 := by omega
          simpa using this
        go_wp2_with fail
        rw [← HW2.out]
        clear hx0 hx1 hx2 hx3 hx4 hx5 hx6
        refine hidx.mono ?_
        rintro e w3 ⟨rfl, ⟨nd, rfl⟩⟩
        obtain ⟨W3, hW3⟩ : ∃ W, W = W2.drewN nd := ⟨_, rfl⟩
        have hb3 : Below W2.heap.size W2 W3 := by rw [hW3]; exact pw_below_drewN (Below.refl _ _) _
        rw [← hW3]
        clear hW3
        have hm0 := keepc hb3 F2.out.2.1
        have hm1 := keepc hb3 F2.out.2.2.1
        have hp2 := keepc hb3 F2.out.2.2.2.2.2
        have hbw3 := keepb hb3 F2.out.2.2.2.1
        have HB3 := Lib.hid (And.intro hb3 hbw3)
        clear hidx hb3
        go_wp2
        by_cases h5 : 5 < j + 1
        · have hd5 : decide (5 < (j : Int) + 1) = true := decide_eq_true (by omega)
          have he : standsB l0_1 = false := stk_false l0_1 i (by have := HN.out; omega) st X.out.1 (by
            unfold stkStep
            rw [if_neg (by omega), ← HX.out]
            simp only
            rw [HT.out.1, HT.out.2, if_pos (.inr (.inl h5))])
          have HE := Lib.hid he
          clear he
          refine start_ (n := 20) (S := fun w' => (w'.cell? ⟨w.heap.size, 0, none⟩ = some (.slice A0_0 l0_0.length c0_0) ∧ w'.cell? ⟨w.heap.size, 1, none⟩ = some (.slice (some ad) n c0_1) ∧ w'.cell? ⟨wr.heap.size, 2, none⟩ = some (.string x.f2)) ∧ Below W3.heap.size W3 w') (ds := []) #[false, false, false, false, false, false, false, false, false, false, false, false, false, false, false, false, false, false, false, false] (by kernel_rfl) rfl rfl ⟨⟨hm0, hm1, hp2⟩, below_drew1 (Below.refl _ _)⟩ (fun hHeld => ?_)
          generalize W3.drew = W4 at hHeld ⊢
          refine pure_ (i := 0) (N := (some 23)) (v := ?_) (a' := ?_) #[true, false, false, false, false, false, false, false, false, false, false, false, false, false, false, false, false, false, false, false] rfl rfl (by kernel_rfl) (fun _ _ _ h => h) (Or.inl ⟨by rfl, ?_⟩) ?_ ?_
          rotate_left
          · intro w'
            go_simp
            with_reducible rfl
          rotate_left
          · simp only [Act.put, List.setIfInBounds_toArray, List.set_cons_zero, List.set_cons_succ, i64_w, i32_w]
            rfl
          refine pure_ (i := 1) (N := (some 24)) (v := ?_) (a' := ?_) #[true, true, false, false, false, false, false, false, false, false, false, false, false, false, false, false, false, false, false, false] rfl rfl (by kernel_rfl) (fun _ _ _ h => h) (Or.inl ⟨by rfl, ?_⟩) ?_ ?_
          rotate_left
          · intro w'
            go_simp
            with_reducible rfl
          rotate_left
          · simp only [Act.put, List.setIfInBounds_toArray, List.set_cons_zero, List.set_cons_succ, i64_w, i32_w]
            rfl
          refine pure_ (i := 2) (N := (some 25)) (v := ?_) (a' := ?_) #[true, true, true, false, false, false, false, false, false, false, false, false, false, false, false, false, false, false, false, false] rfl rfl (by kernel_rfl) (fun _ _ _ h => h) (Or.inl ⟨by rfl, ?_⟩) ?_ ?_
          rotate_left
          · intro w'
            go_simp
            with_reducible rfl
          rotate_left
          · simp only [Act.put, List.setIfInBounds_toArray, List.set_cons_zero, List.set_cons_succ, i64_w, i32_w]
            rfl
          refine pure_ (i := 3) (N := (some 26)) (v := ?_) (a' := ?_) #[true, true, true, true, false, false, false, false, false, false, false, false, false, false, false, false, false, false, false, false] rfl rfl (by kernel_rfl) (fun _ _ _ h => h) (Or.inl ⟨by rfl, ?_⟩) ?_ ?_
          rotate_left
          · intro w'
            go_simp
            with_reducible rfl
          rotate_left
          · simp only [Act.put, List.setIfInBounds_toArray, List.set_cons_zero, List.set_cons_succ, i64_w, i32_w]
            rfl
          refine pure_ (i := 4) (N := (some 27)) (v := ?_) (a' := ?_) #[true, true, true, true, true, false, false, false, false, false, false, false, false, false, false, false, false, false, false, false] rfl rfl (by kernel_rfl) (fun _ _ _ h => h) (Or.inl ⟨by rfl, ?_⟩) ?_ ?_
          rotate_left
          · intro w'
            go_simp
            with_reducible rfl
          rotate_left
          · simp only [Act.put, List.setIfInBounds_toArray, List.set_cons_zero, List.set_cons_succ, i64_w, i32_w]
            rfl
          refine pure_ (i := 5) (N := (some 28)) (v := ?_) (a' := ?_) #[true, true, true, true, true, true, false, false, false, false, false, false, false, false, false, false, false, false, false, false] rfl rfl (by kernel_rfl) (fun _ _ _ h => h) (Or.inl ⟨by rfl, ?_⟩) ?_ ?_
          rotate_left
          · intro w'
            go_simp
            with_reducible rfl
          rotate_left
          · simp only [Act.put, List.setIfInBounds_toArray, List.set_cons_zero, List.set_cons_succ, i64_w, i32_w]
            rfl
          refine pure_ (i := 6) (N := (some 29)) (v := ?_) (a' := ?_) #[true, true, true, true, true, true, true, false, false, false, false, false, false, false, false, false, false, false, false, false] rfl rfl (by kernel_rfl) (fun _ _ _ h => h) (Or.inl ⟨by rfl, ?_⟩) ?_ ?_
          rotate_left
          · intro w'
            go_simp
            with_reducible rfl
          rotate_left
          · simp only [Act.put, List.setIfInBounds_toArray, List.set_cons_zero, List.set_cons_succ, i64_w, i32_w]
            rfl
          refine pure_ (i := 7) (N := (some 30)) (v := ?_) (a' := ?_) #[true, true, true, true, true, true, true, true, false, false, false, false, false, false, false, false, false, false, false, false] rfl rfl (by kernel_rfl) (fun _ _ _ h => h) (Or.inl ⟨by rfl, ?_⟩) ?_ ?_
          rotate_left
          · intro w'
            go_simp
            with_reducible rfl
          rotate_left
          · simp only [Act.put, List.setIfInBounds_toArray, List.set_cons_zero, List.set_cons_succ, i64_w, i32_w]
            rfl
          refine pure_ (i := 8) (N := (some 31)) (v := ?_) (a' := ?_) #[true, true, true, true, true, true, true, true, true, false, false, false, false, false, false, false, false, false, false, false] rfl rfl (by kernel_rfl) (fun _ _ _ h => h) (Or.inl ⟨by rfl, ?_⟩) ?_ ?_
          rotate_left
          · intro w'
            go_simp
            with_reducible rfl
          rotate_left
          · simp only [Act.put, List.setIfInBounds_toArray, List.set_cons_zero, List.set_cons_succ, i64_w, i32_w]
            rfl
          refine pure_ (i := 9) (N := (some 32)) (v := undef) (a' := ?_) #[true, true, true, true, true, true, true, true, true, true, false, false, false, false, false, false, false, false, false, false] rfl rfl (by kernel_rfl) (fun _ _ _ h => h) (Or.inr ⟨by rfl, rfl⟩) ?_ ?_
          rotate_left
          · simp only [Act.put, List.setIfInBounds_toArray, List.set_cons_zero, List.set_cons_succ, i64_w, i32_w]
            rfl
          refine pure_ (i := 10) (N := (some 33)) (v := undef) (a' := ?_) #[true, true, true, true, true, true, true, true, true, true, true, false, false, false, false, false, false, false, false, false] rfl rfl (by kernel_rfl) (fun _ _ _ h => h) (Or.inr ⟨by rfl, rfl⟩) ?_ ?_
          rotate_left
          · simp only [Act.put, List.setIfInBounds_toArray, List.set_cons_zero, List.set_cons_succ, i64_w, i32_w]
            rfl
          refine pure_ (i := 11) (N := (some 34)) (v := undef) (a' := ?_) #[true, true, true, true, true, true, true, true, true, true, true, true, false, false, false, false, false, false, false, false] rfl rfl (by kernel_rfl) (fun _ _ _ h => h) (Or.inr ⟨by rfl, rfl⟩) ?_ ?_
          rotate_left
          · simp only [Act.put, List.setIfInBounds_toArray, List.set_cons_zero, List.set_cons_succ, i64_w, i32_w]
            rfl
          refine pure_ (i := 12) (N := (some 35)) (v := undef) (a' := ?_) #[true, true, true, true, true, true, true, true, true, true, true, true, true, false, false, false, false, false, false, false] rfl rfl (by kernel_rfl) (fun _ _ _ h => h) (Or.inr ⟨by rfl, rfl⟩) ?_ ?_
          rotate_left
          · simp only [Act.put, List.setIfInBounds_toArray, List.set_cons_zero, List.set_cons_succ, i64_w, i32_w]
            rfl
          refine pure_ (i := 13) (N := (some 36)) (v := undef) (a' := ?_) #[true, true, true, true, true, true, true, true, true, true, true, true, true, true, false, false, false, false, false, false] rfl rfl (by kernel_rfl) (fun _ _ _ h => h) (Or.inr ⟨by rfl, rfl⟩) ?_ ?_
          rotate_left
          · simp only [Act.put, List.setIfInBounds_toArray, List.set_cons_zero, List.set_cons_succ, i64_w, i32_w]
            rfl
          refine pure_ (i := 14) (N := (some 37)) (v := undef) (a' := ?_) #[true, true, true, true, true, true, true, true, true, true, true, true, true, true, true, false, false, false, false, false] rfl rfl (by kernel_rfl) (fun _ _ _ h => h) (Or.inr ⟨by rfl, rfl⟩) ?_ ?_
          rotate_left
          · simp only [Act.put, List.setIfInBounds_toArray, List.set_cons_zero, List.set_cons_succ, i64_w, i32_w]
            rfl
          refine pure_ (i := 15) (N := (some 38)) (v := undef) (a' := ?_) #[true, true, true, true, true, true, true, true, true, true, true, true, true, true, true, true, false, false, false, false] rfl rfl (by kernel_rfl) (fun _ _ _ h => h) (Or.inr ⟨by rfl, rfl⟩) ?_ ?_
          rotate_left
          · simp only [Act.put, List.setIfInBounds_toArray, List.set_cons_zero, List.set_cons_succ, i64_w, i32_w]
            rfl
          refine pure_ (i := 16) (N := (some 39)) (v := undef) (a' := ?_) #[true, true, true, true, true, true, true, true, true, true, true, true, true, true, true, true, true, false, false, false] rfl rfl (by kernel_rfl) (fun _ _ _ h => h) (Or.inr ⟨by rfl, rfl⟩) ?_ ?_
          rotate_left
          · simp only [Act.put, List.setIfInBounds_toArray, List.set_cons_zero, List.set_cons_succ, i64_w, i32_w]
            rfl
          refine pure_ (i := 17) (N := (some 40)) (v := undef) (a' := ?_) #[true, true, true, true, true, true, true, true, true, true, true, true, true, true, true, true, true, true, false, false] rfl rfl (by kernel_rfl) (fun _ _ _ h => h) (Or.inr ⟨by rfl, rfl⟩) ?_ ?_
          rotate_left
          · simp only [Act.put, List.setIfInBounds_toArray, List.set_cons_zero, List.set_cons_succ, i64_w, i32_w]
            rfl
          refine pure_ (i := 18) (N := (some 41)) (v := undef) (a' := ?_) #[true, true, true, true, true, true, true, true, true, true, true, true, true, true, true, true, true, true, true, false] rfl rfl (by kernel_rfl) (fun _ _ _ h => h) (Or.inr ⟨by rfl, rfl⟩) ?_ ?_
          rotate_left
          · simp only [Act.put, List.setIfInBounds_toArray, List.set_cons_zero, List.set_cons_succ, i64_w, i32_w]
            rfl
          refine pure_ (i := 19) (N := (some 42)) (v := ?_) (a' := ?_) #[true, true, true, true, true, true, true, true, true, true, true, true, true, true, true, true, true, true, true, true] rfl rfl (by kernel_rfl) (fun _ _ _ h => h) (Or.inl ⟨by rfl, ?_⟩) ?_ ?_
          rotate_left
          · intro w'
            go_simp
            with_reducible rfl
          rotate_left
          · simp only [Act.put, List.setIfInBounds_toArray, List.set_cons_zero, List.set_cons_succ, i64_w, i32_w]
            rfl
          refine done_ (by kernel_rfl) ?_
          have hfin := keepb hHeld.2 HB3.out.2
          have HF := Lib.hid hfin
          clear hHeld hfin hbw3
          go_wp2
          go_ret
          exact ⟨by rw [HE.out]; rfl, HF.out⟩
        · have hd5 : decide (5 < (j : Int) + 1) = false := decide_eq_false (by omega)
          obtain ⟨p, hp⟩ : ∃ p : Nat, placeI l0_1 x.f2 = p := ⟨(placeI l0_1 x.f2).toNat, by omega⟩
          have hpn : p < n := by have := placeI_lt l0_1 x.f2; have := HN.out; omega
          have hpl := fun (W : World) (hb : Below w.heap.size w W) => model_Place.calls A0_0 c0_0 l0_0 _ c0_1 l0_1 x.f2 _ W (Kd.C_below HR.out.1 hb) hc0_0 (Kd.C_below HR.out.2 hb) (by have := HN.out; omega) (show model_Place.f l0_0 l0_1 x.f2 = some (p : Int) by rw [← hp]; rfl)
          rw [← HN.out] at hpl
          obtain ⟨ad', _, _, _, _, e, _, hk1, _⟩ := at_T32 HR.out.2 (p : Int) (by omega) (by have := HN.out; omega)
          cases e
          simp only [Int.toNat_natCast] at hk1
          obtain ⟨y1, hy1⟩ : ∃ y, y = (rd_T32 l0_1 (p : Int)).f1 := ⟨_, rfl⟩
          rw [← hy1] at hk1
          have hky := keepc hbw3 hk1
          have HP := Lib.hid (And.intro hp hy1)
          have hpz : (0 : Int) ≤ (p : Int) := by omega
          have hpn2 : (p : Int) < (n : Int) := by omega
          clear hk1 hp hy1 hpl0
          refine start_ (n := 20) (S := fun w' => (w'.cell? ⟨w.heap.size, 0, none⟩ = some (.slice A0_0 l0_0.length c0_0) ∧ w'.cell? ⟨w.heap.size, 1, none⟩ = some (.slice (some ad) n c0_1) ∧ w'.cell? ⟨wr.heap.size, 2, none⟩ = some (.string x.f2) ∧ w'.cell? ⟨(ad.add (p * 7)).block, (ad.add (p * 7)).off + 1, none⟩ = some (.int .i64 y1)) ∧ Below W3.heap.size W3 w') (ds := []) #[false, false, false, false, false, false, false, false, false, false, false, false, false, false, false, false, false, false, false, false] (by kernel_rfl) rfl rfl ⟨⟨hm0, hm1, hp2, hky⟩, below_drew1 (Below.refl _ _)⟩ (fun hHeld => ?_)
          generalize W3.drew = W4 at hHeld ⊢
          refine pure_ (i := 0) (N := (some 23)) (v := ?_) (a' := ?_) #[true, false, false, false, false, false, false, false, false, false, false, false, false, false, false, false, false, false, false, false] rfl rfl (by kernel_rfl) (fun _ _ _ h => h) (Or.inl ⟨by rfl, ?_⟩) ?_ ?_
          rotate_left
          · intro w'
            go_simp
            with_reducible rfl
          rotate_left
          · simp only [Act.put, List.setIfInBounds_toArray, List.set_cons_zero, List.set_cons_succ, i64_w, i32_w]
            rfl
          refine pure_ (i := 1) (N := (some 24)) (v := ?_) (a' := ?_) #[true, true, false, false, false, false, false, false, false, false, false, false, false, false, false, false, false, false, false, false] rfl rfl (by kernel_rfl) (fun _ _ _ h => h) (Or.inl ⟨by rfl, ?_⟩) ?_ ?_
          rotate_left
          · intro w'
            go_simp
            with_reducible rfl
          rotate_left
          · simp only [Act.put, List.setIfInBounds_toArray, List.set_cons_zero, List.set_cons_succ, i64_w, i32_w]
            rfl
          refine pure_ (i := 2) (N := (some 25)) (v := ?_) (a' := ?_) #[true, true, true, false, false, false, false, false, false, false, false, false, false, false, false, false, false, false, false, false] rfl rfl (by kernel_rfl) (fun _ _ _ h => h) (Or.inl ⟨by rfl, ?_⟩) ?_ ?_
          rotate_left
          · intro w'
            go_simp
            with_reducible rfl
          rotate_left
          · simp only [Act.put, List.setIfInBounds_toArray, List.set_cons_zero, List.set_cons_succ, i64_w, i32_w]
            rfl
          refine pure_ (i := 3) (N := (some 26)) (v := ?_) (a' := ?_) #[true, true, true, true, false, false, false, false, false, false, false, false, false, false, false, false, false, false, false, false] rfl rfl (by kernel_rfl) (fun _ _ _ h => h) (Or.inl ⟨by rfl, ?_⟩) ?_ ?_
          rotate_left
          · intro w'
            go_simp
            with_reducible rfl
          rotate_left
          · simp only [Act.put, List.setIfInBounds_toArray, List.set_cons_zero, List.set_cons_succ, i64_w, i32_w]
            rfl
          refine pure_ (i := 4) (N := (some 27)) (v := ?_) (a' := ?_) #[true, true, true, true, true, false, false, false, false, false, false, false, false, false, false, false, false, false, false, false] rfl rfl (by kernel_rfl) (fun _ _ _ h => h) (Or.inl ⟨by rfl, ?_⟩) ?_ ?_
          rotate_left
          · intro w'
            go_simp
            with_reducible rfl
          rotate_left
          · simp only [Act.put, List.setIfInBounds_toArray, List.set_cons_zero, List.set_cons_succ, i64_w, i32_w]
            rfl
          refine pure_ (i := 5) (N := (some 28)) (v := ?_) (a' := ?_) #[true, true, true, true, true, true, false, false, false, false, false, false, false, false, false, false, false, false, false, false] rfl rfl (by kernel_rfl) (fun _ _ _ h => h) (Or.inl ⟨by rfl, ?_⟩) ?_ ?_
          rotate_left
          · intro w'
            go_simp
            with_reducible rfl
          rotate_left
          · simp only [Act.put, List.setIfInBounds_toArray, List.set_cons_zero, List.set_cons_succ, i64_w, i32_w]
            rfl
          refine pure_ (i := 6) (N := (some 29)) (v := ?_) (a' := ?_) #[true, true, true, true, true, true, true, false, false, false, false, false, false, false, false, false, false, false, false, false] rfl rfl (by kernel_rfl) (fun _ _ _ h => h) (Or.inl ⟨by rfl, ?_⟩) ?_ ?_
          rotate_left
          · intro w'
            go_simp
            with_reducible rfl
          rotate_left
          · simp only [Act.put, List.setIfInBounds_toArray, List.set_cons_zero, List.set_cons_succ, i64_w, i32_w]
            rfl
          refine pure_ (i := 7) (N := (some 30)) (v := ?_) (a' := ?_) #[true, true, true, true, true, true, true, true, false, false, false, false, false, false, false, false, false, false, false, false] rfl rfl (by kernel_rfl) (fun _ _ _ h => h) (Or.inl ⟨by rfl, ?_⟩) ?_ ?_
          rotate_left
          · intro w'
            go_simp
            with_reducible rfl
          rotate_left
          · simp only [Act.put, List.setIfInBounds_toArray, List.set_cons_zero, List.set_cons_succ, i64_w, i32_w]
            rfl
          refine pure_ (i := 8) (N := (some 31)) (v := ?_) (a' := ?_) #[true, true, true, true, true, true, true, true, true, false, false, false, false, false, false, false, false, false, false, false] rfl rfl (by kernel_rfl) (fun _ _ _ h => h) (Or.inl ⟨by rfl, ?_⟩) ?_ ?_
          rotate_left
          · intro w'
            go_simp
            with_reducible rfl
          rotate_left
          · simp only [Act.put, List.setIfInBounds_toArray, List.set_cons_zero, List.set_cons_succ, i64_w, i32_w]
            rfl
          refine pure_ (i := 9) (N := (some 32)) (v := ?_) (a' := ?_) #[true, true, true, true, true, true, true, true, true, true, false, false, false, false, false, false, false, false, false, false] rfl rfl (by kernel_rfl) (fun _ _ _ h => h) (Or.inl ⟨by rfl, ?_⟩) ?_ ?_
          rotate_left
          · intro w'
            go_simp
            with_reducible rfl
          rotate_left
          · simp only [Act.put, List.setIfInBounds_toArray, List.set_cons_zero, List.set_cons_succ, i64_w, i32_w]
            rfl
          refine take_ (i := 10) (N := (some 33)) (v := ?_) (a' := ?_) #[true, true, true, true, true, true, true, true, true, true, true, false, false, false, false, false, false, false, false, false] rfl rfl (by kernel_rfl) (fun _ _ _ h => h) (Or.inl ⟨by rfl, ?_⟩) hHeld ?_ ?_
          rotate_left
          · rintro w' ⟨⟨s0, s1, s2, s3⟩, _⟩
            go_simp
            with_reducible rfl
          rotate_left
          · simp only [Act.put, List.setIfInBounds_toArray, List.set_cons_zero, List.set_cons_succ, i64_w, i32_w]
            rfl
          refine take_ (i := 11) (N := (some 34)) (v := ?_) (a' := ?_) #[true, true, true, true, true, true, true, true, true, true, true, true, false, false, false, false, false, false, false, false] rfl rfl (by kernel_rfl) (fun _ _ _ h => h) (Or.inl ⟨by rfl, ?_⟩) hHeld ?_ ?_
          rotate_left
          · rintro w' ⟨⟨s0, s1, s2, s3⟩, _⟩
            go_simp
            with_reducible rfl
          rotate_left
          · simp only [Act.put, List.setIfInBounds_toArray, List.set_cons_zero, List.set_cons_succ, i64_w, i32_w]
            rfl
          refine pure_ (i := 12) (N := (some 35)) (v := ?_) (a' := ?_) #[true, true, true, true, true, true, true, true, true, true, true, true, true, false, false, false, false, false, false, false] rfl rfl (by kernel_rfl) (fun _ _ _ h => h) (Or.inl ⟨by rfl, ?_⟩) ?_ ?_
          rotate_left
          · intro w'
            go_simp
            with_reducible rfl
          rotate_left
          · simp only [Act.put, List.setIfInBounds_toArray, List.set_cons_zero, List.set_cons_succ, i64_w, i32_w]
            rfl
          refine take_ (i := 13) (N := (some 36)) (v := ?_) (a' := ?_) #[true, true, true, true, true, true, true, true, true, true, true, true, true, true, false, false, false, false, false, false] rfl rfl (by kernel_rfl) (fun _ _ _ h => h) (Or.inl ⟨by rfl, ?_⟩) hHeld ?_ ?_
          rotate_left
          · rintro w' ⟨⟨s0, s1, s2, s3⟩, _⟩
            go_simp
            with_reducible rfl
          rotate_left
          · simp only [Act.put, List.setIfInBounds_toArray, List.set_cons_zero, List.set_cons_succ, i64_w, i32_w]
            rfl
          refine one_ (i := 14) (N := (some 37)) #[true, true, true, true, true, true, true, true, true, true, true, true, true, true, true, false, false, false, false, false] rfl rfl (by kernel_rfl) (by decide) (fun K hK => ?_)
          refine goes_ Try.func19 (by kernel_rfl) rfl #[.agg #[.slice A0_0 l0_0.length c0_0, .slice (some ad) n c0_1], .string x.f2] (by rfl) rfl rfl (by (try simp only [List.map_toArray, List.map_cons, List.map_nil]); first | done | rfl) ?_
          with_reducible refine (hpl _ (keepb hHeld.2 hbw3)).mono ?_
          rintro e w' ⟨rfl, hb'⟩
          refine ⟨_, rfl, ?_⟩
          refine hK.out _ _ ⟨⟨keepc hb' hHeld.1.1, keepc hb' hHeld.1.2.1, keepc hb' hHeld.1.2.2.1, keepc hb' hHeld.1.2.2.2⟩, keepb hb' hHeld.2⟩ (fun hHeld => ?_)
          clear hK K
          refine norm_ (a' := ?_) ?_ ?_
          rotate_left
          · show Act.put _ (some 37) _ = _
            simp only [Act.put, List.setIfInBounds_toArray, List.set_cons_zero, List.set_cons_succ, i64_w, i32_w]
            rfl
          refine pure_ (i := 15) (N := (some 38)) (v := ?_) (a' := ?_) #[true, true, true, true, true, true, true, true, true, true, true, true, true, true, true, true, false, false, false, false] rfl rfl (by kernel_rfl) (fun _ _ _ h => h) (Or.inl ⟨by rfl, ?_⟩) ?_ ?_
          rotate_left
          · intro w'
            go_simp
            with_reducible rfl
          rotate_left
          · simp only [Act.put, List.setIfInBounds_toArray, List.set_cons_zero, List.set_cons_succ, i64_w, i32_w]
            rfl
          refine pure_ (i := 16) (N := (some 39)) (v := ?_) (a' := ?_) #[true, true, true, true, true, true, true, true, true, true, true, true, true, true, true, true, true, false, false, false] rfl rfl (by kernel_rfl) (fun _ _ _ h => h) (Or.inl ⟨by rfl, ?_⟩) ?_ ?_
          rotate_left
          · intro w'
            go_simp
            with_reducible rfl
          rotate_left
          · simp only [Act.put, List.setIfInBounds_toArray, List.set_cons_zero, List.set_cons_succ, i64_w, i32_w]
            rfl
          refine take_ (i := 17) (N := (some 40)) (v := ?_) (a' := ?_) #[true, true, true, true, true, true, true, true, true, true, true, true, true, true, true, true, true, true, false, false] rfl rfl (by kernel_rfl) (fun _ _ _ h => h) (Or.inl ⟨by rfl, ?_⟩) hHeld ?_ ?_
          rotate_left
          · rintro w' ⟨⟨s0, s1, s2, s3⟩, _⟩
            go_simp
            with_reducible rfl
          rotate_left
          · simp only [Act.put, List.setIfInBounds_toArray, List.set_cons_zero, List.set_cons_succ, i64_w, i32_w]
            rfl
          refine pure_ (i := 18) (N := (some 41)) (v := ?_) (a' := ?_) #[true, true, true, true, true, true, true, true, true, true, true, true, true, true, true, true, true, true, true, false] rfl rfl (by kernel_rfl) (fun _ _ _ h => h) (Or.inl ⟨by rfl, ?_⟩) ?_ ?_
          rotate_left
          · intro w'
            go_simp
            with_reducible rfl
          rotate_left
          · simp only [Act.put, List.setIfInBounds_toArray, List.set_cons_zero, List.set_cons_succ, i64_w, i32_w]
            rfl
          refine pure_ (i := 19) (N := (some 42)) (v := ?_) (a' := ?_) #[true, true, true, true, true, true, true, true, true, true, true, true, true, true, true, true, true, true, true, true] rfl rfl (by kernel_rfl) (fun _ _ _ h => h) (Or.inl ⟨by rfl, ?_⟩) ?_ ?_
          rotate_left
          · intro w'
            go_simp
            with_reducible rfl
          rotate_left
          · simp only [Act.put, List.setIfInBounds_toArray, List.set_cons_zero, List.set_cons_succ, i64_w, i32_w]
            rfl
          refine done_ (by kernel_rfl) ?_
          have HH := Lib.hid hHeld
          have hfin := keepb hHeld.2 HB3.out.2
          have HF := Lib.hid hfin
          clear hHeld hfin hbw3 hky hpl hm0 hm1 hp2 hd0 hd5 hjs hjs2 hpz hpn2
          by_cases hy : y1 = 1
          · have hyb : (y1 != 1) = false := by simp [hy]
            have HY := Lib.hid hy
            clear hy
            go_wp2
            obtain ⟨W5, hW5⟩ : ∃ W, W = w' := ⟨_, rfl⟩
            have hb5 : Below W2.heap.size W2 W5 := by rw [hW5]; exact below_then HB3.out.1 HB3.out.1.size HH.out.2
            have hb5' : Below wr.heap.size wr W5 := below_then F2.out.1 F2.out.1.size hb5
            have hid0 : W5.cell? ⟨wr.heap.size, 0, none⟩ = some (.string x.f0) := keepc hb5 F2.out.2.2.2.2.1
            rw [← hW5]
            clear hW5
            have happ := fun (W6 : World) (h6 : Below W5.heap.size W5 W6) => append_full W1.heap.size W6 A (st.take (j + 1)) x.f0 (Kd.C_below (Kd.C_below (Kd.C_take HC.out (by have := HT.out.2; rw [List.length_take] at this; omega)) hb5') h6) (by have := HT.out.2; omega) (by have := X.out.2.2.size; have := hb5'.size; have := h6.size; omega)
            rw [HT.out.2] at happ
            have hj1 : (0 : Int) ≤ (j : Int) + 1 := by omega
            refine start_ (n := 11) (S := fun w' => w'.cell? ⟨wr.heap.size, 0, none⟩ = some (.string x.f0) ∧ Below W5.heap.size W5 w') (ds := []) #[false, false, false, false, false, false, false, false, false, false, false] (by kernel_rfl) rfl rfl ⟨hid0, below_drew1 (Below.refl _ _)⟩ (fun hHeld => ?_)
            generalize W5.drew = W6 at hHeld ⊢
            refine pure_ (i := 0) (N := (some 43)) (v := ?_) (a' := ?_) #[true, false, false, false, false, false, false, false, false, false, false] rfl rfl (by kernel_rfl) (fun _ _ _ h => h) (Or.inl ⟨by rfl, ?_⟩) ?_ ?_
            rotate_left
            · intro w'
              go_simp
              with_reducible rfl
            rotate_left
            · simp only [Act.put, List.setIfInBounds_toArray, List.set_cons_zero, List.set_cons_succ, i64_w, i32_w]
              rfl
            refine pure_ (i := 1) (N := (some 44)) (v := ?_) (a' := ?_) #[true, true, false, false, false, false, false, false, false, false, false] rfl rfl (by kernel_rfl) (fun _ _ _ h => h) (Or.inl ⟨by rfl, ?_⟩) ?_ ?_
            rotate_left
            · intro w'
              go_simp
              with_reducible rfl
            rotate_left
            · simp only [Act.put, List.setIfInBounds_toArray, List.set_cons_zero, List.set_cons_succ, i64_w, i32_w]
              rfl
            refine pure_ (i := 2) (N := (some 45)) (v := ?_) (a' := ?_) #[true, true, true, false, false, false, false, false, false, false, false] rfl rfl (by kernel_rfl) (fun _ _ _ h => h) (Or.inl ⟨by rfl, ?_⟩) ?_ ?_
            rotate_left
            · intro w'
              go_simp
              with_reducible rfl
            rotate_left
            · simp only [Act.put, List.setIfInBounds_toArray, List.set_cons_zero, List.set_cons_succ, i64_w, i32_w]
              rfl
            refine pure_ (i := 3) (N := (some 46)) (v := ?_) (a' := ?_) #[true, true, true, true, false, false, false, false, false, false, false] rfl rfl (by kernel_rfl) (fun _ _ _ h => h) (Or.inl ⟨by rfl, ?_⟩) ?_ ?_
            rotate_left
            · intro w'
              go_simp
              with_reducible rfl
            rotate_left
            · simp only [Act.put, List.setIfInBounds_toArray, List.set_cons_zero, List.set_cons_succ, i64_w, i32_w]
              rfl
            refine pure_ (i := 4) (N := (some 47)) (v := ?_) (a' := ?_) #[true, true, true, true, true, false, false, false, false, false, false] rfl rfl (by kernel_rfl) (fun _ _ _ h => h) (Or.inl ⟨by rfl, ?_⟩) ?_ ?_
            rotate_left
            · intro w'
              go_simp
              with_reducible rfl
            rotate_left
            · simp only [Act.put, List.setIfInBounds_toArray, List.set_cons_zero, List.set_cons_succ, i64_w, i32_w]
              rfl
            refine pure_ (i := 5) (N := (some 48)) (v := ?_) (a' := ?_) #[true, true, true, true, true, true, false, false, false, false, false] rfl rfl (by kernel_rfl) (fun _ _ _ h => h) (Or.inl ⟨by rfl, ?_⟩) ?_ ?_
            rotate_left
            · intro w'
              go_simp
              with_reducible rfl
            rotate_left
            · simp only [Act.put, List.setIfInBounds_toArray, List.set_cons_zero, List.set_cons_succ, i64_w, i32_w]
              rfl
            refine pure_ (i := 6) (N := (some 49)) (v := ?_) (a' := ?_) #[true, true, true, true, true, true, true, false, false, false, false] rfl rfl (by kernel_rfl) (fun _ _ _ h => h) (Or.inl ⟨by rfl, ?_⟩) ?_ ?_
            rotate_left
            · intro w'
              go_simp
              with_reducible rfl
            rotate_left
            · simp only [Act.put, List.setIfInBounds_toArray, List.set_cons_zero, List.set_cons_succ, i64_w, i32_w]
              rfl
            refine take_ (i := 7) (N := (some 50)) (v := ?_) (a' := ?_) #[true, true, true, true, true, true, true, true, false, false, false] rfl rfl (by kernel_rfl) (fun _ _ _ h => h) (Or.inl ⟨by rfl, ?_⟩) hHeld ?_ ?_
            rotate_left
            · rintro w' ⟨s0, _⟩
              go_simp
              with_reducible rfl
            rotate_left
            · simp only [Act.put, List.setIfInBounds_toArray, List.set_cons_zero, List.set_cons_succ, i64_w, i32_w]
              rfl
            refine one_ (i := 8) (N := some 51) #[true, true, true, true, true, true, true, true, true, false, false] rfl rfl (by kernel_rfl) (by decide) (fun K hK => ?_)
            refine event_step (by rfl) (v := .slice (some ⟨W6.heap.size, 0, none⟩) 1 1) (w1 := W6.alloc (.cells #[.string x.f0] 9)) ?_ ?_
            · go_simp
            refine hK.out _ _ ⟨keepc (below_alloc (Below.refl _ _) _) hHeld.1, keepb (below_alloc (Below.refl _ _) _) hHeld.2⟩ (fun hHeld2 => ?_)
            clear hK K
            refine norm_ (a' := ?_) ?_ ?_
            rotate_left
            · show Act.put _ (some 51) _ = _
              simp only [Act.put, List.setIfInBounds_toArray, List.set_cons_zero, List.set_cons_succ, i64_w, i32_w]
              rfl
            obtain ⟨v9, w9, hrun9, hR9, hB9⟩ := happ W6 hHeld.2
            refine one_ (i := 9) (N := some 52) #[true, true, true, true, true, true, true, true, true, true, false] rfl rfl (by kernel_rfl) (by decide) (fun K hK => ?_)
            refine event_step (by rfl) (v := v9) (w1 := w9) ?_ ?_
            · exact app_event rfl rfl rfl hrun9
            refine hK.out _ _ ⟨keepc hB9 hHeld.1, keepb hB9 hHeld.2⟩ (fun hHeld3 => ?_)
            clear hK K
            refine norm_ (a' := ?_) ?_ ?_
            rotate_left
            · show Act.put _ (some 52) _ = _
              simp only [Act.put, List.setIfInBounds_toArray, List.set_cons_zero, List.set_cons_succ, i64_w, i32_w]
              rfl
            refine pure_ (i := 10) (N := some 3) (v := ?_) (a' := ?_) #[true, true, true, true, true, true, true, true, true, true, true] rfl rfl (by kernel_rfl) (fun _ _ _ h => h) (Or.inl ⟨by rfl, ?_⟩) ?_ ?_
            rotate_left
            · intro w'
              go_simp
              with_reducible rfl
            rotate_left
            · simp only [Act.put, List.setIfInBounds_toArray, List.set_cons_zero, List.set_cons_succ, i64_w, i32_w]
              rfl
            refine done_ (by kernel_rfl) ?_
            have hnext : stk l0_1 (i + 1) = some (st.take (j + 1) ++ [x.f0]) := by
              show (stk l0_1 i).bind _ = _
              rw [X.out.1]
              show stkStep l0_1 i st = _
              unfold stkStep
              rw [if_neg (by omega), ← HX.out]
              simp only
              rw [HT.out.1, HT.out.2, HP.out.1, ← HP.out.2, HY.out, if_neg (by omega)]
            have hbe : Below W1.heap.size W1 w9 := below_then (below_then X.out.2.2 X.out.2.2.size hb5') (below_then X.out.2.2 X.out.2.2.size hb5').size hHeld3.2
            have XX := Lib.hid (And.intro hnext (And.intro hR9 hbe))
            clear hnext hbe hHeld hHeld2 hHeld3 hrun9 hR9 hB9 happ hid0
            go_wp2
            go_roundg (n - (i + 1))
            case measure => omega
            case rel => exact ⟨i + 1, v9, st.take (j + 1) ++ [x.f0], by go_num, rfl, by omega, by omega, XX⟩
          · have hyb : (y1 != 1) = true := by simpa using hy
            have he : standsB l0_1 = false := stk_false l0_1 i (by have := HN.out; omega) st X.out.1 (by
              unfold stkStep
              rw [if_neg (by omega), ← HX.out]
              simp only
              rw [HT.out.1, HT.out.2, HP.out.1, ← HP.out.2, if_pos (.inr (.inr hy))])
            have HE := Lib.hid he
            clear he hy
            go_wp2
            go_ret
            exact ⟨by rw [HE.out]; rfl, HF.out⟩
end Go.Proofs.Ytchellnfenekaaa.Pm
end
section
namespace Go.Proofs.Ytchellnfenekaaa.Pm
open Go.RowKit Go.Proofs.YtchellnfenekaaaW.PrintWords Go.Proofs.YtchellnfenekaaaW.PrintLast Go.Proofs.YtchellnfenekaaaW.PrintMore
attribute [local go_sem] max2_int min2_int max_two min_two max_three min_three max_four min_four   -- for this text's walks alone
set_option linter.unusedVariables false
set_option linter.unusedSimpArgs false
theorem ids_at (fs : List ByteArray) (l : List (S32)) (hn : l.length ≤ 8796093022208) (d : Nat) : ∀ (i k : Nat) (acc : List ByteArray), i + d = l.length → d < k → acc.length = i → model_ids.l0 k acc l l.length i = some (acc ++ (l.drop i).map (·.f0)) := by
  induction d with
  | zero =>
    intro i k acc hi hk ha
    obtain ⟨k, rfl⟩ : ∃ m, k = m + 1 := ⟨k - 1, by omega⟩
    simp only [model_ids.l0]
    rw [if_neg (by omega), List.drop_of_length_le (by omega)]
    simp
  | succ d ih =>
    intro i k acc hi hk ha
    obtain ⟨k, rfl⟩ : ∃ m, k = m + 1 := ⟨k - 1, by omega⟩
    have hlt : i < l.length := by omega
    have hrd : rd_T32 l (i : Int) = l[i] := by simp [rd_T32, List.getD_eq_getElem?_getD, List.getElem?_eq_getElem hlt]
    simp only [model_ids.l0]
    rw [if_pos (by omega), if_pos (by omega), if_pos (by omega), if_pos (by omega), wrap_lt (n := (l.length : Int)) (by omega) (by omega) (by omega), hrd]
    have := ih (i + 1) k (acc ++ [l[i].f0]) (by omega) (by omega) (by simp [ha])
    rw [show ((i + 1 : Nat) : Int) = (i : Int) + 1 by omega] at this
    rw [this, List.drop_eq_getElem_cons hlt, List.map_cons, List.append_assoc]
    rfl
theorem ids_eq (fs : List ByteArray) (l : List (S32)) (hn : l.length ≤ 8796093022208) (k : Nat) (hk : l.length < k) : model_ids.f k fs l = some (l.map (·.f0)) := by
  have := ids_at fs l hn l.length 0 k [] (by omega) hk rfl
  unfold model_ids.f
  simpa using this
def planB (kind : Int) (parent : ByteArray) (req : Bool) (en ex : Nat) : Bool := decide (kind = 1) && (decide (parent.toList = []) && (!req && decide (en + ex = 0)))
theorem isPlan_eq (a0 : ByteArray) (a1 : Int) (a2 : ByteArray) (a3 : Bool) (a4 : Int) (l5 l6 : List (S29)) (h5 : l5.length ≤ 9223372036854775807) (h6 : l6.length ≤ 9223372036854775807) : model_isPlan.f a0 a1 a2 a3 a4 l5 l6 = some (planB a1 a2 a3 l5.length l6.length) := by
  unfold model_isPlan.f planB
  by_cases h1 : a1 = 1
  · by_cases h2 : a2.toList = []
    · cases a3 with
      | true => simp [h1, h2]
      | false =>
        simp only [h1, h2, if_true, Bool.false_eq_true, if_false, decide_true, Bool.true_and, Bool.not_false]
        congr 1
        rw [Bool.eq_iff_iff, beq_iff_eq, decide_eq_true_iff]
        unfold wrap64
        omega
    · simp [h1, h2]
  · simp [h1]
def itemB (fs : List ByteArray) (l : List (S32)) (kind : Int) (req : Bool) (ticks : Int) (en ex : List (S29)) : Bool :=
  decide (1 ≤ kind ∧ kind ≤ 5) && (sentsB fs l en && (sentsB fs l ex && ((if kind = 5 then decide (1 ≤ ticks ∧ ticks ≤ 100) else decide (ticks = 0)) && !(decide (kind = 4 ∨ kind = 5) && (req || decide (0 < en.length))))))
theorem isItem_eq (fs : List ByteArray) (l : List (S32)) (a0 : ByteArray) (a1 : Int) (a2 : ByteArray) (a3 : Bool) (a4 : Int) (l5 l6 : List (S29)) : model_isItem.f 1 fs l a0 a1 a2 a3 a4 l5 l6 = some (itemB fs l a1 a3 a4 l5 l6) := by
  unfold model_isItem.f itemB model_areSentries.f
  by_cases h1 : a1 < 1
  · rw [if_pos h1, decide_eq_false (by omega)]; simp [model_isItem.j0]
  rw [if_neg h1]
  by_cases h2 : a1 > 5
  · rw [if_pos h2, decide_eq_false (by omega)]; simp [model_isItem.j0]
  rw [if_neg h2, decide_eq_true (by omega), Option.bind_some]
  cases sentsB fs l l5 with
  | false => simp [model_isItem.j0]
  | true =>
    rw [if_pos rfl, Option.bind_some]
    cases sentsB fs l l6 with
    | false => simp [model_isItem.j0]
    | true =>
      simp only [model_isItem.j0, Bool.not_true, Bool.false_eq_true, if_false, Bool.true_and]
      by_cases h5 : a1 = 5
      · subst h5
        by_cases ha : a4 ≥ 1 <;> by_cases hb : a4 ≤ 100 <;> cases a3 <;> simp [ha, hb] <;> omega
      · by_cases h4 : a1 = 4
        · subst h4
          by_cases ha : a4 ≥ 0 <;> by_cases hb : a4 ≤ 0 <;> cases a3 <;> simp [ha, hb] <;> omega
        · rw [if_neg h5, if_neg h4, if_neg h5]
          by_cases ha : a4 ≥ 0 <;> by_cases hb : a4 ≤ 0 <;> simp [ha, hb, h4, h5] <;> omega
def isB (fs : List ByteArray) (l : List (S32)) : Bool :=
  decide (fs.length ≤ 6 ∧ 1 ≤ l.length ∧ l.length ≤ 16) && (namesB fs && (namesB (l.map (·.f0)) && (planB (rd_T32 l 0).f1 (rd_T32 l 0).f2 (rd_T32 l 0).f3 (rd_T32 l 0).f5.length (rd_T32 l 0).f6.length && (standsB l && !l.any (fun x => !itemB fs l x.f1 x.f3 x.f4 x.f5 x.f6)))))
end Go.Proofs.Ytchellnfenekaaa.Pm
end
section
namespace Go.Proofs.Ytchellnfenekaaa.Pm
open Go.RowKit Go.Proofs.YtchellnfenekaaaW.PrintWords Go.Proofs.YtchellnfenekaaaW.PrintLast Go.Proofs.YtchellnfenekaaaW.PrintMore
attribute [local go_sem] max2_int min2_int max_two min_two max_three min_three max_four min_four   -- for this text's walks alone
set_option linter.unusedVariables false
set_option linter.unusedSimpArgs false
def model_Is.f (l0_0 : List ByteArray) (l0_1 : List (S32)) : Option Bool := some (isB l0_0 l0_1)
theorem model_Is.eg : ∀ args w, (callFunc 37 args).run Try.prog w = .ok (.enter 37 args) w := enters_of Try.func37 (by kernel_rfl) rfl
set_option maxHeartbeats 4000000 in
theorem model_Is.closure (b : Nat) (A0_0 : Option Addr) (c0_0 : Nat) (l0_0 : List ByteArray) (A0_1 : Option Addr) (c0_1 : Nat) (l0_1 : List (S32)) (W : World) (hm0 : W.cell? ⟨b, 0, none⟩ = some (.slice A0_0 l0_0.length c0_0)) (hm1 : W.cell? ⟨b, 1, none⟩ = some (.slice A0_1 l0_1.length c0_1))
    (hr0_0 : Kd.C Kd.string W A0_0 l0_0.length l0_0) (hc0_0 : l0_0.length ≤ c0_0) (hr0_1 : Kd.C k32 W A0_1 l0_1.length l0_1) (hc0_1 : l0_1.length ≤ c0_1) (x : S32) (cs : List Value) (hK : Kd.K k32 W x cs) :
    Calls Try.prog 37 (#[.agg cs.toArray] ++ #[.pointer (some ⟨b, 0, none⟩)]) W fun e w' => e = .returned (.bool (!itemB l0_0 l0_1 x.f1 x.f3 x.f4 x.f5 x.f6)) ∧ Below W.heap.size W w' := by
  obtain ⟨A5, c5, A6, c6, rfl, g5, h5, g6, h6⟩ := k32_open hK
  have hb := World.block_lt_of_cell? W _ hm0
  simp only at hb
  have hW1 := below_alloc (Below.refl W.heap.size W) (.cells #[.string x.f0, .int .i64 x.f1, .string x.f2, .bool x.f3, .int .i64 x.f4, .slice A5 x.f5.length c5, .slice A6 x.f6.length c6] 32)
  have hif := model_isItem.calls 1 A0_0 c0_0 l0_0 A0_1 c0_1 l0_1 x.f0 x.f1 x.f2 x.f3 x.f4 A5 c5 x.f5 A6 c6 x.f6 _ _ (Kd.C_below hr0_0 hW1) hc0_0 (Kd.C_below hr0_1 hW1) hc0_1 (Kd.C_below h5 hW1) g5 (Kd.C_below h6 hW1) g6 (isItem_eq l0_0 l0_1 x.f0 x.f1 x.f2 x.f3 x.f4 x.f5 x.f6)
  have HW := Lib.hid hW1
  clear hr0_0 hr0_1 hW1 hK h5 h6
  obtain ⟨T, hT⟩ : ∃ T, T = itemB l0_0 l0_1 x.f1 x.f3 x.f4 x.f5 x.f6 := ⟨_, rfl⟩
  rw [← hT] at hif ⊢
  clear hT
  have hu36 := Try.underlying36
  have hu32 := Try.underlying32
  go_enter Try.func37, Try.ntmps37
  go_wp2_with (go_at_call 38; refine hif.mono ?_; rintro e w' ⟨rfl, hb'⟩)
  go_ret
  exact ⟨rfl, keepb hb' HW.out⟩
set_option maxHeartbeats 8000000 in
set_option maxRecDepth 100000 in
theorem model_Is.calls (A0_0 : Option Addr) (c0_0 : Nat) (l0_0 : List ByteArray) (A0_1 : Option Addr) (c0_1 : Nat) (l0_1 : List (S32)) (r : Bool) (w : World) (hr0_0 : Kd.C Kd.string w A0_0 l0_0.length l0_0) (hc0_0 : l0_0.length ≤ c0_0) (hr0_1 : Kd.C k32 w A0_1 l0_1.length l0_1) (hc0_1 : l0_1.length ≤ c0_1) (h : model_Is.f l0_0 l0_1 = some r) :
    Calls Try.prog 16 #[.agg #[.slice A0_0 l0_0.length c0_0, .slice A0_1 l0_1.length c0_1]] w fun e w' => e = .returned (.bool r) ∧ Below w.heap.size w w' := by
  obtain rfl := Option.some.inj h
  clear h
  have hu36 := Try.underlying36
  have hu32 := Try.underlying32
  have HR := Lib.hid (And.intro hr0_0 hr0_1)
  clear hr0_0 hr0_1
  have W1 := below_alloc (Below.refl w.heap.size w) (.cells #[.slice A0_0 l0_0.length c0_0, .slice A0_1 l0_1.length c0_1] 36)
  have HW1 := Lib.hid W1
  clear W1
  by_cases hA : 6 < l0_0.length
  · have e : isB l0_0 l0_1 = false := by simp [isB]; omega
    rw [e]
    have hA' : (6 : Int) < l0_0.length := by omega
    clear e
    go_enter Try.func16, Try.ntmps16
    go_wp2
    go_ret
    exact ⟨rfl, HW1.out⟩
  have hA' : ¬ (6 : Int) < l0_0.length := by omega
  by_cases hB : l0_1.length < 1
  · have e : isB l0_0 l0_1 = false := by simp [isB]; omega
    rw [e]
    have hB' : (l0_1.length : Int) < 1 := by omega
    clear e
    go_enter Try.func16, Try.ntmps16
    go_wp2
    go_ret
    exact ⟨rfl, HW1.out⟩
  have hB' : ¬ (l0_1.length : Int) < 1 := by omega
  by_cases hC : 16 < l0_1.length
  · have e : isB l0_0 l0_1 = false := by simp [isB]; omega
    rw [e]
    have hC' : (16 : Int) < l0_1.length := by omega
    clear e
    go_enter Try.func16, Try.ntmps16
    go_wp2
    go_ret
    exact ⟨rfl, HW1.out⟩
  have hC' : ¬ (16 : Int) < l0_1.length := by omega
  have hd : decide (l0_0.length ≤ 6 ∧ 1 ≤ l0_1.length ∧ l0_1.length ≤ 16) = true := decide_eq_true (by omega)
  obtain ⟨P0, hP0⟩ : ∃ P, P = planB (rd_T32 l0_1 0).f1 (rd_T32 l0_1 0).f2 (rd_T32 l0_1 0).f3 (rd_T32 l0_1 0).f5.length (rd_T32 l0_1 0).f6.length := ⟨_, rfl⟩
  obtain ⟨T0, hT0⟩ : ∃ T, T = l0_1.any (fun x => !itemB l0_0 l0_1 x.f1 x.f3 x.f4 x.f5 x.f6) := ⟨_, rfl⟩
  have hI : isB l0_0 l0_1 = (namesB l0_0 && (namesB (l0_1.map (·.f0)) && (P0 && (standsB l0_1 && !T0)))) := by
    unfold isB
    rw [hd, ← hP0, ← hT0]; rfl
  have HI := Lib.hid hI
  have HP := Lib.hid (And.intro hP0 hT0)
  clear hI hd hP0 hT0
  -- the world behind the box
  obtain ⟨W1, hW1⟩ : ∃ W, W = w.alloc (.cells #[.slice A0_0 l0_0.length c0_0, .slice A0_1 l0_1.length c0_1] 36) := ⟨_, rfl⟩
  have hm0 : W1.cell? ⟨w.heap.size, 0, none⟩ = some (.slice A0_0 l0_0.length c0_0) := by rw [hW1]; simp
  have hm1 : W1.cell? ⟨w.heap.size, 1, none⟩ = some (.slice A0_1 l0_1.length c0_1) := by rw [hW1]; simp
  have hb1 : Below w.heap.size w W1 := by rw [hW1]; exact HW1.out
  have H1 := Lib.hid (And.intro hm0 (And.intro hm1 hb1))
  have HE1 := Lib.hid hW1
  have hn1 := fun (W : World) (hb : Below w.heap.size w W) => model_areNames.calls A0_0 c0_0 l0_0 _ W (Kd.C_below HR.out.1 hb) hc0_0 rfl
  have hn1' := hn1 W1 hb1
  clear hn1 hW1 hm0 hm1 hb1
  go_enter Try.func16, Try.ntmps16
  go_wp2_with fail
  rw [← HE1.out]
  go_at_call 32
  cases hq1 : namesB l0_0 with
  | false =>
    rw [hq1] at hn1' HI
    have HI2 : Hid (isB l0_0 l0_1 = false) := Lib.hid (by rw [HI.out]; rfl)
    clear hq1 HI
    refine hn1'.mono ?_
    rintro e w2 ⟨rfl, hb2⟩
    have HB := Lib.hid (keepb hb2 H1.out.2.2)
    clear hn1' hb2
    go_wp2
    go_ret
    exact ⟨by rw [HI2.out]; rfl, HB.out⟩
  | true =>
  rw [hq1] at hn1' HI
  clear hq1
  refine hn1'.mono ?_
  rintro e w2 ⟨rfl, hb2⟩
  have hm0 := keepc hb2 H1.out.1
  have hm1 := keepc hb2 H1.out.2.1
  have HB2 := Lib.hid (And.intro (keepb hb2 H1.out.2.2) (And.intro hm0 hm1))
  clear hn1' hb2
  have hids := model_ids.calls (l0_1.length + 1) A0_0 c0_0 l0_0 A0_1 c0_1 l0_1 _ w2 (Kd.C_below HR.out.1 HB2.out.1) hc0_0 (Kd.C_below HR.out.2 HB2.out.1) hc0_1 (ids_eq l0_0 l0_1 (by omega) (l0_1.length + 1) (by omega))
  go_wp2_with fail
  go_at_call 33
  refine hids.mono ?_
  rintro e w3 ⟨v3, rfl, hR3, hb3⟩
  obtain ⟨A3, c3, rfl, hl3, hC3⟩ := Kd.R_reads hR3
  have hn2 := model_areNames.calls A3 c3 (l0_1.map (·.f0)) _ w3 hC3 hl3 rfl
  rw [List.length_map] at hn2
  have hm03 := keepc hb3 hm0
  have hm13 := keepc hb3 hm1
  have HB3 := Lib.hid (And.intro (keepb hb3 HB2.out.1) (And.intro hm03 hm13))
  clear hids hR3 hb3 hC3 hm0 hm1
  go_wp2_with fail
  go_at_call 32
  cases hq2 : namesB (l0_1.map (·.f0)) with
  | false =>
    rw [hq2] at hn2 HI
    have HI2 : Hid (isB l0_0 l0_1 = false) := Lib.hid (by rw [HI.out]; rfl)
    clear hq2 HI
    refine hn2.mono ?_
    rintro e w4 ⟨rfl, hb4⟩
    have HB := Lib.hid (keepb hb4 HB3.out.1)
    clear hn2 hb4
    go_wp2
    go_ret
    exact ⟨by rw [HI2.out]; rfl, HB.out⟩
  | true =>
  rw [hq2] at hn2 HI
  clear hq2
  refine hn2.mono ?_
  rintro e w4 ⟨rfl, hb4⟩
  have hm04 := keepc hb4 hm03
  have hm14 := keepc hb4 hm13
  have HB4 := Lib.hid (And.intro (keepb hb4 HB3.out.1) (And.intro hm04 hm14))
  obtain ⟨ad, B5, d5, B6, d6, e, hx0, hx1, hx2, hx3, hx4, hx5, hx6, g5, h5, g6, h6⟩ := at_T32 HR.out.2 (0 : Int) (by omega) (by omega)
  cases e
  obtain ⟨x, hx⟩ : ∃ x, x = rd_T32 l0_1 (0 : Int) := ⟨_, rfl⟩
  rw [← hx] at hx0 hx1 hx2 hx3 hx4 hx5 hx6 g5 h5 g6 h6 HP
  have hip := model_isPlan.calls x.f0 x.f1 x.f2 x.f3 x.f4 B5 d5 x.f5 B6 d6 x.f6 _ w4 (Kd.C_below h5 HB4.out.1) g5 (Kd.C_below h6 HB4.out.1) g6 (isPlan_eq x.f0 x.f1 x.f2 x.f3 x.f4 x.f5 x.f6 h5.2.1 h6.2.1)
  rw [← HP.out.1] at hip
  replace hx0 := keepc HB4.out.1 hx0
  replace hx1 := keepc HB4.out.1 hx1
  replace hx2 := keepc HB4.out.1 hx2
  replace hx3 := keepc HB4.out.1 hx3
  replace hx4 := keepc HB4.out.1 hx4
  replace hx5 := keepc HB4.out.1 hx5
  replace hx6 := keepc HB4.out.1 hx6
  rw [show (0 : Int).toNat * 7 = 0 by rfl, show ad.add 0 = ad by simp [Addr.add]] at hx0 hx1 hx2 hx3 hx4 hx5 hx6
  have hl0 : (0 : Int) < l0_1.length := by omega
  clear hx hn2 hb4 hm03 hm13 h5 h6 g5 g6
  go_wp2_with fail
  go_at_call 34
  have HBox := Lib.hid (And.intro hm04 hm14)
  clear hx0 hx1 hx2 hx3 hx4 hx5 hx6
  cases P0 with
  | false =>
    have HI2 : Hid (isB l0_0 l0_1 = false) := Lib.hid (by rw [HI.out]; rfl)
    clear HI
    refine hip.mono ?_
    rintro e w5 ⟨rfl, hb5⟩
    have HB := Lib.hid (keepb hb5 HB4.out.1)
    clear hip hb5
    go_wp2
    go_ret
    exact ⟨by rw [HI2.out]; rfl, HB.out⟩
  | true =>
  refine hip.mono ?_
  rintro e w5 ⟨rfl, hb5⟩
  have hm05 := keepc hb5 HBox.out.1
  have hm15 := keepc hb5 HBox.out.2
  have hb5w := keepb hb5 HB4.out.1
  have hst := model_stands.calls A0_0 c0_0 l0_0 (some ad) c0_1 l0_1 _ w5 (Kd.C_below HR.out.1 hb5w) hc0_0 (Kd.C_below HR.out.2 hb5w) hc0_1 rfl
  have HB5 := Lib.hid hb5w
  clear hip hb5 hm04 hm14 hb5w
  go_wp2_with fail
  go_at_call 35
  have HBox5 := Lib.hid (And.intro hm05 hm15)
  cases hq3 : standsB l0_1 with
  | false =>
    rw [hq3] at hst HI
    have HI2 : Hid (isB l0_0 l0_1 = false) := Lib.hid (by rw [HI.out]; rfl)
    clear HI hq3
    refine hst.mono ?_
    rintro e w6 ⟨rfl, hb6⟩
    have HB := Lib.hid (keepb hb6 HB5.out)
    clear hst hb6
    go_wp2
    go_ret
    exact ⟨by rw [HI2.out]; rfl, HB.out⟩
  | true =>
  rw [hq3] at hst HI
  clear hq3
  refine hst.mono ?_
  rintro e w6 ⟨rfl, hb6⟩
  have hm06 := keepc hb6 hm05
  have hm16 := keepc hb6 hm15
  have hb6w := keepb hb6 HB5.out
  have hany := anyItem (some ad) c0_1 l0_1 w6 (Kd.C_below HR.out.2 hb6w) hc0_1 37 #[.pointer (some ⟨w.heap.size, 0, none⟩)] model_Is.eg (fun x => !itemB l0_0 l0_1 x.f1 x.f3 x.f4 x.f5 x.f6) (fun W x cs hx hb hK => model_Is.closure w.heap.size A0_0 c0_0 l0_0 (some ad) c0_1 l0_1 W (keepc hb hm06) (keepc hb hm16) (Kd.C_below (Kd.C_below HR.out.1 hb6w) hb) hc0_0 (Kd.C_below (Kd.C_below HR.out.2 hb6w) hb) hc0_1 x cs hK)
  rw [← HP.out.2] at hany
  have HB6 := Lib.hid hb6w
  clear hst hb6 hm05 hm15 hb6w
  go_wp2_with fail
  go_at_call 36
  refine hany.mono ?_
  rintro e w7 ⟨rfl, hb7⟩
  have HB := Lib.hid (keepb hb7 HB6.out)
  clear hany hb7
  go_wp2
  go_ret
  exact ⟨by rw [HI.out]; rfl, HB.out⟩
end Go.Proofs.Ytchellnfenekaaa.Pm
end
section
namespace Go.Proofs.Ytchellnfenekaaa.Pm
open Go.RowKit Go.Proofs.YtchellnfenekaaaW.PrintWords Go.Proofs.YtchellnfenekaaaW.PrintLast Go.Proofs.YtchellnfenekaaaW.PrintMore
attribute [local go_sem] max2_int min2_int max_two min_two max_three min_three max_four min_four   -- for this text's walks alone
set_option linter.unusedVariables false
set_option linter.unusedSimpArgs false
def sentrylaw4_known.f : Option Bool := some true
def oneItem : S32 := ⟨(⟨#[97]⟩ : ByteArray), 1, (⟨#[]⟩ : ByteArray), false, 0, [], []⟩
set_option maxRecDepth 100000 in
theorem isB_one : isB [] [oneItem] = true := by decide +kernel
set_option maxRecDepth 100000 in
theorem isB_none : isB [] [] = false := by decide +kernel
theorem one_C (W : World) (g : Nat) (hc : ∀ j u, [Value.string ⟨#[97]⟩, .int .i64 1, .string ⟨#[]⟩, .bool false, .int .i64 0, .slice none 0 0, .slice none 0 0][j]? = some u → W.cell? ((⟨g, 0, none⟩ : Addr).add j) = some u) : Kd.C k32 W (some ⟨g, 0, none⟩) [oneItem].length [oneItem] := by
  refine ⟨rfl, by decide, fun _ => ⟨_, rfl, fun j p hj => ?_⟩⟩
  obtain rfl : j = 0 := by
    have := (List.getElem?_eq_some_iff.1 hj).1
    simp at this
    exact this
  obtain rfl : oneItem = p := by simpa using hj
  refine ⟨_, rfl, k32_mk W oneItem (A5 := none) (c5 := 0) (Nat.le_refl _) (Kd.C_nil _ W) (A6 := none) (c6 := 0) (Nat.le_refl _) (Kd.C_nil _ W), fun i u hi => ?_⟩
  have h2 := hc i u hi
  rwa [show 0 * (Kd.sz k32) + i = i by omega]
set_option maxHeartbeats 8000000 in
theorem sentrylaw4_known.calls (r : Bool) (w : World) (h : sentrylaw4_known.f = some r) :
    Calls Try.prog 14 #[] w fun e w' => e = .returned (.bool r) ∧ Below w.heap.size w w' := by
  obtain rfl := Option.some.inj h
  clear h
  have h1 := fun (W : World) => model_Legal.calls 2 3 2 _ W (legal_eq 3 2)
  have h2 := fun (W : World) => model_Legal.calls 2 3 4 _ W (legal_eq 3 4)
  rw [show legalB 3 2 = false by decide] at h1
  rw [show legalB 3 4 = true by decide] at h2
  have hu36 := Try.underlying36
  have hu32 := Try.underlying32
  go_enter Try.func14, Try.ntmps14
  go_wp2_with fail
  go_at_call 12
  refine (h1 _).mono ?_
  rintro e w1 ⟨rfl, ⟨n1, rfl⟩⟩
  go_wp2_with fail
  go_at_call 12
  refine (h2 _).mono ?_
  rintro e w1 ⟨rfl, ⟨n2, rfl⟩⟩
  clear h1 h2
  have hb1 : Below w.heap.size w ((w.drewN n1).drewN n2) := pw_below_drewN (pw_below_drewN (Below.refl _ _) _) _
  obtain ⟨W1, hW1⟩ : ∃ W, W = (w.drewN n1).drewN n2 := ⟨_, rfl⟩
  rw [← hW1] at hb1 ⊢
  clear hW1
  have HB1 := Lib.hid hb1
  clear hb1
  have hC := one_C (W1.alloc (.cells #[.string ⟨#[97]⟩, .int .i64 1, .string ⟨#[]⟩, .bool false, .int .i64 0, .slice none 0 0, .slice none 0 0] 32)) W1.heap.size (World.news_of_block (cs := #[.string ⟨#[97]⟩, .int .i64 1, .string ⟨#[]⟩, .bool false, .int .i64 0, .slice none 0 0, .slice none 0 0]) (t := 32) (fr := (0, 0)) (heap_alloc_new W1 _))
  have h3 := model_Is.calls none 0 [] (some ⟨W1.heap.size, 0, none⟩) 1 [oneItem] _ _ (Kd.C_nil _ _) (Nat.le_refl _) hC (Nat.le_refl _) rfl
  rw [isB_one] at h3
  have hb2 := below_alloc HB1.out (.cells #[.string ⟨#[97]⟩, .int .i64 1, .string ⟨#[]⟩, .bool false, .int .i64 0, .slice none 0 0, .slice none 0 0] 32)
  have HB2 := Lib.hid hb2
  clear hC hb2
  go_wp2_with fail
  refine h3.mono ?_
  rintro e w2 ⟨rfl, hb3⟩
  have HB3 := Lib.hid (below_then HB2.out HB2.out.size hb3)
  have h4 := model_Is.calls none 0 [] none 0 [] _ w2 (Kd.C_nil _ _) (Nat.le_refl _) (Kd.C_nil _ _) (Nat.le_refl _) rfl
  rw [isB_none] at h4
  clear h3 hb3
  go_wp2_with fail
  go_at_call 16
  refine h4.mono ?_
  rintro e w3 ⟨rfl, hb4⟩
  have HB4 := Lib.hid (below_then HB3.out HB3.out.size hb4)
  clear h4 hb4
  go_wp2
  go_ret
  exact ⟨rfl, HB4.out⟩
end Go.Proofs.Ytchellnfenekaaa.Pm
end
section
namespace Go.Proofs.Ytchellnfenekaaa.Pm
open Go.RowKit Go.Proofs.YtchellnfenekaaaW.PrintWords Go.Proofs.YtchellnfenekaaaW.PrintLast Go.Proofs.YtchellnfenekaaaW.PrintMore
attribute [local go_sem] max2_int min2_int max_two min_two max_three min_three max_four min_four   -- for this text's walks alone
set_option linter.unusedVariables false
set_option linter.unusedSimpArgs false
def TB (v : Bool) (W : World) (e : Ending) (w' : World) : Prop := e = .returned (.bool v) ∧ Below W.heap.size W w'
/-- A model that reads so in w. -/
def Mw (w : World) (A0 : Option Addr) (c0 : Nat) (fs : List ByteArray) (A1 : Option Addr) (c1 : Nat) (l : List (S32)) : Prop := Kd.C Kd.string w A0 fs.length fs ∧ fs.length ≤ c0 ∧ Kd.C k32 w A1 l.length l ∧ l.length ≤ c1
def Mg (fs : List ByteArray) (l : List (S32)) : Prop := fs.length ≤ 140737488351232 ∧ l.length ≤ 140737488351232 ∧ (∀ x ∈ l, goodItem x) ∧ wideM fs l
theorem fit_good {x : S32} (h : goodItem x) : fitS x.f5 ∧ fitS x.f6 := by
  obtain ⟨-, -, h5, h6, g5, g6⟩ := h
  exact ⟨⟨by omega, fun s hs => by have := (g5 s hs).1; have := (g5 s hs).2; constructor <;> omega⟩, ⟨by omega, fun s hs => by have := (g6 s hs).1; have := (g6 s hs).2; constructor <;> omega⟩⟩
section
variable {w : World} {A0 : Option Addr} {c0 : Nat} {fs : List ByteArray} {A1 : Option Addr} {c1 : Nat} {l : List (S32)} {B0 : Option Addr} {d0 : Nat} {gs : List ByteArray} {B1 : Option Addr} {d1 : Nat} {m : List (S32)}
theorem Mw.below {W : World} (h : Mw w A0 c0 fs A1 c1 l) (hb : Below w.heap.size w W) : Mw W A0 c0 fs A1 c1 l := ⟨Kd.C_below h.1 hb, h.2.1, Kd.C_below h.2.2.1 hb, h.2.2.2⟩
theorem Mw.heavy (g : Mg fs l) : ∃ v, ∀ (W : World) (A0 : Option Addr) (c0 : Nat) (A1 : Option Addr) (c1 : Nat), Mw W A0 c0 fs A1 c1 l → Calls Try.prog 17 #[.agg #[.slice A0 fs.length c0, .slice A1 l.length c1]] W (TB v W) := by
  obtain ⟨v, ⟨k, hk⟩, -⟩ := ev_heavy fs l g.1 g.2.1 g.2.2.1
  exact ⟨v, fun W A0 c0 A1 c1 h => sentrylaw4_heavy.calls k A0 c0 fs A1 c1 l v W h.1 h.2.1 h.2.2.1 h.2.2.2 (hk k (Nat.le_refl _))⟩
theorem Mw.rsame (g : Mg fs l) (h : Mw w A0 c0 fs A1 c1 l) (h' : Mw w B0 d0 gs B1 d1 m) : Calls Try.prog 26 #[.agg #[.slice A0 fs.length c0, .slice A1 l.length c1], .agg #[.slice B0 gs.length d0, .slice B1 m.length d1]] w (TB (eqP (fs = gs ∧ l = m)) w) := by
  obtain ⟨k, hk⟩ := (ev_same fs gs l m (by have := g.1; omega) (by have := g.2.1; omega) (fun x hx => fit_good (g.2.2.1 x hx))).eqP
  exact sentryref4_Same.calls k A0 c0 fs A1 c1 l B0 d0 gs B1 d1 m _ w h.1 h.2.1 h.2.2.1 h.2.2.2 h'.1 h'.2.1 h'.2.2.1 h'.2.2.2 hk
end
/-- The sentries that an item leads to. -/
def Sw (w : World) (A : Option Addr) (c : Nat) (s : List (S29)) : Prop := Kd.C k29 w A s.length s ∧ s.length ≤ c
theorem Sw.below {w W : World} {A : Option Addr} {c : Nat} {s : List (S29)} (h : Sw w A c s) (hb : Below w.heap.size w W) : Sw W A c s := ⟨Kd.C_below h.1 hb, h.2⟩
theorem known4_call (W : World) : Calls Try.prog 14 #[] W (TB true W) := sentrylaw4_known.calls true W rfl
end Go.Proofs.Ytchellnfenekaaa.Pm
end
section
namespace Go.Proofs.Ytchellnfenekaaa.Pm
open Go.RowKit Go.Proofs.YtchellnfenekaaaW.PrintWords Go.Proofs.YtchellnfenekaaaW.PrintLast Go.Proofs.YtchellnfenekaaaW.PrintMore
attribute [local go_sem] max2_int min2_int max_two min_two max_three min_three max_four min_four   -- for this text's walks alone
set_option linter.unusedVariables false
set_option linter.unusedSimpArgs false
def same1 (u v : Value) : Prop := u = v ∨ (∃ a b, u = .string a ∧ v = .string b) ∨ (∃ a b, u = .int .i64 a ∧ v = .int .i64 b)
def Shp (w W : World) : Prop := ∀ (k : Nat) (arr : Array Value) (q : TypeId), w.heap[k]? = some (.cells arr q (0, 0)) → ∃ arr' : Array Value, W.heap[k]? = some (.cells arr' q (0, 0)) ∧ ∀ (i : Nat) (u : Value), arr[i]? = some u → ∃ v, arr'[i]? = some v ∧ same1 u v
/-- A block of cells that is not elder than B. -/
def Ow (w : World) (B k : Nat) : Prop := B ≤ k ∧ ∃ arr q, w.heap[k]? = some (.cells arr q (0, 0))
theorem Shp.refl (w : World) : Shp w w := fun k arr q h => ⟨arr, h, fun i u hu => ⟨u, hu, .inl rfl⟩⟩
theorem Shp.below {w W W' : World} (h : Shp w W) (hb : Below W.heap.size W W') : Shp w W' := fun k arr q hk => by
  obtain ⟨arr', h1, h2⟩ := h k arr q hk
  exact ⟨arr', blk_below h1 hb, h2⟩
theorem Shp.cellv {w W : World} (h : Shp w W) {B k i : Nat} (ho : Ow w B k) {u : Value} (hc : w.cell? ⟨k, i, none⟩ = some u) : (∃ v, W.cell? ⟨k, i, none⟩ = some v ∧ same1 u v) ∧ W.frozen? ⟨k, i, none⟩ = false := by
  obtain ⟨-, arr, q, hk⟩ := ho
  obtain ⟨arr', h1, h2⟩ := h k arr q hk
  rw [blk_cell hk] at hc
  obtain ⟨v, h3, h4⟩ := h2 i u hc
  exact ⟨⟨v, by rw [blk_cell h1]; exact h3, h4⟩, blk_frozen h1 i⟩
theorem Shp.slice {w W : World} (h : Shp w W) {B k i : Nat} (ho : Ow w B k) {A : Option Addr} {n c : Nat} (hc : w.cell? ⟨k, i, none⟩ = some (.slice A n c)) : W.cell? ⟨k, i, none⟩ = some (.slice A n c) := by
  obtain ⟨⟨v, h1, h2⟩, -⟩ := h.cellv ho hc
  rcases h2 with rfl | ⟨a, b, h2, -⟩ | ⟨a, b, h2, -⟩
  · exact h1
  · cases h2
  · cases h2
theorem Shp.str {w W : World} (h : Shp w W) {B k i : Nat} (ho : Ow w B k) {s : ByteArray} (hc : w.cell? ⟨k, i, none⟩ = some (.string s)) : (∃ t, W.cell? ⟨k, i, none⟩ = some (.string t)) ∧ W.frozen? ⟨k, i, none⟩ = false := by
  obtain ⟨⟨v, h1, h2⟩, h3⟩ := h.cellv ho hc
  refine ⟨?_, h3⟩
  rcases h2 with rfl | ⟨a, b, h2, rfl⟩ | ⟨a, b, h2, -⟩
  · exact ⟨_, h1⟩
  · exact ⟨_, h1⟩
  · cases h2
theorem Shp.int {w W : World} (h : Shp w W) {B k i : Nat} (ho : Ow w B k) {s : Int} (hc : w.cell? ⟨k, i, none⟩ = some (.int .i64 s)) : (∃ t, W.cell? ⟨k, i, none⟩ = some (.int .i64 t)) ∧ W.frozen? ⟨k, i, none⟩ = false := by
  obtain ⟨⟨v, h1, h2⟩, h3⟩ := h.cellv ho hc
  refine ⟨?_, h3⟩
  rcases h2 with rfl | ⟨a, b, h2, -⟩ | ⟨a, b, h2, rfl⟩
  · exact ⟨_, h1⟩
  · cases h2
  · exact ⟨_, h1⟩
theorem Shp.set {w W : World} (h : Shp w W) {B k i : Nat} (ho : Ow w B k) {u v : Value} (hc : w.cell? ⟨k, i, none⟩ = some u) (hs : same1 u v) : Shp w (W.setCell ⟨k, i, none⟩ v) := by
  intro j arr q hj
  obtain ⟨arr', h1, h2⟩ := h j arr q hj
  by_cases e : j = k
  · subst e
    refine ⟨_, blk_set h1 i v, fun i' u' hu => ?_⟩
    by_cases ei : i' = i
    · subst ei
      rw [blk_cell hj, hu] at hc
      cases hc
      obtain ⟨v', h3, -⟩ := h2 _ _ hu
      have hlt : i' < arr'.size := (Array.getElem?_eq_some_iff.1 h3).1
      exact ⟨v, by rw [Array.getElem?_setIfInBounds_self_of_lt hlt], hs⟩
    · obtain ⟨v', h3, h4⟩ := h2 i' u' hu
      exact ⟨v', by rw [Array.getElem?_setIfInBounds_ne (by omega)]; exact h3, h4⟩
  · exact ⟨arr', blk_far h1 e v, h2⟩
theorem Shp.setS {w W : World} (h : Shp w W) {B k i : Nat} (ho : Ow w B k) {s : ByteArray} (hc : w.cell? ⟨k, i, none⟩ = some (.string s)) (t : ByteArray) : Shp w (W.setCell ⟨k, i, none⟩ (.string t)) := h.set ho hc (.inr (.inl ⟨s, t, rfl, rfl⟩))
theorem Shp.setI {w W : World} (h : Shp w W) {B k i : Nat} (ho : Ow w B k) {s : Int} (hc : w.cell? ⟨k, i, none⟩ = some (.int .i64 s)) (t : Int) : Shp w (W.setCell ⟨k, i, none⟩ (.int .i64 t)) := h.set ho hc (.inr (.inr ⟨s, t, rfl, rfl⟩))
/-- Where a row of one's own lies. -/
theorem own_row {α : Type} {d : Kd α} {e B n cap : Nat} {ok : Nat → Prop} {w : World} {ad : Addr} {xs : List α} (h : d.R e w B ok (.slice (some ad) n cap) xs) : ∃ g, ad = ⟨g, 0, none⟩ ∧ Ow w B g := by
  obtain ⟨g, rfl⟩ := Kd.R_head h
  have := (Kd.R_bound h).1 g (by simp [Value.ownBlock])
  obtain ⟨-, h1, -, q, -, arr, h2⟩ := this
  exact ⟨g, rfl, h1, arr, q, h2⟩
end Go.Proofs.Ytchellnfenekaaa.Pm
end
section
namespace Go.Proofs.Ytchellnfenekaaa.Pm
open Go.RowKit Go.Proofs.YtchellnfenekaaaW.PrintWords Go.Proofs.YtchellnfenekaaaW.PrintLast Go.Proofs.YtchellnfenekaaaW.PrintMore
attribute [local go_sem] max2_int min2_int max_two min_two max_three min_three max_four min_four   -- for this text's walks alone
set_option linter.unusedVariables false
set_option linter.unusedSimpArgs false
set_option maxHeartbeats 16000000 in
set_option maxRecDepth 100000 in
theorem modelCopy_any (A0 : Option Addr) (c0 : Nat) (fs : List ByteArray) (A1 : Option Addr) (c1 : Nat) (l : List (S32)) (w : World) (hM : Mw w A0 c0 fs A1 c1 l) (hG : Mg fs l) (hX : wM fs l) :
    Calls Try.prog 10 #[.agg #[.slice A0 fs.length c0, .slice A1 l.length c1]] w (TB true w) := by
  have hu1 := Try.underlying36
  have hu2 := Try.underlying32
  obtain ⟨v1, hv1⟩ := Mw.heavy hG
  obtain ⟨wA, hwA⟩ : ∃ wA, wA = w.alloc (.cells #[.slice A0 fs.length c0, .slice A1 l.length c1] 36) := ⟨_, rfl⟩
  have hbA : Below w.heap.size w wA := by rw [hwA]; exact below_alloc (Below.refl _ _) _
  have hgA : wA.heap[w.heap.size]? = some (.cells #[.slice A0 fs.length c0, .slice A1 l.length c1] 36 (0, 0)) := by rw [hwA]; exact heap_alloc_new w _
  have HW := Lib.hid hwA
  have HCZ := Lib.hid hgA
  have HB0 := Lib.hid hbA
  have HG := Lib.hid (And.intro hG hX)
  have HM := Lib.hid hM
  have hv1 := hv1 wA A0 c0 A1 c1 (hM.below hbA)
  have hb1 : l.length ≤ 140737488351232 := hG.2.1
  have hb0 : fs.length ≤ 140737488351232 := hG.1
  obtain ⟨n0, hn0⟩ : ∃ n0, n0 = fs.length := ⟨_, rfl⟩
  obtain ⟨n1, hn1⟩ : ∃ n1, n1 = l.length := ⟨_, rfl⟩
  rw [← hn0, ← hn1] at hv1 HW HCZ ⊢
  rw [← hn1] at hb1
  rw [← hn0] at hb0
  have HN := Lib.hid (And.intro hn0 hn1)
  clear hM hG hX hwA hbA hgA hn0 hn1
  have hcc : ∀ W, Below wA.heap.size wA W → W.cell? ⟨w.heap.size, 0, none⟩ = some (.slice A0 n0 c0) ∧ W.cell? ⟨w.heap.size, 1, none⟩ = some (.slice A1 n1 c1) := fun W hb => by
    have e1 := blk_below HCZ.out hb
    refine ⟨?_, ?_⟩ <;> simp [World.cell?, e1]
  have HCC := Lib.hid hcc
  clear hcc
  go_enter Try.func10, Try.ntmps10
  go_wp2_with fail
  rw [← HW.out]
  refine hv1.mono ?_
  rintro e w2 ⟨rfl, hb2'⟩
  have HB2 := Lib.hid hb2'
  clear hb2' hv1
  cases v1 with
  | true =>
    go_wp2
    go_ret
    exact ⟨rfl, keepb HB2.out HB0.out⟩
  | false =>
  obtain ⟨hc_0, hc_1⟩ := HCC.out w2 HB2.out
  rcases Nat.eq_zero_or_pos n1 with hz | hpos
  · subst hz
    go_wp2
    go_ret
    exact ⟨rfl, keepb HB2.out HB0.out⟩
  have hz0 : ((n1 : Int) == 0) = false := by simp; omega
  have hz1 : decide ((n1 : Int) = 0) = false := by simp; omega
  have hc := clone_any HG.out.2 (HM.out.below (keepb HB2.out HB0.out)).1 HM.out.2.1 (HM.out.below (keepb HB2.out HB0.out)).2.2.1 HM.out.2.2.2
  rw [← HN.out.1, ← HN.out.2] at hc
  go_wp2_with fail
  refine hc.mono ?_
  rintro e w3 ⟨A2, c2, A3, c3, rfl, hM3, hb3⟩
  have HB3 := Lib.hid (below_then HB2.out HB2.out.size hb3)
  have hM3' : Mw w3 A2 c2 fs A3 c3 l := by have h := hM3; rw [HN.out.1, HN.out.2] at h; exact h
  have HM3 := Lib.hid hM3'
  clear hc hM3 hM3' hb3 hc_0 hc_1
  obtain ⟨wC, hwC⟩ : ∃ wC, wC = w3.alloc (.cells #[.slice A2 n0 c2, .slice A3 n1 c3] 36) := ⟨_, rfl⟩
  have hbC : Below w3.heap.size w3 wC := by rw [hwC]; exact below_alloc (Below.refl _ _) _
  have hgC : wC.heap[w3.heap.size]? = some (.cells #[.slice A2 n0 c2, .slice A3 n1 c3] 36 (0, 0)) := by rw [hwC]; exact heap_alloc_new w3 _
  have HWC := Lib.hid hwC
  have HGC := Lib.hid hgC
  have HBC := Lib.hid hbC
  have hMC := HM3.out.below hbC
  have hc := copy_any wC A2 c2 fs A3 c3 l hMC.1 hMC.2.1 hMC.2.2.1 hMC.2.2.2 HG.out.1.2.2.2.1 HG.out.1.2.2.2.2.1 HG.out.1.2.2.2.2.2
  have HMC := Lib.hid hMC
  rw [← HN.out.1, ← HN.out.2] at hc
  clear hwC hgC hbC hMC
  go_wp2_with fail
  rw [← HWC.out]
  refine hc.mono ?_
  rintro e wD ⟨v0, v1, rfl, hR0, hR1, hbD⟩
  clear hc
  obtain ⟨F0, d0, rfl⟩ := Kd.R_slice hR0
  obtain ⟨F1, d1, rfl⟩ := Kd.R_slice hR1
  rw [← HN.out.1] at hR0
  rw [← HN.out.2] at hR1
  rw [← HN.out.1, ← HN.out.2]
  obtain ⟨wE, hwE⟩ : ∃ wE, wE = wD.alloc (.cells #[.slice F0 n0 d0, .slice F1 n1 d1] 36) := ⟨_, rfl⟩
  have hbE : Below wD.heap.size wD wE := by rw [hwE]; exact below_alloc (Below.refl _ _) _
  have hgE : wE.heap[wD.heap.size]? = some (.cells #[.slice F0 n0 d0, .slice F1 n1 d1] 36 (0, 0)) := by rw [hwE]; exact heap_alloc_new wD _
  have HWE := Lib.hid hwE
  have HR0 := Lib.hid (Kd.R_below hR0 hbE)
  have HR1 := Lib.hid (Kd.R_below hR1 hbE)
  have HBE := Lib.hid (below_then hbD hbD.size hbE)
  have HOE := Lib.hid (show Ow wE wC.heap.size wD.heap.size from ⟨hbD.size, _, _, hgE⟩)
  have hE0 : wE.cell? ⟨wD.heap.size, 0, none⟩ = some (.slice F0 n0 d0) := by simp [World.cell?, hgE]
  have hE1 : wE.cell? ⟨wD.heap.size, 1, none⟩ = some (.slice F1 n1 d1) := by simp [World.cell?, hgE]
  have HE := Lib.hid (And.intro hE0 hE1)
  obtain ⟨gD, hgD⟩ : ∃ g, g = wD.heap.size := ⟨_, rfl⟩
  clear hR0 hR1 hwE hbE hgE hbD hE0 hE1
  go_wp2
  rw [← HWE.out]
  rw [← hgD] at HOE HE ⊢
  clear hgD
  go_loopg [5] n0 (fun gg s5 wr => ∃ i : Nat, s5 = .int .i64 i ∧ i ≤ n0 ∧ n0 - i ≤ gg ∧ Hid ((Below wC.heap.size wC wr ∧ Shp wE wr) ∧ ∀ g, F0 = some ⟨g, 0, none⟩ → ∀ j, i ≤ j → wr.cell? ⟨g, j, none⟩ = wE.cell? ⟨g, j, none⟩))
  case atStart => exact ⟨0, rfl, Nat.zero_le _, by omega, Lib.hid ⟨⟨HBE.out, Shp.refl _⟩, fun _ _ _ _ => rfl⟩⟩
  case round =>
    obtain ⟨i, rfl, hin, hg, HIr⟩ := hrel
    have hd0 := HIr.out.1.2.slice HOE.out HE.out.1
    by_cases hi : i < n0
    · have hz2 : (i : Int) < (n0 : Int) := by omega
      obtain ⟨ad, e, hx⟩ := Kd.at_string (Kd.R_reads' HR0.out).2.2 (i : Int) (by omega) (by have := HN.out.1; omega)
      cases e
      obtain ⟨g0, rfl, hO⟩ := own_row (show Kd.R Kd.string 9 wE wC.heap.size (fun _ => True) (.slice (some ad) n0 d0) fs from HR0.out)
      have hx' : ∃ t0, wE.cell? ⟨g0, i, none⟩ = some (.string t0) ∧ t0.size ≤ 140737488351232 := ⟨_, by simp only [Int.toNat_natCast, add_at, Nat.zero_add] at hx; exact hx, by rw [rdOf_get _ _ _ (show i < fs.length by have := HN.out.1; omega)]; exact HG.out.2.2.2.2 _ (List.getElem_mem _)⟩
      obtain ⟨t, hx', hts⟩ := hx'
      have hzt : ¬ (9223372036854775807 < t.size + 1) := by omega
      have HX := Lib.hid (And.intro hO hx')
      have hfz := (HIr.out.1.2.str hO hx').2
      have ht : wr.cell? ⟨g0, i, none⟩ = some (.string t) := (HIr.out.2 g0 rfl i (Nat.le_refl _)).trans hx'
      have hbD := below_drew1 (Below.refl wr.heap.size wr)
      have HID := Lib.hid (fun j (hj : i ≤ j) => (show wr.drew.cell? ⟨g0, j, none⟩ = wE.cell? ⟨g0, j, none⟩ by rw [← HIr.out.2 g0 rfl j hj]; rfl))
      clear hx hx' hO hts
      go_wp2
      refine sD_ [10] (fun w' => (Below wC.heap.size wC w' ∧ Shp wE w') ∧ w'.cell? ⟨gD, 0, none⟩ = some (.slice (some ⟨g0, 0, none⟩) n0 d0) ∧ w'.cell? ⟨g0, i, none⟩ = some (.string t) ∧ w'.frozen? ⟨g0, i, none⟩ = false) 11 ⟨⟨below_drew1 HIr.out.1.1, HIr.out.1.2.below hbD⟩, keepc hbD hd0, keepc hbD ht, by simpa using hfz⟩ (fun hHeld => ?_)
      clear hbD hd0 ht hfz
      generalize wr.drew = wF at hHeld HID ⊢
      refine pu_ 0 (some 30) ?_
      refine tk_ 1 (some 31) hHeld ?_ (hy := by rintro w' ⟨s0, s1_, s2_, s3⟩; go_simp; with_reducible rfl)
      refine pu_ 2 (some 32) ?_
      refine pu_ 3 (some 33) ?_
      refine tk_ 4 (some 34) hHeld ?_ (hy := by rintro w' ⟨s0, s1_, s2_, s3⟩; go_simp; with_reducible rfl)
      refine pu_ 5 (some 35) ?_
      refine pu_ 6 (some 36) ?_
      refine tk_ 7 (some 37) hHeld ?_ (hy := by rintro w' ⟨s0, s1_, s2_, s3⟩; go_simp; with_reducible rfl)
      refine pu_ 8 (some 38) ?_
      refine pu_ 9 (some 39) ?_
      refine lA_ 10 none (fun K hK => ?_)
      obtain ⟨s0, s1_, s2_, s3⟩ := hHeld
      go_simp
      have hsh := s0.2.setS HX.out.1 HX.out.2 (t ++ { data := #[120] })
      have hbl := s0.1.setCell (p := ⟨g0, i, none⟩) HX.out.1.1 (.string (t ++ { data := #[120] }))
      have hne : ∀ j, i + 1 ≤ j → (wF.setCell ⟨g0, i, none⟩ (.string (t ++ { data := #[120] }))).cell? ⟨g0, j, none⟩ = wE.cell? ⟨g0, j, none⟩ := fun j hj => by
        rw [← HID.out j (by omega)]
        exact World.cell?_setCell_other _ _ _ _ (by first | (simp; done) | (simp; omega))
      have HSB := Lib.hid (And.intro (And.intro hbl hsh) hne)
      clear hsh hbl hne s0 s1_ s2_ s3
      refine hK.out _ _ (dn_ ?_)
      go_wp2
      go_roundg (n0 - (i + 1))
      case measure => omega
      case rel => exact ⟨i + 1, by go_num, by omega, by omega, Lib.hid ⟨HSB.out.1, fun g e j hj => by cases e; exact HSB.out.2 j hj⟩⟩
    · have hz2 : ¬ (i : Int) < (n0 : Int) := by omega
      have HIe := Lib.hid HIr.out.1
      clear HIr
      go_wp2
      clear hd0
      go_loopg [6, 7, 8, 9, 10] n1 (fun gg s6 _ _ _ _ wr => ∃ k : Nat, s6 = .int .i64 k ∧ k ≤ n1 ∧ n1 - k ≤ gg ∧ Hid (Below wC.heap.size wC wr ∧ Shp wE wr))
      case atStart => exact ⟨0, rfl, Nat.zero_le _, by omega, HIe⟩
      case round =>
        clear hz2 HIe hi hin
        obtain ⟨k, rfl, hkn, hgk, HIk⟩ := hrel
        have hd1 := HIk.out.2.slice HOE.out HE.out.2
        by_cases hk : k < n1
        · have hz3 : (k : Int) < (n1 : Int) := by omega
          obtain ⟨ad, P5, p5, P6, p6, e, -⟩ := at_T32 (Kd.R_reads' HR1.out).2.2 (k : Int) (by omega) (by have := HN.out.2; omega)
          cases e
          obtain ⟨g1, rfl, hO1⟩ := own_row (show Kd.R k32 32 wE wC.heap.size (fun _ => True) (.slice (some ad) n1 d1) l from HR1.out)
          obtain ⟨cs, -, hMM, hcs⟩ := Kd.R_get HR1.out z32 (k : Int) (by omega) hz3
          obtain ⟨v5, v6, rfl, R5, R6⟩ := k32_openM hMM
          obtain ⟨x, hx⟩ : ∃ x, x = l.getD (k : Int).toNat z32 := ⟨_, rfl⟩
          rw [← hx] at R5 R6 hcs
          clear hx hMM
          obtain ⟨A5, c5, rfl⟩ := Kd.R_slice R5
          obtain ⟨A6, c6, rfl⟩ := Kd.R_slice R6
          have e0 : wE.cell? ⟨g1, k * 7, none⟩ = some (.string x.f0) := by have h := hcs 0 _ rfl; simp only [Int.toNat_natCast, add_at, Nat.zero_add, Nat.add_zero] at h; exact h
          have e5 : wE.cell? ⟨g1, k * 7 + 5, none⟩ = some (.slice A5 x.f5.length c5) := by have h := hcs 5 _ rfl; simp only [Int.toNat_natCast, add_at, Nat.zero_add] at h; exact h
          have e6 : wE.cell? ⟨g1, k * 7 + 6, none⟩ = some (.slice A6 x.f6.length c6) := by have h := hcs 6 _ rfl; simp only [Int.toNat_natCast, add_at, Nat.zero_add] at h; exact h
          obtain ⟨n5, hn5⟩ : ∃ n, n = x.f5.length := ⟨_, rfl⟩
          obtain ⟨n6, hn6⟩ : ∃ n, n = x.f6.length := ⟨_, rfl⟩
          rw [← hn5] at R5 e5
          rw [← hn6] at R6 e6
          have HR5 := Lib.hid R5
          have HR6 := Lib.hid R6
          have HX := Lib.hid (And.intro hO1 (And.intro e0 (And.intro e5 e6)))
          have HN5 := Lib.hid (And.intro hn5 hn6)
          clear hcs R5 R6 hO1 e5 e6 hn5 hn6
          obtain ⟨⟨t, ht⟩, hfz⟩ := HIk.out.2.str HX.out.1 e0
          have HI1 := Lib.hid (And.intro (HIk.out.1.setCell (p := ⟨g1, k * 7, none⟩) HX.out.1.1 (.string { data := #[120] })) (HIk.out.2.setS HX.out.1 e0 { data := #[120] }))
          clear e0
          go_wp2
          clear hd1 ht hfz
          have hbn : n5 ≤ 9223372036854775807 := by have := (Kd.R_reads' HR5.out).2.2.2.1; have := HN5.out.1; omega
          go_loopg [7, 8] n5 (fun gg sj _ wr => ∃ j : Nat, sj = .int .i64 j ∧ j ≤ n5 ∧ n5 - j ≤ gg ∧ Hid (Below wC.heap.size wC wr ∧ Shp wE wr))
          case atStart => exact ⟨0, rfl, Nat.zero_le _, by omega, HI1⟩
          case round =>
            obtain ⟨j, rfl, hjn, hgj, HIj⟩ := hrel
            have hd1 := HIj.out.2.slice HOE.out HE.out.2
            have h5 := HIj.out.2.slice HX.out.1 HX.out.2.2.1
            by_cases hj : j < n5
            · have hz4 : (j : Int) < (n5 : Int) := by omega
              obtain ⟨ad, Pa, pa, Pb, pb, e, -⟩ := at_T29 (Kd.R_reads' HR5.out).2.2 (j : Int) (by omega) (by have := HN5.out.1; omega)
              cases e
              obtain ⟨g5, rfl, hO5⟩ := own_row HR5.out
              obtain ⟨cs, -, hMM, hcs⟩ := Kd.R_get HR5.out z29 (j : Int) (by omega) hz4
              obtain ⟨va, vb, rfl, Ra, Rb⟩ := k29_openM hMM
              obtain ⟨y, hy⟩ : ∃ y, y = x.f5.getD (j : Int).toNat z29 := ⟨_, rfl⟩
              rw [← hy] at Ra Rb
              clear hy hMM
              obtain ⟨Aa, ca, rfl⟩ := Kd.R_slice Ra
              have ea : wE.cell? ⟨g5, j * 2, none⟩ = some (.slice Aa y.f0.length ca) := by have h := hcs 0 _ rfl; simp only [Int.toNat_natCast, add_at, Nat.zero_add, Nat.add_zero] at h; exact h
              obtain ⟨na, hna⟩ : ∃ n, n = y.f0.length := ⟨_, rfl⟩
              rw [← hna] at Ra ea
              have HRa := Lib.hid Ra
              have HXa := Lib.hid (And.intro hO5 ea)
              have HNa := Lib.hid hna
              have hbm : na ≤ 9223372036854775807 := by have := (Kd.R_reads' HRa.out).2.2.2.1; have := HNa.out; omega
              clear hcs Ra Rb hO5 hna
              have ha := HIj.out.2.slice HXa.out.1 ea
              clear ea
              go_wp2
              clear hd1 h5 ha
              go_loopg [8] na (fun gg sq wr => ∃ q : Nat, sq = .int .i64 q ∧ q ≤ na ∧ na - q ≤ gg ∧ Hid (Below wC.heap.size wC wr ∧ Shp wE wr))
              case atStart => exact ⟨0, rfl, Nat.zero_le _, by omega, HIj⟩
              case round =>
                obtain ⟨q, rfl, hqn, hgq, HIq⟩ := hrel
                have hd1 := HIq.out.2.slice HOE.out HE.out.2
                have h5 := HIq.out.2.slice HX.out.1 HX.out.2.2.1
                have ha := HIq.out.2.slice HXa.out.1 HXa.out.2
                by_cases hq : q < na
                · have hz5 : (q : Int) < (na : Int) := by omega
                  obtain ⟨ad, e, hx0, hx1⟩ := at_T39 (Kd.R_reads' HRa.out).2.2 (q : Int) (by omega) (by have := HNa.out; omega)
                  cases e
                  obtain ⟨gq, rfl, hOq⟩ := own_row HRa.out
                  obtain ⟨s_, hs⟩ : ∃ s_, wE.cell? ⟨gq, q * 2, none⟩ = some (.string s_) := ⟨_, by have h := hx0; simp only [Int.toNat_natCast, add_at, Nat.zero_add] at h; exact h⟩
                  obtain ⟨⟨t, ht⟩, hfz⟩ := HIq.out.2.str hOq hs
                  have HQ := Lib.hid (And.intro hOq hs)
                  clear hx0 hx1 hs hOq
                  go_wp2
                  clear hd1 h5 ha ht hfz
                  go_roundg (na - (q + 1))
                  case measure => omega
                  case rel => exact ⟨q + 1, by go_num, by omega, by omega, Lib.hid ⟨HIq.out.1.setCell (p := ⟨gq, q * 2, none⟩) HQ.out.1.1 _, HIq.out.2.setS HQ.out.1 HQ.out.2 _⟩⟩
                · have hz5 : ¬ (q : Int) < (na : Int) := by omega
                  go_wp2
                  clear hd1 h5 ha
                  go_roundg (n5 - (j + 1))
                  case measure => omega
                  case rel => exact ⟨j + 1, by go_num, by omega, by omega, HIq⟩
            · have hz4 : ¬ (j : Int) < (n5 : Int) := by omega
              go_wp2
              clear hd1 h5
              have hbn : n6 ≤ 9223372036854775807 := by have := (Kd.R_reads' HR6.out).2.2.2.1; have := HN5.out.2; omega
              go_loopg [9, 10] n6 (fun gg sj _ wr => ∃ j : Nat, sj = .int .i64 j ∧ j ≤ n6 ∧ n6 - j ≤ gg ∧ Hid (Below wC.heap.size wC wr ∧ Shp wE wr))
              case atStart => exact ⟨0, rfl, Nat.zero_le _, by omega, HIj⟩
              case round =>
                obtain ⟨j, rfl, hjn, hgj, HIj⟩ := hrel
                have hd1 := HIj.out.2.slice HOE.out HE.out.2
                have h5 := HIj.out.2.slice HX.out.1 HX.out.2.2.2
                by_cases hj : j < n6
                · have hz4 : (j : Int) < (n6 : Int) := by omega
                  obtain ⟨ad, Pa, pa, Pb, pb, e, -⟩ := at_T29 (Kd.R_reads' HR6.out).2.2 (j : Int) (by omega) (by have := HN5.out.2; omega)
                  cases e
                  obtain ⟨g5, rfl, hO5⟩ := own_row HR6.out
                  obtain ⟨cs, -, hMM, hcs⟩ := Kd.R_get HR6.out z29 (j : Int) (by omega) hz4
                  obtain ⟨va, vb, rfl, Ra, Rb⟩ := k29_openM hMM
                  obtain ⟨y, hy⟩ : ∃ y, y = x.f6.getD (j : Int).toNat z29 := ⟨_, rfl⟩
                  rw [← hy] at Ra Rb
                  clear hy hMM
                  obtain ⟨Aa, ca, rfl⟩ := Kd.R_slice Rb
                  have ea : wE.cell? ⟨g5, j * 2 + 1, none⟩ = some (.slice Aa y.f1.length ca) := by have h := hcs 1 _ rfl; simp only [Int.toNat_natCast, add_at, Nat.zero_add] at h; exact h
                  obtain ⟨na, hna⟩ : ∃ n, n = y.f1.length := ⟨_, rfl⟩
                  rw [← hna] at Rb ea
                  have HRa := Lib.hid Rb
                  have HXa := Lib.hid (And.intro hO5 ea)
                  have HNa := Lib.hid hna
                  have hbm : na ≤ 9223372036854775807 := by have := (Kd.R_reads' HRa.out).2.2.2.1; have := HNa.out; omega
                  clear hcs Ra Rb hO5 hna
                  have ha := HIj.out.2.slice HXa.out.1 ea
                  clear ea
                  go_wp2
                  clear hd1 h5 ha
                  go_loopg [10] na (fun gg sq wr => ∃ q : Nat, sq = .int .i64 q ∧ q ≤ na ∧ na - q ≤ gg ∧ Hid (Below wC.heap.size wC wr ∧ Shp wE wr))
                  case atStart => exact ⟨0, rfl, Nat.zero_le _, by omega, HIj⟩
                  case round =>
                    obtain ⟨q, rfl, hqn, hgq, HIq⟩ := hrel
                    have hd1 := HIq.out.2.slice HOE.out HE.out.2
                    have h5 := HIq.out.2.slice HX.out.1 HX.out.2.2.2
                    have ha := HIq.out.2.slice HXa.out.1 HXa.out.2
                    by_cases hq : q < na
                    · have hz5 : (q : Int) < (na : Int) := by omega
                      obtain ⟨ad, e, hx0, hx1, hx2⟩ := at_T25 (Kd.R_reads' HRa.out).2.2 (q : Int) (by omega) (by have := HNa.out; omega)
                      cases e
                      obtain ⟨gq, rfl, hOq⟩ := own_row HRa.out
                      obtain ⟨s_, hs⟩ : ∃ s_, wE.cell? ⟨gq, q * 3 + 2, none⟩ = some (.int .i64 s_) := ⟨_, by have h := hx2; simp only [Int.toNat_natCast, add_at, Nat.zero_add] at h; exact h⟩
                      obtain ⟨⟨t, ht⟩, hfz⟩ := HIq.out.2.int hOq hs
                      have HQ := Lib.hid (And.intro hOq hs)
                      clear hx0 hx1 hx2 hs hOq
                      go_wp2
                      clear hd1 h5 ha ht hfz
                      go_roundg (na - (q + 1))
                      case measure => omega
                      case rel => exact ⟨q + 1, by go_num, by omega, by omega, Lib.hid ⟨HIq.out.1.setCell (p := ⟨gq, q * 3 + 2, none⟩) HQ.out.1.1 _, HIq.out.2.setI HQ.out.1 HQ.out.2 _⟩⟩
                    · have hz5 : ¬ (q : Int) < (na : Int) := by omega
                      go_wp2
                      clear hd1 h5 ha
                      go_roundg (n6 - (j + 1))
                      case measure => omega
                      case rel => exact ⟨j + 1, by go_num, by omega, by omega, HIq⟩
                · have hz4 : ¬ (j : Int) < (n6 : Int) := by omega
                  go_wp2
                  clear hd1 h5
                  go_roundg (n1 - (k + 1))
                  case measure => omega
                  case rel => exact ⟨k + 1, by go_num, by omega, by omega, HIj⟩
        · have hz3 : ¬ (k : Int) < (n1 : Int) := by omega
          have hgb := blk_below HGC.out HIk.out.1
          have hq0 : wr.cell? ⟨w3.heap.size, 0, none⟩ = some (.slice A2 n0 c2) := by simp [World.cell?, hgb]
          have hq1 : wr.cell? ⟨w3.heap.size, 1, none⟩ = some (.slice A3 n1 c3) := by simp [World.cell?, hgb]
          have hbw := keepb (keepb HIk.out.1 HBC.out) HB3.out
          obtain ⟨hc_0, hc_1⟩ := HCC.out wr hbw
          have hc := Mw.rsame HG.out.1 (HMC.out.below HIk.out.1) (HM.out.below (keepb hbw HB0.out))
          rw [eqP_iff.2 ⟨rfl, rfl⟩, ← HN.out.1, ← HN.out.2] at hc
          have HBW := Lib.hid hbw
          clear hgb hbw
          go_wp2_with (first | (go_at_call 26; refine hc.mono ?_; rintro e w8 ⟨rfl, hb8⟩; have HB8 := Lib.hid hb8; clear hb8) | (go_at_call 14; refine (known4_call w8).mono ?_; rintro e w9 ⟨rfl, hb9⟩))
          go_ret
          exact ⟨rfl, keepb (keepb (keepb hb9 HB8.out) HBW.out) HB0.out⟩
end Go.Proofs.Ytchellnfenekaaa.Pm
end
section
namespace Go.Proofs.Ytchellnfenekaaa.modelCopy
open Go.ChangeShapes Go.WideShapes Go.ChangeAt Go.RowKit Go.Proofs.YtchellnfenekaaaW.PrintWords
open Go.ChangeMaps (open_string shut_string)
set_option linter.unusedVariables false
theorem own : ownKnob Try.prog.godebug = none := by kernel_rfl
theorem laidOut : laidOutB Try.prog = true := by kernel_rfl
set_option maxRecDepth 100000 in
theorem lifted (os : Os) (started : os.Started) (H : Type) (enc : TypeId × Value → H) :
    ReturnsInHanded {} Try.checked os 10 .any (Rows.modelCopySpec.pre6 enc Try.prog Try.f10 Rows.modelCopyRow.domain false) (Rows.modelCopySpec.post enc Try.prog Try.f10 false true false false) := by
  refine returnsInHanded_of_change_sized (C := Try.checked) own started (by kernel_rfl) Try.func10
    (ChangeSpec.witness6 (enc := enc) (C := Try.checked) false ⟨#[], #[.agg #[.slice none 0 0, .slice none 0 0]], []⟩ 8 (by kernel_rfl) (by kernel_rfl) (by kernel_rfl) (by kernel_rfl)) ?_
  intro W base args ds gs before hval0 hW hcnd hsz0 _
  have hsz : (DataW.weightsEach Try.prog (Try.f10.params.toList ++ Rows.modelCopySpec.plain.varTypes Try.prog) (ds ++ gs)).all (· ≤ reachBytes) = true := hsz0
  have hval : ∀ (j : Nat) t v, Try.f10.params[j]? = some t → args[j]? = some v → Value.okWide Try.prog W .any base t v := hval0
  have hW' := hW
  obtain ⟨p, q, hA0, hV, rfl, hfz, hnd⟩ := hW
  have hA : DataW.TrodAll enc Try.prog W 0 (fun _ => true) true Try.f10.params.toList args.toList ds p := hA0
  rw [Try.params10] at hA hval hsz
  obtain ⟨v0, vs0, d0, ds0, p0, q0, hargs, rfl, rfl, h0, r0⟩ := trodAll_cons hA
  obtain ⟨rfl, rfl, rfl⟩ := trodAll_nil r0
  obtain rfl : args = #[v0] := by cases args; simp_all
  obtain ⟨rfl, rfl⟩ := trodVars_none hV
  have k0 := h0
  have lt0 : ∀ x ∈ p0, x.block < W.heap.size := by obtain ⟨m, hm⟩ := k0; exact DataW.trod_lt m _ _ _ hm
  obtain ⟨A0, c0, fs0, B0, e0, l0, rfl, rdf0, hcf0, rdl0, hcl0, hf0, hl0, hg0, hw0, hx0⟩ := Pm.open_modelX (hval 0 36 v0 rfl rfl) h0 (Pm.light_of hsz (j := 0) (t := 36) rfl rfl)
  clear hA0 hval0 hsz0 hsz
  refine ((Pm.modelCopy_any A0 c0 fs0 B0 e0 l0 W ⟨rdf0, hcf0, rdl0, hcl0⟩ ⟨hf0, hl0, hg0, hw0⟩ hx0).mono fun e w' h => (⟨h.1, h.2⟩ : e = .returned (.bool true) ∧ Below W.heap.size W w')).mono fun e W' ⟨he, bel⟩ => ?_
  subst he
  exact ⟨_, rfl, _, _, _, [], _, [], hW', trodAll_mk1 (shut_bool Try.underlying4 _), (trodAll_cons_mk (Below.trod laidOut (by kernel_rfl) (of_decide_eq_true (by kernel_rfl)) k0 bel lt0) trodAll_mk0), rfl, bel.frame _, fun h => by cases h⟩
theorem over : Rows.modelCopyRow.holds Try.pinned (OpenSpec.ofChange Rows.modelCopySpec) :=
  OpenClaim.holds_of_wide 10 Try.f10 rfl rfl rfl rfl rfl rfl rfl ⟨rfl, rfl, rfl, rfl, rfl⟩ rfl rfl rfl rfl rfl (by kernel_rfl) Try.func10 (by kernel_rfl)
    (of_decide_eq_true (by kernel_rfl)) (by unfold Func.isWrapper; first | (rw [if_pos (by decide +kernel)]; kernel_rfl) | (rw [if_neg (by decide +kernel)]; exact ⟨rfl, rfl⟩))
    (fun os started H enc _ => lifted os started H enc)
theorem proved : Rows.ModelCopySaid := over
end Go.Proofs.Ytchellnfenekaaa.modelCopy
namespace Go.Proofs.Ytchellnfenekaaa
/-- The row, under a short name, for the claim. -/
theorem modelCopy_holds : Rows.ModelCopySaid := modelCopy.proved
end Go.Proofs.Ytchellnfenekaaa
end
