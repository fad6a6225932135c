/- The law XlateUnlike: for every input the call answers true, and the input reads as it did. No condition. (Walks and laws of several texts, merged, and what is not used struck, by a program.) -/
import Derived.Lib.Hide
import Derived.Test.YteddgedacjdjgaaMXlateUnlike3
import Derived.Test.YteddgedacjdjgaaMXlateUnlike5
import Derived.Test.YteddgedacjdjgaaMXlateUnlike1
import Derived.Test.YteddgedacjdjgaaMXlateUnlike4
import Derived.Test.YteddgedacjdjgaaMXlateUnlike0
import Derived.Test.YteddgedacjdjgaaMXlateUnlike2
import Derived.Laws.Strings
import Derived.Below
import Derived.ChangeOld
import Derived.ChangeSlices
import Derived.OpenShut
import Derived.ProofKit
import Derived.ShutString
import Derived.SizedLaws
import Derived.Test.YteddgedacjdjgaaRows
import Derived.WalkKit
section
namespace Go.Proofs.Yteddgedacjdjgaa.Pm
open Go.RowKit Go.Proofs.YteddgedacjdjgaaW.PrintWords Go.Proofs.YteddgedacjdjgaaW.PrintLast Go.Proofs.YteddgedacjdjgaaW.PrintMore
attribute [local go_sem] max2_int min2_int max_two min_two max_three min_three max_four min_four   -- for this text's walks alone
set_option linter.unusedVariables false
set_option linter.unusedSimpArgs false
theorem To_legal (w : World) (A0 : Option Addr) (c0 : Nat) (fs : List ByteArray) (A1 : Option Addr) (c1 : Nat) (l : List (S41)) (hr0 : Kd.C Kd.string w A0 fs.length fs) (hc0 : fs.length ≤ c0) (hr1 : Kd.C k41 w A1 l.length l) (hc1 : l.length ≤ c1) (his : isB fs l = true) :
 Calls Try.prog 8 #[.agg #[.slice A0 fs.length c0, .slice A1 l.length c1]] w (ToPost w fs l) := by
 obtain ⟨h1, h2, h3, h4, h5⟩ := to_facts fs l his
 exact To_any w A0 c0 fs A1 c1 l hr0 hc0 hr1 hc1 h5 his h1 h2 h3 h4
def ToShort (w : World) (fs : List ByteArray) (l : List (S41)) (e : Ending) (w' : World) : Prop := ∃ A4 c4 A5 c5 A7 n7 c7 Ar lr cr Ac lc cc Au lu cu A11 n11 c11, ∃ fl la : Int, e = .returned (.tuple #[.agg #[.int .i64 fl, .int .i64 la, .slice A4 1 c4, .slice A5 2 c5, .int .i64 6, .slice A7 n7 c7, .slice Ar lr cr, .slice Ac lc cc, .slice Au lu cu, .slice A11 n11 c11], .int .i64 0]) ∧ la = (marksN l l.length : Nat) ∧ fl = la + 6 * (l.length : Int) + (sentsN l l.length : Nat) ∧ Kd.C (Kd.int .i64) w' A4 1 [1] ∧ 1 ≤ c4 ∧ Kd.C (Kd.int .i64) w' A5 2 [2, 3] ∧ 2 ≤ c5 ∧ Below w.heap.size w w'
theorem To_short (w : World) (A0 : Option Addr) (c0 : Nat) (fs : List ByteArray) (A1 : Option Addr) (c1 : Nat) (l : List (S41)) (hr0 : Kd.C Kd.string w A0 fs.length fs) (hc0 : fs.length ≤ c0) (hr1 : Kd.C k41 w A1 l.length l) (hc1 : l.length ≤ c1) (his : isB fs l = true) :
 Calls Try.prog 8 #[.agg #[.slice A0 fs.length c0, .slice A1 l.length c1]] w (ToShort w fs l) := by
 refine (To_legal w A0 c0 fs A1 c1 l hr0 hc0 hr1 hc1 his).mono ?_
 rintro e w' ⟨v4, v5, v7, v11, vr, vc, vu, c, rfl, -, h1, h2, r4, r5, r7, r11, rr, rc, ru, hb⟩
 obtain ⟨A4, c4, rfl⟩ := Kd.R_slice r4
 obtain ⟨A5, c5, rfl⟩ := Kd.R_slice r5
 obtain ⟨A7, c7, rfl⟩ := Kd.R_slice r7
 obtain ⟨A11, c11, rfl⟩ := Kd.R_slice r11
 obtain ⟨Ar, cr, rfl⟩ := Kd.R_slice rr
 obtain ⟨Ac, cc, rfl⟩ := Kd.R_slice rc
 obtain ⟨Au, cu, rfl⟩ := Kd.R_slice ru
 exact ⟨A4, c4, A5, c5, A7, _, c7, Ar, _, cr, Ac, _, cc, Au, _, cu, A11, _, c11, c.fl, c.la, rfl, h1, h2, (Kd.R_reads' r4).2.2, (Kd.R_reads' r4).2.1, (Kd.R_reads' r5).2.2, (Kd.R_reads' r5).2.1, hb⟩
def planItem : S41 := ⟨(⟨#[112]⟩ : ByteArray), 1, (⟨#[]⟩ : ByteArray), false, 0, [], []⟩
set_option maxRecDepth 100000 in
theorem isB_plan : isB [] [planItem] = true := by decide +kernel
theorem plan_C (W : World) (g : Nat) (hc : ∀ j u, [Value.string ⟨#[112]⟩, .int .i64 1, .string ⟨#[]⟩, .bool false, .int .i64 0, .slice none 0 0, .slice none 0 0][j]? = some u → W.cell? ((⟨g, 0, none⟩ : Addr).add j) = some u) : Kd.C k41 W (some ⟨g, 0, none⟩) [planItem].length [planItem] := by
 refine ⟨rfl, by decide, fun _ => ⟨_, rfl, fun j p hj => ?_⟩⟩
 obtain rfl : j = 0 := by
  have := (List.getElem?_eq_some_iff.1 hj).1
  simp at this
  exact this
 obtain rfl : planItem = p := by simpa using hj
 refine ⟨_, rfl, k41_mk W planItem (A5 := none) (c5 := 0) (Nat.le_refl _) (Kd.C_nil _ W) (A6 := none) (c6 := 0) (Nat.le_refl _) (Kd.C_nil _ W), fun i u hi => ?_⟩
 have h2 := hc i u hi
 rwa [show 0 * (Kd.sz k41) + i = i by omega]
set_option maxRecDepth 100000 in
theorem flag_open : q49.f [] [planItem] ⟨#[112]⟩ 2 = some 1 := by decide +kernel
set_option maxRecDepth 100000 in
theorem flag_wait : q49.f [] [planItem] ⟨#[112]⟩ 0 = some (-1) := by decide +kernel
set_option maxHeartbeats 8000000 in
set_option maxRecDepth 100000 in
theorem known12_any (w : World) : Calls Try.prog 11 #[] w fun e w' => e = .returned (.bool true) ∧ Below w.heap.size w w' := by
 have hu25 := Try.underlying25
 have hu32 := Try.underlying32
 have hu41 := Try.underlying41
 obtain ⟨wB, hwB⟩ : ∃ wB, wB = (w.alloc (.cells #[.string ⟨#[112]⟩, .int .i64 1, .string ⟨#[]⟩, .bool false, .int .i64 0, .slice none 0 0, .slice none 0 0] 41)).alloc (.cells #[.slice none 0 0, .slice (some ⟨w.heap.size, 0, none⟩) 1 1] 25) := ⟨_, rfl⟩
 have hbB : Below w.heap.size w wB := by rw [hwB]; exact q57 (q57 (Below.refl _ _) _) _
 have hg1 : wB.heap[w.heap.size]? = some (.cells #[.string ⟨#[112]⟩, .int .i64 1, .string ⟨#[]⟩, .bool false, .int .i64 0, .slice none 0 0, .slice none 0 0] 41 (0, 0)) := by rw [hwB]; exact q61 (heap_alloc_new _ _) _
 have hg2 : wB.heap[w.heap.size + 1]? = some (.cells #[.slice none 0 0, .slice (some ⟨w.heap.size, 0, none⟩) 1 1] 25 (0, 0)) := by
  rw [hwB, show w.heap.size + 1 = (w.alloc (.cells #[.string ⟨#[112]⟩, .int .i64 1, .string ⟨#[]⟩, .bool false, .int .i64 0, .slice none 0 0, .slice none 0 0] 41)).heap.size by simp]
  exact heap_alloc_new _ _
 have hC := plan_C wB w.heap.size (World.news_of_block (cs := #[.string ⟨#[112]⟩, .int .i64 1, .string ⟨#[]⟩, .bool false, .int .i64 0, .slice none 0 0, .slice none 0 0]) (t := 41) (fr := (0, 0)) hg1)
 have hT := To_short wB none 0 [] (some ⟨w.heap.size, 0, none⟩) 1 [planItem] (Kd.C_nil _ _) (Nat.le_refl _) hC (Nat.le_refl _) isB_plan
 obtain ⟨b, hb⟩ : ∃ b, b = w.heap.size + 1 := ⟨_, rfl⟩
 rw [← hb] at hg2
 have hm0 : wB.cell? ⟨b, 0, none⟩ = some (.slice none 0 0) := (q63 hg2 0).trans rfl
 have hm1 : wB.cell? ⟨b, 1, none⟩ = some (.slice (some ⟨w.heap.size, 0, none⟩) 1 1) := (q63 hg2 1).trans rfl
 have HBB := Lib.hid hbB
 have HWB := Lib.hid hwB
 have HC := Lib.hid hC
 have HB := Lib.hid hb
 have HMM := Lib.hid (And.intro hm0 hm1)
 have hFl : ∀ W, Below wB.heap.size wB W → ∀ st r : Int, q49.f [] [planItem] ⟨#[112]⟩ st = some r → Calls Try.prog 13 #[.agg #[.slice none 0 0, .slice (some ⟨w.heap.size, 0, none⟩) 1 1], .string ⟨#[112]⟩, .int .i64 st] W fun e w' => e = .returned (.int .i64 r) ∧ Below W.heap.size W w' := fun W hW st r h =>
  q49.calls none 0 [] (some ⟨w.heap.size, 0, none⟩) 1 [planItem] ⟨#[112]⟩ st r W (Kd.C_nil _ _) (Nat.le_refl _) (Kd.C_below HC.out hW) (Nat.le_refl _) h
 have HFL := Lib.hid hFl
 obtain ⟨p, hp⟩ : ∃ p, p = w.heap.size := ⟨_, rfl⟩
 clear hbB hwB hg1 hg2 hC hb hm0 hm1 hFl
 go_enter Try.func11, Try.ntmps11
 go_upto_region 2 with (fail)
 rw [← HWB.out, ← show b = _ from HB.out]
 have hm0 := HMM.out.1
 have hm1 := HMM.out.2
 clear hp
 go_wp2_with fail
 refine hT.mono ?_
 rintro e w2 ⟨A4, c4, A5, c5, A7, n7, c7, Ar, lr, cr, Ac, lc, cc, Au, lu, cu, A11, n11, c11, fl, la, rfl, hla, hfl, -, -, -, -, hb2⟩
 have hla4 : la = 4 := by rw [hla]; decide
 have hfl10 : fl = 10 := by rw [hfl, hla4]; decide
 rw [hla4, hfl10]
 have HB2 := Lib.hid hb2
 have hm0 := q73 hb2 hm0
 have hm1 := q73 hb2 hm1
 clear hT hla hfl hla4 hfl10 hb2
 obtain ⟨w3, hw3⟩ : ∃ w3, w3 = w2.alloc (.cells #[.int .i64 10, .int .i64 4, .slice A4 1 c4, .slice A5 2 c5, .int .i64 6, .slice A7 n7 c7, .slice Ar lr cr, .slice Ac lc cc, .slice Au lu cu, .slice A11 n11 c11] 32) := ⟨_, rfl⟩
 have hb3 : Below w2.heap.size w2 w3 := by rw [hw3]; exact q57 (Below.refl _ _) _
 have hg3 : w3.heap[w2.heap.size]? = some (.cells #[.int .i64 10, .int .i64 4, .slice A4 1 c4, .slice A5 2 c5, .int .i64 6, .slice A7 n7 c7, .slice Ar lr cr, .slice Ac lc cc, .slice Au lu cu, .slice A11 n11 c11] 32 (0, 0)) := by rw [hw3]; exact heap_alloc_new _ _
 obtain ⟨q, hq⟩ : ∃ q, q = w2.heap.size := ⟨_, rfl⟩
 rw [← hq] at hg3
 have hp0 : w3.cell? ⟨q, 0, none⟩ = some (.int .i64 10) := (q63 hg3 0).trans rfl
 have hp1 : w3.cell? ⟨q, 1, none⟩ = some (.int .i64 4) := (q63 hg3 1).trans rfl
 have hp4 : w3.cell? ⟨q, 4, none⟩ = some (.int .i64 6) := (q63 hg3 4).trans rfl
 have hm0 := q73 hb3 hm0
 have hm1 := q73 hb3 hm1
 have HB3 := Lib.hid (q60 HB2.out HB2.out.size hb3)
 have HW3 := Lib.hid hw3
 have HQ := Lib.hid hq
 clear hw3 hb3 hg3 hq
 go_upto_region 3 with (fail)
 rw [← HW3.out, ← HQ.out]
 have hf1 := HFL.out w3 HB3.out 2 1 flag_open
 go_wp2_with fail
 refine hf1.mono ?_
 rintro e w4 ⟨rfl, hb4⟩
 have HB4 := Lib.hid (q60 HB3.out HB3.out.size hb4)
 have hm0 := q73 hb4 hm0
 have hm1 := q73 hb4 hm1
 have hf2 := HFL.out w4 HB4.out 0 (-1) flag_wait
 clear hf1 hb4 hp0 hp1 hp4
 go_wp2_with fail
 refine hf2.mono ?_
 rintro e w5 ⟨rfl, hb5⟩
 have HB5 := Lib.hid (q60 HB4.out HB4.out.size hb5)
 clear hf2 hb5 hm0 hm1
 go_wp2
 go_ret
 exact ⟨rfl, q60 HBB.out HBB.out.size HB5.out⟩
def TB (v : Bool) (W : World) (e : Ending) (w' : World) : Prop := e = .returned (.bool v) ∧ Below W.heap.size W w'
def Md (w : World) (A0 : Option Addr) (c0 : Nat) (fs : List ByteArray) (A1 : Option Addr) (c1 : Nat) (l : List (S41)) : Prop := (Kd.C Kd.string w A0 fs.length fs ∧ fs.length ≤ c0 ∧ Kd.C k41 w A1 l.length l ∧ l.length ≤ c1) ∧ fs.length ≤ 140737488351232 ∧ l.length ≤ 140737488351232 ∧ ∀ x ∈ l, goodItem x
section
variable {w : World} {A0 : Option Addr} {c0 : Nat} {fs : List ByteArray} {A1 : Option Addr} {c1 : Nat} {l : List (S41)}
theorem Md.heavy (h : Md w A0 c0 fs A1 c1 l) : ∃ v, ∀ W, Below w.heap.size w W → Calls Try.prog 6 #[.agg #[.slice A0 fs.length c0, .slice A1 l.length c1]] W (TB v W) := by
 obtain ⟨⟨h0, h1, h2, h3⟩, h4, h5, h6⟩ := h
 obtain ⟨v, ⟨k, hk⟩, -⟩ := ev_heavy fs l h4 h5 h6
 exact ⟨v, fun W hb => q18.calls k A0 c0 fs A1 c1 l v W (Kd.C_below h0 hb) h1 (Kd.C_below h2 hb) h3 (hk k (Nat.le_refl _))⟩
theorem Md.is (h : Md w A0 c0 fs A1 c1 l) : ∀ W, Below w.heap.size w W → Calls Try.prog 7 #[.agg #[.slice A0 fs.length c0, .slice A1 l.length c1]] W (TB (isB fs l) W) := by
 obtain ⟨⟨h0, h1, h2, h3⟩, h4, h5, h6⟩ := h
 obtain ⟨k, hk⟩ := ev_ris fs l (fits_of fs l h4 h5 h6)
 exact fun W hb => q35.calls k A0 c0 fs A1 c1 l _ W (Kd.C_below h0 hb) h1 (Kd.C_below h2 hb) h3 (by rw [← ris_eq]; exact hk k (Nat.le_refl _))
end
theorem known_call (W : World) : Calls Try.prog 11 #[] W (TB true W) := known12_any W
def Evb (g : Nat → Option Bool) (P : Prop) : Prop := ∃ r, Ev g r ∧ (r = true ↔ P)
theorem ba_ext' {a b : ByteArray} (h : a.toList = b.toList) : a = b := by
 rw [ByteArray.toList_eq, ByteArray.toList_eq] at h
 exact Go.WideShapes.bytes_inj h
theorem Evb.yes {P : Prop} (h : P) : Evb (fun _ => some true) P := ⟨true, Ev.now true, by simp [h]⟩
theorem Evb.no {P : Prop} (h : ¬ P) : Evb (fun _ => some false) P := ⟨false, Ev.now false, by simp [h]⟩
theorem Evb.iff {g : Nat → Option Bool} {P Q : Prop} (h : Evb g P) (e : P ↔ Q) : Evb g Q := by obtain ⟨r, h1, h2⟩ := h; exact ⟨r, h1, h2.trans e⟩
theorem Evb.step {f g : Nat → Option Bool} {P : Prop} (h : ∀ k, g (k + 1) = f k) (hf : Evb f P) : Evb g P := by obtain ⟨r, h1, h2⟩ := hf; exact ⟨r, Ev.step h h1, h2⟩
theorem Evb.congr {f g : Nat → Option Bool} {P : Prop} (h : ∀ k, g k = f k) (hf : Evb f P) : Evb g P := by obtain ⟨r, h1, h2⟩ := hf; exact ⟨r, Ev.congr h h1, h2⟩
theorem Evb.and {g n : Nat → Option Bool} {P Q : Prop} (hg : Evb g P) (hn : P → Evb n Q) : Evb (fun k => (g k).bind fun t => if t = true then n k else some false) (P ∧ Q) := by
  obtain ⟨r, h1, h2⟩ := hg
  cases r with
  | true =>
    obtain ⟨r, h3, h4⟩ := hn (h2.1 rfl)
    exact ⟨r, Ev.bind h1 (Ev.congr (fun k => if_pos rfl) h3), h4.trans ⟨fun h => ⟨h2.1 rfl, h⟩, fun h => h.2⟩⟩
  | false => exact ⟨false, Ev.bind h1 (Ev.congr (fun k => if_neg (by decide)) (Ev.now false)), by simp; intro h; exact absurd (h2.2 h) (by decide)⟩
theorem drop_iff {α : Type} {l m : List α} (h : l.length = m.length) (i : Nat) (hi : i < l.length) : l.drop i = m.drop i ↔ l[i] = m[i]'(h ▸ hi) ∧ l.drop (i + 1) = m.drop (i + 1) := by
 have hj : i < m.length := h ▸ hi
 rw [List.drop_eq_getElem_cons hi, List.drop_eq_getElem_cons hj, List.cons.injEq]
theorem evb_texts (l m : List ByteArray) (hn : l.length ≤ 9223372036854775806) : Evb (fun k => q14.f k l m) (l = m) := by
  by_cases hl : l.length = m.length
  case neg => exact Evb.congr (fun k => by unfold q14.f; exact if_neg (by omega)) (Evb.no (fun h => hl (by rw [h])))
  have main : ∀ (d i : Nat), i + d = l.length → Evb (fun k => q14.l0 k l m (i : Int)) (l.drop i = m.drop i) := by
    intro d
    induction d with
    | zero =>
      intro i hi
      refine Evb.step (f := fun _ => some true) (fun k => ?_) (Evb.yes (by rw [List.drop_of_length_le (by omega), List.drop_of_length_le (by omega)]))
      simp only [q14.l0]
      rw [if_neg (by omega)]
    | succ d ih =>
      intro i hi
      have h1 : i < l.length := by omega
      have h2 : i < m.length := by omega
      by_cases he : l[i].toList = m[i].toList
      · refine Evb.step (f := fun k => q14.l0 k l m ((i + 1 : Nat) : Int)) (fun k => ?_) ((ih (i + 1) (by omega)).iff ?_)
        · simp only [q14.l0]
          rw [if_pos (by omega), if_pos (by omega), if_pos (by omega), rdOf_get _ _ _ h1, rdOf_get _ _ _ h2, if_pos he, wrap_lt (n := (l.length : Int)) (by omega) (by omega) (by omega)]
          rfl
        · rw [drop_iff hl i h1]
          exact ⟨fun h => ⟨ba_ext' he, h⟩, fun h => h.2⟩
      · refine Evb.step (f := fun _ => some false) (fun k => ?_) (Evb.no ?_)
        · simp only [q14.l0]
          rw [if_pos (by omega), if_pos (by omega), if_pos (by omega), rdOf_get _ _ _ h1, rdOf_get _ _ _ h2, if_neg he]
        · rw [drop_iff hl i h1]
          exact fun h => he (by rw [h.1])
  exact Evb.congr (fun k => by unfold q14.f; exact if_pos (by omega)) (main l.length 0 (by omega))
theorem evb_s2 {Q : Prop} (l m : List (S45)) (i : Nat) (h1 : i < l.length) (h2 : i < m.length) (hl : l[i].f1.length = m[i].f1.length) (hn : l[i].f1.length ≤ 9223372036854775806) (hln : l.length ≤ 9223372036854775806) (hR : Evb (fun k => q9.l0 k l m ((i + 1 : Nat) : Int)) Q) (d : Nat) : ∀ j : Nat, j + d = l[i].f1.length → Evb (fun k => q9.l2 k l m (i : Int) (j : Int)) (l[i].f1.drop j = m[i].f1.drop j ∧ Q) := by
  have r1 : q82 l (i : Int) = l[i] := by simp [q82, List.getD_eq_getElem?_getD, List.getElem?_eq_getElem h1]
  have r2 : q82 m (i : Int) = m[i] := by simp [q82, List.getD_eq_getElem?_getD, List.getElem?_eq_getElem h2]
  induction d with
  | zero =>
    intro j hj
    refine Evb.step (f := fun k => q9.l0 k l m ((i + 1 : Nat) : Int)) (fun k => ?_) (hR.iff ?_)
    · simp only [q9.l2]
      rw [if_pos (by omega), if_pos (by omega), r1, if_neg (by omega), wrap_lt (n := (l.length : Int)) (by omega) (by omega) (by omega)]
      rfl
    · rw [List.drop_of_length_le (by omega), List.drop_of_length_le (by omega)]
      simp
  | succ d ih =>
    intro j hj
    have g1 : j < l[i].f1.length := by omega
    have g2 : j < m[i].f1.length := by omega
    have q1 : q84 l[i].f1 (j : Int) = l[i].f1[j] := by simp [q84, List.getD_eq_getElem?_getD, List.getElem?_eq_getElem g1]
    have q2 : q84 m[i].f1 (j : Int) = m[i].f1[j] := by simp [q84, List.getD_eq_getElem?_getD, List.getElem?_eq_getElem g2]
    have hb : (!((l[i].f1[j].f0.toList) == (m[i].f1[j].f0.toList)) || (!((l[i].f1[j].f1.toList) == (m[i].f1[j].f1.toList)) || (!(l[i].f1[j].f2 == m[i].f1[j].f2)))) = true ↔ l[i].f1[j] ≠ m[i].f1[j] := by
      generalize l[i].f1[j] = a
      generalize m[i].f1[j] = b
      obtain ⟨a0, a1, a2⟩ := a
      obtain ⟨b0, b1, b2⟩ := b
      simp only [Bool.or_eq_true, Bool.not_eq_true', beq_eq_false_iff_ne, ne_eq, S90.mk.injEq]
      constructor
      · rintro (h | h | h) ⟨e1, e2, e3⟩
        · exact h (by rw [e1])
        · exact h (by rw [e2])
        · exact h e3
      · intro h
        by_cases e1 : a0.toList = b0.toList
        · by_cases e2 : a1.toList = b1.toList
          · exact .inr (.inr (fun e3 => h ⟨ba_ext' e1, ba_ext' e2, e3⟩))
          · exact .inr (.inl e2)
        · exact .inl e1
    by_cases he : l[i].f1[j] = m[i].f1[j]
    · refine Evb.step (f := fun k => q9.l2 k l m (i : Int) ((j + 1 : Nat) : Int)) (fun k => ?_) ((ih (j + 1) (by omega)).iff ?_)
      · simp only [q9.l2]
        rw [if_pos (by omega), if_pos (by omega), r1, if_pos (by omega), if_pos (by omega), if_pos (by omega), r2, if_pos (by omega), q1, q2, if_neg (fun h => hb.1 h he), wrap_lt (n := (l[i].f1.length : Int)) (by omega) (by omega) (by omega)]
        rfl
      · rw [drop_iff hl j g1]
        exact ⟨fun h => ⟨⟨he, h.1⟩, h.2⟩, fun h => ⟨h.1.2, h.2⟩⟩
    · refine Evb.step (f := fun _ => some false) (fun k => ?_) (Evb.no ?_)
      · simp only [q9.l2]
        rw [if_pos (by omega), if_pos (by omega), r1, if_pos (by omega), if_pos (by omega), if_pos (by omega), r2, if_pos (by omega), q1, q2, if_pos (hb.2 he)]
      · rw [drop_iff hl j g1]
        exact fun h => he h.1.1
theorem evb_s1 {Q : Prop} (l m : List (S45)) (i : Nat) (h1 : i < l.length) (h2 : i < m.length) (hl : l[i].f0.length = m[i].f0.length) (hl1 : l[i].f1.length = m[i].f1.length) (hn : l[i].f0.length ≤ 9223372036854775806) (hn1 : l[i].f1.length ≤ 9223372036854775806) (hln : l.length ≤ 9223372036854775806) (hR : Evb (fun k => q9.l0 k l m ((i + 1 : Nat) : Int)) Q) (d : Nat) : ∀ j : Nat, j + d = l[i].f0.length → Evb (fun k => q9.l1 k l m (i : Int) (j : Int)) (l[i].f0.drop j = m[i].f0.drop j ∧ l[i].f1 = m[i].f1 ∧ Q) := by
  have r1 : q82 l (i : Int) = l[i] := by simp [q82, List.getD_eq_getElem?_getD, List.getElem?_eq_getElem h1]
  have r2 : q82 m (i : Int) = m[i] := by simp [q82, List.getD_eq_getElem?_getD, List.getElem?_eq_getElem h2]
  induction d with
  | zero =>
    intro j hj
    refine Evb.step (f := fun k => q9.l2 k l m (i : Int) ((0 : Nat) : Int)) (fun k => ?_) ((evb_s2 l m i h1 h2 hl1 hn1 hln hR l[i].f1.length 0 (by omega)).iff ?_)
    · simp only [q9.l1]
      rw [if_pos (by omega), if_pos (by omega), r1, if_neg (by omega)]
      rfl
    · rw [List.drop_of_length_le (l := l[i].f0) (by omega), List.drop_of_length_le (l := m[i].f0) (by omega)]
      simp
  | succ d ih =>
    intro j hj
    have g1 : j < l[i].f0.length := by omega
    have g2 : j < m[i].f0.length := by omega
    have q1 : q76 l[i].f0 (j : Int) = l[i].f0[j] := by simp [q76, List.getD_eq_getElem?_getD, List.getElem?_eq_getElem g1]
    have q2 : q76 m[i].f0 (j : Int) = m[i].f0[j] := by simp [q76, List.getD_eq_getElem?_getD, List.getElem?_eq_getElem g2]
    have hb : (!((l[i].f0[j].f0.toList) == (m[i].f0[j].f0.toList)) || (!(l[i].f0[j].f1 == m[i].f0[j].f1))) = true ↔ l[i].f0[j] ≠ m[i].f0[j] := by
      generalize l[i].f0[j] = a
      generalize m[i].f0[j] = b
      obtain ⟨a0, a1⟩ := a
      obtain ⟨b0, b1⟩ := b
      simp only [Bool.or_eq_true, Bool.not_eq_true', beq_eq_false_iff_ne, ne_eq, S101.mk.injEq]
      constructor
      · rintro (h | h) ⟨e1, e2⟩
        · exact h (by rw [e1])
        · exact h e2
      · intro h
        by_cases e1 : a0.toList = b0.toList
        · exact .inr (fun e3 => h ⟨ba_ext' e1, e3⟩)
        · exact .inl e1
    by_cases he : l[i].f0[j] = m[i].f0[j]
    · refine Evb.step (f := fun k => q9.l1 k l m (i : Int) ((j + 1 : Nat) : Int)) (fun k => ?_) ((ih (j + 1) (by omega)).iff ?_)
      · simp only [q9.l1]
        rw [if_pos (by omega), if_pos (by omega), r1, if_pos (by omega), if_pos (by omega), if_pos (by omega), r2, if_pos (by omega), q1, q2, if_neg (fun h => hb.1 h he), wrap_lt (n := (l[i].f0.length : Int)) (by omega) (by omega) (by omega)]
        rfl
      · rw [drop_iff hl j g1]
        exact ⟨fun h => ⟨⟨he, h.1⟩, h.2⟩, fun h => ⟨h.1.2, h.2⟩⟩
    · refine Evb.step (f := fun _ => some false) (fun k => ?_) (Evb.no ?_)
      · simp only [q9.l1]
        rw [if_pos (by omega), if_pos (by omega), r1, if_pos (by omega), if_pos (by omega), if_pos (by omega), r2, if_pos (by omega), q1, q2, if_pos (hb.2 he)]
      · rw [drop_iff hl j g1]
        exact fun h => he h.1.1
def fitS (l : List (S45)) : Prop := l.length ≤ 9223372036854775806 ∧ ∀ s ∈ l, s.f0.length ≤ 9223372036854775806 ∧ s.f1.length ≤ 9223372036854775806
theorem evb_sents (l m : List (S45)) (hn : fitS l) : Evb (fun k => q9.f k l m) (l = m) := by
  by_cases hl : l.length = m.length
  case neg => exact Evb.congr (fun k => by unfold q9.f; exact if_neg (by omega)) (Evb.no (fun h => hl (by rw [h])))
  have main : ∀ (d i : Nat), i + d = l.length → Evb (fun k => q9.l0 k l m (i : Int)) (l.drop i = m.drop i) := by
    intro d
    induction d with
    | zero =>
      intro i hi
      refine Evb.step (f := fun _ => some true) (fun k => ?_) (Evb.yes (by rw [List.drop_of_length_le (by omega), List.drop_of_length_le (by omega)]))
      simp only [q9.l0]
      rw [if_neg (by omega)]
    | succ d ih =>
      intro i hi
      have h1 : i < l.length := by omega
      have h2 : i < m.length := by omega
      have r1 : q82 l (i : Int) = l[i] := by simp [q82, List.getD_eq_getElem?_getD, List.getElem?_eq_getElem h1]
      have r2 : q82 m (i : Int) = m[i] := by simp [q82, List.getD_eq_getElem?_getD, List.getElem?_eq_getElem h2]
      have hb := hn.2 _ (List.getElem_mem h1)
      have hno : ∀ b, b = true → Evb (fun k => q9.j1 k l m (i : Int) b) False := fun b e => Evb.step (f := fun _ => some false) (fun k => by simp [q9.j1, e]) (Evb.no id)
      have hln := hn.1
      by_cases e0 : l[i].f0.length = m[i].f0.length
      · by_cases e1 : l[i].f1.length = m[i].f1.length
        · refine Evb.step (f := fun k => q9.j1 k l m (i : Int) false) (fun k => ?_) (Evb.step (f := fun k => q9.l1 k l m (i : Int) ((0 : Nat) : Int)) (fun k => ?_) ((evb_s1 l m i h1 h2 e0 e1 hb.1 hb.2 hn.1 (ih (i + 1) (by omega)) l[i].f0.length 0 (by omega)).iff ?_))
          · simp only [q9.l0]
            rw [if_pos (by omega), if_pos (by omega), if_pos (by omega), r1, r2, if_pos (by omega), show (((l[i].f1.length : Nat) : Int) != (m[i].f1.length : Int)) = false by rw [e1]; simp]
          · simp only [q9.j1]
            rw [if_neg (by decide)]
            rfl
          · rw [drop_iff hl i h1]
            constructor
            · rintro ⟨a, b, c⟩
              refine ⟨?_, c⟩
              simp only [List.drop_zero] at a
              revert a b
              generalize l[i] = x
              generalize m[i] = y
              obtain ⟨x0, x1⟩ := x
              obtain ⟨y0, y1⟩ := y
              intro a b
              simp only at a b
              rw [a, b]
            · rintro ⟨a, c⟩
              exact ⟨by rw [a], by rw [a], c⟩
        · refine Evb.step (f := fun k => q9.j1 k l m (i : Int) true) (fun k => ?_) ((hno true rfl).iff ?_)
          · simp only [q9.l0]
            rw [if_pos (by omega), if_pos (by omega), if_pos (by omega), r1, r2, if_pos (by omega), show (((l[i].f1.length : Nat) : Int) != (m[i].f1.length : Int)) = true by simp; omega]
          · rw [drop_iff hl i h1]
            exact ⟨False.elim, fun h => e1 (by rw [h.1])⟩
      · refine Evb.step (f := fun k => q9.j1 k l m (i : Int) true) (fun k => ?_) ((hno true rfl).iff ?_)
        · simp only [q9.l0]
          rw [if_pos (by omega), if_pos (by omega), if_pos (by omega), r1, r2, if_neg (by omega)]
        · rw [drop_iff hl i h1]
          exact ⟨False.elim, fun h => e0 (by rw [h.1])⟩
  exact Evb.congr (fun k => by unfold q9.f; exact if_pos (by omega)) (main l.length 0 (by omega))
theorem evb_item (x y : S41) (h5 : fitS x.f5) (h6 : fitS x.f6) : Evb (fun k => q15.f k x.f0 x.f1 x.f2 x.f3 x.f4 x.f5 x.f6 y.f0 y.f1 y.f2 y.f3 y.f4 y.f5 y.f6) (x = y) := by
 obtain ⟨x0, x1, x2, x3, x4, x5, x6⟩ := x
 obtain ⟨y0, y1, y2, y3, y4, y5, y6⟩ := y
 simp only at h5 h6 ⊢
 unfold q15.f
 rw [show ((⟨x0, x1, x2, x3, x4, x5, x6⟩ : S41) = ⟨y0, y1, y2, y3, y4, y5, y6⟩) = (x0 = y0 ∧ x1 = y1 ∧ x2 = y2 ∧ x3 = y3 ∧ x4 = y4 ∧ x5 = y5 ∧ x6 = y6) by rw [S41.mk.injEq]]
 by_cases e0 : x0.toList = y0.toList
 case neg => exact Evb.congr (fun k => if_neg e0) (Evb.no (fun h => e0 (by rw [h.1])))
 by_cases e1 : x1 = y1
 case neg => exact Evb.congr (fun k => by rw [if_pos e0, if_neg e1]) (Evb.no (fun h => e1 h.2.1))
 by_cases e2 : x2.toList = y2.toList
 case neg => exact Evb.congr (fun k => by rw [if_pos e0, if_pos e1, if_neg e2]) (Evb.no (fun h => e2 (by rw [h.2.2.1])))
 by_cases e3 : x3 = y3
 case neg => exact Evb.congr (fun k => by rw [if_pos e0, if_pos e1, if_pos e2, if_neg (by simpa using e3)]) (Evb.no (fun h => e3 h.2.2.2.1))
 by_cases e4 : x4 = y4
 case neg => exact Evb.congr (fun k => by rw [if_pos e0, if_pos e1, if_pos e2, if_pos (by simpa using e3), if_neg e4]) (Evb.no (fun h => e4 h.2.2.2.2.1))
 refine Evb.congr (fun k => by rw [if_pos e0, if_pos e1, if_pos e2, if_pos (by simpa using e3), if_pos e4]) ((Evb.and (evb_sents x5 y5 h5) (fun _ => Evb.congr (fun k => ?_) (evb_sents x6 y6 h6))).iff ?_)
 ·cases q9.f k x6 y6 <;> rfl
 ·exact ⟨fun h => ⟨ba_ext' e0, e1, ba_ext' e2, e3, e4, h.1, h.2⟩, fun h => ⟨h.2.2.2.2.2.1, h.2.2.2.2.2.2⟩⟩
theorem evb_items (l m : List (S41)) (hn : l.length ≤ 9223372036854775806) (hs : ∀ x ∈ l, fitS x.f5 ∧ fitS x.f6) : Evb (fun k => q13.f k l m) (l = m) := by
  by_cases hl : l.length = m.length
  case neg => exact Evb.congr (fun k => by unfold q13.f; exact if_neg (by omega)) (Evb.no (fun h => hl (by rw [h])))
  have main : ∀ (d i : Nat), i + d = l.length → Evb (fun k => q13.l0 k l m (i : Int)) (l.drop i = m.drop i) := by
    intro d
    induction d with
    | zero =>
      intro i hi
      refine Evb.step (f := fun _ => some true) (fun k => ?_) (Evb.yes (by rw [List.drop_of_length_le (by omega), List.drop_of_length_le (by omega)]))
      simp only [q13.l0]
      rw [if_neg (by omega)]
    | succ d ih =>
      intro i hi
      have h1 : i < l.length := by omega
      have h2 : i < m.length := by omega
      have r1 : q81 l (i : Int) = l[i] := by simp [q81, List.getD_eq_getElem?_getD, List.getElem?_eq_getElem h1]
      have r2 : q81 m (i : Int) = m[i] := by simp [q81, List.getD_eq_getElem?_getD, List.getElem?_eq_getElem h2]
      have hb := hs _ (List.getElem_mem h1)
      refine Evb.step (fun k => ?_) ((Evb.and (evb_item l[i] m[i] hb.1 hb.2) (fun _ => ih (i + 1) (by omega))).iff (drop_iff hl i h1).symm)
      simp only [q13.l0]
      rw [if_pos (by omega), if_pos (by omega), if_pos (by omega), r1, r2, wrap_lt (n := (l.length : Int)) (by omega) (by omega) (by omega)]
      rfl
  exact Evb.congr (fun k => by unfold q13.f; exact if_pos (by omega)) (main l.length 0 (by omega))
theorem ev_same (fs gs : List ByteArray) (l m : List (S41)) (hf : fs.length ≤ 9223372036854775806) (hn : l.length ≤ 9223372036854775806) (hs : ∀ x ∈ l, fitS x.f5 ∧ fitS x.f6) : Evb (fun k => q26.f k fs l gs m) (fs = gs ∧ l = m) := by
 unfold q26.f
 refine Evb.and (evb_texts fs gs hf) (fun _ => Evb.congr (fun k => ?_) (evb_items l m hn hs))
 cases q13.f k l m <;> rfl
theorem evb_row {α : Type} {g : Nat → Int → Option Bool} {n : Nat → Option Bool} {Q : Prop} (l m : List α) (hl : l.length = m.length)
    (hs : ∀ (k i : Nat) (h1 : i < l.length) (h2 : i < m.length), l[i] = m[i] → g (k + 1) (i : Int) = g k ((i + 1 : Nat) : Int))
    (hf : ∀ (k i : Nat) (h1 : i < l.length) (h2 : i < m.length), l[i] ≠ m[i] → g (k + 1) (i : Int) = some false)
    (he : ∀ k, g (k + 1) (l.length : Int) = n k) (hQ : Evb n Q) : Evb (fun k => g k 0) (l = m ∧ Q) := by
  have main : ∀ (d i : Nat), i + d = l.length → Evb (fun k => g k (i : Int)) (l.drop i = m.drop i ∧ Q) := by
    intro d
    induction d with
    | zero =>
      intro i hi
      obtain rfl : i = l.length := by omega
      refine (Evb.step (f := n) (fun k => he k) hQ).iff ?_
      rw [List.drop_of_length_le (by omega), List.drop_of_length_le (by omega)]
      simp
    | succ d ih =>
      intro i hi
      have h1 : i < l.length := by omega
      have h2 : i < m.length := by omega
      by_cases e : l[i] = m[i]
      · refine (Evb.step (f := fun k => g k ((i + 1 : Nat) : Int)) (fun k => hs k i h1 h2 e) (ih (i + 1) (by omega))).iff ?_
        rw [drop_iff hl i h1]
        exact ⟨fun h => ⟨⟨e, h.1⟩, h.2⟩, fun h => ⟨h.1.2, h.2⟩⟩
      · refine (Evb.step (f := fun _ => some false) (fun k => hf k i h1 h2 e) (Evb.no (P := False) id)).iff ?_
        rw [drop_iff hl i h1]
        exact ⟨False.elim, fun h => e h.1.1⟩
  exact main l.length 0 (by omega)
theorem lit_ne (a b : S93) : (!(a.f0 == b.f0) || (!(a.f1 == b.f1))) = true ↔ a ≠ b := by
 obtain ⟨a0, a1⟩ := a
 obtain ⟨b0, b1⟩ := b
 simp only [Bool.or_eq_true, Bool.not_eq_true', beq_eq_false_iff_ne, ne_eq, S93.mk.injEq]
 exact ⟨fun h e => h.elim (fun h => h e.1) (fun h => h e.2), fun h => by
  by_cases e : a0 = b0
  ·exact .inr (fun e2 => h ⟨e, e2⟩)
  ·exact .inl e⟩
theorem set_ne (a b : S111) : (!(a.f0 == b.f0) || (!(a.f1 == b.f1))) = true ↔ a ≠ b := by
 obtain ⟨a0, a1⟩ := a
 obtain ⟨b0, b1⟩ := b
 simp only [Bool.or_eq_true, Bool.not_eq_true', beq_eq_false_iff_ne, ne_eq, S111.mk.injEq]
 exact ⟨fun h e => h.elim (fun h => h e.1) (fun h => h e.2), fun h => by
  by_cases e : a0 = b0
  ·exact .inr (fun e2 => h ⟨e, e2⟩)
  ·exact .inl e⟩
theorem cond_ne (a b : S90) : (!((a.f0.toList) == (b.f0.toList)) || (!((a.f1.toList) == (b.f1.toList)) || (!(a.f2 == b.f2)))) = true ↔ a ≠ b := by
 obtain ⟨a0, a1, a2⟩ := a
 obtain ⟨b0, b1, b2⟩ := b
 simp only [Bool.or_eq_true, Bool.not_eq_true', beq_eq_false_iff_ne, ne_eq, S90.mk.injEq]
 constructor
 ·rintro (h | h | h) ⟨e1, e2, e3⟩
  ·exact h (by rw [e1])
  ·exact h (by rw [e2])
  ·exact h e3
 intro h
 by_cases e1 : a0.toList = b0.toList
 ·by_cases e2 : a1.toList = b1.toList
  ·exact .inr (.inr (fun e3 => h ⟨ba_ext' e1, ba_ext' e2, e3⟩))
  ·exact .inr (.inl e2)
 ·exact .inl e1
theorem lit_rd (l : List (S93)) (i : Nat) (h : i < l.length) : q85 l (i : Int) = l[i] := by simp [q85, List.getD_eq_getElem?_getD, List.getElem?_eq_getElem h]
theorem set_rd (l : List (S111)) (i : Nat) (h : i < l.length) : q79 l (i : Int) = l[i] := by simp [q79, List.getD_eq_getElem?_getD, List.getElem?_eq_getElem h]
theorem cond_rd (l : List (S90)) (i : Nat) (h : i < l.length) : q84 l (i : Int) = l[i] := by simp [q84, List.getD_eq_getElem?_getD, List.getElem?_eq_getElem h]
theorem evb_lits (l m : List (S93)) (hn : l.length ≤ 9223372036854775807) : Evb (fun k => q10.f k l m) (l = m) := by
 by_cases hl : l.length = m.length
 case neg => exact Evb.congr (fun k => by unfold q10.f; exact if_neg (by omega)) (Evb.no (fun h => hl (by rw [h])))
 refine Evb.congr (fun k => by unfold q10.f; exact if_pos (by omega)) ((evb_row (g := fun k i => q10.l0 k l m i) (n := fun _ => some true) (Q := True) l m hl ?_ ?_ ?_ (Evb.yes trivial)).iff ⟨fun h => h.1, fun h => ⟨h, trivial⟩⟩)
 ·intro k i h1 h2 e
  simp only [q10.l0]
  rw [if_pos (by omega), if_pos (by omega), if_pos (by omega), lit_rd l i h1, lit_rd m i h2, if_neg (fun h => (lit_ne _ _).1 h e), wrap_lt (n := (l.length : Int)) (by omega) (by omega) (by omega)]
  rfl
 ·intro k i h1 h2 e
  simp only [q10.l0]
  rw [if_pos (by omega), if_pos (by omega), if_pos (by omega), lit_rd l i h1, lit_rd m i h2, if_pos ((lit_ne _ _).2 e)]
 intro k
 simp only [q10.l0]
 rw [if_neg (by omega)]
theorem evb_rule (a b : S72) (n1 : a.f1.length ≤ 9223372036854775807) (n2 : a.f2.length ≤ 9223372036854775807) (n3 : a.f3.length ≤ 9223372036854775807) : Evb (fun k => q12.f k a.f0 a.f1 a.f2 a.f3 b.f0 b.f1 b.f2 b.f3) (a = b) := by
  obtain ⟨a0, a1, a2, a3⟩ := a
  obtain ⟨b0, b1, b2, b3⟩ := b
  simp only at n1 n2 n3 ⊢
  unfold q12.f
  rw [show ((⟨a0, a1, a2, a3⟩ : S72) = ⟨b0, b1, b2, b3⟩) = (a0 = b0 ∧ a1 = b1 ∧ a2 = b2 ∧ a3 = b3) by rw [S72.mk.injEq]]
  have hno : Evb (fun k => q12.j0 k true a0 a1 a2 a3 b0 b1 b2 b3) False := Evb.step (f := fun _ => some false) (fun k => by simp [q12.j0]) (Evb.no id)
  by_cases e0 : a0 = b0
  case neg => exact Evb.congr (fun k => if_neg e0) (hno.iff ⟨False.elim, fun h => e0 h.1⟩)
  obtain ⟨r, g1, g2⟩ := evb_lits a1 b1 n1
  have hrest : r = true → Evb (fun k => if (a2.length : Int) = (b2.length : Int) then q12.j0 k ((a3.length : Int) != (b3.length : Int)) a0 a1 a2 a3 b0 b1 b2 b3 else q12.j0 k true a0 a1 a2 a3 b0 b1 b2 b3) (a0 = b0 ∧ a1 = b1 ∧ a2 = b2 ∧ a3 = b3) := by
    intro hr
    by_cases h2 : a2.length = b2.length
    case neg => exact Evb.congr (fun k => if_neg (by omega)) (hno.iff ⟨False.elim, fun h => h2 (by rw [h.2.2.1])⟩)
    by_cases h3 : a3.length = b3.length
    case neg => exact Evb.congr (fun k => by rw [if_pos (by omega), show ((a3.length : Int) != (b3.length : Int)) = true by simp; omega]) (hno.iff ⟨False.elim, fun h => h3 (by rw [h.2.2.2])⟩)
    refine Evb.congr (fun k => by rw [if_pos (by omega), show ((a3.length : Int) != (b3.length : Int)) = false by rw [h3]; simp]) ?_
    refine Evb.step (f := fun k => q12.l0 k 0 a0 a1 a2 a3 b0 b1 b2 b3) (fun k => by simp only [q12.j0]; rw [if_neg (by decide)]) ?_
    refine (evb_row (g := fun k i => q12.l0 k i a0 a1 a2 a3 b0 b1 b2 b3) (n := fun k => q12.l1 k 0 a0 a1 a2 a3 b0 b1 b2 b3) (Q := a3 = b3 ∧ True) a2 b2 h2 ?_ ?_ ?_ ?_).iff ⟨fun h => ⟨e0, g2.1 hr, h.1, h.2.1⟩, fun h => ⟨h.2.2.1, h.2.2.2, trivial⟩⟩
    · intro k i h1 h2 e
      simp only [q12.l0]
      rw [if_pos (by omega), if_pos (by omega), if_pos (by omega), cond_rd a2 i h1, cond_rd b2 i h2, if_neg (fun h => (cond_ne _ _).1 h e), wrap_lt (n := (a2.length : Int)) (by omega) (by omega) (by omega)]
      rfl
    · intro k i h1 h2 e
      simp only [q12.l0]
      rw [if_pos (by omega), if_pos (by omega), if_pos (by omega), cond_rd a2 i h1, cond_rd b2 i h2, if_pos ((cond_ne _ _).2 e)]
    · intro k
      simp only [q12.l0]
      rw [if_neg (by omega)]
    refine evb_row (g := fun k i => q12.l1 k i a0 a1 a2 a3 b0 b1 b2 b3) (n := fun _ => some true) (Q := True) a3 b3 h3 ?_ ?_ ?_ (Evb.yes trivial)
    · intro k i h1 h2 e
      simp only [q12.l1]
      rw [if_pos (by omega), if_pos (by omega), if_pos (by omega), set_rd a3 i h1, set_rd b3 i h2, if_neg (fun h => (set_ne _ _).1 h e), wrap_lt (n := (a3.length : Int)) (by omega) (by omega) (by omega)]
      rfl
    · intro k i h1 h2 e
      simp only [q12.l1]
      rw [if_pos (by omega), if_pos (by omega), if_pos (by omega), set_rd a3 i h1, set_rd b3 i h2, if_pos ((set_ne _ _).2 e)]
    · intro k
      simp only [q12.l1]
      rw [if_neg (by omega)]
  cases r with
  | true =>
    obtain ⟨s, g3, g4⟩ := hrest rfl
    exact ⟨s, Ev.congr (fun k => if_pos e0) (Ev.bind g1 (Ev.congr (fun k => if_pos rfl) g3)), g4⟩
  | false =>
    obtain ⟨s, g3, g4⟩ := hno
    exact ⟨s, Ev.congr (fun k => if_pos e0) (Ev.bind g1 (Ev.congr (fun k => if_neg (by decide)) g3)), g4.trans ⟨False.elim, fun h => absurd (g2.2 h.2.1) (by decide)⟩⟩
theorem int_rd (l : List Int) (i : Nat) (h : i < l.length) : rd l (i : Int) = l[i] := by simp [rd, List.getD_eq_getElem?_getD, List.getElem?_eq_getElem h]
theorem evb_ints (l m : List Int) (hn : l.length ≤ 9223372036854775807) : Evb (fun k => q17.f k l m) (l = m) := by
 by_cases hl : l.length = m.length
 case neg => exact Evb.congr (fun k => by unfold q17.f; exact if_neg (by omega)) (Evb.no (fun h => hl (by rw [h])))
 refine Evb.congr (fun k => by unfold q17.f; exact if_pos (by omega)) ((evb_row (g := fun k i => q17.l0 k l m i) (n := fun _ => some true) (Q := True) l m hl ?_ ?_ ?_ (Evb.yes trivial)).iff ⟨fun h => h.1, fun h => ⟨h, trivial⟩⟩)
 ·intro k i h1 h2 e
  simp only [q17.l0]
  rw [if_pos (by omega), if_pos (by omega), if_pos (by omega), int_rd l i h1, int_rd m i h2, if_pos e, wrap_lt (n := (l.length : Int)) (by omega) (by omega) (by omega)]
  rfl
 ·intro k i h1 h2 e
  simp only [q17.l0]
  rw [if_pos (by omega), if_pos (by omega), if_pos (by omega), int_rd l i h1, int_rd m i h2, if_neg e]
 intro k
 simp only [q17.l0]
 rw [if_neg (by omega)]
theorem cnt_if {R : Type} {a b : S104} (h : a ≠ b) (r1 r2 : R) : (if a.f0 = b.f0 then if a.f1 = b.f1 then if a.f2 = b.f2 then r1 else r2 else r2 else r2) = r2 := by
 obtain ⟨a0, a1, a2⟩ := a
 obtain ⟨b0, b1, b2⟩ := b
 by_cases e0 : a0 = b0
 ·by_cases e1 : a1 = b1
  ·by_cases e2 : a2 = b2
   ·exact absurd (by rw [e0, e1, e2]) h
   ·rw [if_pos e0, if_pos e1, if_neg e2]
  ·rw [if_pos e0, if_neg e1]
 ·rw [if_neg e0]
theorem usr_eq {a b : S108} (h0 : a.f0 = b.f0) (h1 : a.f1 = b.f1) (h2 : a.f2 = b.f2) (h3 : a.f3 = b.f3) : a = b := by
 obtain ⟨a0, a1, a2, a3⟩ := a
 obtain ⟨b0, b1, b2, b3⟩ := b
 simp only at h0 h1 h2 h3
 rw [h0, h1, h2, h3]
theorem lits_same (W : World) (A : Option Addr) (c : Nat) (l : List (S93)) (B : Option Addr) (d : Nat) (m : List (S93)) (hl : l.length ≤ c) (h : Kd.C k93 W A l.length l) (hm : m.length ≤ d) (h2 : Kd.C k93 W B m.length m) (hn : l.length ≤ 9223372036854775807) :
 ∃ r, (r = true ↔ l = m) ∧ Calls Try.prog 79 #[.slice A l.length c, .slice B m.length d] W (TB r W) := by
 obtain ⟨r, ⟨k, hk⟩, hr⟩ := evb_lits l m hn
 exact ⟨r, hr, (q10.calls k A c l B d m r W h hl h2 hm (hk k (Nat.le_refl _))).mono fun e w' h => ⟨h.1, h.2.below⟩⟩
theorem take_next {α : Type} {l m : List α} (z : α) (i : Nat) (h1 : i < l.length) (h2 : i < m.length) (h : l.take i = m.take i) : l.take (i + 1) = m.take (i + 1) ↔ l.getD i z = m.getD i z := by
 rw [List.take_succ_eq_append_getElem h1, List.take_succ_eq_append_getElem h2, h, List.append_cancel_left_eq, List.getD_eq_getElem?_getD, List.getD_eq_getElem?_getD, List.getElem?_eq_getElem h1, List.getElem?_eq_getElem h2]
 simp
set_option maxHeartbeats 16000000 in
set_option maxRecDepth 100000 in
theorem ends_any (w : World) (x0 x1 x2 x3 x4 x5 x6 x9 y0 y1 y2 y3 y4 y5 y6 y9 : Value) (Ac : Option Addr) (lc cc : Nat) (cs : List (S104)) (Au : Option Addr) (lu cu : Nat) (us : List (S108)) (Bc : Option Addr) (mc dc : Nat) (ds : List (S104)) (Bu : Option Addr) (mu du : Nat) (vs : List (S108))
 (e1 : lc = cs.length) (e2 : lu = us.length) (e3 : mc = ds.length) (e4 : mu = vs.length) (h1 : Kd.C k104 w Ac lc cs) (h2 : Kd.C k108 w Au lu us) (h3 : Kd.C k104 w Bc mc ds) (h4 : Kd.C k108 w Bu mu vs) (v : Bool) (hv : v = true ↔ cs = ds ∧ us = vs) :
 Calls Try.prog 43 #[.agg #[x0, x1, x2, x3, x4, x5, x6, .slice Ac lc cc, .slice Au lu cu, x9], .agg #[y0, y1, y2, y3, y4, y5, y6, .slice Bc mc dc, .slice Bu mu du, y9]] w (TB v w) := by
 have hu32 := Try.underlying32
 have hu104 := Try.underlying104
 have hu108 := Try.underlying108
 have HNO : Hid (¬ (cs = ds ∧ us = vs) → v = false) := Lib.hid (fun h => by cases v with | false => rfl | true => exact absurd (hv.1 rfl) h)
 have HYES : Hid (cs = ds ∧ us = vs → v = true) := Lib.hid hv.2
 obtain ⟨wB, hwB⟩ : ∃ wB, wB = (w.alloc (.cells #[x0, x1, x2, x3, x4, x5, x6, .slice Ac lc cc, .slice Au lu cu, x9] 32)).alloc (.cells #[y0, y1, y2, y3, y4, y5, y6, .slice Bc mc dc, .slice Bu mu du, y9] 32) := ⟨_, rfl⟩
 have hbB : Below w.heap.size w wB := by rw [hwB]; exact q57 (q57 (Below.refl _ _) _) _
 have hg1 : wB.heap[w.heap.size]? = some (.cells #[x0, x1, x2, x3, x4, x5, x6, .slice Ac lc cc, .slice Au lu cu, x9] 32 (0, 0)) := by rw [hwB]; exact q61 (heap_alloc_new _ _) _
 have hg2 : wB.heap[w.heap.size + 1]? = some (.cells #[y0, y1, y2, y3, y4, y5, y6, .slice Bc mc dc, .slice Bu mu du, y9] 32 (0, 0)) := by
  rw [hwB, show w.heap.size + 1 = (w.alloc (.cells #[x0, x1, x2, x3, x4, x5, x6, .slice Ac lc cc, .slice Au lu cu, x9] 32)).heap.size by simp]
  exact heap_alloc_new _ _
 obtain ⟨b, hb⟩ : ∃ b, b = w.heap.size := ⟨_, rfl⟩
 obtain ⟨b2, hb2⟩ : ∃ b2, b2 = w.heap.size + 1 := ⟨_, rfl⟩
 rw [← hb] at hg1
 rw [← hb2] at hg2
 have hp7 : wB.cell? ⟨b, 7, none⟩ = some (.slice Ac lc cc) := (q63 hg1 7).trans rfl
 have hp8 : wB.cell? ⟨b, 8, none⟩ = some (.slice Au lu cu) := (q63 hg1 8).trans rfl
 have hq7 : wB.cell? ⟨b2, 7, none⟩ = some (.slice Bc mc dc) := (q63 hg2 7).trans rfl
 have hq8 : wB.cell? ⟨b2, 8, none⟩ = some (.slice Bu mu du) := (q63 hg2 8).trans rfl
 have HPQ := Lib.hid (And.intro hp7 (And.intro hp8 (And.intro hq7 hq8)))
 have HWB := Lib.hid hwB
 have HBB := Lib.hid hbB
 have HB := Lib.hid hb
 have HB2 := Lib.hid (show b2 = b + 1 by rw [hb2, hb])
 have HR := Lib.hid (And.intro (Kd.C_below h1 hbB) (And.intro (Kd.C_below h2 hbB) (And.intro (Kd.C_below h3 hbB) (Kd.C_below h4 hbB))))
 have HE := Lib.hid (And.intro e1 (And.intro e2 (And.intro e3 e4)))
 have hlc := h1.2.1
 have hlu := h2.2.1
 clear hwB hbB hg1 hg2 hb hb2 h1 h2 h3 h4 e1 e2 e3 e4 hv
 go_enter Try.func43, Try.ntmps43
 go_upto_region 1 with (fail)
 rw [← HWB.out, ← show b = _ from HB.out, ← show b2 = _ from HB2.out]
 by_cases k1 : lc = mc
 case neg =>
  have hn1 : ((lc : Int) != (mc : Int)) = true := by simp; omega
  have HF := Lib.hid (HNO.out (fun h => k1 (by rw [HE.out.1, HE.out.2.2.1, h.1])))
  go_wp2
  go_ret
  exact ⟨by rw [HF.out]; rfl, HBB.out⟩
 by_cases k2 : lu = mu
 case neg =>
  have hn1 : ((lc : Int) != (mc : Int)) = false := by simp; omega
  have hn2 : ((lu : Int) != (mu : Int)) = true := by simp; omega
  have HF := Lib.hid (HNO.out (fun h => k2 (by rw [HE.out.2.1, HE.out.2.2.2, h.2])))
  go_wp2
  go_ret
  exact ⟨by rw [HF.out]; rfl, HBB.out⟩
 obtain rfl := k1
 obtain rfl := k2
 have hn1 : ((lc : Int) != (lc : Int)) = false := by simp
 have hn2 : ((lu : Int) != (lu : Int)) = false := by simp
 go_wp2_with fail
 clear hn1 hn2
 clear hp7 hp8 hq7 hq8
 go_loopg [5] lc (fun gg s5 wr => ∃ i : Nat, s5 = .int .i64 i ∧ i ≤ lc ∧ lc - i ≤ gg ∧ Hid (cs.take i = ds.take i) ∧ Hid (Below wB.heap.size wB wr))
 case atStart => exact ⟨0, rfl, Nat.zero_le _, by omega, Lib.hid rfl, Lib.hid (Below.refl _ _)⟩
 case round =>
 obtain ⟨i, rfl, hin, hig, HT, Y⟩ := hrel
 obtain ⟨wO, rfl⟩ : ∃ wO, wO = wr := ⟨_, rfl⟩
 have hp7 := q73 Y.out HPQ.out.1
 have hq7 := q73 Y.out HPQ.out.2.2.1
 by_cases hlt : i < lc
 case neg =>
  obtain rfl : lc = i := by omega
  have hlz : ¬ (lc : Int) < (lc : Int) := by omega
  have HCD : Hid (cs = ds) := Lib.hid (by have e := HT.out; rw [List.take_of_length_le (by have := HE.out.1; omega), List.take_of_length_le (by have := HE.out.2.2.1; omega)] at e; exact e)
  have HYB := Lib.hid (q60 HBB.out HBB.out.size Y.out)
  go_wp2_with fail
  clear hp7 hq7 hlz
  go_loopg [6] lu (fun gg s6 wr => ∃ j : Nat, s6 = .int .i64 j ∧ j ≤ lu ∧ lu - j ≤ gg ∧ Hid (us.take j = vs.take j) ∧ Hid (Below wB.heap.size wB wr))
  case atStart => exact ⟨0, rfl, Nat.zero_le _, by omega, Lib.hid rfl, Y⟩
  case round =>
  obtain ⟨j, rfl, hjn, hjg, HT2, Z⟩ := hrel
  obtain ⟨wI, rfl⟩ : ∃ wI, wI = wr := ⟨_, rfl⟩
  have hp8 := q73 Z.out HPQ.out.2.1
  have hq8 := q73 Z.out HPQ.out.2.2.2
  clear HYB
  by_cases hlt2 : j < lu
  case neg =>
   obtain rfl : lu = j := by omega
   have hlz : ¬ (lu : Int) < (lu : Int) := by omega
   have HF := Lib.hid (HYES.out ⟨HCD.out, by have e := HT2.out; rw [List.take_of_length_le (by have := HE.out.2.1; omega), List.take_of_length_le (by have := HE.out.2.2.2; omega)] at e; exact e⟩)
   have HF2 := Lib.hid (q60 HBB.out HBB.out.size Z.out)
   go_wp2
   go_ret
   exact ⟨by rw [HF.out]; rfl, HF2.out⟩
  have hlz : (j : Int) < (lu : Int) := by omega
  obtain ⟨ad, A2, c2, e, x0c, x1c, x2c, x3c, lx, gx⟩ := at_T108 (Kd.C_below HR.out.2.1 Z.out) (j : Int) (by omega) (by omega)
  obtain ⟨bd, B2, d2, e', y0c, y1c, y2c, y3c, ly, gy⟩ := at_T108 (Kd.C_below HR.out.2.2.2 Z.out) (j : Int) (by omega) (by omega)
  simp only [Int.toNat_natCast] at x0c x1c x2c x3c y0c y1c y2c y3c
  have hju : j < us.length := by have := HE.out.2.1; omega
  have hnx := take_next z108 j hju (by have := HE.out.2.2.2; omega) HT2.out
  rw [show us.getD j z108 = q78 us (j : Int) by simp [q78], show vs.getD j z108 = q78 vs (j : Int) by simp [q78]] at hnx
  generalize q78 us (j : Int) = xa at hnx x0c x1c x2c x3c lx gx
  generalize q78 vs (j : Int) = ya at hnx y0c y1c y2c y3c ly gy
  cases e
  cases e'
  have HNX := Lib.hid hnx
  have HGX := Lib.hid (And.intro lx gx)
  have HGY := Lib.hid (And.intro ly gy)
  clear hnx lx gx ly gy hju
  go_wp2
  refine st_ (fun w' => Below wI.heap.size wI w') 14 (q58 (Below.refl _ _)) (fun hHeld => ?_)
  generalize wI.drew = wD at hHeld ⊢
  refine pu_ 0 (some 50) ?_
  refine tk_ 1 (some 51) hHeld ?_ (hy := by intro w' hs; have s0 := q73 hs hp8; go_simp; with_reducible rfl)
  refine pu_ 2 (some 52) ?_
  refine pu_ 3 (some 53) ?_
  refine tk_ 4 (some 54) hHeld ?_ (hy := by intro w' hs; have s0 := q73 hs x0c; have s1 := q73 hs x1c; have s2 := q73 hs x2c; have s3 := q73 hs x3c; go_simp; with_reducible rfl)
  refine pu_ 5 (some 55) ?_
  refine tk_ 6 (some 56) hHeld ?_ (hy := by intro w' hs; have s0 := q73 hs hq8; go_simp; with_reducible rfl)
  refine pu_ 7 (some 57) ?_
  refine pu_ 8 (some 58) ?_
  refine tk_ 9 (some 59) hHeld ?_ (hy := by intro w' hs; have s0 := q73 hs y0c; have s1 := q73 hs y1c; have s2 := q73 hs y2c; have s3 := q73 hs y3c; go_simp; with_reducible rfl)
  refine join_ (σ := Nat × Nat) 0 (bits 14 16383) (fun s_ => [(7, .pointer (some ⟨s_.1, 0, none⟩)), (8, .pointer (some ⟨s_.2, 0, none⟩))]) (fun s_ w' => w'.heap[s_.1]? = some (.cells #[.string xa.f0, .int .i64 xa.f1, .slice A2 xa.f2.length c2, .int .i64 xa.f3] 108 (0, 0)) ∧ w'.heap[s_.2]? = some (.cells #[.string ya.f0, .int .i64 ya.f1, .slice B2 ya.f2.length d2, .int .i64 ya.f3] 108 (0, 0)) ∧ Below wI.heap.size wI w') ?_ ?_
  rotate_left
  ·intro hCont
   have HCT := Lib.hid hCont
   clear hCont
   have hD := hHeld
   clear hHeld
   have hnew : ∀ (o o' : Obj) (W : World), W = wD.alloc o → (W.alloc o').heap[wD.heap.size + 1]? = some o' := fun o o' W e => by rw [show wD.heap.size + 1 = W.heap.size by rw [e]; simp]; exact heap_alloc_new W o'
   refine tW_ 10 11 (some 7) (some 8) (fun K hK => ?_) (fun K hK => ?_)
   ·go_simp
    refine hK.out _ _ (q57 hD _) (fun _ => ?_)
    clear hK K
    refine oN_ 11 (some 8) (fun K hK => ?_)
    go_simp
    refine hK.out _ _ (q57 (q57 hD _) _) (fun _ => ?_)
    clear hK K
    refine oN_ 12 none (fun K hK => ?_)
    go_simp
    refine hK.out _ _ (q57 (q57 hD _) _) (fun _ => ?_)
    clear hK K
    refine oN_ 13 none (fun K hK => ?_)
    go_simp
    refine hK.out _ _ (q57 (q57 hD _) _) (fun _ => ?_)
    clear hK K
    exact HCT.out (wD.heap.size, wD.heap.size + 1) _ ⟨q62 (heap_alloc_new wD _) (q57 (Below.refl _ _) _), hnew _ _ _ rfl, q57 (q57 hD _) _⟩
   go_simp
   refine hK.out _ _ (q57 hD _) (fun _ => ?_)
   clear hK K
   refine oN_ 10 (some 7) (fun K hK => ?_)
   go_simp
   refine hK.out _ _ (q57 (q57 hD _) _) (fun _ => ?_)
   clear hK K
   refine oN_ 12 none (fun K hK => ?_)
   go_simp
   refine hK.out _ _ (q57 (q57 hD _) _) (fun _ => ?_)
   clear hK K
   refine oN_ 13 none (fun K hK => ?_)
   go_simp
   refine hK.out _ _ (q57 (q57 hD _) _) (fun _ => ?_)
   clear hK K
   exact HCT.out (wD.heap.size + 1, wD.heap.size) _ ⟨hnew _ _ _ rfl, q62 (heap_alloc_new wD _) (q57 (Below.refl _ _) _), q57 (q57 hD _) _⟩
  rintro ⟨g7, g8⟩ wE ⟨hg7, hg8, hbE⟩
  dsimp only at hg7 hg8
  refine norm_ (a' := ?_) ?_ ?_
  rotate_left
  ·simp only [putAll, Act.put, List.setIfInBounds_toArray, List.set_cons_zero, List.set_cons_succ]
   rfl
  refine dn_ ?_
  have HBE := Lib.hid hbE
  clear hHeld hp8 hq8 x0c x1c x2c x3c y0c y1c y2c y3c
  have x0c : wE.cell? ⟨g7, 0, none⟩ = some (.string xa.f0) := (q63 hg7 0).trans rfl
  have x1c : wE.cell? ⟨g7, 1, none⟩ = some (.int .i64 xa.f1) := (q63 hg7 1).trans rfl
  have x2c : wE.cell? ⟨g7, 2, none⟩ = some (.slice A2 xa.f2.length c2) := (q63 hg7 2).trans rfl
  have x3c : wE.cell? ⟨g7, 3, none⟩ = some (.int .i64 xa.f3) := (q63 hg7 3).trans rfl
  have y0c : wE.cell? ⟨g8, 0, none⟩ = some (.string ya.f0) := (q63 hg8 0).trans rfl
  have y1c : wE.cell? ⟨g8, 1, none⟩ = some (.int .i64 ya.f1) := (q63 hg8 1).trans rfl
  have y2c : wE.cell? ⟨g8, 2, none⟩ = some (.slice B2 ya.f2.length d2) := (q63 hg8 2).trans rfl
  have y3c : wE.cell? ⟨g8, 3, none⟩ = some (.int .i64 ya.f3) := (q63 hg8 3).trans rfl
  clear hg7 hg8 hbE
  by_cases q0 : xa.f0.toList = ya.f0.toList
  case neg =>
   have n0 : (xa.f0.toList != ya.f0.toList) = true := bne_iff_ne.mpr q0
   have n1 : (xa.f0.toList == ya.f0.toList) = false := by simpa using q0
   have HF := Lib.hid (HNO.out (fun h => q0 (by rw [HNX.out.1 (by rw [h.2])])))
   have HF2 := Lib.hid (q60 HBB.out HBB.out.size (q60 Z.out Z.out.size HBE.out))
   clear q0
   go_wp2
   go_ret
   exact ⟨by rw [HF.out]; rfl, HF2.out⟩
  have m0 : (xa.f0.toList != ya.f0.toList) = false := bne_eq_false_iff_eq.mpr q0
  have m1 : (xa.f0.toList == ya.f0.toList) = true := beq_iff_eq.mpr q0
  have Q0 := Lib.hid q0
  clear q0
  by_cases q1 : xa.f1 = ya.f1
  case neg =>
   have n0 : (xa.f1 != ya.f1) = true := bne_iff_ne.mpr q1
   have n1 : (xa.f1 == ya.f1) = false := by simpa using q1
   have HF := Lib.hid (HNO.out (fun h => q1 (by rw [HNX.out.1 (by rw [h.2])])))
   have HF2 := Lib.hid (q60 HBB.out HBB.out.size (q60 Z.out Z.out.size HBE.out))
   clear q1
   go_wp2
   go_ret
   exact ⟨by rw [HF.out]; rfl, HF2.out⟩
  have m2 : (xa.f1 != ya.f1) = false := bne_eq_false_iff_eq.mpr q1
  have m3 : (xa.f1 == ya.f1) = true := beq_iff_eq.mpr q1
  have Q1 := Lib.hid q1
  clear q1
  by_cases q3 : xa.f3 = ya.f3
  case neg =>
   have n0 : (xa.f3 != ya.f3) = true := bne_iff_ne.mpr q3
   have n1 : (xa.f3 == ya.f3) = false := by simpa using q3
   have HF := Lib.hid (HNO.out (fun h => q3 (by rw [HNX.out.1 (by rw [h.2])])))
   have HF2 := Lib.hid (q60 HBB.out HBB.out.size (q60 Z.out Z.out.size HBE.out))
   clear q3
   go_wp2
   go_ret
   exact ⟨by rw [HF.out]; rfl, HF2.out⟩
  have m4 : (xa.f3 != ya.f3) = false := bne_eq_false_iff_eq.mpr q3
  have m5 : (xa.f3 == ya.f3) = true := beq_iff_eq.mpr q3
  have Q3 := Lib.hid q3
  clear q3
  obtain ⟨r, hr, hcall⟩ := lits_same wE A2 c2 xa.f2 B2 d2 ya.f2 HGX.out.1 (Kd.C_below HGX.out.2 HBE.out) HGY.out.1 (Kd.C_below HGY.out.2 HBE.out) HGX.out.2.2.1
  have HRR := Lib.hid hr
  clear hr
  go_wp2_with fail
  refine hcall.mono ?_
  rintro e wK ⟨rfl, hbK⟩
  have HF2 := Lib.hid (q60 Z.out Z.out.size (q60 HBE.out HBE.out.size hbK))
  clear hcall hbK x0c x1c x2c x3c y0c y1c y2c y3c
  cases r
  ·have HF := Lib.hid (HNO.out (fun h => absurd (HRR.out.2 (by rw [HNX.out.1 (by rw [h.2])])) (by decide)))
   have HF3 := Lib.hid (q60 HBB.out HBB.out.size HF2.out)
   go_wp2
   go_ret
   exact ⟨by rw [HF.out]; rfl, HF3.out⟩
  have HT3 : Hid (us.take (j + 1) = vs.take (j + 1)) := Lib.hid (HNX.out.2 (usr_eq (ba_ext' Q0.out) Q1.out (HRR.out.1 rfl) Q3.out))
  go_wp2
  go_roundg (lu - (j + 1))
  case measure => omega
  case rel => exact ⟨j + 1, by go_num, by omega, Nat.le_refl _, HT3, HF2⟩
 have hlz : (i : Int) < (lc : Int) := by omega
 obtain ⟨ad, e, x0c, x1c, x2c⟩ := at_T104 (Kd.C_below HR.out.1 Y.out) (i : Int) (by omega) (by omega)
 obtain ⟨bd, e', y0c, y1c, y2c⟩ := at_T104 (Kd.C_below HR.out.2.2.1 Y.out) (i : Int) (by omega) (by omega)
 simp only [Int.toNat_natCast] at x0c x1c x2c y0c y1c y2c
 have hnx := take_next z104 i (by have := HE.out.1; omega) (by have := HE.out.2.2.1; omega) HT.out
 rw [show cs.getD i z104 = q77 cs (i : Int) by simp [q77], show ds.getD i z104 = q77 ds (i : Int) by simp [q77]] at hnx
 generalize q77 cs (i : Int) = xa at hnx x0c x1c x2c
 generalize q77 ds (i : Int) = ya at hnx y0c y1c y2c
 cases e
 cases e'
 have HNX := Lib.hid hnx
 clear hnx
 by_cases hxy : xa = ya
 ·obtain rfl := hxy
  have HT2 : Hid (cs.take (i + 1) = ds.take (i + 1)) := Lib.hid (HNX.out.2 rfl)
  go_wp2
  have hS : (((wO.drew).cell? ⟨b, 7, none⟩ = some (.slice (some ad) lc cc)) ∧ ((wO.drew).cell? ⟨b2, 7, none⟩ = some (.slice (some bd) lc dc)) ∧ ((wO.drew).cell? (ad.add (i * 3)) = some (.int .i64 xa.f0)) ∧ ((wO.drew).cell? ⟨(ad.add (i * 3)).block, (ad.add (i * 3)).off + 1, none⟩ = some (.int .i64 xa.f1)) ∧ ((wO.drew).cell? ⟨(ad.add (i * 3)).block, (ad.add (i * 3)).off + 2, none⟩ = some (.int .i64 xa.f2)) ∧ ((wO.drew).cell? (bd.add (i * 3)) = some (.int .i64 xa.f0)) ∧ ((wO.drew).cell? ⟨(bd.add (i * 3)).block, (bd.add (i * 3)).off + 1, none⟩ = some (.int .i64 xa.f1)) ∧ ((wO.drew).cell? ⟨(bd.add (i * 3)).block, (bd.add (i * 3)).off + 2, none⟩ = some (.int .i64 xa.f2))) ∧ Below wO.heap.size wO wO.drew := ⟨⟨hp7, hq7, x0c, x1c, x2c, y0c, y1c, y2c⟩, q58 (Below.refl _ _)⟩
  refine sD_ [] (fun w' => ((w'.cell? ⟨b, 7, none⟩ = some (.slice (some ad) lc cc)) ∧ (w'.cell? ⟨b2, 7, none⟩ = some (.slice (some bd) lc dc)) ∧ (w'.cell? (ad.add (i * 3)) = some (.int .i64 xa.f0)) ∧ (w'.cell? ⟨(ad.add (i * 3)).block, (ad.add (i * 3)).off + 1, none⟩ = some (.int .i64 xa.f1)) ∧ (w'.cell? ⟨(ad.add (i * 3)).block, (ad.add (i * 3)).off + 2, none⟩ = some (.int .i64 xa.f2)) ∧ (w'.cell? (bd.add (i * 3)) = some (.int .i64 xa.f0)) ∧ (w'.cell? ⟨(bd.add (i * 3)).block, (bd.add (i * 3)).off + 1, none⟩ = some (.int .i64 xa.f1)) ∧ (w'.cell? ⟨(bd.add (i * 3)).block, (bd.add (i * 3)).off + 2, none⟩ = some (.int .i64 xa.f2))) ∧ Below wO.heap.size wO w') 11 hS (fun hHeld => ?_)
  clear hS
  obtain ⟨wD, hwD⟩ : ∃ wD, wD = wO.drew := ⟨_, rfl⟩
  rw [← hwD] at hHeld ⊢
  clear hwD
  refine pu_ 0 (some 32) ?_
  refine tc_ 1 (some 33) hHeld ?_
  refine pu_ 2 (some 34) ?_
  refine pu_ 3 (some 35) ?_
  refine tc_ 4 (some 36) hHeld ?_
  refine pu_ 5 (some 37) ?_
  refine tc_ 6 (some 38) hHeld ?_
  refine pu_ 7 (some 39) ?_
  refine pu_ 8 (some 40) ?_
  refine tc_ 9 (some 41) hHeld ?_
  refine pu_ 10 (some 42) ?_ (hy := by intro w'; go_simp; with_reducible rfl)
  refine dn_ ?_
  have HF := Lib.hid (q60 Y.out Y.out.size hHeld.2)
  clear hHeld x0c x1c x2c y0c y1c y2c hp7 hq7
  go_wp2
  go_roundg (lc - (i + 1))
  case measure => omega
  case rel => exact ⟨i + 1, by go_num, by omega, Nat.le_refl _, HT2, HF⟩
 have HF := Lib.hid (HNO.out (fun h => hxy (HNX.out.1 (by rw [h.1]))))
 go_wp2
 have hS : (((wO.drew).cell? ⟨b, 7, none⟩ = some (.slice (some ad) lc cc)) ∧ ((wO.drew).cell? ⟨b2, 7, none⟩ = some (.slice (some bd) lc dc)) ∧ ((wO.drew).cell? (ad.add (i * 3)) = some (.int .i64 xa.f0)) ∧ ((wO.drew).cell? ⟨(ad.add (i * 3)).block, (ad.add (i * 3)).off + 1, none⟩ = some (.int .i64 xa.f1)) ∧ ((wO.drew).cell? ⟨(ad.add (i * 3)).block, (ad.add (i * 3)).off + 2, none⟩ = some (.int .i64 xa.f2)) ∧ ((wO.drew).cell? (bd.add (i * 3)) = some (.int .i64 ya.f0)) ∧ ((wO.drew).cell? ⟨(bd.add (i * 3)).block, (bd.add (i * 3)).off + 1, none⟩ = some (.int .i64 ya.f1)) ∧ ((wO.drew).cell? ⟨(bd.add (i * 3)).block, (bd.add (i * 3)).off + 2, none⟩ = some (.int .i64 ya.f2))) ∧ Below wO.heap.size wO wO.drew := ⟨⟨hp7, hq7, x0c, x1c, x2c, y0c, y1c, y2c⟩, q58 (Below.refl _ _)⟩
 refine sD_ [] (fun w' => ((w'.cell? ⟨b, 7, none⟩ = some (.slice (some ad) lc cc)) ∧ (w'.cell? ⟨b2, 7, none⟩ = some (.slice (some bd) lc dc)) ∧ (w'.cell? (ad.add (i * 3)) = some (.int .i64 xa.f0)) ∧ (w'.cell? ⟨(ad.add (i * 3)).block, (ad.add (i * 3)).off + 1, none⟩ = some (.int .i64 xa.f1)) ∧ (w'.cell? ⟨(ad.add (i * 3)).block, (ad.add (i * 3)).off + 2, none⟩ = some (.int .i64 xa.f2)) ∧ (w'.cell? (bd.add (i * 3)) = some (.int .i64 ya.f0)) ∧ (w'.cell? ⟨(bd.add (i * 3)).block, (bd.add (i * 3)).off + 1, none⟩ = some (.int .i64 ya.f1)) ∧ (w'.cell? ⟨(bd.add (i * 3)).block, (bd.add (i * 3)).off + 2, none⟩ = some (.int .i64 ya.f2))) ∧ Below wO.heap.size wO w') 11 hS (fun hHeld => ?_)
 clear hS
 obtain ⟨wD, hwD⟩ : ∃ wD, wD = wO.drew := ⟨_, rfl⟩
 rw [← hwD] at hHeld ⊢
 clear hwD
 refine pu_ 0 (some 32) ?_
 refine tc_ 1 (some 33) hHeld ?_
 refine pu_ 2 (some 34) ?_
 refine pu_ 3 (some 35) ?_
 refine tc_ 4 (some 36) hHeld ?_
 refine pu_ 5 (some 37) ?_
 refine tc_ 6 (some 38) hHeld ?_
 refine pu_ 7 (some 39) ?_
 refine pu_ 8 (some 40) ?_
 refine tc_ 9 (some 41) hHeld ?_
 refine pu_ 10 (some 42) ?_ (hy := by intro w'; go_simp; exact cnt_if hxy _ _)
 refine dn_ ?_
 have HF2 := Lib.hid (q60 HBB.out HBB.out.size (q60 Y.out Y.out.size hHeld.2))
 clear hHeld x0c x1c x2c y0c y1c y2c hp7 hq7
 go_wp2
 go_ret
 exact ⟨by rw [HF.out]; rfl, HF2.out⟩
structure Pp where
 fl : Int
 la : Int
 fr : Int
 fi : List Int
 ov : List Int
 fs : List ByteArray
 rs : List (S72)
 cs : List (S104)
 us : List (S108)
 l : List (S41)
def Pg (w : World) (p : Pp) (A4 : Option Addr) (c4 : Nat) (A5 : Option Addr) (c5 : Nat) (A7 : Option Addr) (c7 : Nat) (Ar : Option Addr) (cr : Nat) (Ac : Option Addr) (cc : Nat) (Au : Option Addr) (cu : Nat) (A11 : Option Addr) (c11 : Nat) : Prop := (Kd.C (Kd.int .i64) w A4 p.fi.length p.fi ∧ p.fi.length ≤ c4) ∧ (Kd.C (Kd.int .i64) w A5 p.ov.length p.ov ∧ p.ov.length ≤ c5) ∧ (Kd.C Kd.string w A7 p.fs.length p.fs ∧ p.fs.length ≤ c7) ∧ (Kd.C k72 w Ar p.rs.length p.rs ∧ p.rs.length ≤ cr) ∧ (Kd.C k104 w Ac p.cs.length p.cs ∧ p.cs.length ≤ cc) ∧ (Kd.C k108 w Au p.us.length p.us ∧ p.us.length ≤ cu) ∧ (Kd.C k41 w A11 p.l.length p.l ∧ p.l.length ≤ c11)
theorem exb (Q : Prop) : ∃ r : Bool, r = true ↔ Q := ⟨@decide Q (Classical.propDecidable Q), by simp⟩
theorem ints_call (w : World) (A : Option Addr) (c : Nat) (l : List Int) (B : Option Addr) (d : Nat) (m : List Int) (h : Kd.C (Kd.int .i64) w A l.length l ∧ l.length ≤ c) (h2 : Kd.C (Kd.int .i64) w B m.length m ∧ m.length ≤ d) : ∃ r, (r = true ↔ l = m) ∧ ∀ W, Below w.heap.size w W → Calls Try.prog 12 #[.slice A l.length c, .slice B m.length d] W (TB r W) := by
 obtain ⟨r, ⟨k, hk⟩, hr⟩ := evb_ints l m h.1.2.1
 exact ⟨r, hr, fun W hb => (q17.calls k A c l B d m r W (Kd.C_below h.1 hb) h.2 (Kd.C_below h2.1 hb) h2.2 (hk k (Nat.le_refl _))).mono fun e w' h => ⟨h.1, h.2.below⟩⟩
theorem texts_call (w : World) (A : Option Addr) (c : Nat) (l : List ByteArray) (B : Option Addr) (d : Nat) (m : List ByteArray) (h : Kd.C Kd.string w A l.length l ∧ l.length ≤ c) (h2 : Kd.C Kd.string w B m.length m ∧ m.length ≤ d) (hl : l.length ≤ 9223372036854775806) : ∃ r, (r = true ↔ l = m) ∧ ∀ W, Below w.heap.size w W → Calls Try.prog 41 #[.slice A l.length c, .slice B m.length d] W (TB r W) := by
 obtain ⟨r, ⟨k, hk⟩, hr⟩ := evb_texts l m hl
 exact ⟨r, hr, fun W hb => (q14.calls k A c l B d m r W (Kd.C_below h.1 hb) h.2 (Kd.C_below h2.1 hb) h2.2 (hk k (Nat.le_refl _))).mono fun e w' h => ⟨h.1, h.2.below⟩⟩
theorem items_call (w : World) (A : Option Addr) (c : Nat) (l : List (S41)) (B : Option Addr) (d : Nat) (m : List (S41)) (h : Kd.C k41 w A l.length l ∧ l.length ≤ c) (h2 : Kd.C k41 w B m.length m ∧ m.length ≤ d) (hl : l.length ≤ 9223372036854775806) (hs : ∀ x ∈ l, fitS x.f5 ∧ fitS x.f6) : ∃ r, (r = true ↔ l = m) ∧ ∀ W, Below w.heap.size w W → Calls Try.prog 42 #[.slice A l.length c, .slice B m.length d] W (TB r W) := by
 obtain ⟨r, ⟨k, hk⟩, hr⟩ := evb_items l m hl hs
 exact ⟨r, hr, fun W hb => q13.calls k A c l B d m r W (Kd.C_below h.1 hb) h.2 (Kd.C_below h2.1 hb) h2.2 (hk k (Nat.le_refl _))⟩
theorem rule_call (w : World) (x : S72) (A1 : Option Addr) (c1 : Nat) (A2 : Option Addr) (c2 : Nat) (A3 : Option Addr) (c3 : Nat) (y : S72) (B1 : Option Addr) (d1 : Nat) (B2 : Option Addr) (d2 : Nat) (B3 : Option Addr) (d3 : Nat)
 (h1 : x.f1.length ≤ c1 ∧ Kd.C k93 w A1 x.f1.length x.f1) (h2 : x.f2.length ≤ c2 ∧ Kd.C k90 w A2 x.f2.length x.f2) (h3 : x.f3.length ≤ c3 ∧ Kd.C k111 w A3 x.f3.length x.f3)
 (g1 : y.f1.length ≤ d1 ∧ Kd.C k93 w B1 y.f1.length y.f1) (g2 : y.f2.length ≤ d2 ∧ Kd.C k90 w B2 y.f2.length y.f2) (g3 : y.f3.length ≤ d3 ∧ Kd.C k111 w B3 y.f3.length y.f3) :
 ∃ r, (r = true ↔ x = y) ∧ ∀ W, Below w.heap.size w W → Calls Try.prog 44 #[.agg #[.int .i64 x.f0, .slice A1 x.f1.length c1, .slice A2 x.f2.length c2, .slice A3 x.f3.length c3], .agg #[.int .i64 y.f0, .slice B1 y.f1.length d1, .slice B2 y.f2.length d2, .slice B3 y.f3.length d3]] W (TB r W) := by
 obtain ⟨r, ⟨k, hk⟩, hr⟩ := evb_rule x y h1.2.2.1 h2.2.2.1 h3.2.2.1
 exact ⟨r, hr, fun W hb => q12.calls k x.f0 A1 c1 x.f1 A2 c2 x.f2 A3 c3 x.f3 y.f0 B1 d1 y.f1 B2 d2 y.f2 B3 d3 y.f3 r W (Kd.C_below h1.2 hb) h1.1 (Kd.C_below h2.2 hb) h2.1 (Kd.C_below h3.2 hb) h3.1 (Kd.C_below g1.2 hb) g1.1 (Kd.C_below g2.2 hb) g2.1 (Kd.C_below g3.2 hb) g3.1 (hk k (Nat.le_refl _))⟩
theorem pp_eq {p q : Pp} (h_fl : p.fl = q.fl) (h_la : p.la = q.la) (h_fr : p.fr = q.fr) (h_fi : p.fi = q.fi) (h_ov : p.ov = q.ov) (h_fs : p.fs = q.fs) (h_rs : p.rs = q.rs) (h_cs : p.cs = q.cs) (h_us : p.us = q.us) (h_l : p.l = q.l) : p = q := by
 cases p
 cases q
 simp only at h_fl h_la h_fr h_fi h_ov h_fs h_rs h_cs h_us h_l
 subst h_fl h_la h_fr h_fi h_ov h_fs h_rs h_cs h_us h_l
 rfl
set_option maxHeartbeats 32000000 in
set_option maxRecDepth 100000 in
theorem same10_any (w : World) (p q : Pp) (A4 : Option Addr) (c4 : Nat) (A5 : Option Addr) (c5 : Nat) (A7 : Option Addr) (c7 : Nat) (Ar : Option Addr) (cr : Nat) (Ac : Option Addr) (cc : Nat) (Au : Option Addr) (cu : Nat) (A11 : Option Addr) (c11 : Nat) (B4 : Option Addr) (d4 : Nat) (B5 : Option Addr) (d5 : Nat) (B7 : Option Addr) (d7 : Nat) (Br : Option Addr) (dr : Nat) (Bc : Option Addr) (dc : Nat) (Bu : Option Addr) (du : Nat) (B11 : Option Addr) (d11 : Nat) (hp : Pg w p A4 c4 A5 c5 A7 c7 Ar cr Ac cc Au cu A11 c11) (hq : Pg w q B4 d4 B5 d5 B7 d7 Br dr Bc dc Bu du B11 d11) (hfs : p.fs.length ≤ 9223372036854775806) (hpl : p.l.length ≤ 9223372036854775806) (hfit : ∀ x ∈ p.l, fitS x.f5 ∧ fitS x.f6) (v : Bool) (hv : v = true ↔ p = q) :
 Calls Try.prog 9 #[.agg #[.int .i64 p.fl, .int .i64 p.la, .slice A4 p.fi.length c4, .slice A5 p.ov.length c5, .int .i64 p.fr, .slice A7 p.fs.length c7, .slice Ar p.rs.length cr, .slice Ac p.cs.length cc, .slice Au p.us.length cu, .slice A11 p.l.length c11], .agg #[.int .i64 q.fl, .int .i64 q.la, .slice B4 q.fi.length d4, .slice B5 q.ov.length d5, .int .i64 q.fr, .slice B7 q.fs.length d7, .slice Br q.rs.length dr, .slice Bc q.cs.length dc, .slice Bu q.us.length du, .slice B11 q.l.length d11]] w (TB v w) := by
 have hu32 := Try.underlying32
 have hu72 := Try.underlying72
 have HNO : Hid (p ≠ q → v = false) := Lib.hid (fun h => by cases v with | false => rfl | true => exact absurd (hv.1 rfl) h)
 have HYES : Hid (p = q → v = true) := Lib.hid hv.2
 obtain ⟨r4, hr4, h4⟩ := ints_call w A4 c4 p.fi B4 d4 q.fi hp.1 hq.1
 obtain ⟨r5, hr5, h5⟩ := ints_call w A5 c5 p.ov B5 d5 q.ov hp.2.1 hq.2.1
 obtain ⟨r7, hr7, h7⟩ := texts_call w A7 c7 p.fs B7 d7 q.fs hp.2.2.1 hq.2.2.1 hfs
 obtain ⟨r11, hr11, h11⟩ := items_call w A11 c11 p.l B11 d11 q.l hp.2.2.2.2.2.2 hq.2.2.2.2.2.2 hpl hfit
 obtain ⟨re, hre⟩ := exb (p.cs = q.cs ∧ p.us = q.us)
 have he : ∀ W, Below w.heap.size w W → Calls Try.prog 43 #[.agg #[.int .i64 p.fl, .int .i64 p.la, .slice A4 p.fi.length c4, .slice A5 p.ov.length c5, .int .i64 p.fr, .slice A7 p.fs.length c7, .slice Ar p.rs.length cr, .slice Ac p.cs.length cc, .slice Au p.us.length cu, .slice A11 p.l.length c11], .agg #[.int .i64 q.fl, .int .i64 q.la, .slice B4 q.fi.length d4, .slice B5 q.ov.length d5, .int .i64 q.fr, .slice B7 q.fs.length d7, .slice Br q.rs.length dr, .slice Bc q.cs.length dc, .slice Bu q.us.length du, .slice B11 q.l.length d11]] W (TB re W) := fun W hb =>
  ends_any W _ _ _ _ _ _ _ _ _ _ _ _ _ _ _ _ Ac p.cs.length cc p.cs Au p.us.length cu p.us Bc q.cs.length dc q.cs Bu q.us.length du q.us rfl rfl rfl rfl (Kd.C_below hp.2.2.2.2.1.1 hb) (Kd.C_below hp.2.2.2.2.2.1.1 hb) (Kd.C_below hq.2.2.2.2.1.1 hb) (Kd.C_below hq.2.2.2.2.2.1.1 hb) re hre
 have hrp := hp.2.2.2.1.1
 have hrq := hq.2.2.2.1.1
 have hnr := hrp.2.1
 obtain ⟨n4, hn4⟩ : ∃ n, n = p.fi.length := ⟨_, rfl⟩
 obtain ⟨m4, hm4⟩ : ∃ n, n = q.fi.length := ⟨_, rfl⟩
 obtain ⟨n5, hn5⟩ : ∃ n, n = p.ov.length := ⟨_, rfl⟩
 obtain ⟨m5, hm5⟩ : ∃ n, n = q.ov.length := ⟨_, rfl⟩
 obtain ⟨n7, hn7⟩ : ∃ n, n = p.fs.length := ⟨_, rfl⟩
 obtain ⟨m7, hm7⟩ : ∃ n, n = q.fs.length := ⟨_, rfl⟩
 obtain ⟨nr, hnr_⟩ : ∃ n, n = p.rs.length := ⟨_, rfl⟩
 obtain ⟨mr, hmr⟩ : ∃ n, n = q.rs.length := ⟨_, rfl⟩
 obtain ⟨nc, hnc⟩ : ∃ n, n = p.cs.length := ⟨_, rfl⟩
 obtain ⟨mc, hmc⟩ : ∃ n, n = q.cs.length := ⟨_, rfl⟩
 obtain ⟨nu, hnu⟩ : ∃ n, n = p.us.length := ⟨_, rfl⟩
 obtain ⟨mu, hmu⟩ : ∃ n, n = q.us.length := ⟨_, rfl⟩
 obtain ⟨n11, hn11⟩ : ∃ n, n = p.l.length := ⟨_, rfl⟩
 obtain ⟨m11, hm11⟩ : ∃ n, n = q.l.length := ⟨_, rfl⟩
 obtain ⟨x0, hx0⟩ : ∃ x, x = p.fl := ⟨_, rfl⟩
 obtain ⟨y0, hy0⟩ : ∃ x, x = q.fl := ⟨_, rfl⟩
 obtain ⟨x1, hx1⟩ : ∃ x, x = p.la := ⟨_, rfl⟩
 obtain ⟨y1, hy1⟩ : ∃ x, x = q.la := ⟨_, rfl⟩
 obtain ⟨x4, hx4⟩ : ∃ x, x = p.fr := ⟨_, rfl⟩
 obtain ⟨y4, hy4⟩ : ∃ x, x = q.fr := ⟨_, rfl⟩
 rw [← hn4, ← hm4] at h4
 rw [← hn5, ← hm5] at h5
 rw [← hn7, ← hm7] at h7
 rw [← hn11, ← hm11] at h11
 rw [← hn4, ← hm4, ← hn5, ← hm5, ← hn7, ← hm7, ← hnr_, ← hmr, ← hnc, ← hmc, ← hnu, ← hmu, ← hn11, ← hm11, ← hx0, ← hy0, ← hx1, ← hy1, ← hx4, ← hy4] at he ⊢
 rw [← hnr_] at hrp hnr
 rw [← hmr] at hrq
 have HEQ := Lib.hid (And.intro hnr_ hmr)
 have HSC := Lib.hid (And.intro hx0 (And.intro hy0 (And.intro hx1 (And.intro hy1 (And.intro hx4 hy4)))))
 have HRR := Lib.hid (And.intro hr4 (And.intro hr5 (And.intro hr7 (And.intro hr11 hre))))
 obtain ⟨wB, hwB⟩ : ∃ wB, wB = (w.alloc (.cells #[.int .i64 x0, .int .i64 x1, .slice A4 n4 c4, .slice A5 n5 c5, .int .i64 x4, .slice A7 n7 c7, .slice Ar nr cr, .slice Ac nc cc, .slice Au nu cu, .slice A11 n11 c11] 32)).alloc (.cells #[.int .i64 y0, .int .i64 y1, .slice B4 m4 d4, .slice B5 m5 d5, .int .i64 y4, .slice B7 m7 d7, .slice Br mr dr, .slice Bc mc dc, .slice Bu mu du, .slice B11 m11 d11] 32) := ⟨_, rfl⟩
 have hbB : Below w.heap.size w wB := by rw [hwB]; exact q57 (q57 (Below.refl _ _) _) _
 have hg1 : wB.heap[w.heap.size]? = some (.cells #[.int .i64 x0, .int .i64 x1, .slice A4 n4 c4, .slice A5 n5 c5, .int .i64 x4, .slice A7 n7 c7, .slice Ar nr cr, .slice Ac nc cc, .slice Au nu cu, .slice A11 n11 c11] 32 (0, 0)) := by rw [hwB]; exact q61 (heap_alloc_new _ _) _
 have hg2 : wB.heap[w.heap.size + 1]? = some (.cells #[.int .i64 y0, .int .i64 y1, .slice B4 m4 d4, .slice B5 m5 d5, .int .i64 y4, .slice B7 m7 d7, .slice Br mr dr, .slice Bc mc dc, .slice Bu mu du, .slice B11 m11 d11] 32 (0, 0)) := by
  rw [hwB, show w.heap.size + 1 = (w.alloc (.cells #[.int .i64 x0, .int .i64 x1, .slice A4 n4 c4, .slice A5 n5 c5, .int .i64 x4, .slice A7 n7 c7, .slice Ar nr cr, .slice Ac nc cc, .slice Au nu cu, .slice A11 n11 c11] 32)).heap.size by simp]
  exact heap_alloc_new _ _
 obtain ⟨b, hb⟩ : ∃ b, b = w.heap.size := ⟨_, rfl⟩
 obtain ⟨b2, hb2⟩ : ∃ b2, b2 = w.heap.size + 1 := ⟨_, rfl⟩
 rw [← hb] at hg1
 rw [← hb2] at hg2
 have HCC : Hid (∀ W, Below wB.heap.size wB W → W.cell? ⟨b, 0, none⟩ = some (.int .i64 x0) ∧ W.cell? ⟨b, 1, none⟩ = some (.int .i64 x1) ∧ W.cell? ⟨b, 2, none⟩ = some (.slice A4 n4 c4) ∧ W.cell? ⟨b, 3, none⟩ = some (.slice A5 n5 c5) ∧ W.cell? ⟨b, 4, none⟩ = some (.int .i64 x4) ∧ W.cell? ⟨b, 5, none⟩ = some (.slice A7 n7 c7) ∧ W.cell? ⟨b, 6, none⟩ = some (.slice Ar nr cr) ∧ W.cell? ⟨b, 7, none⟩ = some (.slice Ac nc cc) ∧ W.cell? ⟨b, 8, none⟩ = some (.slice Au nu cu) ∧ W.cell? ⟨b, 9, none⟩ = some (.slice A11 n11 c11) ∧ W.cell? ⟨b2, 0, none⟩ = some (.int .i64 y0) ∧ W.cell? ⟨b2, 1, none⟩ = some (.int .i64 y1) ∧ W.cell? ⟨b2, 2, none⟩ = some (.slice B4 m4 d4) ∧ W.cell? ⟨b2, 3, none⟩ = some (.slice B5 m5 d5) ∧ W.cell? ⟨b2, 4, none⟩ = some (.int .i64 y4) ∧ W.cell? ⟨b2, 5, none⟩ = some (.slice B7 m7 d7) ∧ W.cell? ⟨b2, 6, none⟩ = some (.slice Br mr dr) ∧ W.cell? ⟨b2, 7, none⟩ = some (.slice Bc mc dc) ∧ W.cell? ⟨b2, 8, none⟩ = some (.slice Bu mu du) ∧ W.cell? ⟨b2, 9, none⟩ = some (.slice B11 m11 d11)) := Lib.hid (fun W hb => ⟨q73 hb ((q63 hg1 0).trans rfl), q73 hb ((q63 hg1 1).trans rfl), q73 hb ((q63 hg1 2).trans rfl), q73 hb ((q63 hg1 3).trans rfl), q73 hb ((q63 hg1 4).trans rfl), q73 hb ((q63 hg1 5).trans rfl), q73 hb ((q63 hg1 6).trans rfl), q73 hb ((q63 hg1 7).trans rfl), q73 hb ((q63 hg1 8).trans rfl), q73 hb ((q63 hg1 9).trans rfl), q73 hb ((q63 hg2 0).trans rfl), q73 hb ((q63 hg2 1).trans rfl), q73 hb ((q63 hg2 2).trans rfl), q73 hb ((q63 hg2 3).trans rfl), q73 hb ((q63 hg2 4).trans rfl), q73 hb ((q63 hg2 5).trans rfl), q73 hb ((q63 hg2 6).trans rfl), q73 hb ((q63 hg2 7).trans rfl), q73 hb ((q63 hg2 8).trans rfl), q73 hb ((q63 hg2 9).trans rfl)⟩)
 have H4 := Lib.hid (fun W (hb : Below wB.heap.size wB W) => h4 W (q60 hbB hbB.size hb))
 have H5 := Lib.hid (fun W (hb : Below wB.heap.size wB W) => h5 W (q60 hbB hbB.size hb))
 have H7 := Lib.hid (fun W (hb : Below wB.heap.size wB W) => h7 W (q60 hbB hbB.size hb))
 have H11 := Lib.hid (fun W (hb : Below wB.heap.size wB W) => h11 W (q60 hbB hbB.size hb))
 have HE := Lib.hid (fun W (hb : Below wB.heap.size wB W) => he W (q60 hbB hbB.size hb))
 have HR := Lib.hid (And.intro (Kd.C_below hrp hbB) (Kd.C_below hrq hbB))
 have HWB := Lib.hid hwB
 have HBB := Lib.hid hbB
 have HB := Lib.hid hb
 have HB2 := Lib.hid (show b2 = b + 1 by rw [hb2, hb])
 clear hwB hbB hg1 hg2 hb hb2 hrp hrq h4 h5 h7 h11 he hr4 hr5 hr7 hr11 hre hn4 hm4 hn5 hm5 hn7 hm7 hnc hmc hnu hmu hn11 hm11 hnr_ hmr hx0 hy0 hx1 hy1 hx4 hy4 hp hq hfs hpl hfit hv
 obtain ⟨xc0, xc1, xc2, xc3, xc4, xc5, xc6, xc7, xc8, xc9, yc0, yc1, yc2, yc3, yc4, yc5, yc6, yc7, yc8, yc9⟩ := HCC.out wB (Below.refl _ _)
 go_enter Try.func9, Try.ntmps9
 go_upto_region 1 with (fail)
 rw [← HWB.out, ← show b = _ from HB.out, ← show b2 = _ from HB2.out]
 by_cases k0 : x0 = y0
 case neg =>
  have n0 : (x0 != y0) = true := bne_iff_ne.mpr k0
  have n1 : (x0 == y0) = false := by simpa using k0
  have HF := Lib.hid (HNO.out (fun h => k0 (by rw [HSC.out.1, HSC.out.2.1, h])))
  have HF2 := Lib.hid (HBB.out)
  go_wp2
  go_ret
  exact ⟨by rw [HF.out]; rfl, HF2.out⟩
 have e0 : (x0 != y0) = false := bne_eq_false_iff_eq.mpr k0
 have e0b : (x0 == y0) = true := beq_iff_eq.mpr k0
 have K0 := Lib.hid k0
 clear k0
 by_cases k1 : x1 = y1
 case neg =>
  have n0 : (x1 != y1) = true := bne_iff_ne.mpr k1
  have n1 : (x1 == y1) = false := by simpa using k1
  have HF := Lib.hid (HNO.out (fun h => k1 (by rw [HSC.out.2.2.1, HSC.out.2.2.2.1, h])))
  have HF2 := Lib.hid (HBB.out)
  go_wp2
  go_ret
  exact ⟨by rw [HF.out]; rfl, HF2.out⟩
 have e1 : (x1 != y1) = false := bne_eq_false_iff_eq.mpr k1
 have e1b : (x1 == y1) = true := beq_iff_eq.mpr k1
 have K1 := Lib.hid k1
 clear k1
 by_cases k4 : x4 = y4
 case neg =>
  have n0 : (x4 != y4) = true := bne_iff_ne.mpr k4
  have n1 : (x4 == y4) = false := by simpa using k4
  have HF := Lib.hid (HNO.out (fun h => k4 (by rw [HSC.out.2.2.2.2.1, HSC.out.2.2.2.2.2, h])))
  have HF2 := Lib.hid (HBB.out)
  go_wp2
  go_ret
  exact ⟨by rw [HF.out]; rfl, HF2.out⟩
 have e4 : (x4 != y4) = false := bne_eq_false_iff_eq.mpr k4
 have e4b : (x4 == y4) = true := beq_iff_eq.mpr k4
 have K4 := Lib.hid k4
 clear k4
 have hcall := H4.out wB (Below.refl _ _)
 go_wp2_with fail
 refine hcall.mono ?_
 rintro e w0_ ⟨rfl, hbn⟩
 have HZ0 := Lib.hid (hbn)
 clear hcall hbn xc0 xc1 xc2 xc3 xc4 xc5 xc6 xc7 xc8 xc9 yc0 yc1 yc2 yc3 yc4 yc5 yc6 yc7 yc8 yc9
 obtain ⟨xc0, xc1, xc2, xc3, xc4, xc5, xc6, xc7, xc8, xc9, yc0, yc1, yc2, yc3, yc4, yc5, yc6, yc7, yc8, yc9⟩ := HCC.out w0_ HZ0.out
 cases r4
 case false =>
  have HF := Lib.hid (HNO.out (fun h => absurd (HRR.out.1.2 (by rw [h])) (by decide)))
  have HF2 := Lib.hid (q60 HBB.out HBB.out.size HZ0.out)
  go_wp2
  go_ret
  exact ⟨by rw [HF.out]; rfl, HF2.out⟩
 have hcall := H5.out w0_ HZ0.out
 go_wp2_with fail
 refine hcall.mono ?_
 rintro e w1_ ⟨rfl, hbn⟩
 have HZ1 := Lib.hid (q60 HZ0.out HZ0.out.size hbn)
 clear hcall hbn xc0 xc1 xc2 xc3 xc4 xc5 xc6 xc7 xc8 xc9 yc0 yc1 yc2 yc3 yc4 yc5 yc6 yc7 yc8 yc9
 obtain ⟨xc0, xc1, xc2, xc3, xc4, xc5, xc6, xc7, xc8, xc9, yc0, yc1, yc2, yc3, yc4, yc5, yc6, yc7, yc8, yc9⟩ := HCC.out w1_ HZ1.out
 cases r5
 case false =>
  have HF := Lib.hid (HNO.out (fun h => absurd (HRR.out.2.1.2 (by rw [h])) (by decide)))
  have HF2 := Lib.hid (q60 HBB.out HBB.out.size HZ1.out)
  go_wp2
  go_ret
  exact ⟨by rw [HF.out]; rfl, HF2.out⟩
 have hcall := H7.out w1_ HZ1.out
 go_wp2_with fail
 refine hcall.mono ?_
 rintro e w2_ ⟨rfl, hbn⟩
 have HZ2 := Lib.hid (q60 HZ1.out HZ1.out.size hbn)
 clear hcall hbn xc0 xc1 xc2 xc3 xc4 xc5 xc6 xc7 xc8 xc9 yc0 yc1 yc2 yc3 yc4 yc5 yc6 yc7 yc8 yc9
 obtain ⟨xc0, xc1, xc2, xc3, xc4, xc5, xc6, xc7, xc8, xc9, yc0, yc1, yc2, yc3, yc4, yc5, yc6, yc7, yc8, yc9⟩ := HCC.out w2_ HZ2.out
 cases r7
 case false =>
  have HF := Lib.hid (HNO.out (fun h => absurd (HRR.out.2.2.1.2 (by rw [h])) (by decide)))
  have HF2 := Lib.hid (q60 HBB.out HBB.out.size HZ2.out)
  go_wp2
  go_ret
  exact ⟨by rw [HF.out]; rfl, HF2.out⟩
 have hcall := H11.out w2_ HZ2.out
 go_wp2_with fail
 refine hcall.mono ?_
 rintro e w3_ ⟨rfl, hbn⟩
 have HZ3 := Lib.hid (q60 HZ2.out HZ2.out.size hbn)
 clear hcall hbn xc0 xc1 xc2 xc3 xc4 xc5 xc6 xc7 xc8 xc9 yc0 yc1 yc2 yc3 yc4 yc5 yc6 yc7 yc8 yc9
 obtain ⟨xc0, xc1, xc2, xc3, xc4, xc5, xc6, xc7, xc8, xc9, yc0, yc1, yc2, yc3, yc4, yc5, yc6, yc7, yc8, yc9⟩ := HCC.out w3_ HZ3.out
 cases r11
 case false =>
  have HF := Lib.hid (HNO.out (fun h => absurd (HRR.out.2.2.2.1.2 (by rw [h])) (by decide)))
  have HF2 := Lib.hid (q60 HBB.out HBB.out.size HZ3.out)
  go_wp2
  go_ret
  exact ⟨by rw [HF.out]; rfl, HF2.out⟩
 by_cases kr : nr = mr
 case neg =>
  have n0 : ((nr : Int) != (mr : Int)) = true := by simp; omega
  have HF := Lib.hid (HNO.out (fun h => kr (by rw [HEQ.out.1, HEQ.out.2, h])))
  have HF2 := Lib.hid (q60 HBB.out HBB.out.size HZ3.out)
  go_wp2
  go_ret
  exact ⟨by rw [HF.out]; rfl, HF2.out⟩
 obtain rfl := kr
 have er : ((nr : Int) != (nr : Int)) = false := by simp
 have hcall := HE.out w3_ HZ3.out
 go_wp2_with fail
 refine hcall.mono ?_
 rintro e w4_ ⟨rfl, hbn⟩
 have HZ4 := Lib.hid (q60 HZ3.out HZ3.out.size hbn)
 clear hcall hbn xc0 xc1 xc2 xc3 xc4 xc5 xc6 xc7 xc8 xc9 yc0 yc1 yc2 yc3 yc4 yc5 yc6 yc7 yc8 yc9
 obtain ⟨xc0, xc1, xc2, xc3, xc4, xc5, xc6, xc7, xc8, xc9, yc0, yc1, yc2, yc3, yc4, yc5, yc6, yc7, yc8, yc9⟩ := HCC.out w4_ HZ4.out
 cases re
 case false =>
  have HF := Lib.hid (HNO.out (fun h => absurd (HRR.out.2.2.2.2.2 (by exact ⟨by rw [h], by rw [h]⟩)) (by decide)))
  have HF2 := Lib.hid (q60 HBB.out HBB.out.size HZ4.out)
  go_wp2
  go_ret
  exact ⟨by rw [HF.out]; rfl, HF2.out⟩
 go_wp2_with fail
 clear er e0 e1 e4 e0b e1b e4b xc0 xc1 xc2 xc3 xc4 xc5 xc6 xc7 xc8 xc9 yc0 yc1 yc2 yc3 yc4 yc5 yc6 yc7 yc8 yc9
 go_loopg [5] nr (fun gg s5 wr => ∃ i : Nat, s5 = .int .i64 i ∧ i ≤ nr ∧ nr - i ≤ gg ∧ Hid (p.rs.take i = q.rs.take i) ∧ Hid (Below wB.heap.size wB wr))
 case atStart => exact ⟨0, rfl, Nat.zero_le _, by omega, Lib.hid rfl, HZ4⟩
 case round =>
 obtain ⟨i, rfl, hin, hig, HT, Y⟩ := hrel
 obtain ⟨wO, rfl⟩ : ∃ wO, wO = wr := ⟨_, rfl⟩
 obtain ⟨xc0, xc1, xc2, xc3, xc4, xc5, xc6, xc7, xc8, xc9, yc0, yc1, yc2, yc3, yc4, yc5, yc6, yc7, yc8, yc9⟩ := HCC.out wO Y.out
 clear xc0 xc1 xc2 xc3 xc4 xc5 xc7 xc8 xc9 yc0 yc1 yc2 yc3 yc4 yc5 yc7 yc8 yc9
 by_cases hlt : i < nr
 case neg =>
  obtain rfl : nr = i := by omega
  have hlz : ¬ (nr : Int) < (nr : Int) := by omega
  have HF := Lib.hid (HYES.out (pp_eq (by rw [← HSC.out.1, ← HSC.out.2.1, K0.out]) (by rw [← HSC.out.2.2.1, ← HSC.out.2.2.2.1, K1.out]) (by rw [← HSC.out.2.2.2.2.1, ← HSC.out.2.2.2.2.2, K4.out]) (HRR.out.1.1 (by trivial)) (HRR.out.2.1.1 (by trivial)) (HRR.out.2.2.1.1 (by trivial)) (by have e := HT.out; rw [List.take_of_length_le (by have := HEQ.out.1; omega), List.take_of_length_le (by have := HEQ.out.2; omega)] at e; exact e) (HRR.out.2.2.2.2.1 (by trivial)).1 (HRR.out.2.2.2.2.1 (by trivial)).2 (HRR.out.2.2.2.1.1 (by trivial))))
  have HF2 := Lib.hid (q60 HBB.out HBB.out.size Y.out)
  go_wp2
  go_ret
  exact ⟨by rw [HF.out]; rfl, HF2.out⟩
 have hlz : (i : Int) < (nr : Int) := by omega
 obtain ⟨ad, A1, c1, A2, c2, A3, c3, e, a0c, a1c, a2c, a3c, l1, g1, l2, g2, l3, g3⟩ := at_T72 (Kd.C_below HR.out.1 Y.out) (i : Int) (by omega) (by omega)
 obtain ⟨bd, B1, d1, B2, d2, B3, d3, e', b0c, b1c, b2c, b3c, z1, j1, z2, j2, z3, j3⟩ := at_T72 (Kd.C_below HR.out.2 Y.out) (i : Int) (by omega) (by omega)
 simp only [Int.toNat_natCast] at a0c a1c a2c a3c b0c b1c b2c b3c
 have hnx := take_next z72 i (by have := HEQ.out.1; omega) (by have := HEQ.out.2; omega) HT.out
 rw [show p.rs.getD i z72 = q83 p.rs (i : Int) by simp [q83], show q.rs.getD i z72 = q83 q.rs (i : Int) by simp [q83]] at hnx
 generalize q83 p.rs (i : Int) = xa at hnx a0c a1c a2c a3c l1 g1 l2 g2 l3 g3
 generalize q83 q.rs (i : Int) = ya at hnx b0c b1c b2c b3c z1 j1 z2 j2 z3 j3
 obtain ⟨r, hr, hcall⟩ := rule_call wO xa A1 c1 A2 c2 A3 c3 ya B1 d1 B2 d2 B3 d3 ⟨l1, g1⟩ ⟨l2, g2⟩ ⟨l3, g3⟩ ⟨z1, j1⟩ ⟨z2, j2⟩ ⟨z3, j3⟩
 cases e
 cases e'
 have HNX := Lib.hid hnx
 have HRU := Lib.hid hr
 have HCA := Lib.hid hcall
 clear hnx hr hcall l1 g1 l2 g2 l3 g3 z1 j1 z2 j2 z3 j3
 go_wp2
 have hS : (((wO.drew).cell? ⟨b, 6, none⟩ = some (.slice (some ad) nr cr)) ∧ ((wO.drew).cell? ⟨b2, 6, none⟩ = some (.slice (some bd) nr dr)) ∧ ((wO.drew).cell? (ad.add (i * 4)) = some (.int .i64 xa.f0)) ∧ ((wO.drew).cell? ⟨(ad.add (i * 4)).block, (ad.add (i * 4)).off + 1, none⟩ = some (.slice A1 xa.f1.length c1)) ∧ ((wO.drew).cell? ⟨(ad.add (i * 4)).block, (ad.add (i * 4)).off + 2, none⟩ = some (.slice A2 xa.f2.length c2)) ∧ ((wO.drew).cell? ⟨(ad.add (i * 4)).block, (ad.add (i * 4)).off + 3, none⟩ = some (.slice A3 xa.f3.length c3)) ∧ ((wO.drew).cell? (bd.add (i * 4)) = some (.int .i64 ya.f0)) ∧ ((wO.drew).cell? ⟨(bd.add (i * 4)).block, (bd.add (i * 4)).off + 1, none⟩ = some (.slice B1 ya.f1.length d1)) ∧ ((wO.drew).cell? ⟨(bd.add (i * 4)).block, (bd.add (i * 4)).off + 2, none⟩ = some (.slice B2 ya.f2.length d2)) ∧ ((wO.drew).cell? ⟨(bd.add (i * 4)).block, (bd.add (i * 4)).off + 3, none⟩ = some (.slice B3 ya.f3.length d3))) ∧ Below wO.heap.size wO wO.drew := ⟨⟨xc6, yc6, a0c, a1c, a2c, a3c, b0c, b1c, b2c, b3c⟩, q58 (Below.refl _ _)⟩
 refine sD_ [] (fun w' => ((w'.cell? ⟨b, 6, none⟩ = some (.slice (some ad) nr cr)) ∧ (w'.cell? ⟨b2, 6, none⟩ = some (.slice (some bd) nr dr)) ∧ (w'.cell? (ad.add (i * 4)) = some (.int .i64 xa.f0)) ∧ (w'.cell? ⟨(ad.add (i * 4)).block, (ad.add (i * 4)).off + 1, none⟩ = some (.slice A1 xa.f1.length c1)) ∧ (w'.cell? ⟨(ad.add (i * 4)).block, (ad.add (i * 4)).off + 2, none⟩ = some (.slice A2 xa.f2.length c2)) ∧ (w'.cell? ⟨(ad.add (i * 4)).block, (ad.add (i * 4)).off + 3, none⟩ = some (.slice A3 xa.f3.length c3)) ∧ (w'.cell? (bd.add (i * 4)) = some (.int .i64 ya.f0)) ∧ (w'.cell? ⟨(bd.add (i * 4)).block, (bd.add (i * 4)).off + 1, none⟩ = some (.slice B1 ya.f1.length d1)) ∧ (w'.cell? ⟨(bd.add (i * 4)).block, (bd.add (i * 4)).off + 2, none⟩ = some (.slice B2 ya.f2.length d2)) ∧ (w'.cell? ⟨(bd.add (i * 4)).block, (bd.add (i * 4)).off + 3, none⟩ = some (.slice B3 ya.f3.length d3))) ∧ Below wO.heap.size wO w') 12 hS (fun hHeld => ?_)
 clear hS
 obtain ⟨wD, hwD⟩ : ∃ wD, wD = wO.drew := ⟨_, rfl⟩
 rw [← hwD] at hHeld ⊢
 clear hwD
 refine pu_ 0 (some 79) ?_
 refine tc_ 1 (some 80) hHeld ?_
 refine pu_ 2 (some 81) ?_
 refine pu_ 3 (some 82) ?_
 refine tc_ 4 (some 83) hHeld ?_
 refine pu_ 5 (some 84) ?_
 refine tc_ 6 (some 85) hHeld ?_
 refine pu_ 7 (some 86) ?_
 refine pu_ 8 (some 87) ?_
 refine tc_ 9 (some 88) hHeld ?_
 refine ca_ 10 (some 89) Try.func44 #[.agg #[.int .i64 xa.f0, .slice A1 xa.f1.length c1, .slice A2 xa.f2.length c2, .slice A3 xa.f3.length c3], .agg #[.int .i64 ya.f0, .slice B1 ya.f1.length d1, .slice B2 ya.f2.length d2, .slice B3 ya.f3.length d3]] ?_
 refine (HCA.out wD hHeld.2).mono ?_
 rintro e d131_ ⟨rfl, hb⟩
 refine ⟨_, rfl, (kp10 hHeld hb), fun hHeld => ⟨_, rfl, nz_ (some 89) ?_⟩⟩
 clear hb
 refine pu_ 11 (some 90) ?_
 refine dn_ ?_
 have HF2 := Lib.hid (q60 Y.out Y.out.size hHeld.2)
 clear hHeld a0c a1c a2c a3c b0c b1c b2c b3c xc6 yc6
 cases r
 ·have HF := Lib.hid (HNO.out (fun h => absurd (HRU.out.2 (HNX.out.1 (by rw [h]))) (by decide)))
  have HF3 := Lib.hid (q60 HBB.out HBB.out.size HF2.out)
  go_wp2
  go_ret
  exact ⟨by rw [HF.out]; rfl, HF3.out⟩
 have HT3 : Hid (p.rs.take (i + 1) = q.rs.take (i + 1)) := Lib.hid (HNX.out.2 (HRU.out.1 (by trivial)))
 go_wp2
 go_roundg (nr - (i + 1))
 case measure => omega
 case rel => exact ⟨i + 1, by go_num, by omega, Nat.le_refl _, HT3, HF2⟩
end Go.Proofs.Yteddgedacjdjgaa.Pm
end
section
namespace Go.Proofs.Yteddgedacjdjgaa.Pm
open Go.RowKit Go.Proofs.YteddgedacjdjgaaW.PrintWords Go.Proofs.YteddgedacjdjgaaW.PrintLast Go.Proofs.YteddgedacjdjgaaW.PrintMore
attribute [local go_sem] max2_int min2_int max_two min_two max_three min_three max_four min_four   -- for this text's walks alone
set_option linter.unusedVariables false
set_option linter.unusedSimpArgs false
set_option linter.unusedSectionVars false
section
variable {c c' : Mc} (hl : c.l = c'.l) (ha : c.la = c'.la)
include hl ha
theorem sentI_c : sentI c = sentI c' := by funext i; simp only [sentI, hl, ha]
theorem thirdE_c : thirdE c = thirdE c' := by funext i ne; simp only [thirdE, ha]
theorem thirdF_c : thirdF c = thirdF c' := by funext i q; simp only [thirdF, sentI_c hl ha, ha]
theorem thirdP_c : thirdP c = thirdP c' := by funext i kd ne; simp only [thirdP, thirdE_c hl ha, thirdF_c hl ha]
theorem thirdL_c : thirdL c = thirdL c' := by funext i kd ne; simp only [thirdL, thirdP_c hl ha, hl, ha]
theorem secondF_c : secondF c = secondF c' := by funext i ne q s; simp only [secondF, sentI_c hl ha, ha]
theorem secondP_c : secondP c = secondP c' := by funext i ne q; induction q with | zero => rfl | succ q ih => simp only [secondP, ih, secondF_c hl ha]
theorem userU_c : userU c = userU c' := by funext i ev st what; simp only [userU, hl, ha]
theorem withoutC_c : withoutC c = withoutC c' := by funext i x; simp only [withoutC, ha]
theorem withoutU_c : withoutU c = withoutU c' := by funext i kd; simp only [withoutU, userU_c hl ha]
theorem hap_c : hap c = hap c' := by funext last at_ x; simp only [hap, hl, ha]
theorem onsP_c : onsP c = onsP c' := by funext last at_ xs q; induction q with | zero => rfl | succ q ih => simp only [onsP, ih, hap_c hl ha]
theorem marksP_c : marksP c = marksP c' := by funext last at_ ss k; induction k with | zero => rfl | succ k ih => simp only [marksP, ih, onsP_c hl ha]
theorem fourthR_c : fourthR c = fourthR c' := by funext i k; simp only [fourthR, ha]
theorem fourthL_c : fourthL c = fourthL c' := by funext i; simp only [fourthL, fourthR_c hl ha, hl]
theorem fifthL_c : fifthL c = fifthL c' := by funext i; simp only [fifthL, hl, ha]
theorem holdsR_c : holdsR c = holdsR c' := by funext i f ls; simp only [holdsR, ha]
theorem firstS_c : firstS c = firstS c' := by funext i a k s; simp only [firstS, sentI_c hl ha]
theorem firstP_c : firstP c = firstP c' := by funext i a ss k; induction k with | zero => rfl | succ k ih => simp only [firstP, ih, firstS_c hl ha]
theorem kidR_c : kidR c = kidR c' := by funext i k; simp only [kidR, holdsR_c hl ha, hl]
theorem kidsP_c : kidsP c = kidsP c' := by funext i ks q; induction q with | zero => rfl | succ q ih => simp only [kidsP, ih, kidR_c hl ha]
theorem firstL_c : firstL c = firstL c' := by funext i x ss; simp only [firstL, firstP_c hl ha, kidsP_c hl ha, hl]
theorem itemAt_c : itemAt c = itemAt c' := by funext i; simp only [itemAt, hl]
theorem fnL_c : fnL c = fnL c' := by funext k i; simp only [fnL, itemAt_c hl ha, firstL_c hl ha, secondP_c hl ha, thirdL_c hl ha, fourthL_c hl ha, fifthL_c hl ha]
theorem rulesA_c : rulesA c = rulesA c' := by funext n k; induction k with | zero => rfl | succ k ih => simp only [rulesA, ih, fnL_c hl ha]
theorem closingR_c : closingR c = closingR c' := by funext d i st wh; simp only [closingR, hl, ha]
theorem closingL_c : closingL c = closingL c' := by funext dl d i; simp only [closingL, closingR_c hl ha]
theorem rulesC_c : rulesC c = rulesC c' := by funext dl n k; induction k with | zero => rfl | succ k ih => simp only [rulesC, ih, closingL_c hl ha]
theorem turnF_c : turnF c = turnF c' := by funext ls i; simp only [turnF, hl, ha]
theorem markF_c : markF c = markF c' := by funext ls i; simp only [markF, marksP_c hl ha, hl]
theorem cntP_c : cntP c = cntP c' := by funext i; induction i with | zero => rfl | succ i ih => simp only [cntP, ih, withoutC_c hl ha, hl]
theorem usrP_c : usrP c = usrP c' := by funext i; induction i with | zero => rfl | succ i ih => simp only [usrP, ih, withoutU_c hl ha, hl]
theorem rulesOf_c : rulesOf c = rulesOf c' := by funext n k D; simp only [rulesOf, rulesA_c hl ha, rulesC_c hl ha, turnF_c hl ha, markF_c hl ha, hl]
end
theorem Pg.below {w W : World} {p : Pp} {A4 A5 A7 Ar Ac Au A11 : Option Addr} {c4 c5 c7 cr cc cu c11 : Nat} (h : Pg w p A4 c4 A5 c5 A7 c7 Ar cr Ac cc Au cu A11 c11) (hb : Below w.heap.size w W) : Pg W p A4 c4 A5 c5 A7 c7 Ar cr Ac cc Au cu A11 c11 :=
 ⟨⟨Kd.C_below h.1.1 hb, h.1.2⟩, ⟨Kd.C_below h.2.1.1 hb, h.2.1.2⟩, ⟨Kd.C_below h.2.2.1.1 hb, h.2.2.1.2⟩, ⟨Kd.C_below h.2.2.2.1.1 hb, h.2.2.2.1.2⟩, ⟨Kd.C_below h.2.2.2.2.1.1 hb, h.2.2.2.2.1.2⟩, ⟨Kd.C_below h.2.2.2.2.2.1.1 hb, h.2.2.2.2.2.1.2⟩, Kd.C_below h.2.2.2.2.2.2.1 hb, h.2.2.2.2.2.2.2⟩
def canonM (l : List (S41)) : Mc := ⟨none, 0, [], none, 0, l, ((marksN l l.length : Nat) : Int) + 6 * (l.length : Int) + ((sentsN l l.length : Nat) : Int), ((marksN l l.length : Nat) : Int), .bool false, .bool false, .bool false, .bool false, .bool false⟩
def toP (fs : List ByteArray) (l : List (S41)) : Pp := ⟨(canonM l).fl, (canonM l).la, 6, [flagF 0 2], [flagF 0 3, flagF 0 4], fs, rulesOf (canonM l) l.length (depM l l.length).toNat (depM l l.length), cntP (canonM l) l.length, usrP (canonM l) l.length, l⟩
theorem toP_inj (fs gs : List ByteArray) (l m : List (S41)) : toP fs l = toP gs m ↔ fs = gs ∧ l = m :=
 ⟨fun h => ⟨congrArg Pp.fs h, congrArg Pp.l h⟩, fun h => by rw [h.1, h.2]⟩
def PgPost (w : World) (p : Pp) (e : Ending) (w' : World) : Prop := ∃ A4 c4 A5 c5 A7 c7 Ar cr Ac cc Au cu A11 c11, e = .returned (.tuple #[.agg #[.int .i64 p.fl, .int .i64 p.la, .slice A4 p.fi.length c4, .slice A5 p.ov.length c5, .int .i64 p.fr, .slice A7 p.fs.length c7, .slice Ar p.rs.length cr, .slice Ac p.cs.length cc, .slice Au p.us.length cu, .slice A11 p.l.length c11], .int .i64 0]) ∧ Pg w' p A4 c4 A5 c5 A7 c7 Ar cr Ac cc Au cu A11 c11 ∧ Below w.heap.size w w'
theorem To_plain (w : World) (fs : List ByteArray) (l : List (S41)) (e : Ending) (w' : World) (h : ToPost w fs l e w') : PgPost w (toP fs l) e w' := by
 obtain ⟨v4, v5, v7, v11, vr, vc, vu, c, rfl, h0, h1, h2, r4, r5, r7, r11, rr, rc, ru, hb⟩ := h
 have hl : c.l = (canonM l).l := h0
 have ha : c.la = (canonM l).la := h1
 have hf : c.fl = (canonM l).fl := by rw [h2, h1]; rfl
 rw [rulesOf_c hl ha] at rr
 rw [cntP_c hl ha] at rc
 rw [usrP_c hl ha] at ru
 rw [hf, ha]
 obtain ⟨A4, c4, rfl⟩ := Kd.R_slice r4
 obtain ⟨A5, c5, rfl⟩ := Kd.R_slice r5
 obtain ⟨A7, c7, rfl⟩ := Kd.R_slice r7
 obtain ⟨A11, c11, rfl⟩ := Kd.R_slice r11
 obtain ⟨Ar, cr, rfl⟩ := Kd.R_slice rr
 obtain ⟨Ac, cc, rfl⟩ := Kd.R_slice rc
 obtain ⟨Au, cu, rfl⟩ := Kd.R_slice ru
 exact ⟨A4, c4, A5, c5, A7, c7, Ar, cr, Ac, cc, Au, cu, A11, c11, rfl, ⟨⟨(Kd.R_reads' r4).2.2, (Kd.R_reads' r4).2.1⟩, ⟨(Kd.R_reads' r5).2.2, (Kd.R_reads' r5).2.1⟩, ⟨(Kd.R_reads' r7).2.2, (Kd.R_reads' r7).2.1⟩, ⟨(Kd.R_reads' rr).2.2, (Kd.R_reads' rr).2.1⟩, ⟨(Kd.R_reads' rc).2.2, (Kd.R_reads' rc).2.1⟩, ⟨(Kd.R_reads' ru).2.2, (Kd.R_reads' ru).2.1⟩, (Kd.R_reads' r11).2.2, (Kd.R_reads' r11).2.1⟩, hb⟩
end Go.Proofs.Yteddgedacjdjgaa.Pm
end
section
namespace Go.Proofs.Yteddgedacjdjgaa.Pm
open Go.RowKit Go.Proofs.YteddgedacjdjgaaW.PrintWords Go.Proofs.YteddgedacjdjgaaW.PrintLast Go.Proofs.YteddgedacjdjgaaW.PrintMore
attribute [local go_sem] max2_int min2_int max_two min_two max_three min_three max_four min_four   -- for this text's walks alone
set_option linter.unusedVariables false
set_option linter.unusedSimpArgs false
section
variable {w : World} {A0 : Option Addr} {c0 : Nat} {fs : List ByteArray} {A1 : Option Addr} {c1 : Nat} {l : List (S41)}
theorem Md.toP (h : Md w A0 c0 fs A1 c1 l) (his : isB fs l = true) : ∀ W, Below w.heap.size w W → Calls Try.prog 8 #[.agg #[.slice A0 fs.length c0, .slice A1 l.length c1]] W (PgPost W (toP fs l)) := by
 obtain ⟨⟨h0, h1, h2, h3⟩, -⟩ := h
 exact fun W hb => (To_legal W A0 c0 fs A1 c1 l (Kd.C_below h0 hb) h1 (Kd.C_below h2 hb) h3 his).mono (fun e w' h => To_plain W fs l e w' h)
theorem fit_good12 {x : S41} (h : goodItem x) : fitS x.f5 ∧ fitS x.f6 :=
 ⟨⟨by have := h.2.2.1; omega, fun s hs => by have := h.2.2.2.2.1 s hs; unfold goodSentry at this; omega⟩, ⟨by have := h.2.2.2.1; omega, fun s hs => by have := h.2.2.2.2.2 s hs; unfold goodSentry at this; omega⟩⟩
end
theorem same4_call (w : World) (A0 : Option Addr) (c0 : Nat) (fs : List ByteArray) (A1 : Option Addr) (c1 : Nat) (l : List (S41)) (B0 : Option Addr) (d0 : Nat) (gs : List ByteArray) (B1 : Option Addr) (d1 : Nat) (m : List (S41)) (h : Md w A0 c0 fs A1 c1 l) (k : Md w B0 d0 gs B1 d1 m) (v : Bool) (hv : v = true ↔ fs = gs ∧ l = m) :
 ∀ W, Below w.heap.size w W → Calls Try.prog 10 #[.agg #[.slice A0 fs.length c0, .slice A1 l.length c1], .agg #[.slice B0 gs.length d0, .slice B1 m.length d1]] W (TB v W) := by
 obtain ⟨r, ⟨n, hn⟩, hr⟩ := ev_same fs gs l m (by have := h.2.1; omega) (by have := h.2.2.1; omega) (fun x hx => fit_good12 (h.2.2.2 x hx))
 obtain rfl : r = v := Bool.eq_iff_iff.2 (hr.trans hv.symm)
 exact fun W hb => q26.calls n A0 c0 fs A1 c1 l B0 d0 gs B1 d1 m r W (Kd.C_below h.1.1 hb) h.1.2.1 (Kd.C_below h.1.2.2.1 hb) h.1.2.2.2 (Kd.C_below k.1.1 hb) k.1.2.1 (Kd.C_below k.1.2.2.1 hb) k.1.2.2.2 (hn n (Nat.le_refl _))
set_option maxHeartbeats 32000000 in
set_option maxRecDepth 100000 in
theorem xlateUnlike_any (A0 : Option Addr) (c0 : Nat) (fs : List ByteArray) (A1 : Option Addr) (c1 : Nat) (l : List (S41)) (B0 : Option Addr) (d0 : Nat) (gs : List ByteArray) (B1 : Option Addr) (d1 : Nat) (m : List (S41)) (w : World) (hM : Md w A0 c0 fs A1 c1 l) (hK : Md w B0 d0 gs B1 d1 m) :
 Calls Try.prog 3 #[.agg #[.slice A0 fs.length c0, .slice A1 l.length c1], .agg #[.slice B0 gs.length d0, .slice B1 m.length d1]] w (TB true w) := by
 have hu25 := Try.underlying25
 have hu32 := Try.underlying32
 obtain ⟨va, hva⟩ := hM.heavy
 obtain ⟨vb, hvb⟩ := hK.heavy
 obtain ⟨v, hv⟩ := exb (fs = gs ∧ l = m)
 have hia := hM.is
 have hib := hK.is
 have hta := fun h => hM.toP h
 have htb := fun h => hK.toP h
 have hs4 := same4_call w A0 c0 fs A1 c1 l B0 d0 gs B1 d1 m hM hK v hv
 have HS10 := Lib.hid (fun (W : World) (P4 c4 P5 c5 P7 c7 Pr cr Pc cc Pu cu P11 c11 Q4 d4 Q5 d5 Q7 d7 Qr dr Qc dc Qu du Q11 d11) (hp : Pg W (toP fs l) P4 c4 P5 c5 P7 c7 Pr cr Pc cc Pu cu P11 c11) (hq : Pg W (toP gs m) Q4 d4 Q5 d5 Q7 d7 Qr dr Qc dc Qu du Q11 d11) => same10_any W (toP fs l) (toP gs m) P4 c4 P5 c5 P7 c7 Pr cr Pc cc Pu cu P11 c11 Q4 d4 Q5 d5 Q7 d7 Qr dr Qc dc Qu du Q11 d11 hp hq (by have := hM.2.1; show fs.length ≤ _; omega) (by have := hM.2.2.1; show l.length ≤ _; omega) (fun x hx => fit_good12 (hM.2.2.2 x hx)) v (hv.trans (toP_inj fs gs l m).symm))
 obtain ⟨n, hn⟩ : ∃ n, n = l.length := ⟨_, rfl⟩
 obtain ⟨nf, hnf⟩ : ∃ nf, nf = fs.length := ⟨_, rfl⟩
 obtain ⟨z, hz⟩ : ∃ n, n = m.length := ⟨_, rfl⟩
 obtain ⟨zf, hzf⟩ : ∃ nf, nf = gs.length := ⟨_, rfl⟩
 rw [← hn, ← hnf] at hva hia hta hs4 ⊢
 rw [← hz, ← hzf] at hvb hib htb hs4 ⊢
 obtain ⟨p, hp⟩ : ∃ p, p = toP fs l := ⟨_, rfl⟩
 obtain ⟨q, hq⟩ : ∃ q, q = toP gs m := ⟨_, rfl⟩
 rw [← hp] at hta HS10
 rw [← hq] at htb HS10
 obtain ⟨ia, hiae⟩ : ∃ x, x = isB fs l := ⟨_, rfl⟩
 obtain ⟨ib, hibe⟩ : ∃ x, x = isB gs m := ⟨_, rfl⟩
 rw [← hiae] at hia hta
 rw [← hibe] at hib htb
 obtain ⟨wB, hwB⟩ : ∃ wB, wB = (w.alloc (.cells #[.slice A0 nf c0, .slice A1 n c1] 25)).alloc (.cells #[.slice B0 zf d0, .slice B1 z d1] 25) := ⟨_, rfl⟩
 have hbB : Below w.heap.size w wB := by rw [hwB]; exact q57 (q57 (Below.refl _ _) _) _
 have hg1 : wB.heap[w.heap.size]? = some (.cells #[.slice A0 nf c0, .slice A1 n c1] 25 (0, 0)) := by rw [hwB]; exact q61 (heap_alloc_new _ _) _
 have hg2 : wB.heap[w.heap.size + 1]? = some (.cells #[.slice B0 zf d0, .slice B1 z d1] 25 (0, 0)) := by
  rw [hwB, show w.heap.size + 1 = (w.alloc (.cells #[.slice A0 nf c0, .slice A1 n c1] 25)).heap.size by simp]
  exact heap_alloc_new _ _
 obtain ⟨b, hb⟩ : ∃ b, b = w.heap.size := ⟨_, rfl⟩
 obtain ⟨b2, hb2⟩ : ∃ b2, b2 = w.heap.size + 1 := ⟨_, rfl⟩
 rw [← hb] at hg1
 rw [← hb2] at hg2
 have HCC : Hid (∀ W, Below wB.heap.size wB W → W.cell? ⟨b, 0, none⟩ = some (.slice A0 nf c0) ∧ W.cell? ⟨b, 1, none⟩ = some (.slice A1 n c1) ∧ W.cell? ⟨b2, 0, none⟩ = some (.slice B0 zf d0) ∧ W.cell? ⟨b2, 1, none⟩ = some (.slice B1 z d1)) := Lib.hid (fun W hb => ⟨q73 hb ((q63 hg1 0).trans rfl), q73 hb ((q63 hg1 1).trans rfl), q73 hb ((q63 hg2 0).trans rfl), q73 hb ((q63 hg2 1).trans rfl)⟩)
 have HVA := Lib.hid (fun W (hb : Below wB.heap.size wB W) => hva W (q60 hbB hbB.size hb))
 have HVB := Lib.hid (fun W (hb : Below wB.heap.size wB W) => hvb W (q60 hbB hbB.size hb))
 have HIA := Lib.hid (fun W (hb : Below wB.heap.size wB W) => hia W (q60 hbB hbB.size hb))
 have HIB := Lib.hid (fun W (hb : Below wB.heap.size wB W) => hib W (q60 hbB hbB.size hb))
 have HTA := Lib.hid (fun h W (hb : Below wB.heap.size wB W) => hta h W (q60 hbB hbB.size hb))
 have HTB := Lib.hid (fun h W (hb : Below wB.heap.size wB W) => htb h W (q60 hbB hbB.size hb))
 have HS4 := Lib.hid (fun W (hb : Below wB.heap.size wB W) => hs4 W (q60 hbB hbB.size hb))
 have HWB := Lib.hid hwB
 have HBB := Lib.hid hbB
 have HB := Lib.hid hb
 have HB2 := Lib.hid (show b2 = b + 1 by rw [hb2, hb])
 clear hM hK hv hva hvb hia hib hta htb hs4 hn hnf hz hzf hp hq hiae hibe hwB hbB hg1 hg2 hb hb2
 obtain ⟨m0, m1, m2, m3⟩ := HCC.out wB (Below.refl _ _)
 have hcall := HVA.out wB (Below.refl _ _)
 go_enter Try.func3, Try.ntmps3
 go_upto_region 1 with (fail)
 rw [← HWB.out, ← show b = _ from HB.out, ← show b2 = _ from HB2.out]
 go_wp2_with fail
 refine hcall.mono ?_
 rintro e w0_ ⟨rfl, hbn⟩
 have HZ0 := Lib.hid (hbn)
 clear hcall hbn m0 m1 m2 m3
 obtain ⟨m0, m1, m2, m3⟩ := HCC.out w0_ HZ0.out
 cases va
 case true =>
  have HF2 := Lib.hid (q60 HBB.out HBB.out.size HZ0.out)
  go_wp2
  go_ret
  exact ⟨rfl, HF2.out⟩
 have hcall := HVB.out w0_ HZ0.out
 go_wp2_with fail
 refine hcall.mono ?_
 rintro e w1_ ⟨rfl, hbn⟩
 have HZ1 := Lib.hid (q60 HZ0.out HZ0.out.size hbn)
 clear hcall hbn m0 m1 m2 m3
 obtain ⟨m0, m1, m2, m3⟩ := HCC.out w1_ HZ1.out
 cases vb
 case true =>
  have HF2 := Lib.hid (q60 HBB.out HBB.out.size HZ1.out)
  go_wp2
  go_ret
  exact ⟨rfl, HF2.out⟩
 have hcall := HIA.out w1_ HZ1.out
 go_wp2_with fail
 refine hcall.mono ?_
 rintro e w2_ ⟨rfl, hbn⟩
 have HZ2 := Lib.hid (q60 HZ1.out HZ1.out.size hbn)
 clear hcall hbn m0 m1 m2 m3
 obtain ⟨m0, m1, m2, m3⟩ := HCC.out w2_ HZ2.out
 cases ia
 case false =>
  have HF2 := Lib.hid (q60 HBB.out HBB.out.size HZ2.out)
  go_wp2
  go_ret
  exact ⟨rfl, HF2.out⟩
 have hcall := HIB.out w2_ HZ2.out
 go_wp2_with fail
 refine hcall.mono ?_
 rintro e w3_ ⟨rfl, hbn⟩
 have HZ3 := Lib.hid (q60 HZ2.out HZ2.out.size hbn)
 clear hcall hbn m0 m1 m2 m3
 obtain ⟨m0, m1, m2, m3⟩ := HCC.out w3_ HZ3.out
 cases ib
 case false =>
  have HF2 := Lib.hid (q60 HBB.out HBB.out.size HZ3.out)
  go_wp2
  go_ret
  exact ⟨rfl, HF2.out⟩
 have hcall := HTA.out (by trivial) w3_ HZ3.out
 go_wp2_with fail
 refine hcall.mono ?_
 rintro e w5 ⟨P4, c4, P5, c5, P7, c7, Pr, cr, Pc, cc, Pu, cu, P11, c11, rfl, hgp, hbn⟩
 have HZ5 := Lib.hid (q60 HZ3.out HZ3.out.size hbn)
 clear hcall hbn m0 m1 m2 m3
 obtain ⟨w6, hw6⟩ : ∃ w6, w6 = w5.alloc (.cells #[.int .i64 p.fl, .int .i64 p.la, .slice P4 p.fi.length c4, .slice P5 p.ov.length c5, .int .i64 p.fr, .slice P7 p.fs.length c7, .slice Pr p.rs.length cr, .slice Pc p.cs.length cc, .slice Pu p.us.length cu, .slice P11 p.l.length c11] 32) := ⟨_, rfl⟩
 have hb6 : Below w5.heap.size w5 w6 := by rw [hw6]; exact q57 (Below.refl _ _) _
 have hg6 : w6.heap[w5.heap.size]? = some (.cells #[.int .i64 p.fl, .int .i64 p.la, .slice P4 p.fi.length c4, .slice P5 p.ov.length c5, .int .i64 p.fr, .slice P7 p.fs.length c7, .slice Pr p.rs.length cr, .slice Pc p.cs.length cc, .slice Pu p.us.length cu, .slice P11 p.l.length c11] 32 (0, 0)) := by rw [hw6]; exact heap_alloc_new _ _
 obtain ⟨ga, hga⟩ : ∃ x, x = w5.heap.size := ⟨_, rfl⟩
 rw [← hga] at hg6
 have HGA := Lib.hid hga
 have HW6 := Lib.hid hw6
 have HG6 := Lib.hid hg6
 have HZ6 := Lib.hid (q60 HZ5.out HZ5.out.size hb6)
 have HPG := Lib.hid (hgp.below hb6)
 clear hgp hw6 hb6 hg6 hga
 obtain ⟨m0, m1, m2, m3⟩ := HCC.out w6 HZ6.out
 have hcall := HTB.out (by trivial) w6 HZ6.out
 go_upto_region 4 with (fail)
 rw [← HW6.out, ← HGA.out]
 go_wp2_with fail
 refine hcall.mono ?_
 rintro e w7 ⟨Q4, d4, Q5, d5, Q7, d7, Qr, dr, Qc, dc, Qu, du, Q11, d11, rfl, hgp, hbn⟩
 have HZ7 := Lib.hid (q60 HZ6.out HZ6.out.size hbn)
 have HG7 := Lib.hid (q62 HG6.out hbn)
 have HPG := Lib.hid (HPG.out.below hbn)
 clear hcall hbn m0 m1 m2 m3
 obtain ⟨w8, hw8⟩ : ∃ w8, w8 = w7.alloc (.cells #[.int .i64 q.fl, .int .i64 q.la, .slice Q4 q.fi.length d4, .slice Q5 q.ov.length d5, .int .i64 q.fr, .slice Q7 q.fs.length d7, .slice Qr q.rs.length dr, .slice Qc q.cs.length dc, .slice Qu q.us.length du, .slice Q11 q.l.length d11] 32) := ⟨_, rfl⟩
 have hb8 : Below w7.heap.size w7 w8 := by rw [hw8]; exact q57 (Below.refl _ _) _
 have hg8 : w8.heap[w7.heap.size]? = some (.cells #[.int .i64 q.fl, .int .i64 q.la, .slice Q4 q.fi.length d4, .slice Q5 q.ov.length d5, .int .i64 q.fr, .slice Q7 q.fs.length d7, .slice Qr q.rs.length dr, .slice Qc q.cs.length dc, .slice Qu q.us.length du, .slice Q11 q.l.length d11] 32 (0, 0)) := by rw [hw8]; exact heap_alloc_new _ _
 obtain ⟨gb, hgb⟩ : ∃ x, x = w7.heap.size := ⟨_, rfl⟩
 rw [← hgb] at hg8
 have HGB := Lib.hid hgb
 have HW8 := Lib.hid hw8
 have HG8 := Lib.hid hg8
 have HG9 := Lib.hid (q62 HG7.out hb8)
 have HZ8 := Lib.hid (q60 HZ7.out HZ7.out.size hb8)
 have HPQ := Lib.hid (hgp.below hb8)
 have HPG := Lib.hid (HPG.out.below hb8)
 clear hgp hw8 hb8 hg8 hgb HW6 HGA HG6 HG7
 go_upto_region 5 with (fail)
 rw [← HW8.out, ← HGB.out]
 obtain ⟨m0, m1, m2, m3⟩ := HCC.out w8 HZ8.out
 have a_0 : w8.cell? ⟨ga, 0, none⟩ = some (.int .i64 p.fl) := (q63 HG9.out 0).trans rfl
 have a_1 : w8.cell? ⟨ga, 1, none⟩ = some (.int .i64 p.la) := (q63 HG9.out 1).trans rfl
 have a_2 : w8.cell? ⟨ga, 2, none⟩ = some (.slice P4 p.fi.length c4) := (q63 HG9.out 2).trans rfl
 have a_3 : w8.cell? ⟨ga, 3, none⟩ = some (.slice P5 p.ov.length c5) := (q63 HG9.out 3).trans rfl
 have a_4 : w8.cell? ⟨ga, 4, none⟩ = some (.int .i64 p.fr) := (q63 HG9.out 4).trans rfl
 have a_5 : w8.cell? ⟨ga, 5, none⟩ = some (.slice P7 p.fs.length c7) := (q63 HG9.out 5).trans rfl
 have a_6 : w8.cell? ⟨ga, 6, none⟩ = some (.slice Pr p.rs.length cr) := (q63 HG9.out 6).trans rfl
 have a_7 : w8.cell? ⟨ga, 7, none⟩ = some (.slice Pc p.cs.length cc) := (q63 HG9.out 7).trans rfl
 have a_8 : w8.cell? ⟨ga, 8, none⟩ = some (.slice Pu p.us.length cu) := (q63 HG9.out 8).trans rfl
 have a_9 : w8.cell? ⟨ga, 9, none⟩ = some (.slice P11 p.l.length c11) := (q63 HG9.out 9).trans rfl
 have b_0 : w8.cell? ⟨gb, 0, none⟩ = some (.int .i64 q.fl) := (q63 HG8.out 0).trans rfl
 have b_1 : w8.cell? ⟨gb, 1, none⟩ = some (.int .i64 q.la) := (q63 HG8.out 1).trans rfl
 have b_2 : w8.cell? ⟨gb, 2, none⟩ = some (.slice Q4 q.fi.length d4) := (q63 HG8.out 2).trans rfl
 have b_3 : w8.cell? ⟨gb, 3, none⟩ = some (.slice Q5 q.ov.length d5) := (q63 HG8.out 3).trans rfl
 have b_4 : w8.cell? ⟨gb, 4, none⟩ = some (.int .i64 q.fr) := (q63 HG8.out 4).trans rfl
 have b_5 : w8.cell? ⟨gb, 5, none⟩ = some (.slice Q7 q.fs.length d7) := (q63 HG8.out 5).trans rfl
 have b_6 : w8.cell? ⟨gb, 6, none⟩ = some (.slice Qr q.rs.length dr) := (q63 HG8.out 6).trans rfl
 have b_7 : w8.cell? ⟨gb, 7, none⟩ = some (.slice Qc q.cs.length dc) := (q63 HG8.out 7).trans rfl
 have b_8 : w8.cell? ⟨gb, 8, none⟩ = some (.slice Qu q.us.length du) := (q63 HG8.out 8).trans rfl
 have b_9 : w8.cell? ⟨gb, 9, none⟩ = some (.slice Q11 q.l.length d11) := (q63 HG8.out 9).trans rfl
 have hvv : (v == v) = true := by simp
 have hS : (((w8.drew).cell? ⟨ga, 0, none⟩ = some (.int .i64 p.fl)) ∧ ((w8.drew).cell? ⟨ga, 1, none⟩ = some (.int .i64 p.la)) ∧ ((w8.drew).cell? ⟨ga, 2, none⟩ = some (.slice P4 p.fi.length c4)) ∧ ((w8.drew).cell? ⟨ga, 3, none⟩ = some (.slice P5 p.ov.length c5)) ∧ ((w8.drew).cell? ⟨ga, 4, none⟩ = some (.int .i64 p.fr)) ∧ ((w8.drew).cell? ⟨ga, 5, none⟩ = some (.slice P7 p.fs.length c7)) ∧ ((w8.drew).cell? ⟨ga, 6, none⟩ = some (.slice Pr p.rs.length cr)) ∧ ((w8.drew).cell? ⟨ga, 7, none⟩ = some (.slice Pc p.cs.length cc)) ∧ ((w8.drew).cell? ⟨ga, 8, none⟩ = some (.slice Pu p.us.length cu)) ∧ ((w8.drew).cell? ⟨ga, 9, none⟩ = some (.slice P11 p.l.length c11)) ∧ ((w8.drew).cell? ⟨gb, 0, none⟩ = some (.int .i64 q.fl)) ∧ ((w8.drew).cell? ⟨gb, 1, none⟩ = some (.int .i64 q.la)) ∧ ((w8.drew).cell? ⟨gb, 2, none⟩ = some (.slice Q4 q.fi.length d4)) ∧ ((w8.drew).cell? ⟨gb, 3, none⟩ = some (.slice Q5 q.ov.length d5)) ∧ ((w8.drew).cell? ⟨gb, 4, none⟩ = some (.int .i64 q.fr)) ∧ ((w8.drew).cell? ⟨gb, 5, none⟩ = some (.slice Q7 q.fs.length d7)) ∧ ((w8.drew).cell? ⟨gb, 6, none⟩ = some (.slice Qr q.rs.length dr)) ∧ ((w8.drew).cell? ⟨gb, 7, none⟩ = some (.slice Qc q.cs.length dc)) ∧ ((w8.drew).cell? ⟨gb, 8, none⟩ = some (.slice Qu q.us.length du)) ∧ ((w8.drew).cell? ⟨gb, 9, none⟩ = some (.slice Q11 q.l.length d11)) ∧ ((w8.drew).cell? ⟨b, 0, none⟩ = some (.slice A0 nf c0)) ∧ ((w8.drew).cell? ⟨b, 1, none⟩ = some (.slice A1 n c1)) ∧ ((w8.drew).cell? ⟨b2, 0, none⟩ = some (.slice B0 zf d0)) ∧ ((w8.drew).cell? ⟨b2, 1, none⟩ = some (.slice B1 z d1))) ∧ Below w8.heap.size w8 w8.drew := ⟨⟨a_0, a_1, a_2, a_3, a_4, a_5, a_6, a_7, a_8, a_9, b_0, b_1, b_2, b_3, b_4, b_5, b_6, b_7, b_8, b_9, m0, m1, m2, m3⟩, q58 (Below.refl _ _)⟩
 refine sD_ [] (fun w' => ((w'.cell? ⟨ga, 0, none⟩ = some (.int .i64 p.fl)) ∧ (w'.cell? ⟨ga, 1, none⟩ = some (.int .i64 p.la)) ∧ (w'.cell? ⟨ga, 2, none⟩ = some (.slice P4 p.fi.length c4)) ∧ (w'.cell? ⟨ga, 3, none⟩ = some (.slice P5 p.ov.length c5)) ∧ (w'.cell? ⟨ga, 4, none⟩ = some (.int .i64 p.fr)) ∧ (w'.cell? ⟨ga, 5, none⟩ = some (.slice P7 p.fs.length c7)) ∧ (w'.cell? ⟨ga, 6, none⟩ = some (.slice Pr p.rs.length cr)) ∧ (w'.cell? ⟨ga, 7, none⟩ = some (.slice Pc p.cs.length cc)) ∧ (w'.cell? ⟨ga, 8, none⟩ = some (.slice Pu p.us.length cu)) ∧ (w'.cell? ⟨ga, 9, none⟩ = some (.slice P11 p.l.length c11)) ∧ (w'.cell? ⟨gb, 0, none⟩ = some (.int .i64 q.fl)) ∧ (w'.cell? ⟨gb, 1, none⟩ = some (.int .i64 q.la)) ∧ (w'.cell? ⟨gb, 2, none⟩ = some (.slice Q4 q.fi.length d4)) ∧ (w'.cell? ⟨gb, 3, none⟩ = some (.slice Q5 q.ov.length d5)) ∧ (w'.cell? ⟨gb, 4, none⟩ = some (.int .i64 q.fr)) ∧ (w'.cell? ⟨gb, 5, none⟩ = some (.slice Q7 q.fs.length d7)) ∧ (w'.cell? ⟨gb, 6, none⟩ = some (.slice Qr q.rs.length dr)) ∧ (w'.cell? ⟨gb, 7, none⟩ = some (.slice Qc q.cs.length dc)) ∧ (w'.cell? ⟨gb, 8, none⟩ = some (.slice Qu q.us.length du)) ∧ (w'.cell? ⟨gb, 9, none⟩ = some (.slice Q11 q.l.length d11)) ∧ (w'.cell? ⟨b, 0, none⟩ = some (.slice A0 nf c0)) ∧ (w'.cell? ⟨b, 1, none⟩ = some (.slice A1 n c1)) ∧ (w'.cell? ⟨b2, 0, none⟩ = some (.slice B0 zf d0)) ∧ (w'.cell? ⟨b2, 1, none⟩ = some (.slice B1 z d1))) ∧ Below w8.heap.size w8 w') 19 hS (fun hHeld => ?_)
 clear hS
 obtain ⟨wD, hwD⟩ : ∃ wD, wD = w8.drew := ⟨_, rfl⟩
 rw [← hwD] at hHeld ⊢
 clear hwD
 refine pu_ 0 (some 35) ?_
 refine pu_ 1 (some 36) ?_
 refine pu_ 2 (some 37) ?_
 refine pu_ 3 (some 38) ?_
 refine pu_ 4 (some 39) ?_
 refine pu_ 5 (some 40) ?_
 refine pu_ 6 (some 41) ?_
 refine tc_ 7 (some 42) hHeld ?_
 refine tc_ 8 (some 43) hHeld ?_
 refine tc_ 10 (some 45) hHeld ?_
 refine tc_ 11 (some 46) hHeld ?_
 refine ca_ 9 (some 44) Try.func9 #[.agg #[.int .i64 p.fl, .int .i64 p.la, .slice P4 p.fi.length c4, .slice P5 p.ov.length c5, .int .i64 p.fr, .slice P7 p.fs.length c7, .slice Pr p.rs.length cr, .slice Pc p.cs.length cc, .slice Pu p.us.length cu, .slice P11 p.l.length c11], .agg #[.int .i64 q.fl, .int .i64 q.la, .slice Q4 q.fi.length d4, .slice Q5 q.ov.length d5, .int .i64 q.fr, .slice Q7 q.fs.length d7, .slice Qr q.rs.length dr, .slice Qc q.cs.length dc, .slice Qu q.us.length du, .slice Q11 q.l.length d11]] ?_
 refine (HS10.out wD P4 c4 P5 c5 P7 c7 Pr cr Pc cc Pu cu P11 c11 Q4 d4 Q5 d5 Q7 d7 Qr dr Qc dc Qu du Q11 d11 (HPG.out.below hHeld.2) (HPQ.out.below hHeld.2)).mono ?_
 rintro e d132_ ⟨rfl, hb⟩
 refine ⟨_, rfl, (kp24 hHeld hb), fun hHeld => ⟨_, rfl, nz_ (some 44) ?_⟩⟩
 clear hb
 refine ca_ 12 (some 47) Try.func10 #[.agg #[.slice A0 nf c0, .slice A1 n c1], .agg #[.slice B0 zf d0, .slice B1 z d1]] ?_
 refine (HS4.out d132_ (q60 HZ8.out HZ8.out.size hHeld.2)).mono ?_
 rintro e d133_ ⟨rfl, hb⟩
 refine ⟨_, rfl, (kp24 hHeld hb), fun hHeld => ⟨_, rfl, nz_ (some 47) ?_⟩⟩
 clear hb
 refine pu_ 13 (some 48) ?_
 refine pu_ 14 (some 49) ?_
 refine pu_ 15 (some 50) ?_
 refine ca_ 16 (some 51) Try.func11 #[] ?_
 refine (known_call d133_).mono ?_
 rintro e d134_ ⟨rfl, hb⟩
 refine ⟨_, rfl, (kp24 hHeld hb), fun hHeld => ⟨_, rfl, nz_ (some 51) ?_⟩⟩
 clear hb
 refine pu_ 17 (some 52) ?_
 refine pu_ 18 (some 4) ?_
 refine dn_ ?_
 have HF2 := Lib.hid (q60 HBB.out HBB.out.size (q60 HZ8.out HZ8.out.size hHeld.2))
 clear hHeld
 go_wp2
 go_ret
 exact ⟨rfl, HF2.out⟩
end Go.Proofs.Yteddgedacjdjgaa.Pm
end
section
namespace Go.Proofs.Yteddgedacjdjgaa.xlateUnlike
open Go.ChangeShapes Go.WideShapes Go.ChangeAt Go.RowKit Go.Proofs.YteddgedacjdjgaaW.PrintWords
open Go.ChangeMaps (open_string shut_string)
set_option linter.unusedVariables false
theorem own : ownKnob Try.prog.godebug = none := by kernel_rfl
theorem laidOut : laidOutB Try.prog = true := by kernel_rfl
set_option maxRecDepth 100000 in
theorem lifted (os : Os) (started : os.Started) (H : Type) (enc : TypeId × Value → H) :
 ReturnsInHanded {} Try.checked os 3 .any (Rows.xlateUnlikeSpec.pre6 enc Try.prog Try.f3 Rows.xlateUnlikeRow.domain false) (Rows.xlateUnlikeSpec.post enc Try.prog Try.f3 false true false false) := by
 refine returnsInHanded_of_change_sized (C := Try.checked) own started (by kernel_rfl) Try.func3
  (ChangeSpec.witness6 (enc := enc) (C := Try.checked) false ⟨#[], #[.agg #[.slice none 0 0, .slice none 0 0], .agg #[.slice none 0 0, .slice none 0 0]], []⟩ 8 (by kernel_rfl) (by kernel_rfl) (by kernel_rfl) (by kernel_rfl)) ?_
 intro W base args ds gs before hval0 hW hcnd hsz0 _
 have hsz : (DataW.weightsEach Try.prog (Try.f3.params.toList ++ Rows.xlateUnlikeSpec.plain.varTypes Try.prog) (ds ++ gs)).all (· ≤ reachBytes) = true := hsz0
 have hval : ∀ (j : Nat) t v, Try.f3.params[j]? = some t → args[j]? = some v → Value.okWide Try.prog W .any base t v := hval0
 have hW' := hW
 obtain ⟨p, q, hA0, hV, rfl, hfz, hnd⟩ := hW
 have hA : DataW.TrodAll enc Try.prog W 0 (fun _ => true) true Try.f3.params.toList args.toList ds p := hA0
 rw [Try.params3] at hA hval hsz
 obtain ⟨v0, vs0, d0, ds0, p0, q0, hargs, rfl, rfl, h0, r0⟩ := trodAll_cons hA
 obtain ⟨v1, vs1, d1, ds1, p1, q1, rfl, rfl, rfl, h1, r1⟩ := trodAll_cons r0
 obtain ⟨rfl, rfl, rfl⟩ := trodAll_nil r1
 obtain rfl : args = #[v0, v1] := by cases args; simp_all
 obtain ⟨rfl, rfl⟩ := trodVars_none hV
 have k0 := h0
 have lt0 : ∀ x ∈ p0, x.block < W.heap.size := by obtain ⟨m, hm⟩ := k0; exact DataW.trod_lt m _ _ _ hm
 obtain ⟨A0, c0, fs0, B0, e0, l0, rfl, rdf0, hcf0, rdl0, hcl0, hf0, hl0, hg0⟩ := Pm.open_model (hval 0 25 v0 rfl rfl) h0 (Pm.light_of hsz (j := 0) (t := 25) rfl rfl)
 have k1 := h1
 have lt1 : ∀ x ∈ p1, x.block < W.heap.size := by obtain ⟨m, hm⟩ := k1; exact DataW.trod_lt m _ _ _ hm
 obtain ⟨A1, c1, fs1, B1, e1, l1, rfl, rdf1, hcf1, rdl1, hcl1, hf1, hl1, hg1⟩ := Pm.open_model (hval 1 25 v1 rfl rfl) h1 (Pm.light_of hsz (j := 1) (t := 25) rfl rfl)
 clear hA0 hval0 hsz0 hsz
 refine ((Pm.xlateUnlike_any A0 c0 fs0 B0 e0 l0 A1 c1 fs1 B1 e1 l1 W ⟨⟨rdf0, hcf0, rdl0, hcl0⟩, hf0, hl0, hg0⟩ ⟨⟨rdf1, hcf1, rdl1, hcl1⟩, hf1, hl1, hg1⟩)).mono fun e W' ⟨he, bel⟩ => ?_
 subst he
 exact ⟨_, rfl, _, _, _, [], _, [], hW', trodAll_mk1 (shut_bool Try.underlying4 _), (trodAll_cons_mk (Below.trod laidOut (by kernel_rfl) (of_decide_eq_true (by kernel_rfl)) k0 bel lt0) (trodAll_cons_mk (Below.trod laidOut (by kernel_rfl) (of_decide_eq_true (by kernel_rfl)) k1 bel lt1) trodAll_mk0)), rfl, bel.frame _, fun h => by cases h⟩
theorem over : Rows.xlateUnlikeRow.holds Try.pinned (OpenSpec.ofChange Rows.xlateUnlikeSpec) :=
 OpenClaim.holds_of_wide 3 Try.f3 rfl rfl rfl rfl rfl rfl rfl ⟨rfl, rfl, rfl, rfl, rfl⟩ rfl rfl rfl rfl rfl (by kernel_rfl) Try.func3 (by kernel_rfl)
  (of_decide_eq_true (by kernel_rfl)) (by unfold Func.isWrapper; first | (rw [if_pos (by decide +kernel)]; kernel_rfl) | (rw [if_neg (by decide +kernel)]; exact ⟨rfl, rfl⟩))
  (fun os started H enc _ => lifted os started H enc)
theorem proved : Rows.XlateUnlikeSaid := over
end Go.Proofs.Yteddgedacjdjgaa.xlateUnlike
namespace Go.Proofs.Yteddgedacjdjgaa
theorem xlateUnlike_holds : Rows.XlateUnlikeSaid := xlateUnlike.proved
end Go.Proofs.Yteddgedacjdjgaa
end
