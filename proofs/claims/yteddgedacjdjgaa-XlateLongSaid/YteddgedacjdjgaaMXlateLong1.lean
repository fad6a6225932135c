/- Walks and plain laws on the way to the law XlateLong: several texts of this workplace and of the kit's printer, merged; what is not used is struck, by a program. No condition. -/
import Derived.Test.YteddgedacjdjgaaMXlateLong0
import Derived.Lib.Hide
import Derived.Shelf.Abstract
import Derived.Deep.RegionHeld3
import Derived.Outline
import Derived.Deep.Slices
import Derived.Lib.SmallJoins
import Derived.SizedLaws
section
namespace Go.Proofs.Yteddgedacjdjgaa.Pm
open Go.RowKit Go.Proofs.YteddgedacjdjgaaW.PrintWords Go.Proofs.YteddgedacjdjgaaW.PrintLast Go.Proofs.YteddgedacjdjgaaW.PrintMore
attribute [local go_sem] max2_int min2_int max_two min_two max_three min_three max_four min_four   -- for this text's walks alone
set_option linter.unusedVariables false
set_option linter.unusedSimpArgs false
mutual
def q34.j0 : Nat → Int → Int → Bool → Option (Bool)
 | 0, _, _, _ => none
 | k + 1, x0, x5, x6 => if x6 = true then (if x0 ≥ 1 then (some (decide (x0 ≤ 5))) else (some false)) else (if x5 = 2 then (q34.j1 k x0 x5 (x5 == 2)) else (q34.j1 k x0 x5 (x5 == 3)))
def q34.j1 : Nat → Int → Int → Bool → Option (Bool)
 | 0, _, _, _ => none
 | k + 1, x0, x5, x15 => if x15 = true then (if x0 = 1 then (some true) else (some (x0 == 2))) else (if x5 = 4 then (if x0 ≥ 3 then (some (decide (x0 ≤ 5))) else (some false)) else (some false))
end
def q34.f (k : Nat) (a0 : Int) (a1 : Int) : Option (Bool) := if a1 = 1 then (q34.j0 k a0 a1 (a1 == 1)) else (q34.j0 k a0 a1 (a1 == 5))
theorem q34.mono_l : ∀ k, (∀ y0 y1 y2, LeO (q34.j0 k y0 y1 y2) (q34.j0 (k + 1) y0 y1 y2)) ∧ (∀ y0 y1 y2, LeO (q34.j1 k y0 y1 y2) (q34.j1 (k + 1) y0 y1 y2))
 | 0 => ⟨fun _ _ _ r h => by simp [q34.j0] at h, fun _ _ _ r h => by simp [q34.j1] at h⟩
 | k + 1 => by
  obtain ⟨ih0, ih1⟩ := q34.mono_l k
  refine ⟨?_, ?_⟩
  intro y0 y1 y2
  unfold q34.j0
  rotate_left
  intro y0 y1 y2
  unfold q34.j1
  rotate_left
  all_goals repeat' first
   | (with_reducible exact ih0 _ _ _)
   | (with_reducible exact ih1 _ _ _)
   | (with_reducible exact LeO.refl _)
   | (with_reducible exact LeO.none _)
   | (with_reducible refine LeO.ite ?_ ?_)
   | (with_reducible refine LeO.bind ?_ (fun _ => ?_))
   | exact ih0 _ _ _
   | exact ih1 _ _ _
   | exact LeO.none _
   | refine LeO.ite ?_ ?_
   | refine LeO.bind ?_ (fun _ => ?_)
theorem q34.mono : ∀ a0 a1 k, LeO (q34.f k a0 a1) (q34.f (k + 1) a0 a1) := by
 intro a0 a1 k
 obtain ⟨ih0, ih1⟩ := q34.mono_l k
 unfold q34.f
 repeat' first
  | (with_reducible exact ih0 _ _ _)
  | (with_reducible exact ih1 _ _ _)
  | (with_reducible exact LeO.refl _)
  | (with_reducible exact LeO.none _)
  | (with_reducible refine LeO.ite ?_ ?_)
  | (with_reducible refine LeO.bind ?_ (fun _ => ?_))
  | exact ih0 _ _ _
  | exact ih1 _ _ _
  | exact LeO.none _
  | refine LeO.ite ?_ ?_
  | refine LeO.bind ?_ (fun _ => ?_)
set_option maxHeartbeats 8000000 in
set_option maxRecDepth 100000 in
theorem q34.calls (k : Nat) (a0 : Int) (a1 : Int) (r : Bool) (w : World) (h : q34.f k a0 a1 = some r) :
 Calls Try.prog 104 #[.int .i64 a0, .int .i64 a1] w fun e w' => e = .returned (.bool r) ∧ Drawn0 w w' := by
 have H : (if a1 = 1 then (q34.j0 k a0 a1 (a1 == 1)) else (q34.j0 k a0 a1 (a1 == 5))) = some r := h
 clear h
 have HC3 := q49.mk H
 clear H
 go_enter Try.func104, Try.ntmps104
 go_upto_if 6 with (fail)
 go_cut [6] (fun v6 wc => ∃ (kq : Nat) (x6_2 : Bool), v6 = .bool x6_2 ∧ q49 (q34.j0 kq a0 a1 x6_2 = some r) ∧ q49 (kq ≤ k) ∧ Drawn0 w wc)
 case first =>
  have H := HC3.out
  clear HC3
  by_cases c4 : a1 = 1
  ·rw [if_pos c4] at H
   have c4b0 : (a1 == 1) = true := beq_iff_eq.mpr c4
   have c4b1 : (a1 != 1) = false := bne_eq_false_iff_eq.mpr c4
   clear c4
   (first | rw [c4b0] | (simp only [i64_w, i32_w]; rw [c4b0]) | skip)
   have H' := q49.mk H
   clear H
   go_wp2
   go_meet
   case rel => exact ⟨_, ((a1 == 1)), rf_, H', ⟨by first | omega | exact Nat.le_refl _⟩, by repeat (first | exact Drawn0.refl _ | apply Drawn0.step)⟩
  ·rw [if_neg c4] at H
   have c4b0 : (a1 == 1) = false := beq_eq_false_iff_ne.mpr c4
   have c4b1 : (a1 != 1) = true := bne_iff_ne.mpr c4
   (first | rw [c4b0] | (simp only [i64_w, i32_w]; rw [c4b0]) | skip)
   have H' := q49.mk H
   clear H
   go_wp2
   go_meet
   case rel => exact ⟨_, ((a1 == 5)), rf_, H', ⟨by first | omega | exact Nat.le_refl _⟩, by repeat (first | exact Drawn0.refl _ | apply Drawn0.step)⟩
 case rest =>
  clear HC3
  obtain ⟨kq, x6_2, rfl, HA, HJ2, ⟨mc2, rfl⟩⟩ := hcut
  cases kq with
  | zero => exact absurd HA.out (by simp [q34.j0])
  | succ kj2 =>
   have H := HA.out
   clear HA
   simp only [q34.j0] at H
   by_cases c5 : x6_2 = true
   ·subst c5
    have H1 : (if a0 ≥ 1 then (some (decide (a0 ≤ 5))) else (some false)) = some r := by rw [if_pos rfl] at H; exact H
    clear H
    have H := H1
    clear H1
    by_cases c6 : a0 ≥ 1
    ·rw [if_pos c6] at H
     replace c6 := decide_eq_true c6
     obtain rfl := Option.some.inj H
     go_wp2
     go_ret
     exact ⟨by first | rfl | (simp; done) | (simp [*]; done), by repeat (first | exact Drawn0.refl _ | apply Drawn0.step)⟩
    ·rw [if_neg c6] at H
     replace c6 := decide_eq_false c6
     obtain rfl := Option.some.inj H
     go_wp2
     go_ret
     exact ⟨by first | rfl | (simp; done) | (simp [*]; done), by repeat (first | exact Drawn0.refl _ | apply Drawn0.step)⟩
   ·replace c5 := Bool.eq_false_iff.mpr c5
    subst c5
    have H1 : (if a1 = 2 then (q34.j1 kj2 a0 a1 (a1 == 2)) else (q34.j1 kj2 a0 a1 (a1 == 3))) = some r := by rw [if_neg (show ¬ (false = true) by decide)] at H; exact H
    clear H
    have H := H1
    clear H1
    have HC7 := q49.mk H
    clear H
    go_upto_if 15 with (fail)
    go_cut [15] (fun v15 wc => ∃ (kq : Nat) (x15_6 : Bool), v15 = .bool x15_6 ∧ q49 (q34.j1 kq a0 a1 x15_6 = some r) ∧ q49 (kq ≤ kj2) ∧ Drawn0 w wc)
    case first =>
     have H := HC7.out
     clear HC7
     by_cases c8 : a1 = 2
     ·rw [if_pos c8] at H
      have c8b0 : (a1 == 2) = true := beq_iff_eq.mpr c8
      have c8b1 : (a1 != 2) = false := bne_eq_false_iff_eq.mpr c8
      clear c8
      (first | rw [c8b0] | (simp only [i64_w, i32_w]; rw [c8b0]) | skip)
      have H' := q49.mk H
      clear H
      go_wp2
      go_meet
      case rel => exact ⟨_, ((a1 == 2)), rf_, H', ⟨by have := HJ2.out; first | omega | exact Nat.le_refl _⟩, by repeat (first | exact Drawn0.refl _ | apply Drawn0.step)⟩
     ·rw [if_neg c8] at H
      have c8b0 : (a1 == 2) = false := beq_eq_false_iff_ne.mpr c8
      have c8b1 : (a1 != 2) = true := bne_iff_ne.mpr c8
      (first | rw [c8b0] | (simp only [i64_w, i32_w]; rw [c8b0]) | skip)
      have H' := q49.mk H
      clear H
      go_wp2
      go_meet
      case rel => exact ⟨_, ((a1 == 3)), rf_, H', ⟨by have := HJ2.out; first | omega | exact Nat.le_refl _⟩, by repeat (first | exact Drawn0.refl _ | apply Drawn0.step)⟩
    case rest =>
     clear HC7
     obtain ⟨kq, x15_6, rfl, HA, HJ6, ⟨mc6, rfl⟩⟩ := hcut
     cases kq with
     | zero => exact absurd HA.out (by simp [q34.j1])
     | succ kj6 =>
      have H := HA.out
      clear HA
      simp only [q34.j1] at H
      by_cases c9 : x15_6 = true
      ·subst c9
       have H1 : (if a0 = 1 then (some true) else (some (a0 == 2))) = some r := by rw [if_pos rfl] at H; exact H
       clear H
       have H := H1
       clear H1
       by_cases c10 : a0 = 1
       ·rw [if_pos c10] at H
        have c10b0 : (a0 == 1) = true := beq_iff_eq.mpr c10
        have c10b1 : (a0 != 1) = false := bne_eq_false_iff_eq.mpr c10
        clear c10
        obtain rfl := Option.some.inj H
        go_wp2
        go_ret
        exact ⟨by first | rfl | (simp; done) | (simp [*]; done), by repeat (first | exact Drawn0.refl _ | apply Drawn0.step)⟩
       ·rw [if_neg c10] at H
        have c10b0 : (a0 == 1) = false := beq_eq_false_iff_ne.mpr c10
        have c10b1 : (a0 != 1) = true := bne_iff_ne.mpr c10
        obtain rfl := Option.some.inj H
        go_wp2
        go_ret
        exact ⟨by first | rfl | (simp; done) | (simp [*]; done), by repeat (first | exact Drawn0.refl _ | apply Drawn0.step)⟩
      ·replace c9 := Bool.eq_false_iff.mpr c9
       subst c9
       have H1 : (if a1 = 4 then (if a0 ≥ 3 then (some (decide (a0 ≤ 5))) else (some false)) else (some false)) = some r := by rw [if_neg (show ¬ (false = true) by decide)] at H; exact H
       clear H
       have H := H1
       clear H1
       by_cases c11 : a1 = 4
       ·rw [if_pos c11] at H
        have c11b0 : (a1 == 4) = true := beq_iff_eq.mpr c11
        have c11b1 : (a1 != 4) = false := bne_eq_false_iff_eq.mpr c11
        clear c11
        by_cases c12 : a0 ≥ 3
        ·rw [if_pos c12] at H
         replace c12 := decide_eq_true c12
         obtain rfl := Option.some.inj H
         go_wp2
         go_ret
         exact ⟨by first | rfl | (simp; done) | (simp [*]; done), by repeat (first | exact Drawn0.refl _ | apply Drawn0.step)⟩
        ·rw [if_neg c12] at H
         replace c12 := decide_eq_false c12
         obtain rfl := Option.some.inj H
         go_wp2
         go_ret
         exact ⟨by first | rfl | (simp; done) | (simp [*]; done), by repeat (first | exact Drawn0.refl _ | apply Drawn0.step)⟩
       ·rw [if_neg c11] at H
        have c11b0 : (a1 == 4) = false := beq_eq_false_iff_ne.mpr c11
        have c11b1 : (a1 != 4) = true := bne_iff_ne.mpr c11
        obtain rfl := Option.some.inj H
        go_wp2
        go_ret
        exact ⟨by first | rfl | (simp; done) | (simp [*]; done), by repeat (first | exact Drawn0.refl _ | apply Drawn0.step)⟩
def fidx {α : Type} (p : α → Bool) (l : List α) : Int := match l.findIdx? p with | some i => (i : Int) | none => -1
theorem fidx_hit {α : Type} (p : α → Bool) (l : List α) (k : Nat) (z : α) (hk : k < l.length) (h : p (l.getD k z) = true) (hn : ∀ j, j < k → p (l.getD j z) = false) : fidx p l = k := by
 have e : l.findIdx? p = some k := by
  rw [List.findIdx?_eq_some_iff_getElem]
  refine ⟨hk, ?_, fun j hj => ?_⟩
  ·rw [List.getD_eq_getElem?_getD, List.getElem?_eq_getElem hk] at h; exact h
  ·have := hn j hj
   rw [List.getD_eq_getElem?_getD, List.getElem?_eq_getElem (by omega)] at this
   simpa using this
 unfold fidx
 rw [e]
theorem fidx_miss {α : Type} (p : α → Bool) (l : List α) (z : α) (hn : ∀ j, j < l.length → p (l.getD j z) = false) : fidx p l = -1 := by
 have e : l.findIdx? p = none := by
  rw [List.findIdx?_eq_none_iff]
  intro x hx
  obtain ⟨j, hj, rfl⟩ := List.getElem_of_mem hx
  have := hn j hj
  rw [List.getD_eq_getElem?_getD, List.getElem?_eq_getElem hj] at this
  simpa using this
 unfold fidx
 rw [e]
theorem fidx_any {α : Type} (p : α → Bool) (l : List α) : decide (fidx p l ≥ 0) = l.any p := by
  unfold fidx
  cases h : l.findIdx? p with
  | none =>
    have := List.findIdx?_eq_none_iff.1 h
    have e : l.any p = false := by rw [List.any_eq_false]; intro x hx; simp [this x hx]
    rw [e]; rfl
  | some i =>
    obtain ⟨hi, hp, _⟩ := List.findIdx?_eq_some_iff_getElem.1 h
    have e : l.any p = true := List.any_eq_true.2 ⟨_, List.getElem_mem hi, hp⟩
    rw [e]; exact decide_eq_true (show (i : Int) ≥ 0 by omega)
def PaysItem (g : Nat) (lb : Array Value) (p : S41 → Bool) (l : List S41) (w : World) : Prop :=
 ∀ (W : World) (x : S41) (cs : List Value), x ∈ l → Below w.heap.size w W → Kd.K k41 W x cs → Calls Try.prog g (#[.agg cs.toArray] ++ lb) W fun e w' => e = .returned (.bool (p x)) ∧ Below W.heap.size W w'
set_option maxHeartbeats 4000000 in
set_option maxRecDepth 100000 in
theorem idxItem (A : Option Addr) (c : Nat) (l : List S41) (w : World) (hr : Kd.C k41 w A l.length l) (hc : l.length ≤ c) (g : Nat) (lb : Array Value) (eg : ∀ args w, (callFunc g args).run Try.prog w = .ok (.enter g args) w) (p : S41 → Bool) (hp : PaysItem g lb p l w) :
    Calls Try.prog 80 #[.slice A l.length c, .func (.func g) #[] lb] w fun e w' => e = .returned (.int .i64 (fidx p l)) ∧ Below w.heap.size w w' := by
  have HR := Lib.hid hr
  have HP := Lib.hid hp
  clear hr hp
  obtain ⟨n, hn⟩ : ∃ n, n = l.length := ⟨_, rfl⟩
  have HN := Lib.hid hn
  rw [← hn] at hc ⊢
  clear hn
  have hbig : n ≤ 9223372036854775807 := by have := HR.out.2.1; have := HN.out; omega
  go_enter Try.func80, Try.ntmps80
  go_wp2
  go_loopg [5, 8] n (fun gg _ s8 wr => ∃ kk : Nat, kk ≤ n ∧ n - kk ≤ gg ∧ s8 = .int .i64 kk ∧ Aside (Below w.heap.size w wr) ∧ Aside (∀ j, j < kk → p (l.getD j z41) = false))
  case atStart => exact ⟨0, Nat.zero_le _, by omega, rfl, Below.refl _ w, fun j hj => absurd hj (Nat.not_lt_zero _)⟩
  case round =>
    obtain ⟨kk, hkk, hg, rfl, BW, A⟩ := hrel
    by_cases hlt : kk < n
    · have hltz : (kk : Int) < (n : Int) := by omega
      obtain ⟨ad, A5, c5, A6, c6, e, hx0, hx1, hx2, hx3, hx4, hx5, hx6, l5, g5, l6, g6⟩ := at_T41 HR.out (kk : Int) (by omega) (by have := HN.out; omega)
      cases e
      have hcall := HP.out wr (l.getD kk z41) [.string (q74 l kk).f0, .int .i64 (q74 l kk).f1, .string (q74 l kk).f2, .bool (q74 l kk).f3, .int .i64 (q74 l kk).f4, .slice A5 (q74 l kk).f5.length c5, .slice A6 (q74 l kk).f6.length c6] (by rw [List.getD_eq_getElem?_getD, List.getElem?_eq_getElem (show kk < l.length by have := HN.out; omega)]; exact List.getElem_mem _) BW.out (k41_mk _ _ l5 (Kd.C_below g5 BW.out) l6 (Kd.C_below g6 BW.out))
      simp only [Int.toNat_natCast] at hx0 hx1 hx2 hx3 hx4 hx5 hx6
      replace hx0 := (BW.out.cell (World.block_lt_of_cell? w _ hx0)).trans hx0
      replace hx1 := (BW.out.cell (World.block_lt_of_cell? w _ hx1)).trans hx1
      replace hx2 := (BW.out.cell (World.block_lt_of_cell? w _ hx2)).trans hx2
      replace hx3 := (BW.out.cell (World.block_lt_of_cell? w _ hx3)).trans hx3
      replace hx4 := (BW.out.cell (World.block_lt_of_cell? w _ hx4)).trans hx4
      replace hx5 := (BW.out.cell (World.block_lt_of_cell? w _ hx5)).trans hx5
      replace hx6 := (BW.out.cell (World.block_lt_of_cell? w _ hx6)).trans hx6
      have B := Lib.hid (show p (l.getD kk z41) = p (l.getD kk z41) from rfl)
      cases hq : p (l.getD kk z41) with
      | true =>
        rw [hq] at hcall
        have HQ := Lib.hid hq
        clear hq
        go_wp2_with (go_at_fn g; refine hcall.mono ?_; rintro e w' ⟨rfl, hb'⟩)
        go_ret
        refine ⟨?_, q53 BW.out BW.out.size hb'⟩
        rw [fidx_hit p l kk z41 (by have := HN.out; omega) HQ.out A.out]
        rfl
      | false =>
        rw [hq] at hcall
        have HQ := Lib.hid hq
        clear hq
        go_wp2_with (go_at_fn g; refine hcall.mono ?_; rintro e w' ⟨rfl, hb'⟩)
        go_roundg (n - (kk + 1))
        case measure => omega
        case rel =>
          refine ⟨kk + 1, by omega, by omega, by go_num, q53 BW.out BW.out.size hb', (show Aside _ from fun j hj => ?_)⟩
          by_cases e : j = kk
          · subst e
            exact HQ.out
          · exact A.out j (by omega)
    · have hltz : ¬ (kk : Int) < (n : Int) := by omega
      obtain rfl : kk = n := by omega
      go_wp2
      go_ret
      refine ⟨?_, BW.out⟩
      rw [fidx_miss p l z41 (by rw [← HN.out]; exact A.out)]
      rfl
set_option maxHeartbeats 4000000 in
theorem anyItem (A : Option Addr) (c : Nat) (l : List S41) (w : World) (hr : Kd.C k41 w A l.length l) (hc : l.length ≤ c) (g : Nat) (lb : Array Value) (eg : ∀ args w, (callFunc g args).run Try.prog w = .ok (.enter g args) w) (p : S41 → Bool) (hp : PaysItem g lb p l w) :
 Calls Try.prog 59 #[.slice A l.length c, .func (.func g) #[] lb] w fun e w' => e = .returned (.bool (l.any p)) ∧ Below w.heap.size w w' := by
 have h := idxItem A c l w hr hc g lb eg p hp
 rw [← fidx_any]
 clear hr hp eg
 obtain ⟨n, hn⟩ : ∃ n : Int, n = fidx p l := ⟨_, rfl⟩
 rw [← hn] at h ⊢
 clear hn
 go_enter Try.func59, Try.ntmps59
 go_wp2_with (go_at_call 80; refine h.mono ?_; rintro e w' ⟨rfl, hb⟩)
 go_ret
 exact ⟨rfl, hb⟩
def PaysSentry (g : Nat) (lb : Array Value) (p : S45 → Bool) (l : List S45) (w : World) : Prop :=
 ∀ (W : World) (x : S45) (cs : List Value), x ∈ l → Below w.heap.size w W → Kd.K k45 W x cs → Calls Try.prog g (#[.agg cs.toArray] ++ lb) W fun e w' => e = .returned (.bool (p x)) ∧ Below W.heap.size W w'
set_option maxHeartbeats 4000000 in
set_option maxRecDepth 100000 in
theorem idxSentry (A : Option Addr) (c : Nat) (l : List S45) (w : World) (hr : Kd.C k45 w A l.length l) (hc : l.length ≤ c) (g : Nat) (lb : Array Value) (eg : ∀ args w, (callFunc g args).run Try.prog w = .ok (.enter g args) w) (p : S45 → Bool) (hp : PaysSentry g lb p l w) :
    Calls Try.prog 98 #[.slice A l.length c, .func (.func g) #[] lb] w fun e w' => e = .returned (.int .i64 (fidx p l)) ∧ Below w.heap.size w w' := by
  have HR := Lib.hid hr
  have HP := Lib.hid hp
  clear hr hp
  obtain ⟨n, hn⟩ : ∃ n, n = l.length := ⟨_, rfl⟩
  have HN := Lib.hid hn
  rw [← hn] at hc ⊢
  clear hn
  have hbig : n ≤ 9223372036854775807 := by have := HR.out.2.1; have := HN.out; omega
  go_enter Try.func98, Try.ntmps98
  go_wp2
  go_loopg [5, 8] n (fun gg _ s8 wr => ∃ kk : Nat, kk ≤ n ∧ n - kk ≤ gg ∧ s8 = .int .i64 kk ∧ Aside (Below w.heap.size w wr) ∧ Aside (∀ j, j < kk → p (l.getD j z45) = false))
  case atStart => exact ⟨0, Nat.zero_le _, by omega, rfl, Below.refl _ w, fun j hj => absurd hj (Nat.not_lt_zero _)⟩
  case round =>
    obtain ⟨kk, hkk, hg, rfl, BW, A⟩ := hrel
    by_cases hlt : kk < n
    · have hltz : (kk : Int) < (n : Int) := by omega
      obtain ⟨ad, A0, c0, A1, c1, e, hx0, hx1, l0, g0, l1, g1⟩ := at_T45 HR.out (kk : Int) (by omega) (by have := HN.out; omega)
      cases e
      have hcall := HP.out wr (l.getD kk z45) [.slice A0 (q75 l kk).f0.length c0, .slice A1 (q75 l kk).f1.length c1] (by rw [List.getD_eq_getElem?_getD, List.getElem?_eq_getElem (show kk < l.length by have := HN.out; omega)]; exact List.getElem_mem _) BW.out (k45_mk _ _ l0 (Kd.C_below g0 BW.out) l1 (Kd.C_below g1 BW.out))
      simp only [Int.toNat_natCast] at hx0 hx1
      replace hx0 := (BW.out.cell (World.block_lt_of_cell? w _ hx0)).trans hx0
      replace hx1 := (BW.out.cell (World.block_lt_of_cell? w _ hx1)).trans hx1
      have B := Lib.hid (show p (l.getD kk z45) = p (l.getD kk z45) from rfl)
      cases hq : p (l.getD kk z45) with
      | true =>
        rw [hq] at hcall
        have HQ := Lib.hid hq
        clear hq
        go_wp2_with (go_at_fn g; refine hcall.mono ?_; rintro e w' ⟨rfl, hb'⟩)
        go_ret
        refine ⟨?_, q53 BW.out BW.out.size hb'⟩
        rw [fidx_hit p l kk z45 (by have := HN.out; omega) HQ.out A.out]
        rfl
      | false =>
        rw [hq] at hcall
        have HQ := Lib.hid hq
        clear hq
        go_wp2_with (go_at_fn g; refine hcall.mono ?_; rintro e w' ⟨rfl, hb'⟩)
        go_roundg (n - (kk + 1))
        case measure => omega
        case rel =>
          refine ⟨kk + 1, by omega, by omega, by go_num, q53 BW.out BW.out.size hb', (show Aside _ from fun j hj => ?_)⟩
          by_cases e : j = kk
          · subst e
            exact HQ.out
          · exact A.out j (by omega)
    · have hltz : ¬ (kk : Int) < (n : Int) := by omega
      obtain rfl : kk = n := by omega
      go_wp2
      go_ret
      refine ⟨?_, BW.out⟩
      rw [fidx_miss p l z45 (by rw [← HN.out]; exact A.out)]
      rfl
set_option maxHeartbeats 4000000 in
theorem anySentry (A : Option Addr) (c : Nat) (l : List S45) (w : World) (hr : Kd.C k45 w A l.length l) (hc : l.length ≤ c) (g : Nat) (lb : Array Value) (eg : ∀ args w, (callFunc g args).run Try.prog w = .ok (.enter g args) w) (p : S45 → Bool) (hp : PaysSentry g lb p l w) :
 Calls Try.prog 94 #[.slice A l.length c, .func (.func g) #[] lb] w fun e w' => e = .returned (.bool (l.any p)) ∧ Below w.heap.size w w' := by
 have h := idxSentry A c l w hr hc g lb eg p hp
 rw [← fidx_any]
 clear hr hp eg
 obtain ⟨n, hn⟩ : ∃ n : Int, n = fidx p l := ⟨_, rfl⟩
 rw [← hn] at h ⊢
 clear hn
 go_enter Try.func94, Try.ntmps94
 go_wp2_with (go_at_call 98; refine h.mono ?_; rintro e w' ⟨rfl, hb⟩)
 go_ret
 exact ⟨rfl, hb⟩
def PaysCond (g : Nat) (lb : Array Value) (p : S90 → Bool) (l : List S90) (w : World) : Prop :=
 ∀ (W : World) (x : S90) (cs : List Value), x ∈ l → Below w.heap.size w W → Kd.K k90 W x cs → Calls Try.prog g (#[.agg cs.toArray] ++ lb) W fun e w' => e = .returned (.bool (p x)) ∧ Below W.heap.size W w'
set_option maxHeartbeats 4000000 in
set_option maxRecDepth 100000 in
theorem idxCond (A : Option Addr) (c : Nat) (l : List S90) (w : World) (hr : Kd.C k90 w A l.length l) (hc : l.length ≤ c) (g : Nat) (lb : Array Value) (eg : ∀ args w, (callFunc g args).run Try.prog w = .ok (.enter g args) w) (p : S90 → Bool) (hp : PaysCond g lb p l w) :
    Calls Try.prog 106 #[.slice A l.length c, .func (.func g) #[] lb] w fun e w' => e = .returned (.int .i64 (fidx p l)) ∧ Below w.heap.size w w' := by
  have HR := Lib.hid hr
  have HP := Lib.hid hp
  clear hr hp
  obtain ⟨n, hn⟩ : ∃ n, n = l.length := ⟨_, rfl⟩
  have HN := Lib.hid hn
  rw [← hn] at hc ⊢
  clear hn
  have hbig : n ≤ 9223372036854775807 := by have := HR.out.2.1; have := HN.out; omega
  go_enter Try.func106, Try.ntmps106
  go_wp2
  go_loopg [5, 8] n (fun gg _ s8 wr => ∃ kk : Nat, kk ≤ n ∧ n - kk ≤ gg ∧ s8 = .int .i64 kk ∧ Aside (Below w.heap.size w wr) ∧ Aside (∀ j, j < kk → p (l.getD j z90) = false))
  case atStart => exact ⟨0, Nat.zero_le _, by omega, rfl, Below.refl _ w, fun j hj => absurd hj (Nat.not_lt_zero _)⟩
  case round =>
    obtain ⟨kk, hkk, hg, rfl, BW, A⟩ := hrel
    by_cases hlt : kk < n
    · have hltz : (kk : Int) < (n : Int) := by omega
      obtain ⟨ad, e, hx0, hx1, hx2⟩ := at_T90 HR.out (kk : Int) (by omega) (by have := HN.out; omega)
      cases e
      have hcall := HP.out wr (l.getD kk z90) [.string (q77 l kk).f0, .string (q77 l kk).f1, .int .i64 (q77 l kk).f2] (by rw [List.getD_eq_getElem?_getD, List.getElem?_eq_getElem (show kk < l.length by have := HN.out; omega)]; exact List.getElem_mem _) BW.out (k90_mk _ _)
      simp only [Int.toNat_natCast] at hx0 hx1 hx2
      replace hx0 := (BW.out.cell (World.block_lt_of_cell? w _ hx0)).trans hx0
      replace hx1 := (BW.out.cell (World.block_lt_of_cell? w _ hx1)).trans hx1
      replace hx2 := (BW.out.cell (World.block_lt_of_cell? w _ hx2)).trans hx2
      have B := Lib.hid (show p (l.getD kk z90) = p (l.getD kk z90) from rfl)
      cases hq : p (l.getD kk z90) with
      | true =>
        rw [hq] at hcall
        have HQ := Lib.hid hq
        clear hq
        go_wp2_with (go_at_fn g; refine hcall.mono ?_; rintro e w' ⟨rfl, hb'⟩)
        go_ret
        refine ⟨?_, q53 BW.out BW.out.size hb'⟩
        rw [fidx_hit p l kk z90 (by have := HN.out; omega) HQ.out A.out]
        rfl
      | false =>
        rw [hq] at hcall
        have HQ := Lib.hid hq
        clear hq
        go_wp2_with (go_at_fn g; refine hcall.mono ?_; rintro e w' ⟨rfl, hb'⟩)
        go_roundg (n - (kk + 1))
        case measure => omega
        case rel =>
          refine ⟨kk + 1, by omega, by omega, by go_num, q53 BW.out BW.out.size hb', (show Aside _ from fun j hj => ?_)⟩
          by_cases e : j = kk
          · subst e
            exact HQ.out
          · exact A.out j (by omega)
    · have hltz : ¬ (kk : Int) < (n : Int) := by omega
      obtain rfl : kk = n := by omega
      go_wp2
      go_ret
      refine ⟨?_, BW.out⟩
      rw [fidx_miss p l z90 (by rw [← HN.out]; exact A.out)]
      rfl
set_option maxHeartbeats 4000000 in
theorem anyCond (A : Option Addr) (c : Nat) (l : List S90) (w : World) (hr : Kd.C k90 w A l.length l) (hc : l.length ≤ c) (g : Nat) (lb : Array Value) (eg : ∀ args w, (callFunc g args).run Try.prog w = .ok (.enter g args) w) (p : S90 → Bool) (hp : PaysCond g lb p l w) :
 Calls Try.prog 101 #[.slice A l.length c, .func (.func g) #[] lb] w fun e w' => e = .returned (.bool (l.any p)) ∧ Below w.heap.size w w' := by
 have h := idxCond A c l w hr hc g lb eg p hp
 rw [← fidx_any]
 clear hr hp eg
 obtain ⟨n, hn⟩ : ∃ n : Int, n = fidx p l := ⟨_, rfl⟩
 rw [← hn] at h ⊢
 clear hn
 go_enter Try.func101, Try.ntmps101
 go_wp2_with (go_at_call 106; refine h.mono ?_; rintro e w' ⟨rfl, hb⟩)
 go_ret
 exact ⟨rfl, hb⟩
def q32.p (a1 : ByteArray) (x : S41) : Bool := x.f0.toList == a1.toList
def q32.f (l0_0 : List ByteArray) (l0_1 : List (S41)) (a1 : ByteArray) : Option Int := some (fidx (q32.p a1) l0_1)
set_option maxHeartbeats 2000000 in
theorem q32.closure (b : Nat) (id : ByteArray) (W : World) (hc : W.cell? ⟨b, 0, none⟩ = some (.string id)) (x : S41) (cs : List Value) (hK : Kd.K k41 W x cs) :
 Calls Try.prog 81 (#[.agg cs.toArray] ++ #[.pointer (some ⟨b, 0, none⟩)]) W fun e w' => e = .returned (.bool (q32.p id x)) ∧ Below W.heap.size W w' := by
 obtain ⟨A5, c5, A6, c6, rfl, _⟩ := k41_open hK
 unfold q32.p
 have hb := World.block_lt_of_cell? W _ hc
 simp only at hb
 have hu := Try.underlying41
 go_enter Try.func81, Try.ntmps81
 go_wp2
 go_ret
 exact ⟨rfl, q50 (Below.refl _ _) _⟩
theorem q32.eg : ∀ args w, (callFunc 81 args).run Try.prog w = .ok (.enter 81 args) w := enters_of Try.func81 (by kernel_rfl) rfl
set_option maxHeartbeats 2000000 in
theorem q32.calls (A0_0 : Option Addr) (c0_0 : Nat) (l0_0 : List ByteArray) (A0_1 : Option Addr) (c0_1 : Nat) (l0_1 : List (S41)) (a1 : ByteArray) (r : Int) (w : World) (hr0_0 : Kd.C Kd.string w A0_0 l0_0.length l0_0) (hc0_0 : l0_0.length ≤ c0_0) (hr0_1 : Kd.C k41 w A0_1 l0_1.length l0_1) (hc0_1 : l0_1.length ≤ c0_1) (h : q32.f l0_0 l0_1 a1 = some r) :
 Calls Try.prog 45 #[.agg #[.slice A0_0 l0_0.length c0_0, .slice A0_1 l0_1.length c0_1], .string a1] w fun e w' => e = .returned (.int .i64 r) ∧ Below w.heap.size w w' := by
 obtain rfl := Option.some.inj h
 have W1 := q50 (q50 (Below.refl w.heap.size w) (.cells #[.slice A0_0 l0_0.length c0_0, .slice A0_1 l0_1.length c0_1] 25)) (.cells #[.string a1] 9)
 have hcell : ((w.alloc (.cells #[.slice A0_0 l0_0.length c0_0, .slice A0_1 l0_1.length c0_1] 25)).alloc (.cells #[.string a1] 9)).cell? ⟨w.heap.size + 1, 0, none⟩ = some (.string a1) := by simp
 have hsz : ((w.alloc (.cells #[.slice A0_0 l0_0.length c0_0, .slice A0_1 l0_1.length c0_1] 25)).alloc (.cells #[.string a1] 9)).heap.size = w.heap.size + 2 := by simp
 have hi := idxItem A0_1 c0_1 l0_1 _ (Kd.C_below hr0_1 W1) hc0_1 81 #[.pointer (some ⟨w.heap.size + 1, 0, none⟩)] q32.eg (q32.p a1) (fun W x cs hx hb hK => q32.closure _ a1 W ((hb.cell (by rw [hsz]; simp)).trans hcell) x cs hK)
 have H := Lib.hid W1
 clear hr0_0 hr0_1 W1 hcell h hsz
 obtain ⟨n, hn⟩ : ∃ n : Int, n = fidx (q32.p a1) l0_1 := ⟨_, rfl⟩
 rw [← hn] at hi ⊢
 clear hn
 have hu := Try.underlying25
 go_enter Try.func45, Try.ntmps45
 go_wp2_with (go_at_call 80; refine hi.mono ?_; rintro e w' ⟨rfl, hb⟩)
 go_ret
 exact ⟨rfl, q53 H.out H.out.size hb⟩
def q40.f (k : Nat) (l0_0 : List ByteArray) (l0_1 : List (S41)) (a1_0 : ByteArray) (a1_1 : Int) : Option (Bool) := (q32.f l0_0 l0_1 a1_0).bind fun t200 => (if t200 ≥ 0 then (if 0 ≤ t200 then (if t200 < (l0_1.length : Int) then ((q34.f k ((q74 l0_1 t200).f1) a1_1).bind fun t202 => (some t202)) else (none)) else (none)) else (some false))
theorem q40.mono : ∀ a0 a1 a2 a3 k, LeO (q40.f k a0 a1 a2 a3) (q40.f (k + 1) a0 a1 a2 a3) := by
 intro a0 a1 a2 a3 k
 unfold q40.f
 repeat' first
  | (with_reducible exact q34.mono _ _ _)
  | (with_reducible exact LeO.refl _)
  | (with_reducible exact LeO.none _)
  | (with_reducible refine LeO.ite ?_ ?_)
  | (with_reducible refine LeO.bind ?_ (fun _ => ?_))
  | exact q34.mono _ _ _
  | exact LeO.none _
  | refine LeO.ite ?_ ?_
  | refine LeO.bind ?_ (fun _ => ?_)
set_option maxHeartbeats 8000000 in
set_option maxRecDepth 100000 in
theorem q40.calls (k : Nat) (A0_0 : Option Addr) (c0_0 : Nat) (l0_0 : List ByteArray) (A0_1 : Option Addr) (c0_1 : Nat) (l0_1 : List (S41)) (a1_0 : ByteArray) (a1_1 : Int) (r : Bool) (w : World) (hr0_0 : Kd.C Kd.string w A0_0 l0_0.length l0_0) (hc0_0 : l0_0.length ≤ c0_0) (hr0_1 : Kd.C k41 w A0_1 l0_1.length l0_1) (hc0_1 : l0_1.length ≤ c0_1) (h : q40.f k l0_0 l0_1 a1_0 a1_1 = some r) :
 Calls Try.prog 99 #[.agg #[.slice A0_0 l0_0.length c0_0, .slice A0_1 l0_1.length c0_1], .agg #[.string a1_0, .int .i64 a1_1]] w fun e w' => e = .returned (.bool r) ∧ Below w.heap.size w w' := by
 have hu25 := Try.underlying25
 have hu101 := Try.underlying101
 have HR0_0 := q49.mk hr0_0
 have HC0_0 := q49.mk hc0_0
 clear hr0_0 hc0_0
 have HR0_1 := q49.mk hr0_1
 have HC0_1 := q49.mk hc0_1
 clear hr0_1 hc0_1
 have HB := q49.mk (Below.refl w.heap.size w)
 unfold q40.f at h
 have H := h
 clear h
 replace H := Option.bind_eq_some_iff.mp H
 obtain ⟨t200, A30, H⟩ := H
 have A3 := q49.mk A30
 clear A30
 by_cases c4 : t200 ≥ 0
 ·rw [if_pos c4] at H
  replace c4 := decide_eq_true c4
  by_cases c5 : 0 ≤ t200
  ·rw [if_pos c5] at H
   replace c5 := decide_eq_true c5
   by_cases c6 : t200 < (l0_1.length : Int)
   ·rw [if_pos c6] at H
    replace c6 := decide_eq_true c6
    replace H := Option.bind_eq_some_iff.mp H
    obtain ⟨t202, A70, H⟩ := H
    have A7 := q49.mk A70
    clear A70
    obtain rfl := Option.some.inj H
    go_enter Try.func99, Try.ntmps99
    go_wp2_with (first | ((with_reducible refine q64 (N := 2) rfl ?_); refine bx_ 2 #[.slice A0_0 l0_0.length c0_0, .slice A0_1 l0_1.length c0_1] 25 ?_; intro gb198 hg w8 hbox hb; have BK198 := q49.mk (hbox); have GW198 := zz_ (w := w) hg; have GE198 := zz_ (w := w) hg; replace HB := hb_ HB hb;  clear hb hbox hg) | ((with_reducible refine q64 (N := 3) rfl ?_); refine bx_ 3 #[.string a1_0, .int .i64 a1_1] 101 ?_; intro gb199 hg w9 hbox hb; have BK199 := q49.mk (hbox); have GW199 := zz_ (w := w) hg; have GE199 := zz_ (w := w) hg; replace HB := hb_ HB hb; have NB198_199 := ne1_ hg BK198; have NB199_198 := ne2_ hg BK198; replace BK198 := bb_ BK198 hb;  clear hb hbox hg; have hnb10 := NB198_199.out; have hnc10 := NB199_198.out; obtain ⟨hcz11_0, hcz11_1, hfz11_0, hfz11_1⟩ := bs2_ BK198; obtain ⟨hcz12_0, hcz12_1, hfz12_0, hfz12_1⟩ := bs2_ BK199) | (go_at_call 45; (with_reducible refine (q32.calls _ _ l0_0 _ _ l0_1 a1_0 t200 _ ?side1 ?side2 ?side3 ?side4 A3.out).mono ?_); (case side1 => exact kc_ HR0_0 HB); (case side2 => exact HC0_0.out); (case side3 => exact kc_ HR0_1 HB); (case side4 => exact HC0_1.out); rintro e w13 ⟨rfl, hb⟩; replace BK198 := bb_ BK198 hb; replace BK199 := bb_ BK199 hb; replace HB := hb_ HB hb;  (try clear hb); obtain ⟨hcz14_0, hcz14_1, hfz14_0, hfz14_1⟩ := bs2_ BK198; have p201 : 0 ≤ (t200 : Int) := od_; have q201 : t200 < (l0_1.length : Int) := od_; obtain ⟨ad201, A201_5, c201_5, A201_6, c201_6, e201, hx201_0, hx201_1, hx201_2, hx201_3, hx201_4, hx201_5, hx201_6, hl201_5, hi201_5, hl201_6, hi201_6⟩ := at_T41 HR0_1.out t200 p201 q201; cases e201; replace hx201_0 := rr_ HB hx201_0; replace hx201_1 := rr_ HB hx201_1; replace hx201_2 := rr_ HB hx201_2; replace hx201_3 := rr_ HB hx201_3; replace hx201_4 := rr_ HB hx201_4; replace hx201_5 := rr_ HB hx201_5; replace hx201_6 := rr_ HB hx201_6; have HR201_5 := q49.mk hi201_5; have HC201_5 := q49.mk hl201_5; clear hi201_5 hl201_5; have HR201_6 := q49.mk hi201_6; have HC201_6 := q49.mk hl201_6; clear hi201_6 hl201_6; replace p201 := eq_true p201; replace q201 := eq_true q201; obtain ⟨hcz15_0, hcz15_1, hfz15_0, hfz15_1⟩ := bs2_ BK199) | (go_at_call 104; (with_reducible refine (q34.calls k ((q74 l0_1 t200).f1) a1_1 t202 _ A7.out).mono ?_); rintro e w' ⟨rfl, ⟨nd, rfl⟩⟩; (try first | exact ⟨rfl, _, World.drewN_drewN _ _ _⟩ | exact ⟨rfl, _, Eq.trans (World.drewN_drewN _ _ _) (congrArg (World.drewN _) (Nat.add_assoc _ _ _))⟩)))
    repeat (go_quiet (first | ((with_reducible refine q64 (N := 2) rfl ?_); refine bx_ 2 #[.slice A0_0 l0_0.length c0_0, .slice A0_1 l0_1.length c0_1] 25 ?_; intro gb198 hg w8 hbox hb; have BK198 := q49.mk (hbox); have GW198 := zz_ (w := w) hg; have GE198 := zz_ (w := w) hg; replace HB := hb_ HB hb;  clear hb hbox hg) | ((with_reducible refine q64 (N := 3) rfl ?_); refine bx_ 3 #[.string a1_0, .int .i64 a1_1] 101 ?_; intro gb199 hg w9 hbox hb; have BK199 := q49.mk (hbox); have GW199 := zz_ (w := w) hg; have GE199 := zz_ (w := w) hg; replace HB := hb_ HB hb; have NB198_199 := ne1_ hg BK198; have NB199_198 := ne2_ hg BK198; replace BK198 := bb_ BK198 hb;  clear hb hbox hg; have hnb10 := NB198_199.out; have hnc10 := NB199_198.out; obtain ⟨hcz11_0, hcz11_1, hfz11_0, hfz11_1⟩ := bs2_ BK198; obtain ⟨hcz12_0, hcz12_1, hfz12_0, hfz12_1⟩ := bs2_ BK199) | (go_at_call 45; (with_reducible refine (q32.calls _ _ l0_0 _ _ l0_1 a1_0 t200 _ ?side1 ?side2 ?side3 ?side4 A3.out).mono ?_); (case side1 => exact kc_ HR0_0 HB); (case side2 => exact HC0_0.out); (case side3 => exact kc_ HR0_1 HB); (case side4 => exact HC0_1.out); rintro e w13 ⟨rfl, hb⟩; replace BK198 := bb_ BK198 hb; replace BK199 := bb_ BK199 hb; replace HB := hb_ HB hb;  (try clear hb); obtain ⟨hcz14_0, hcz14_1, hfz14_0, hfz14_1⟩ := bs2_ BK198; have p201 : 0 ≤ (t200 : Int) := od_; have q201 : t200 < (l0_1.length : Int) := od_; obtain ⟨ad201, A201_5, c201_5, A201_6, c201_6, e201, hx201_0, hx201_1, hx201_2, hx201_3, hx201_4, hx201_5, hx201_6, hl201_5, hi201_5, hl201_6, hi201_6⟩ := at_T41 HR0_1.out t200 p201 q201; cases e201; replace hx201_0 := rr_ HB hx201_0; replace hx201_1 := rr_ HB hx201_1; replace hx201_2 := rr_ HB hx201_2; replace hx201_3 := rr_ HB hx201_3; replace hx201_4 := rr_ HB hx201_4; replace hx201_5 := rr_ HB hx201_5; replace hx201_6 := rr_ HB hx201_6; have HR201_5 := q49.mk hi201_5; have HC201_5 := q49.mk hl201_5; clear hi201_5 hl201_5; have HR201_6 := q49.mk hi201_6; have HC201_6 := q49.mk hl201_6; clear hi201_6 hl201_6; replace p201 := eq_true p201; replace q201 := eq_true q201; obtain ⟨hcz15_0, hcz15_1, hfz15_0, hfz15_1⟩ := bs2_ BK199) | (go_at_call 104; (with_reducible refine (q34.calls k ((q74 l0_1 t200).f1) a1_1 t202 _ A7.out).mono ?_); rintro e w' ⟨rfl, ⟨nd, rfl⟩⟩; (try first | exact ⟨rfl, _, World.drewN_drewN _ _ _⟩ | exact ⟨rfl, _, Eq.trans (World.drewN_drewN _ _ _) (congrArg (World.drewN _) (Nat.add_assoc _ _ _))⟩))); try go_wp2_with (first | ((with_reducible refine q64 (N := 2) rfl ?_); refine bx_ 2 #[.slice A0_0 l0_0.length c0_0, .slice A0_1 l0_1.length c0_1] 25 ?_; intro gb198 hg w8 hbox hb; have BK198 := q49.mk (hbox); have GW198 := zz_ (w := w) hg; have GE198 := zz_ (w := w) hg; replace HB := hb_ HB hb;  clear hb hbox hg) | ((with_reducible refine q64 (N := 3) rfl ?_); refine bx_ 3 #[.string a1_0, .int .i64 a1_1] 101 ?_; intro gb199 hg w9 hbox hb; have BK199 := q49.mk (hbox); have GW199 := zz_ (w := w) hg; have GE199 := zz_ (w := w) hg; replace HB := hb_ HB hb; have NB198_199 := ne1_ hg BK198; have NB199_198 := ne2_ hg BK198; replace BK198 := bb_ BK198 hb;  clear hb hbox hg; have hnb10 := NB198_199.out; have hnc10 := NB199_198.out; obtain ⟨hcz11_0, hcz11_1, hfz11_0, hfz11_1⟩ := bs2_ BK198; obtain ⟨hcz12_0, hcz12_1, hfz12_0, hfz12_1⟩ := bs2_ BK199) | (go_at_call 45; (with_reducible refine (q32.calls _ _ l0_0 _ _ l0_1 a1_0 t200 _ ?side1 ?side2 ?side3 ?side4 A3.out).mono ?_); (case side1 => exact kc_ HR0_0 HB); (case side2 => exact HC0_0.out); (case side3 => exact kc_ HR0_1 HB); (case side4 => exact HC0_1.out); rintro e w13 ⟨rfl, hb⟩; replace BK198 := bb_ BK198 hb; replace BK199 := bb_ BK199 hb; replace HB := hb_ HB hb;  (try clear hb); obtain ⟨hcz14_0, hcz14_1, hfz14_0, hfz14_1⟩ := bs2_ BK198; have p201 : 0 ≤ (t200 : Int) := od_; have q201 : t200 < (l0_1.length : Int) := od_; obtain ⟨ad201, A201_5, c201_5, A201_6, c201_6, e201, hx201_0, hx201_1, hx201_2, hx201_3, hx201_4, hx201_5, hx201_6, hl201_5, hi201_5, hl201_6, hi201_6⟩ := at_T41 HR0_1.out t200 p201 q201; cases e201; replace hx201_0 := rr_ HB hx201_0; replace hx201_1 := rr_ HB hx201_1; replace hx201_2 := rr_ HB hx201_2; replace hx201_3 := rr_ HB hx201_3; replace hx201_4 := rr_ HB hx201_4; replace hx201_5 := rr_ HB hx201_5; replace hx201_6 := rr_ HB hx201_6; have HR201_5 := q49.mk hi201_5; have HC201_5 := q49.mk hl201_5; clear hi201_5 hl201_5; have HR201_6 := q49.mk hi201_6; have HC201_6 := q49.mk hl201_6; clear hi201_6 hl201_6; replace p201 := eq_true p201; replace q201 := eq_true q201; obtain ⟨hcz15_0, hcz15_1, hfz15_0, hfz15_1⟩ := bs2_ BK199) | (go_at_call 104; (with_reducible refine (q34.calls k ((q74 l0_1 t200).f1) a1_1 t202 _ A7.out).mono ?_); rintro e w' ⟨rfl, ⟨nd, rfl⟩⟩; (try first | exact ⟨rfl, _, World.drewN_drewN _ _ _⟩ | exact ⟨rfl, _, Eq.trans (World.drewN_drewN _ _ _) (congrArg (World.drewN _) (Nat.add_assoc _ _ _))⟩))))
    go_ret
    exact ⟨er_, hf_⟩
   ·rw [if_neg c6] at H
    exact absurd H (by simp)
  ·rw [if_neg c5] at H
   exact absurd H (by simp)
 ·rw [if_neg c4] at H
  replace c4 := decide_eq_false c4
  obtain rfl := Option.some.inj H
  go_enter Try.func99, Try.ntmps99
  go_wp2_with (first | ((with_reducible refine q64 (N := 2) rfl ?_); refine bx_ 2 #[.slice A0_0 l0_0.length c0_0, .slice A0_1 l0_1.length c0_1] 25 ?_; intro gb198 hg w16 hbox hb; have BK198 := q49.mk (hbox); have GW198 := zz_ (w := w) hg; have GE198 := zz_ (w := w) hg; replace HB := hb_ HB hb;  clear hb hbox hg) | ((with_reducible refine q64 (N := 3) rfl ?_); refine bx_ 3 #[.string a1_0, .int .i64 a1_1] 101 ?_; intro gb199 hg w17 hbox hb; have BK199 := q49.mk (hbox); have GW199 := zz_ (w := w) hg; have GE199 := zz_ (w := w) hg; replace HB := hb_ HB hb; have NB198_199 := ne1_ hg BK198; have NB199_198 := ne2_ hg BK198; replace BK198 := bb_ BK198 hb;  clear hb hbox hg; have hnb18 := NB198_199.out; have hnc18 := NB199_198.out; obtain ⟨hcz19_0, hcz19_1, hfz19_0, hfz19_1⟩ := bs2_ BK198; obtain ⟨hcz20_0, hcz20_1, hfz20_0, hfz20_1⟩ := bs2_ BK199) | (go_at_call 45; (with_reducible refine (q32.calls _ _ l0_0 _ _ l0_1 a1_0 t200 _ ?side1 ?side2 ?side3 ?side4 A3.out).mono ?_); (case side1 => exact kc_ HR0_0 HB); (case side2 => exact HC0_0.out); (case side3 => exact kc_ HR0_1 HB); (case side4 => exact HC0_1.out); rintro e w21 ⟨rfl, hb⟩; replace BK198 := bb_ BK198 hb; replace BK199 := bb_ BK199 hb; replace HB := hb_ HB hb;  (try clear hb)))
  repeat (go_quiet (first | ((with_reducible refine q64 (N := 2) rfl ?_); refine bx_ 2 #[.slice A0_0 l0_0.length c0_0, .slice A0_1 l0_1.length c0_1] 25 ?_; intro gb198 hg w16 hbox hb; have BK198 := q49.mk (hbox); have GW198 := zz_ (w := w) hg; have GE198 := zz_ (w := w) hg; replace HB := hb_ HB hb;  clear hb hbox hg) | ((with_reducible refine q64 (N := 3) rfl ?_); refine bx_ 3 #[.string a1_0, .int .i64 a1_1] 101 ?_; intro gb199 hg w17 hbox hb; have BK199 := q49.mk (hbox); have GW199 := zz_ (w := w) hg; have GE199 := zz_ (w := w) hg; replace HB := hb_ HB hb; have NB198_199 := ne1_ hg BK198; have NB199_198 := ne2_ hg BK198; replace BK198 := bb_ BK198 hb;  clear hb hbox hg; have hnb18 := NB198_199.out; have hnc18 := NB199_198.out; obtain ⟨hcz19_0, hcz19_1, hfz19_0, hfz19_1⟩ := bs2_ BK198; obtain ⟨hcz20_0, hcz20_1, hfz20_0, hfz20_1⟩ := bs2_ BK199) | (go_at_call 45; (with_reducible refine (q32.calls _ _ l0_0 _ _ l0_1 a1_0 t200 _ ?side1 ?side2 ?side3 ?side4 A3.out).mono ?_); (case side1 => exact kc_ HR0_0 HB); (case side2 => exact HC0_0.out); (case side3 => exact kc_ HR0_1 HB); (case side4 => exact HC0_1.out); rintro e w21 ⟨rfl, hb⟩; replace BK198 := bb_ BK198 hb; replace BK199 := bb_ BK199 hb; replace HB := hb_ HB hb;  (try clear hb))); try go_wp2_with (first | ((with_reducible refine q64 (N := 2) rfl ?_); refine bx_ 2 #[.slice A0_0 l0_0.length c0_0, .slice A0_1 l0_1.length c0_1] 25 ?_; intro gb198 hg w16 hbox hb; have BK198 := q49.mk (hbox); have GW198 := zz_ (w := w) hg; have GE198 := zz_ (w := w) hg; replace HB := hb_ HB hb;  clear hb hbox hg) | ((with_reducible refine q64 (N := 3) rfl ?_); refine bx_ 3 #[.string a1_0, .int .i64 a1_1] 101 ?_; intro gb199 hg w17 hbox hb; have BK199 := q49.mk (hbox); have GW199 := zz_ (w := w) hg; have GE199 := zz_ (w := w) hg; replace HB := hb_ HB hb; have NB198_199 := ne1_ hg BK198; have NB199_198 := ne2_ hg BK198; replace BK198 := bb_ BK198 hb;  clear hb hbox hg; have hnb18 := NB198_199.out; have hnc18 := NB199_198.out; obtain ⟨hcz19_0, hcz19_1, hfz19_0, hfz19_1⟩ := bs2_ BK198; obtain ⟨hcz20_0, hcz20_1, hfz20_0, hfz20_1⟩ := bs2_ BK199) | (go_at_call 45; (with_reducible refine (q32.calls _ _ l0_0 _ _ l0_1 a1_0 t200 _ ?side1 ?side2 ?side3 ?side4 A3.out).mono ?_); (case side1 => exact kc_ HR0_0 HB); (case side2 => exact HC0_0.out); (case side3 => exact kc_ HR0_1 HB); (case side4 => exact HC0_1.out); rintro e w21 ⟨rfl, hb⟩; replace BK198 := bb_ BK198 hb; replace BK199 := bb_ BK199 hb; replace HB := hb_ HB hb;  (try clear hb))))
  go_ret
  exact ⟨er_, hf_⟩
def legalB (kind event : Int) : Bool :=
 if event = 1 ∨ event = 5 then decide (1 ≤ kind ∧ kind ≤ 5) else if event = 2 ∨ event = 3 then decide (kind = 1 ∨ kind = 2) else if event = 4 then decide (3 ≤ kind ∧ kind ≤ 5) else false
theorem legal_eq (a b : Int) : q34.f 2 a b = some (legalB a b) := by
 unfold q34.f legalB
 by_cases h1 : b = 1
 ·subst h1; simp only [q34.j0]; by_cases h2 : a ≥ 1 <;> by_cases h3 : a ≤ 5 <;> simp [h2, h3]
 by_cases h5 : b = 5
 ·subst h5; simp only [q34.j0]; by_cases h2 : a ≥ 1 <;> by_cases h3 : a ≤ 5 <;> simp [h2, h3]
 rw [if_neg h1, show (b == 5) = false by simpa using h5]
 simp only [q34.j0, Bool.false_eq_true, if_false]
 have h15 : ¬ (b = 1 ∨ b = 5) := by omega
 rw [if_neg h15]
 by_cases h2 : b = 2
 ·subst h2; simp only [q34.j1]; by_cases h3 : a = 1 <;> by_cases h4 : a = 2 <;> simp [h3, h4]
 by_cases h3 : b = 3
 ·subst h3; simp only [q34.j1]; by_cases h3 : a = 1 <;> by_cases h4 : a = 2 <;> simp [h3, h4]
 rw [if_neg h2, show (b == 3) = false by simpa using h3]
 simp only [q34.j1, Bool.false_eq_true, if_false]
 have h23 : ¬ (b = 2 ∨ b = 3) := by omega
 rw [if_neg h23]
 by_cases h4 : b = 4
 ·subst h4; by_cases h2 : a ≥ 3 <;> by_cases h3 : a ≤ 5 <;> simp [h2, h3]
 ·simp [h4]
theorem wrap_lt {i n : Int} (h0 : 0 ≤ i) (h : i < n) (hn : n ≤ 9223372036854775807) : wrap64 (i + 1) = i + 1 := by
 unfold wrap64
 omega
def memB (l : List ByteArray) (s : ByteArray) : Bool := l.any (fun x => s.toList == x.toList)
theorem rdOf_get {α : Type} (z : α) (l : List α) (i : Nat) (h : i < l.length) : rdOf z l (i : Int) = l[i] := by
 simp [rdOf, List.getD_eq_getElem?_getD, List.getElem?_eq_getElem h]
theorem index_any (l : List ByteArray) (s : ByteArray) (hn : l.length ≤ 9223372036854775807) (d : Nat) : ∀ (i k : Nat), i + d = l.length → d < k → ∃ r, q8.l0 k l s l.length i = some r ∧ decide (r ≥ 0) = (l.drop i).any (fun x => s.toList == x.toList) := by
  induction d with
  | zero =>
    intro i k hi hk
    obtain ⟨k, rfl⟩ : ∃ m, k = m + 1 := ⟨k - 1, by omega⟩
    refine ⟨-1, ?_, ?_⟩
    · simp only [q8.l0]
      rw [if_neg (by omega)]
    · rw [List.drop_of_length_le (by omega)]
      rfl
  | succ d ih =>
    intro i k hi hk
    obtain ⟨k, rfl⟩ : ∃ m, k = m + 1 := ⟨k - 1, by omega⟩
    have hlt : i < l.length := by omega
    simp only [q8.l0]
    rw [if_pos (by omega), if_pos (by omega), if_pos (by omega), rdOf_get _ _ _ hlt, List.drop_eq_getElem_cons hlt, List.any_cons]
    by_cases he : s.toList = l[i].toList
    · rw [if_pos he]
      refine ⟨i, rfl, ?_⟩
      rw [show (s.toList == l[i].toList) = true by simpa using he]
      simp
    · rw [if_neg he, show (s.toList == l[i].toList) = false by simpa using he, Bool.false_or, wrap_lt (n := (l.length : Int)) (by omega) (by omega) (by omega)]
      exact ih (i + 1) k (by omega) (by omega)
theorem contains_eq (l : List ByteArray) (s : ByteArray) (hn : l.length ≤ 9223372036854775807) (k : Nat) (hk : l.length < k) : q7.f k l s = some (memB l s) := by
 obtain ⟨r, hr, hd⟩ := index_any l s hn l.length 0 k (by omega) hk
 unfold q7.f q8.f
 have hr' : _ = some r := hr
 simp only [Int.natCast_zero, Int.ofNat_eq_natCast, Int.cast_ofNat_Int] at hr'
 rw [hr', Option.bind_some, hd]
 rfl
abbrev hasOn_p (a : ByteArray) (b : Int) (x : S101) : Bool := a.toList == x.f0.toList && (b == x.f1)
def hasOn (l : List (S101)) (a : ByteArray) (b : Int) : Bool := l.any (hasOn_p a b)
theorem hasOn_any (l : List (S101)) (a : ByteArray) (b : Int) (hn : l.length ≤ 9223372036854775807) (d : Nat) : ∀ (i k : Nat), i + d = l.length → d < k → ∃ r, q42.l0 k l l.length i a b = some r ∧ decide (r ≥ 0) = (l.drop i).any (hasOn_p a b) := by
  induction d with
  | zero =>
    intro i k hi hk
    obtain ⟨k, rfl⟩ : ∃ m, k = m + 1 := ⟨k - 1, by omega⟩
    refine ⟨-1, ?_, ?_⟩
    · simp only [q42.l0]
      rw [if_neg (by omega)]
    · rw [List.drop_of_length_le (by omega)]
      rfl
  | succ d ih =>
    intro i k hi hk
    obtain ⟨k, rfl⟩ : ∃ m, k = m + 1 := ⟨k - 1, by omega⟩
    have hlt : i < l.length := by omega
    have hrd : q69 l (i : Int) = l[i] := by simp [q69, List.getD_eq_getElem?_getD, List.getElem?_eq_getElem hlt]
    simp only [q42.l0]
    rw [if_pos (by omega), if_pos (by omega), if_pos (by omega), hrd, List.drop_eq_getElem_cons hlt, List.any_cons]
    cases he : hasOn_p a b l[i] with
    | true =>
      rw [if_pos he]
      exact ⟨i, rfl, by simp⟩
    | false =>
      rw [if_neg (show ¬ (hasOn_p a b l[i]) = true by rw [he]; simp), Bool.false_or, wrap_lt (n := (l.length : Int)) (by omega) (by omega) (by omega)]
      exact ih (i + 1) k (by omega) (by omega)
theorem hasOn_eq (l : List (S101)) (a : ByteArray) (b : Int) (hn : l.length ≤ 9223372036854775807) (k : Nat) (hk : l.length < k) : q44.f k l a b = some (hasOn l a b) := by
 obtain ⟨r, hr, hd⟩ := hasOn_any l a b hn l.length 0 k (by omega) hk
 unfold q44.f q42.f
 have hr' : _ = some r := hr
 simp only [Int.natCast_zero, Int.ofNat_eq_natCast, Int.cast_ofNat_Int] at hr'
 rw [hr', Option.bind_some, hd]
 rfl
def q67 (l : List (S41)) (id : ByteArray) : Int := fidx (q32.p id) l
theorem fidx_lt {α : Type} (p : α → Bool) (l : List α) : fidx p l < l.length := by
  unfold fidx
  cases h : l.findIdx? p with
  | none => show (-1 : Int) < _; omega
  | some i =>
    obtain ⟨hi, _⟩ := List.findIdx?_eq_some_iff_getElem.1 h
    show (i : Int) < _
    omega
theorem placeI_lt (l : List (S41)) (id : ByteArray) : q67 l id < l.length := fidx_lt _ _
def onB (l : List (S41)) (a : ByteArray) (b : Int) : Bool := if 0 ≤ q67 l a then legalB (q74 l (q67 l a)).f1 b else false
theorem isOn_eq (fs : List ByteArray) (l : List (S41)) (a : ByteArray) (b : Int) : q40.f 2 fs l a b = some (onB l a b) := by
 unfold q40.f onB q32.f
 rw [show fidx (q32.p a) l = q67 l a from rfl, Option.bind_some]
 by_cases h : 0 ≤ q67 l a
 ·rw [if_pos h, if_pos h, if_pos (placeI_lt l a), legal_eq, if_pos h]
  rfl
 ·rw [if_neg h, if_neg h]
def opsL : List ByteArray := [(⟨#[60]⟩ : ByteArray), (⟨#[60, 61]⟩ : ByteArray), (⟨#[61]⟩ : ByteArray), (⟨#[33, 61]⟩ : ByteArray), (⟨#[62, 61]⟩ : ByteArray), (⟨#[62]⟩ : ByteArray)]
def ifB (fs : List ByteArray) (file op : ByteArray) (n : Int) : Bool := memB opsL op && (memB fs file && decide (-1000000 ≤ n ∧ n ≤ 1000000))
theorem isIf_eq (fs : List ByteArray) (l : List (S41)) (a b : ByteArray) (c : Int) (hn : fs.length ≤ 9223372036854775807) (k : Nat) (hk : fs.length < k) (hk6 : 6 < k) : q39.f k fs l a b c = some (ifB fs a b c) := by
 unfold q39.f ifB
 rw [show ([(⟨#[60]⟩ : ByteArray), (⟨#[60, 61]⟩ : ByteArray), (⟨#[61]⟩ : ByteArray), (⟨#[33, 61]⟩ : ByteArray), (⟨#[62, 61]⟩ : ByteArray), (⟨#[62]⟩ : ByteArray)] : List ByteArray) = opsL by rfl, contains_eq opsL b (by decide) k hk6, contains_eq fs a hn k hk, Option.bind_some, Option.bind_some]
 cases memB opsL b <;> cases memB fs a <;> simp
 by_cases h : c ≥ -1000000 <;> by_cases h2 : c ≤ 1000000 <;> simp [h, h2] <;> omega
def bits (n m : Nat) : Array Bool := ((List.range n).map (fun i => m.testBit i)).toArray
section
variable {P : Program} {md : Region.Mode} {ops : Array Oper} {Q : Exit → Act → World → Prop} {S : World → Prop} {ds : List Nat}
theorem st_ {id : Nat} {a : Act} {w : World} (S : World → Prop) (n : Nat) (hS : S w.drew) (h : S w.drew → q79 P .any ops Q S [] n (bits n 0) a w.drew)
 (hm : P.follows .mixedOrders = true := by kernel_rfl) (hn : ops.size = n := by exact rfl) (hl : Array.replicate n false = bits n 0 := by kernel_rfl) : (Code.region id ops true).wp P Q a w :=
 start_ (bits n 0) hm hn hl hS h
theorem pu_ {n m fuel : Nat} {oi : Oper} {v : Value} {a a' : Act} {w : World} (i : Nat) (N : Option Tmp) (h : q79 P md ops Q S ds fuel (bits n (m ||| 1 <<< i)) a' w)
 (hi : ops[i]? = some oi := by exact rfl) (hN : oi.dst = N := by exact rfl) (hc : anyB md ops (bits n m) (bits n (m ||| 1 <<< i)) i = true := by kernel_rfl)
 (hw : Region.wanted oi (yielded ops a.tmps) = true := by exact rfl) (hy : ∀ w', (execOp a.eval oi).run P w' = .ok (.value v) w' := by (intro w'; go_simp; with_reducible rfl))
 (ha : a.put N v = a' := by (simp only [Act.put, List.setIfInBounds_toArray, List.set_cons_zero, List.set_cons_succ, i64_w, i32_w]; rfl))
 (hQ : ∀ c a w, Q (.panic c) (a.put oi.dst v) w → Q (.panic c) a w := by exact fun _ _ _ h => h) : q79 P md ops Q S ds (fuel + 1) (bits n m) a w :=
 pure_ _ hi hN hc hQ (Or.inl ⟨hw, hy⟩) ha h
theorem sk_ {n m fuel : Nat} {oi : Oper} {a a' : Act} {w : World} (i : Nat) (N : Option Tmp) (h : q79 P md ops Q S ds fuel (bits n (m ||| 1 <<< i)) a' w)
 (hi : ops[i]? = some oi := by exact rfl) (hN : oi.dst = N := by exact rfl) (hc : anyB md ops (bits n m) (bits n (m ||| 1 <<< i)) i = true := by kernel_rfl)
 (hw : Region.wanted oi (yielded ops a.tmps) = false := by exact rfl)
 (ha : a.put N undef = a' := by (simp only [Act.put, List.setIfInBounds_toArray, List.set_cons_zero, List.set_cons_succ, i64_w, i32_w]; rfl))
 (hQ : ∀ c a w, Q (.panic c) (a.put oi.dst undef) w → Q (.panic c) a w := by exact fun _ _ _ h => h) : q79 P md ops Q S ds (fuel + 1) (bits n m) a w :=
 pure_ _ hi hN hc hQ (Or.inr ⟨hw, rfl⟩) ha h
theorem tk_ {n m fuel : Nat} {oi : Oper} {v : Value} {a a' : Act} {w : World} (i : Nat) (N : Option Tmp) (hS : S w) (h : q79 P md ops Q S ds fuel (bits n (m ||| 1 <<< i)) a' w)
 (hi : ops[i]? = some oi := by exact rfl) (hN : oi.dst = N := by exact rfl) (hc : takeB md ops ds (bits n m) (bits n (m ||| 1 <<< i)) i = true := by kernel_rfl)
 (hw : Region.wanted oi (yielded ops a.tmps) = true := by exact rfl) (hy : ∀ w', S w' → (execOp a.eval oi).run P w' = .ok (.value v) w')
 (ha : a.put N v = a' := by (simp only [Act.put, List.setIfInBounds_toArray, List.set_cons_zero, List.set_cons_succ, i64_w, i32_w]; rfl))
 (hQ : ∀ c a w, Q (.panic c) (a.put oi.dst v) w → Q (.panic c) a w := by exact fun _ _ _ h => h) : q79 P md ops Q S ds (fuel + 1) (bits n m) a w :=
 take_ _ hi hN hc hQ (Or.inl ⟨hw, hy⟩) hS ha h
theorem ca_ {n m fuel : Nat} {oi : Oper} {a : Act} {w : World} {f : FuncId} {fn : Func} {os : Array Operand} {ts : Array TypeId} (i : Nat) (N : Option Tmp) (hf : P.funcs[f]? = some fn) (args : Array Value)
 (h : Calls P f args w fun e w' => ∃ v, e = .returned v ∧ S w' ∧ (S w' → ∃ a', a.put N v = a' ∧ q79 P md ops Q S ds fuel (bits n (m ||| 1 <<< i)) a' w'))
 (hi : ops[i]? = some oi := by exact rfl) (hN : oi.dst = N := by exact rfl) (hc : readyB md ops (bits n m) (bits n (m ||| 1 <<< i)) i = true := by kernel_rfl) (hd : i ∉ ds := by decide)
 (hop : oi.op = .call { callee := .value (.func f), args := os, argTypes := ts } := by exact rfl) (hargs : os.map a.eval = args := by ((try simp only [List.map_toArray, List.map_cons, List.map_nil]); first | done | rfl))
 (hw : Region.wanted oi (yielded ops a.tmps) = true := by exact rfl)
 (hname : (fn.name == "runtime.NumGoroutine") = false := by kernel_rfl) (hb : fn.body.isSome = true := by exact rfl) : q79 P md ops Q S ds (fuel + 1) (bits n m) a w :=
 one_ _ hi hN hc hd fun K hK => goes_ hf hname hb args hw hN hop hargs (h.mono fun e w' hh => by
  obtain ⟨v, rfl, hS, hW⟩ := hh
  refine ⟨v, rfl, hK.out _ _ hS fun hs => ?_⟩
  obtain ⟨a', rfl, h'⟩ := hW hs
  exact h')
theorem dn_ {n m : Nat} {a : Act} {w : World} {k : Nat} (h : Q .normal a w) (hr : (Region.ready md ops (bits n m) == []) = true := by kernel_rfl) : q79 P md ops Q S ds k (bits n m) a w := done_ hr h
end
section
variable {P : Program} {md : Region.Mode} {ops : Array Oper} {Q : Exit → Act → World → Prop} {S : World → Prop} {ds : List Nat}
theorem oN_ {n m fuel : Nat} {oi : Oper} {a : Act} {w : World} (i : Nat) (N : Option Tmp)
 (h : ∀ K : Act → World → Prop, Shut (∀ a' w', S w' → (S w' → q79 P md ops Q S ds fuel (bits n (m ||| 1 <<< i)) a' w') → K a' w') → if Region.wanted oi (yielded ops a.tmps) = true then Oper.wp P oi a w K Q else K (a.put N undef) w)
 (hi : ops[i]? = some oi := by exact rfl) (hN : oi.dst = N := by exact rfl) (hc : readyB md ops (bits n m) (bits n (m ||| 1 <<< i)) i = true := by kernel_rfl) (hd : i ∉ ds := by decide) : q79 P md ops Q S ds (fuel + 1) (bits n m) a w :=
 one_ _ hi hN hc hd h
theorem tW_ {n m fuel : Nat} {oi oj : Oper} {a : Act} {w : World} (i j : Nat) (Ni Nj : Option Tmp)
 (h1 : ∀ K : Act → World → Prop, Shut (∀ a' w', S w' → (S w' → q79 P md ops Q S ds fuel (bits n (m ||| 1 <<< i)) a' w') → K a' w') → if Region.wanted oi (yielded ops a.tmps) = true then Oper.wp P oi a w K Q else K (a.put Ni undef) w)
 (h2 : ∀ K : Act → World → Prop, Shut (∀ a' w', S w' → (S w' → q79 P md ops Q S ds fuel (bits n (m ||| 1 <<< j)) a' w') → K a' w') → if Region.wanted oj (yielded ops a.tmps) = true then Oper.wp P oj a w K Q else K (a.put Nj undef) w)
 (hi : ops[i]? = some oi := by exact rfl) (hj : ops[j]? = some oj := by exact rfl) (hNi : oi.dst = Ni := by exact rfl) (hNj : oj.dst = Nj := by exact rfl)
 (hc : (Region.ready md ops (bits n m) == [i, j] && (bits n m).setIfInBounds i true == bits n (m ||| 1 <<< i) && (bits n m).setIfInBounds j true == bits n (m ||| 1 <<< j)) = true := by kernel_rfl) (hdi : i ∉ ds := by decide) (hdj : j ∉ ds := by decide) : q79 P md ops Q S ds (fuel + 1) (bits n m) a w :=
 two_ _ _ hi hj hNi hNj hc hdi hdj h1 h2
theorem sD_ {id : Nat} {a : Act} {w : World} (ds : List Nat) (S : World → Prop) (n : Nat) (hS : S w.drew) (h : S w.drew → q79 P .any ops Q S ds n (bits n 0) a w.drew)
 (hm : P.follows .mixedOrders = true := by kernel_rfl) (hn : ops.size = n := by exact rfl) (hl : Array.replicate n false = bits n 0 := by kernel_rfl) : (Code.region id ops true).wp P Q a w :=
 start_ (bits n 0) hm hn hl hS h
theorem lA_ {n m fuel : Nat} {oi : Oper} {a : Act} {w : World} (i : Nat) (N : Option Tmp)
 (h : ∀ K : Act → World → Prop, Shut (∀ a' w', q79 P md ops Q S ds fuel (bits n (m ||| 1 <<< i)) a' w' → K a' w') → if Region.wanted oi (yielded ops a.tmps) = true then Oper.wp P oi a w K Q else K (a.put N undef) w)
 (hi : ops[i]? = some oi := by exact rfl) (hN : oi.dst = N := by exact rfl) (hc : readyB md ops (bits n m) (bits n (m ||| 1 <<< i)) i = true := by kernel_rfl) (hd : i ∈ ds := by decide) : q79 P md ops Q S ds (fuel + 1) (bits n m) a w :=
 last_ _ hi hN hc hd h
end
def onOk (l : List (S41)) (on : List (S101)) (i : Nat) : Bool := onB l (q69 on i).f0 (q69 on i).f1 && !hasOn (on.take i) (q69 on i).f0 (q69 on i).f1
def ifsOk (fs : List ByteArray) (l : List (S90)) : Bool := !l.any (fun c => !ifB fs c.f0 c.f1 c.f2)
def sentryB (fs : List ByteArray) (l : List (S41)) (on : List (S101)) (ifs : List (S90)) : Bool :=
 decide (on.length ≤ 3 ∧ ifs.length ≤ 2 ∧ on.length + ifs.length ≠ 0) && ((List.range on.length).all (onOk l on) && ifsOk fs ifs)
def q24.f (l0_0 : List ByteArray) (l0_1 : List (S41)) (l1_0 : List (S101)) (l1_1 : List (S90)) : Option Bool := some (sentryB l0_0 l0_1 l1_0 l1_1)
theorem q66 {w1 w' : World} {a : Addr} {v : Value} (hb : Below w1.heap.size w1 w') (hc : w1.cell? a = some v) : w'.cell? a = some v := (hb.cell (World.block_lt_of_cell? _ _ hc)).trans hc
theorem q65 {w w1 w' : World} (hb : Below w1.heap.size w1 w') (hB : Below w.heap.size w w1) : Below w.heap.size w w' := q53 hB hB.size hb
theorem q24.eg : ∀ args w, (callFunc 102 args).run Try.prog w = .ok (.enter 102 args) w := enters_of Try.func102 (by kernel_rfl) rfl
set_option maxHeartbeats 4000000 in
theorem q24.closure (b : Nat) (A0_0 : Option Addr) (c0_0 : Nat) (l0_0 : List ByteArray) (A0_1 : Option Addr) (c0_1 : Nat) (l0_1 : List (S41)) (W : World) (hm0 : W.cell? ⟨b, 0, none⟩ = some (.slice A0_0 l0_0.length c0_0)) (hm1 : W.cell? ⟨b, 1, none⟩ = some (.slice A0_1 l0_1.length c0_1))
 (hr0_0 : Kd.C Kd.string W A0_0 l0_0.length l0_0) (hc0_0 : l0_0.length ≤ c0_0) (hr0_1 : Kd.C k41 W A0_1 l0_1.length l0_1) (hc0_1 : l0_1.length ≤ c0_1) (x : S90) (cs : List Value) (hK : Kd.K k90 W x cs) :
 Calls Try.prog 102 (#[.agg cs.toArray] ++ #[.pointer (some ⟨b, 0, none⟩)]) W fun e w' => e = .returned (.bool (!ifB l0_0 x.f0 x.f1 x.f2)) ∧ Below W.heap.size W w' := by
 obtain rfl := k90_open hK
 have hb := World.block_lt_of_cell? W _ hm0
 simp only at hb
 have hW1 := q50 (Below.refl W.heap.size W) (.cells #[.string x.f0, .string x.f1, .int .i64 x.f2] 90)
 have hif := q39.calls (l0_0.length + 7) A0_0 c0_0 l0_0 A0_1 c0_1 l0_1 x.f0 x.f1 x.f2 _ _ (Kd.C_below hr0_0 hW1) hc0_0 (Kd.C_below hr0_1 hW1) hc0_1 (isIf_eq l0_0 l0_1 x.f0 x.f1 x.f2 hr0_0.2.1 (l0_0.length + 7) (by omega) (by omega))
 have HW := Lib.hid hW1
 clear hr0_0 hr0_1 hW1 hK
 obtain ⟨T, hT⟩ : ∃ T, T = ifB l0_0 x.f0 x.f1 x.f2 := ⟨_, rfl⟩
 rw [← hT] at hif ⊢
 clear hT
 have hu36 := Try.underlying25
 have hu25 := Try.underlying90
 go_enter Try.func102, Try.ntmps102
 go_wp2_with (go_at_call 103; refine hif.mono ?_; rintro e w' ⟨rfl, hb'⟩)
 go_ret
 exact ⟨rfl, q65 hb' HW.out⟩
set_option maxHeartbeats 8000000 in
set_option maxRecDepth 100000 in
theorem q24.calls (A0_0 : Option Addr) (c0_0 : Nat) (l0_0 : List ByteArray) (A0_1 : Option Addr) (c0_1 : Nat) (l0_1 : List (S41)) (A1_0 : Option Addr) (c1_0 : Nat) (l1_0 : List (S101)) (A1_1 : Option Addr) (c1_1 : Nat) (l1_1 : List (S90)) (r : Bool) (w : World) (hr0_0 : Kd.C Kd.string w A0_0 l0_0.length l0_0) (hc0_0 : l0_0.length ≤ c0_0) (hr0_1 : Kd.C k41 w A0_1 l0_1.length l0_1) (hc0_1 : l0_1.length ≤ c0_1) (hr1_0 : Kd.C k101 w A1_0 l1_0.length l1_0) (hc1_0 : l1_0.length ≤ c1_0) (hr1_1 : Kd.C k90 w A1_1 l1_1.length l1_1) (hc1_1 : l1_1.length ≤ c1_1) (h : q24.f l0_0 l0_1 l1_0 l1_1 = some r) :
    Calls Try.prog 96 #[.agg #[.slice A0_0 l0_0.length c0_0, .slice A0_1 l0_1.length c0_1], .agg #[.slice A1_0 l1_0.length c1_0, .slice A1_1 l1_1.length c1_1]] w fun e w' => e = .returned (.bool r) ∧ Below w.heap.size w w' := by
  obtain rfl := Option.some.inj h
  clear h
  have hu36 := Try.underlying25
  have hu29 := Try.underlying45
  have hu39 := Try.underlying101
  have hbound : l1_0.length ≤ 9223372036854775807 ∧ l1_1.length ≤ 9223372036854775807 := ⟨hr1_0.2.1, hr1_1.2.1⟩
  by_cases hA : 3 < l1_0.length
  · have e : sentryB l0_0 l0_1 l1_0 l1_1 = false := by simp [sentryB]; omega
    rw [e]
    have hA' : (3 : Int) < l1_0.length := by omega
    clear hr0_0 hr0_1 hr1_0 hr1_1 e hbound
    go_enter Try.func96, Try.ntmps96
    go_wp2
    go_ret
    exact ⟨rfl, q50 (q50 (Below.refl _ _) _) _⟩
  have hA' : ¬ (3 : Int) < l1_0.length := by omega
  by_cases hB : 2 < l1_1.length
  · have e : sentryB l0_0 l0_1 l1_0 l1_1 = false := by simp [sentryB]; omega
    rw [e]
    have hB' : (2 : Int) < l1_1.length := by omega
    clear hr0_0 hr0_1 hr1_0 hr1_1 e hbound
    go_enter Try.func96, Try.ntmps96
    go_wp2
    go_ret
    exact ⟨rfl, q50 (q50 (Below.refl _ _) _) _⟩
  have hB' : ¬ (2 : Int) < l1_1.length := by omega
  by_cases hC : l1_0.length + l1_1.length = 0
  · have h1 : l1_0 = [] := List.eq_nil_of_length_eq_zero (by omega)
    have h2 : l1_1 = [] := List.eq_nil_of_length_eq_zero (by omega)
    subst h1 h2
    have e : sentryB l0_0 l0_1 [] [] = false := by simp [sentryB]
    rw [e]
    clear hr0_0 hr0_1 hr1_0 hr1_1 e hbound hA hA' hB hB' hC
    go_enter Try.func96, Try.ntmps96
    go_wp2
    go_ret
    exact ⟨rfl, q50 (q50 (Below.refl _ _) _) _⟩
  have hC' : (((l1_0.length : Int) + (l1_1.length : Int)) == 0) = false := by
    have : ((l1_0.length : Int) + (l1_1.length : Int)) ≠ 0 := by omega
    simpa using this
  have HR := Lib.hid (And.intro hr0_0 (And.intro hr0_1 (And.intro hr1_0 hr1_1)))
  clear hr0_0 hr0_1 hr1_0 hr1_1
  obtain ⟨n, hn⟩ : ∃ n, n = l1_0.length := ⟨_, rfl⟩
  obtain ⟨m, hm⟩ : ∃ m, m = l1_1.length := ⟨_, rfl⟩
  have HN := Lib.hid (And.intro hn hm)
  rw [← hn] at hbound hA hA' hC hC' hc1_0 ⊢
  rw [← hm] at hbound hB hB' hC hC' hc1_1 ⊢
  clear hn hm
  have hn3 : (n : Int) ≤ 3 := by omega
  have hm2 : (m : Int) ≤ 2 := by omega
  go_enter Try.func96, Try.ntmps96
  go_wp2
  obtain ⟨W1, hW1⟩ : ∃ W1, W1 = (w.alloc (.cells #[.slice A0_0 l0_0.length c0_0, .slice A0_1 l0_1.length c0_1] 25)).alloc (.cells #[.slice A1_0 n c1_0, .slice A1_1 m c1_1] 45) := ⟨_, rfl⟩
  have hb1 : Below w.heap.size w W1 := by rw [hW1]; exact q50 (q50 (Below.refl _ _) _) _
  have hm0 : W1.cell? ⟨w.heap.size, 0, none⟩ = some (.slice A0_0 l0_0.length c0_0) := by rw [hW1]; simp
  have hm1 : W1.cell? ⟨w.heap.size, 1, none⟩ = some (.slice A0_1 l0_1.length c0_1) := by rw [hW1]; simp
  have hs0 : W1.cell? ⟨w.heap.size + 1, 0, none⟩ = some (.slice A1_0 n c1_0) := by rw [hW1]; simp
  have hs1 : W1.cell? ⟨w.heap.size + 1, 1, none⟩ = some (.slice A1_1 m c1_1) := by rw [hW1]; simp
  have hsz : W1.heap.size = w.heap.size + 2 := by rw [hW1]; simp
  rw [← hW1]
  have H1 := Lib.hid (And.intro hb1 (And.intro hm0 (And.intro hm1 (And.intro hs0 (And.intro hs1 hsz)))))
  clear hW1 hb1 hm0 hm1 hs0 hs1 hsz
  go_loopg [30] n (fun gg s30 wr => ∃ i : Nat, i ≤ n ∧ n - i ≤ gg ∧ s30 = .int .i64 i ∧ Hid (Below W1.heap.size W1 wr ∧ ∀ j, j < i → onOk l0_1 l1_0 j = true))
  case atStart => exact ⟨0, Nat.zero_le _, by omega, rfl, Lib.hid ⟨Below.refl _ _, fun j hj => absurd hj (Nat.not_lt_zero _)⟩⟩
  case round =>
    obtain ⟨i, hin, hig, rfl, X⟩ := hrel
    have hbw : Below w.heap.size w wr := q53 H1.out.1 H1.out.1.size X.out.1
    have HBW := Lib.hid hbw
    clear hbw
    by_cases hlt : i < n
    · have hltz : (i : Int) < (n : Int) := by omega
      obtain ⟨ad, e, hx0, hx1⟩ := at_T101 HR.out.2.2.1 (i : Int) (by omega) (by have := HN.out; omega)
      cases e
      simp only [Int.toNat_natCast] at hx0 hx1
      obtain ⟨x, hx⟩ : ∃ x, x = q69 l1_0 (i : Int) := ⟨_, rfl⟩
      rw [← hx] at hx0 hx1
      have HX := Lib.hid hx
      clear hx
      replace hx0 := (HBW.out.cell (World.block_lt_of_cell? w _ hx0)).trans hx0
      replace hx1 := (HBW.out.cell (World.block_lt_of_cell? w _ hx1)).trans hx1
      go_wp2
      clear hx0 hx1
      obtain ⟨W2, hW2⟩ : ∃ W2, W2 = wr.alloc (.cells #[.string x.f0, .int .i64 x.f1] 101) := ⟨_, rfl⟩
      have hb2 : Below wr.heap.size wr W2 := by rw [hW2]; exact q50 (Below.refl _ _) _
      have hx0 : W2.cell? ⟨wr.heap.size, 0, none⟩ = some (.string x.f0) := by rw [hW2]; simp
      have hx1 : W2.cell? ⟨wr.heap.size, 1, none⟩ = some (.int .i64 x.f1) := by rw [hW2]; simp
      rw [← hW2]
      clear hW2
      have hlo : w.heap.size + 2 ≤ wr.heap.size := by have := X.out.1.size; have := H1.out.2.2.2.2.2; omega
      have hm0 : W2.cell? ⟨w.heap.size, 0, none⟩ = some (.slice A0_0 l0_0.length c0_0) := (hb2.cell (p := ⟨_, _, none⟩) (by simp only; omega)).trans ((X.out.1.cell (p := ⟨_, _, none⟩) (by simp only; have := H1.out.2.2.2.2.2; omega)).trans H1.out.2.1)
      have hm1 : W2.cell? ⟨w.heap.size, 1, none⟩ = some (.slice A0_1 l0_1.length c0_1) := (hb2.cell (p := ⟨_, _, none⟩) (by simp only; omega)).trans ((X.out.1.cell (p := ⟨_, _, none⟩) (by simp only; have := H1.out.2.2.2.2.2; omega)).trans H1.out.2.2.1)
      have hs0 : W2.cell? ⟨w.heap.size + 1, 0, none⟩ = some (.slice (some ad) n c1_0) := (hb2.cell (p := ⟨_, _, none⟩) (by simp only; omega)).trans ((X.out.1.cell (p := ⟨_, _, none⟩) (by simp only; have := H1.out.2.2.2.2.2; omega)).trans H1.out.2.2.2.1)
      have hbw2 : Below w.heap.size w W2 := q53 HBW.out HBW.out.size hb2
      have hon := fun (W : World) (hb : Below w.heap.size w W) => q40.calls 2 _ c0_0 l0_0 _ c0_1 l0_1 x.f0 x.f1 _ W (Kd.C_below HR.out.1 hb) hc0_0 (Kd.C_below HR.out.2.1 hb) hc0_1 (isOn_eq l0_0 l0_1 x.f0 x.f1)
      have hin2 : i ≤ c1_0 := by omega
      have el : (l1_0.take i).length = i := by rw [List.length_take]; have := HN.out; omega
      have hhas : ∀ (W : World), Below w.heap.size w W → Calls Try.prog 100 #[.slice (some ad) i c1_0, .agg #[.string x.f0, .int .i64 x.f1]] W fun e w' => e = .returned (.bool (hasOn (l1_0.take i) x.f0 x.f1)) ∧ Below W.heap.size W w' := fun W hb => by
        have := q44.calls (n + 1) (some ad) c1_0 (l1_0.take i) x.f0 x.f1 _ W (Kd.C_below (Kd.C_take HR.out.2.2.1 (show i ≤ l1_0.length by have := HN.out; omega)) hb) (by rw [el]; omega) (hasOn_eq (l1_0.take i) x.f0 x.f1 (by rw [el]; omega) (n + 1) (by rw [el]; omega))
        rw [el] at this
        exact this
      have hxo : onOk l0_1 l1_0 i = (onB l0_1 x.f0 x.f1 && !hasOn (l1_0.take i) x.f0 x.f1) := by rw [HX.out]; rfl
      have HXO := Lib.hid hxo
      have HON := Lib.hid hon
      have HHAS := Lib.hid hhas
      clear hxo hon hhas el
      cases hq : onB l0_1 x.f0 x.f1 with
      | false =>
        have hon := HON.out
        rw [hq] at hon HXO
        clear hq HON HHAS
        refine st_ (fun w' => (w'.cell? ⟨w.heap.size, 0, none⟩ = some (.slice A0_0 l0_0.length c0_0) ∧ w'.cell? ⟨w.heap.size, 1, none⟩ = some (.slice A0_1 l0_1.length c0_1) ∧ w'.cell? ⟨w.heap.size + 1, 0, none⟩ = some (.slice (some ad) n c1_0) ∧ w'.cell? ⟨wr.heap.size, 0, none⟩ = some (.string x.f0) ∧ w'.cell? ⟨wr.heap.size, 1, none⟩ = some (.int .i64 x.f1)) ∧ Below W2.heap.size W2 w') 12 ⟨⟨hm0, hm1, hs0, hx0, hx1⟩, q51 (Below.refl _ _)⟩ (fun hHeld => ?_)
        generalize W2.drew = W3 at hHeld ⊢
        refine tk_ 0 (some 35) hHeld ?_ (hy := by rintro w' ⟨⟨s0, s1, s2, s3, s4⟩, _⟩; go_simp; with_reducible rfl)
        refine tk_ 1 (some 36) hHeld ?_ (hy := by rintro w' ⟨⟨s0, s1, s2, s3, s4⟩, _⟩; go_simp; with_reducible rfl)
        refine oN_ 2 (some 37) (fun K hK => ?_)
        refine goes_ Try.func99 (by kernel_rfl) rfl #[.agg #[.slice A0_0 l0_0.length c0_0, .slice A0_1 l0_1.length c0_1], .agg #[.string x.f0, .int .i64 x.f1]] (by rfl) rfl rfl (by (try simp only [List.map_toArray, List.map_cons, List.map_nil]); first | done | rfl) ?_
        with_reducible refine (hon _ (q65 hHeld.2 hbw2)).mono ?_
        rintro e w' ⟨rfl, hb'⟩
        refine ⟨_, rfl, ?_⟩
        refine hK.out _ _ ⟨⟨q66 hb' hHeld.1.1, q66 hb' hHeld.1.2.1, q66 hb' hHeld.1.2.2.1, q66 hb' hHeld.1.2.2.2.1, q66 hb' hHeld.1.2.2.2.2⟩, q65 hb' hHeld.2⟩ (fun hHeld => ?_)
        clear hK K
        refine nz_ (some 37) ?_
        refine pu_ 3 (some 38) ?_
        refine pu_ 4 (some 39) ?_
        refine sk_ 5 (some 40) ?_
        refine sk_ 6 (some 41) ?_
        refine sk_ 7 (some 42) ?_
        refine sk_ 8 (some 43) ?_
        refine sk_ 9 (some 44) ?_
        refine sk_ 10 (some 45) ?_
        refine pu_ 11 (some 46) ?_
        refine dn_ ?_
        have hbx := q65 hHeld.2 hbw2
        have he : sentryB l0_0 l0_1 l1_0 l1_1 = false := by
          have h1 : (List.range l1_0.length).all (onOk l0_1 l1_0) = false := List.all_eq_false.2 ⟨i, List.mem_range.2 (by have := HN.out; omega), by rw [HXO.out]; simp⟩
          simp [sentryB, h1]
        have HE := Lib.hid he
        clear hHeld he
        go_wp2
        go_ret
        exact ⟨by rw [HE.out]; rfl, hbx⟩
      | true =>
        have hon := HON.out
        have hhas := HHAS.out
        rw [hq] at hon HXO
        clear hq HON HHAS
        have p0 : (0 : Int) ≤ i := by omega
        have p1 : (i : Int) ≤ n := by omega
        have p2 : (i : Int) ≤ c1_0 := by omega
        refine st_ (fun w' => (w'.cell? ⟨w.heap.size, 0, none⟩ = some (.slice A0_0 l0_0.length c0_0) ∧ w'.cell? ⟨w.heap.size, 1, none⟩ = some (.slice A0_1 l0_1.length c0_1) ∧ w'.cell? ⟨w.heap.size + 1, 0, none⟩ = some (.slice (some ad) n c1_0) ∧ w'.cell? ⟨wr.heap.size, 0, none⟩ = some (.string x.f0) ∧ w'.cell? ⟨wr.heap.size, 1, none⟩ = some (.int .i64 x.f1)) ∧ Below W2.heap.size W2 w') 12 ⟨⟨hm0, hm1, hs0, hx0, hx1⟩, q51 (Below.refl _ _)⟩ (fun hHeld => ?_)
        generalize W2.drew = W3 at hHeld ⊢
        refine tk_ 0 (some 35) hHeld ?_ (hy := by rintro w' ⟨⟨s0, s1, s2, s3, s4⟩, _⟩; go_simp; with_reducible rfl)
        refine tk_ 1 (some 36) hHeld ?_ (hy := by rintro w' ⟨⟨s0, s1, s2, s3, s4⟩, _⟩; go_simp; with_reducible rfl)
        refine oN_ 2 (some 37) (fun K hK => ?_)
        refine goes_ Try.func99 (by kernel_rfl) rfl #[.agg #[.slice A0_0 l0_0.length c0_0, .slice A0_1 l0_1.length c0_1], .agg #[.string x.f0, .int .i64 x.f1]] (by rfl) rfl rfl (by (try simp only [List.map_toArray, List.map_cons, List.map_nil]); first | done | rfl) ?_
        with_reducible refine (hon _ (q65 hHeld.2 hbw2)).mono ?_
        rintro e w' ⟨rfl, hb'⟩
        refine ⟨_, rfl, ?_⟩
        refine hK.out _ _ ⟨⟨q66 hb' hHeld.1.1, q66 hb' hHeld.1.2.1, q66 hb' hHeld.1.2.2.1, q66 hb' hHeld.1.2.2.2.1, q66 hb' hHeld.1.2.2.2.2⟩, q65 hb' hHeld.2⟩ (fun hHeld => ?_)
        clear hK K
        refine nz_ (some 37) ?_
        refine pu_ 3 (some 38) ?_
        refine pu_ 4 (some 39) ?_
        refine pu_ 5 (some 40) ?_
        refine tk_ 6 (some 41) hHeld ?_ (hy := by rintro w' ⟨⟨s0, s1, s2, s3, s4⟩, _⟩; go_simp; with_reducible rfl)
        refine pu_ 7 (some 42) ?_
        refine pu_ 8 (some 43) ?_
        refine tk_ 9 (some 44) hHeld ?_ (hy := by rintro w' ⟨⟨s0, s1, s2, s3, s4⟩, _⟩; go_simp; with_reducible rfl)
        refine oN_ 10 (some 45) (fun K hK => ?_)
        refine goes_ Try.func100 (by kernel_rfl) rfl #[.slice (some ad) i c1_0, .agg #[.string x.f0, .int .i64 x.f1]] (by rfl) rfl rfl (by (try simp only [List.map_toArray, List.map_cons, List.map_nil]); first | done | rfl) ?_
        with_reducible refine (hhas _ (q65 hHeld.2 hbw2)).mono ?_
        rintro e w' ⟨rfl, hb'⟩
        refine ⟨_, rfl, ?_⟩
        refine hK.out _ _ ⟨⟨q66 hb' hHeld.1.1, q66 hb' hHeld.1.2.1, q66 hb' hHeld.1.2.2.1, q66 hb' hHeld.1.2.2.2.1, q66 hb' hHeld.1.2.2.2.2⟩, q65 hb' hHeld.2⟩ (fun hHeld => ?_)
        clear hK K
        refine nz_ (some 45) ?_
        refine pu_ 11 (some 46) ?_
        refine dn_ ?_
        have hbx := q65 hHeld.2 hbw2
        have HS := Lib.hid hHeld
        have HSB := Lib.hid hbx
        clear hHeld hbx p0 p1 p2 hhas hon
        cases hq2 : hasOn (l1_0.take i) x.f0 x.f1 with
        | true =>
          rw [hq2] at HXO
          have he : sentryB l0_0 l0_1 l1_0 l1_1 = false := by
            have h1 : (List.range l1_0.length).all (onOk l0_1 l1_0) = false := List.all_eq_false.2 ⟨i, List.mem_range.2 (by have := HN.out; omega), by rw [HXO.out]; simp⟩
            simp [sentryB, h1]
          have HE := Lib.hid he
          clear he hq2
          go_wp2
          go_ret
          exact ⟨by rw [HE.out]; rfl, HSB.out⟩
        | false =>
          rw [hq2] at HXO
          clear hq2
          go_wp2
          go_roundg (n - (i + 1))
          case measure => omega
          case rel =>
            refine ⟨i + 1, by omega, by omega, by go_num, Lib.hid ⟨?_, fun j hj => ?_⟩⟩
            · have hb3 := q53 X.out.1 X.out.1.size hb2
              exact q53 hb3 hb3.size HS.out.2
            · by_cases e : j = i
              · subst e; rw [HXO.out]; rfl
              · exact X.out.2 j (by omega)
    · have hltz : ¬ (i : Int) < (n : Int) := by omega
      obtain rfl : i = n := by omega
      have hsz := H1.out.2.2.2.2.2
      have hm0 : wr.cell? ⟨w.heap.size, 0, none⟩ = some (.slice A0_0 l0_0.length c0_0) := (X.out.1.cell (p := ⟨_, _, none⟩) (by simp only; omega)).trans H1.out.2.1
      have hm1 : wr.cell? ⟨w.heap.size, 1, none⟩ = some (.slice A0_1 l0_1.length c0_1) := (X.out.1.cell (p := ⟨_, _, none⟩) (by simp only; omega)).trans H1.out.2.2.1
      have hs1 : wr.cell? ⟨w.heap.size + 1, 1, none⟩ = some (.slice A1_1 m c1_1) := (X.out.1.cell (p := ⟨_, _, none⟩) (by simp only; omega)).trans H1.out.2.2.2.2.1
      clear hsz
      have hany := anyCond A1_1 c1_1 l1_1 wr (Kd.C_below HR.out.2.2.2 HBW.out) (by have := HN.out; omega) 102 #[.pointer (some ⟨w.heap.size, 0, none⟩)] q24.eg (fun c => !ifB l0_0 c.f0 c.f1 c.f2) (fun W x cs hx hb hK => q24.closure w.heap.size A0_0 c0_0 l0_0 A0_1 c0_1 l0_1 W (q66 hb hm0) (q66 hb hm1) (Kd.C_below (Kd.C_below HR.out.1 HBW.out) hb) hc0_0 (Kd.C_below (Kd.C_below HR.out.2.1 HBW.out) hb) hc0_1 x cs hK)
      rw [← HN.out.2] at hany
      have he : sentryB l0_0 l0_1 l1_0 l1_1 = !(l1_1.any (fun c => !ifB l0_0 c.f0 c.f1 c.f2)) := by
        have h1 : (List.range l1_0.length).all (onOk l0_1 l1_0) = true := List.all_eq_true.2 fun j hj => X.out.2 j (by have := List.mem_range.1 hj; have := HN.out; omega)
        have h2 : decide (l1_0.length ≤ 3 ∧ l1_1.length ≤ 2 ∧ l1_0.length + l1_1.length ≠ 0) = true := decide_eq_true (by have := HN.out; omega)
        unfold sentryB
        rw [h1, h2]
        rfl
      have HE := Lib.hid he
      clear he hm0 hm1
      obtain ⟨T, hT⟩ : ∃ T, T = l1_1.any (fun c => !ifB l0_0 c.f0 c.f1 c.f2) := ⟨_, rfl⟩
      rw [← hT] at hany HE
      clear hT
      go_wp2_with (go_at_call 101; refine hany.mono ?_; rintro e w' ⟨rfl, hb'⟩)
      go_ret
      exact ⟨by rw [HE.out]; rfl, q65 hb' HBW.out⟩
def sentsB (fs : List ByteArray) (l : List (S41)) (ss : List (S45)) : Bool := decide (ss.length ≤ 3) && !ss.any (fun s => !sentryB fs l s.f0 s.f1)
def q15.f (l0_0 : List ByteArray) (l0_1 : List (S41)) (l1 : List (S45)) : Option Bool := some (sentsB l0_0 l0_1 l1)
theorem q15.eg : ∀ args w, (callFunc 95 args).run Try.prog w = .ok (.enter 95 args) w := enters_of Try.func95 (by kernel_rfl) rfl
set_option maxHeartbeats 4000000 in
theorem q15.closure (b : Nat) (A0_0 : Option Addr) (c0_0 : Nat) (l0_0 : List ByteArray) (A0_1 : Option Addr) (c0_1 : Nat) (l0_1 : List (S41)) (W : World) (hm0 : W.cell? ⟨b, 0, none⟩ = some (.slice A0_0 l0_0.length c0_0)) (hm1 : W.cell? ⟨b, 1, none⟩ = some (.slice A0_1 l0_1.length c0_1))
 (hr0_0 : Kd.C Kd.string W A0_0 l0_0.length l0_0) (hc0_0 : l0_0.length ≤ c0_0) (hr0_1 : Kd.C k41 W A0_1 l0_1.length l0_1) (hc0_1 : l0_1.length ≤ c0_1) (x : S45) (cs : List Value) (hK : Kd.K k45 W x cs) :
 Calls Try.prog 95 (#[.agg cs.toArray] ++ #[.pointer (some ⟨b, 0, none⟩)]) W fun e w' => e = .returned (.bool (!sentryB l0_0 l0_1 x.f0 x.f1)) ∧ Below W.heap.size W w' := by
 obtain ⟨A0, c0, A1, c1, rfl, g0, h0, g1, h1⟩ := k45_open hK
 have hb := World.block_lt_of_cell? W _ hm0
 simp only at hb
 have hW1 := q50 (Below.refl W.heap.size W) (.cells #[.slice A0 x.f0.length c0, .slice A1 x.f1.length c1] 45)
 have hif := q24.calls A0_0 c0_0 l0_0 A0_1 c0_1 l0_1 A0 c0 x.f0 A1 c1 x.f1 _ _ (Kd.C_below hr0_0 hW1) hc0_0 (Kd.C_below hr0_1 hW1) hc0_1 (Kd.C_below h0 hW1) g0 (Kd.C_below h1 hW1) g1 rfl
 have HW := Lib.hid hW1
 clear hr0_0 hr0_1 hW1 hK h0 h1
 obtain ⟨T, hT⟩ : ∃ T, T = sentryB l0_0 l0_1 x.f0 x.f1 := ⟨_, rfl⟩
 rw [← hT] at hif ⊢
 clear hT
 have hu36 := Try.underlying25
 have hu29 := Try.underlying45
 go_enter Try.func95, Try.ntmps95
 go_wp2_with (go_at_call 96; refine hif.mono ?_; rintro e w' ⟨rfl, hb'⟩)
 go_ret
 exact ⟨rfl, q65 hb' HW.out⟩
set_option maxHeartbeats 8000000 in
set_option maxRecDepth 100000 in
theorem q15.calls (A0_0 : Option Addr) (c0_0 : Nat) (l0_0 : List ByteArray) (A0_1 : Option Addr) (c0_1 : Nat) (l0_1 : List (S41)) (A1 : Option Addr) (c1 : Nat) (l1 : List (S45)) (r : Bool) (w : World) (hr0_0 : Kd.C Kd.string w A0_0 l0_0.length l0_0) (hc0_0 : l0_0.length ≤ c0_0) (hr0_1 : Kd.C k41 w A0_1 l0_1.length l0_1) (hc0_1 : l0_1.length ≤ c0_1) (hr1 : Kd.C k45 w A1 l1.length l1) (hc1 : l1.length ≤ c1) (h : q15.f l0_0 l0_1 l1 = some r) :
 Calls Try.prog 87 #[.agg #[.slice A0_0 l0_0.length c0_0, .slice A0_1 l0_1.length c0_1], .slice A1 l1.length c1] w fun e w' => e = .returned (.bool r) ∧ Below w.heap.size w w' := by
 obtain rfl := Option.some.inj h
 clear h
 have hu36 := Try.underlying25
 have W1 := q50 (Below.refl w.heap.size w) (.cells #[.slice A0_0 l0_0.length c0_0, .slice A0_1 l0_1.length c0_1] 25)
 by_cases hA : 3 < l1.length
 ·have e : sentsB l0_0 l0_1 l1 = false := by simp [sentsB]; omega
  rw [e]
  have hA' : (3 : Int) < l1.length := by omega
  have H := Lib.hid W1
  clear hr0_0 hr0_1 hr1 e W1
  go_enter Try.func87, Try.ntmps87
  go_wp2
  go_ret
  exact ⟨rfl, H.out⟩
 have hA' : ¬ (3 : Int) < l1.length := by omega
 have hm0 : (w.alloc (.cells #[.slice A0_0 l0_0.length c0_0, .slice A0_1 l0_1.length c0_1] 25)).cell? ⟨w.heap.size, 0, none⟩ = some (.slice A0_0 l0_0.length c0_0) := by simp
 have hm1 : (w.alloc (.cells #[.slice A0_0 l0_0.length c0_0, .slice A0_1 l0_1.length c0_1] 25)).cell? ⟨w.heap.size, 1, none⟩ = some (.slice A0_1 l0_1.length c0_1) := by simp
 have hany := anySentry A1 c1 l1 _ (Kd.C_below hr1 W1) hc1 95 #[.pointer (some ⟨w.heap.size, 0, none⟩)] q15.eg (fun s => !sentryB l0_0 l0_1 s.f0 s.f1) (fun W x cs hx hb hK => q15.closure w.heap.size A0_0 c0_0 l0_0 A0_1 c0_1 l0_1 W (q66 hb hm0) (q66 hb hm1) (Kd.C_below (Kd.C_below hr0_0 W1) hb) hc0_0 (Kd.C_below (Kd.C_below hr0_1 W1) hb) hc0_1 x cs hK)
 have he : sentsB l0_0 l0_1 l1 = !(l1.any (fun s => !sentryB l0_0 l0_1 s.f0 s.f1)) := by
  unfold sentsB
  rw [decide_eq_true (by omega), Bool.true_and]
 rw [he]
 have H := Lib.hid W1
 clear hr0_0 hr0_1 hr1 he W1 hm0 hm1
 obtain ⟨T, hT⟩ : ∃ T, T = l1.any (fun s => !sentryB l0_0 l0_1 s.f0 s.f1) := ⟨_, rfl⟩
 rw [← hT] at hany ⊢
 clear hT
 go_enter Try.func87, Try.ntmps87
 go_wp2_with (go_at_call 94; refine hany.mono ?_; rintro e w' ⟨rfl, hb'⟩)
 go_ret
 exact ⟨rfl, q65 hb' H.out⟩
def q30.j0 : Nat → Bool → ByteArray → Int → ByteArray → Bool → Int → List (S45) → List (S45) → Option (Bool)
 | 0, _, _, _, _, _, _, _, _ => none
 | k + 1, x29, x205000, x205001, x205002, x205003, x205004, x205005, x205006 => if x29 = true then (some false) else (if x205001 = 5 then (if x205001 = 4 then (if x205004 ≥ 1 then (if x205004 ≤ 100 then (if x205003 = true then (some (!true)) else (some (!(decide ((x205005.length : Int) > 0))))) else (some false)) else (some false)) else (if x205004 ≥ 1 then (if x205004 ≤ 100 then (if x205003 = true then (some (!true)) else (some (!(decide ((x205005.length : Int) > 0))))) else (some false)) else (some false))) else (if x205001 = 4 then (if x205004 ≥ 0 then (if x205004 ≤ 0 then (if x205003 = true then (some (!true)) else (some (!(decide ((x205005.length : Int) > 0))))) else (some false)) else (some false)) else (if x205004 ≥ 0 then (if x205004 ≤ 0 then (some (!false)) else (some false)) else (some false))))
def q30.f (k : Nat) (l0_0 : List ByteArray) (l0_1 : List (S41)) (a1_0 : ByteArray) (a1_1 : Int) (a1_2 : ByteArray) (a1_3 : Bool) (a1_4 : Int) (l1_5 : List (S45)) (l1_6 : List (S45)) : Option (Bool) := if a1_1 < 1 then (q30.j0 k true a1_0 a1_1 a1_2 a1_3 a1_4 l1_5 l1_6) else (if a1_1 > 5 then (q30.j0 k true a1_0 a1_1 a1_2 a1_3 a1_4 l1_5 l1_6) else ((q15.f l0_0 l0_1 l1_5).bind fun t205 => (if t205 = true then ((q15.f l0_0 l0_1 l1_6).bind fun t206 => (q30.j0 k (!t206) a1_0 a1_1 a1_2 a1_3 a1_4 l1_5 l1_6)) else (q30.j0 k true a1_0 a1_1 a1_2 a1_3 a1_4 l1_5 l1_6))))
theorem q30.mono_l : ∀ k, (∀ y0 y1 y2 y3 y4 y5 y6 y7, LeO (q30.j0 k y0 y1 y2 y3 y4 y5 y6 y7) (q30.j0 (k + 1) y0 y1 y2 y3 y4 y5 y6 y7))
 | 0 => fun _ _ _ _ _ _ _ _ r h => by simp [q30.j0] at h
 | k + 1 => by
  have ih0 := q30.mono_l k
  ·intro y0 y1 y2 y3 y4 y5 y6 y7
   unfold q30.j0
   repeat' first
   | (with_reducible exact ih0 _ _ _ _ _ _ _ _)
   | (with_reducible exact LeO.refl _)
   | (with_reducible exact LeO.none _)
   | (with_reducible refine LeO.ite ?_ ?_)
   | (with_reducible refine LeO.bind ?_ (fun _ => ?_))
   | exact ih0 _ _ _ _ _ _ _ _
   | exact LeO.none _
   | refine LeO.ite ?_ ?_
   | refine LeO.bind ?_ (fun _ => ?_)
theorem q30.mono : ∀ a0 a1 a2 a3 a4 a5 a6 a7 a8 k, LeO (q30.f k a0 a1 a2 a3 a4 a5 a6 a7 a8) (q30.f (k + 1) a0 a1 a2 a3 a4 a5 a6 a7 a8) := by
 intro a0 a1 a2 a3 a4 a5 a6 a7 a8 k
 have ih0 := q30.mono_l k
 unfold q30.f
 repeat' first
  | (with_reducible exact ih0 _ _ _ _ _ _ _ _)
  | (with_reducible exact LeO.refl _)
  | (with_reducible exact LeO.none _)
  | (with_reducible refine LeO.ite ?_ ?_)
  | (with_reducible refine LeO.bind ?_ (fun _ => ?_))
  | exact ih0 _ _ _ _ _ _ _ _
  | exact LeO.none _
  | refine LeO.ite ?_ ?_
  | refine LeO.bind ?_ (fun _ => ?_)
set_option maxHeartbeats 8000000 in
set_option maxRecDepth 100000 in
theorem q30.calls (k : Nat) (A0_0 : Option Addr) (c0_0 : Nat) (l0_0 : List ByteArray) (A0_1 : Option Addr) (c0_1 : Nat) (l0_1 : List (S41)) (a1_0 : ByteArray) (a1_1 : Int) (a1_2 : ByteArray) (a1_3 : Bool) (a1_4 : Int) (A1_5 : Option Addr) (c1_5 : Nat) (l1_5 : List (S45)) (A1_6 : Option Addr) (c1_6 : Nat) (l1_6 : List (S45)) (r : Bool) (w : World) (hr0_0 : Kd.C Kd.string w A0_0 l0_0.length l0_0) (hc0_0 : l0_0.length ≤ c0_0) (hr0_1 : Kd.C k41 w A0_1 l0_1.length l0_1) (hc0_1 : l0_1.length ≤ c0_1) (hr1_5 : Kd.C k45 w A1_5 l1_5.length l1_5) (hc1_5 : l1_5.length ≤ c1_5) (hr1_6 : Kd.C k45 w A1_6 l1_6.length l1_6) (hc1_6 : l1_6.length ≤ c1_6) (h : q30.f k l0_0 l0_1 a1_0 a1_1 a1_2 a1_3 a1_4 l1_5 l1_6 = some r) :
 Calls Try.prog 61 #[.agg #[.slice A0_0 l0_0.length c0_0, .slice A0_1 l0_1.length c0_1], .agg #[.string a1_0, .int .i64 a1_1, .string a1_2, .bool a1_3, .int .i64 a1_4, .slice A1_5 l1_5.length c1_5, .slice A1_6 l1_6.length c1_6]] w fun e w' => e = .returned (.bool r) ∧ Below w.heap.size w w' := by
 have hu25 := Try.underlying25
 have hu41 := Try.underlying41
 have HR0_0 := q49.mk hr0_0
 have HC0_0 := q49.mk hc0_0
 clear hr0_0 hc0_0
 have HR0_1 := q49.mk hr0_1
 have HC0_1 := q49.mk hc0_1
 clear hr0_1 hc0_1
 have HR1_5 := q49.mk hr1_5
 have HC1_5 := q49.mk hc1_5
 clear hr1_5 hc1_5
 have HR1_6 := q49.mk hr1_6
 have HC1_6 := q49.mk hc1_6
 clear hr1_6 hc1_6
 have HB := q49.mk (Below.refl w.heap.size w)
 unfold q30.f at h
 have H := h
 clear h
 have HC3 := q49.mk H
 clear H
 go_enter Try.func61, Try.ntmps61
 go_upto_region 1 with (first | ((with_reducible refine q64 (N := 2) rfl ?_); (try (refine gate_guard (by rfl) ?_; dsimp only)); refine bx_ 2 #[.slice A0_0 l0_0.length c0_0, .slice A0_1 l0_1.length c0_1] 25 ?_; intro gb203 hg w4 hbox hb; have BK203 := q49.mk (hbox); have GW203 := zz_ (w := w) hg; have GE203 := zz_ (w := w) hg; replace HB := hb_ HB hb;  clear hb hbox hg) | ((with_reducible refine q64 (N := 3) rfl ?_); (try (refine gate_guard (by rfl) ?_; dsimp only)); refine bx_ 3 #[.string a1_0, .int .i64 a1_1, .string a1_2, .bool a1_3, .int .i64 a1_4, .slice A1_5 l1_5.length c1_5, .slice A1_6 l1_6.length c1_6] 41 ?_; intro gb204 hg w5 hbox hb; have BK204 := q49.mk (hbox); have GW204 := zz_ (w := w) hg; have GE204 := zz_ (w := w) hg; replace HB := hb_ HB hb; have NB203_204 := ne1_ hg BK203; have NB204_203 := ne2_ hg BK203; replace BK203 := bb_ BK203 hb;  clear hb hbox hg))
 (try simp only [Act.put, List.setIfInBounds_toArray, List.set_cons_zero, List.set_cons_succ])
 go_cut [29] (fun v29 wc => ∃ (kq : Nat) (x29_2 : Bool), v29 = .bool x29_2 ∧ q49 (q30.j0 kq x29_2 a1_0 a1_1 a1_2 a1_3 a1_4 l1_5 l1_6 = some r) ∧ q49 (kq ≤ k) ∧ q49 (wc.heap[gb203]? = some (.cells #[(.slice A0_0 l0_0.length c0_0), (.slice A0_1 l0_1.length c0_1)] 25 (0, 0))) ∧ q49 (wc.heap[gb204]? = some (.cells #[.string a1_0, .int .i64 a1_1, .string a1_2, .bool a1_3, .int .i64 a1_4, (.slice A1_5 l1_5.length c1_5), (.slice A1_6 l1_6.length c1_6)] 41 (0, 0))) ∧ q49 (Below w.heap.size w wc))
 case first =>
  have H := HC3.out
  clear HC3
  by_cases c6 : a1_1 < 1
  ·rw [if_pos c6] at H
   have c6b0 := decide_eq_true c6
   clear c6
   (first | rw [c6b0] | (simp only [i64_w, i32_w]; rw [c6b0]) | skip)
   have H' := q49.mk H
   clear H
   have hnb7 := NB204_203.out
   have hnc7 := NB203_204.out
   obtain ⟨hcz8_0, hcz8_1, hcz8_2, hcz8_3, hcz8_4, hcz8_5, hcz8_6, hfz8_0, hfz8_1, hfz8_2, hfz8_3, hfz8_4, hfz8_5, hfz8_6⟩ := bs7_ BK204
   go_wp2
   go_meet
   case rel => exact ⟨_, (true), rf_, H', ⟨by first | omega | exact Nat.le_refl _⟩, ⟨gx_ BK203⟩, ⟨gx_ BK204⟩, ⟨hf_⟩⟩
  ·rw [if_neg c6] at H
   have c6b0 := decide_eq_false c6
   clear c6
   (first | rw [c6b0] | (simp only [i64_w, i32_w]; rw [c6b0]) | skip)
   by_cases c9 : a1_1 > 5
   ·rw [if_pos c9] at H
    replace c9 := decide_eq_true c9
    have H' := q49.mk H
    clear H
    have hnb10 := NB204_203.out
    have hnc10 := NB203_204.out
    obtain ⟨hcz11_0, hcz11_1, hcz11_2, hcz11_3, hcz11_4, hcz11_5, hcz11_6, hfz11_0, hfz11_1, hfz11_2, hfz11_3, hfz11_4, hfz11_5, hfz11_6⟩ := bs7_ BK204
    go_wp2
    go_meet
    case rel => exact ⟨_, (true), rf_, H', ⟨by first | omega | exact Nat.le_refl _⟩, ⟨gx_ BK203⟩, ⟨gx_ BK204⟩, ⟨hf_⟩⟩
   ·rw [if_neg c9] at H
    replace c9 := decide_eq_false c9
    replace H := Option.bind_eq_some_iff.mp H
    obtain ⟨t205, A120, H⟩ := H
    have A12 := q49.mk A120
    clear A120
    by_cases c13 : t205 = true
    ·subst c13
     have H1 : ((q15.f l0_0 l0_1 l1_6).bind fun t206 => (q30.j0 k (!t206) a1_0 a1_1 a1_2 a1_3 a1_4 l1_5 l1_6)) = some r := by rw [if_pos rfl] at H; exact H
     clear H
     have H := H1
     clear H1
     replace H := Option.bind_eq_some_iff.mp H
     obtain ⟨t206, A140, H⟩ := H
     have A14 := q49.mk A140
     clear A140
     have H' := q49.mk H
     clear H
     have hnb15 := NB204_203.out
     have hnc15 := NB203_204.out
     obtain ⟨hcz16_0, hcz16_1, hcz16_2, hcz16_3, hcz16_4, hcz16_5, hcz16_6, hfz16_0, hfz16_1, hfz16_2, hfz16_3, hfz16_4, hfz16_5, hfz16_6⟩ := bs7_ BK204
     obtain ⟨hcz17_0, hcz17_1, hfz17_0, hfz17_1⟩ := bs2_ BK203
     go_wp2_with (first | (go_at_call 87; (with_reducible refine (q15.calls _ _ l0_0 _ _ l0_1 _ _ l1_5 true _ ?side1 ?side2 ?side3 ?side4 ?side5 ?side6 A12.out).mono ?_); (case side1 => exact kc_ HR0_0 HB); (case side2 => exact HC0_0.out); (case side3 => exact kc_ HR0_1 HB); (case side4 => exact HC0_1.out); (case side5 => exact kc_ HR1_5 HB); (case side6 => exact HC1_5.out); rintro e w18 ⟨rfl, hb⟩; replace BK203 := bb_ BK203 hb; replace BK204 := bb_ BK204 hb; replace HB := hb_ HB hb;  (try clear hb); obtain ⟨hcz19_0, hcz19_1, hfz19_0, hfz19_1⟩ := bs2_ BK203; obtain ⟨hcz20_0, hcz20_1, hcz20_2, hcz20_3, hcz20_4, hcz20_5, hcz20_6, hfz20_0, hfz20_1, hfz20_2, hfz20_3, hfz20_4, hfz20_5, hfz20_6⟩ := bs7_ BK204) | (go_at_call 87; (with_reducible refine (q15.calls _ _ l0_0 _ _ l0_1 _ _ l1_6 t206 _ ?side1 ?side2 ?side3 ?side4 ?side5 ?side6 A14.out).mono ?_); (case side1 => exact kc_ HR0_0 HB); (case side2 => exact HC0_0.out); (case side3 => exact kc_ HR0_1 HB); (case side4 => exact HC0_1.out); (case side5 => exact kc_ HR1_6 HB); (case side6 => exact HC1_6.out); rintro e w21 ⟨rfl, hb⟩; replace BK203 := bb_ BK203 hb; replace BK204 := bb_ BK204 hb; replace HB := hb_ HB hb;  (try clear hb)))
     go_meet
     case rel => exact ⟨_, (!t206), rf_, H', ⟨by first | omega | exact Nat.le_refl _⟩, ⟨gx_ BK203⟩, ⟨gx_ BK204⟩, ⟨hf_⟩⟩
    ·replace c13 := Bool.eq_false_iff.mpr c13
     subst c13
     have H1 : (q30.j0 k true a1_0 a1_1 a1_2 a1_3 a1_4 l1_5 l1_6) = some r := by rw [if_neg (show ¬ (false = true) by decide)] at H; exact H
     clear H
     have H := H1
     clear H1
     have H' := q49.mk H
     clear H
     have hnb22 := NB204_203.out
     have hnc22 := NB203_204.out
     obtain ⟨hcz23_0, hcz23_1, hcz23_2, hcz23_3, hcz23_4, hcz23_5, hcz23_6, hfz23_0, hfz23_1, hfz23_2, hfz23_3, hfz23_4, hfz23_5, hfz23_6⟩ := bs7_ BK204
     obtain ⟨hcz24_0, hcz24_1, hfz24_0, hfz24_1⟩ := bs2_ BK203
     go_wp2_with (first | (go_at_call 87; (with_reducible refine (q15.calls _ _ l0_0 _ _ l0_1 _ _ l1_5 false _ ?side1 ?side2 ?side3 ?side4 ?side5 ?side6 A12.out).mono ?_); (case side1 => exact kc_ HR0_0 HB); (case side2 => exact HC0_0.out); (case side3 => exact kc_ HR0_1 HB); (case side4 => exact HC0_1.out); (case side5 => exact kc_ HR1_5 HB); (case side6 => exact HC1_5.out); rintro e w25 ⟨rfl, hb⟩; replace BK203 := bb_ BK203 hb; replace BK204 := bb_ BK204 hb; replace HB := hb_ HB hb;  (try clear hb)))
     go_meet
     case rel => exact ⟨_, (true), rf_, H', ⟨by first | omega | exact Nat.le_refl _⟩, ⟨gx_ BK203⟩, ⟨gx_ BK204⟩, ⟨hf_⟩⟩
 case rest =>
  clear HC3
  obtain ⟨kq, x29_2, rfl, HA, HJ2, BK203, BK204, HB⟩ := hcut
  cases kq with
  | zero => exact absurd HA.out (by simp [q30.j0])
  | succ kj2 =>
   have H := HA.out
   clear HA
   simp only [q30.j0] at H
   by_cases c26 : x29_2 = true
   ·subst c26
    have H1 : (some false) = some r := by rw [if_pos rfl] at H; exact H
    clear H
    have H := H1
    clear H1
    obtain rfl := Option.some.inj H
    go_wp2
    go_ret
    exact ⟨er_, hf_⟩
   ·replace c26 := Bool.eq_false_iff.mpr c26
    subst c26
    have H1 : (if a1_1 = 5 then (if a1_1 = 4 then (if a1_4 ≥ 1 then (if a1_4 ≤ 100 then (if a1_3 = true then (some (!true)) else (some (!(decide ((l1_5.length : Int) > 0))))) else (some false)) else (some false)) else (if a1_4 ≥ 1 then (if a1_4 ≤ 100 then (if a1_3 = true then (some (!true)) else (some (!(decide ((l1_5.length : Int) > 0))))) else (some false)) else (some false))) else (if a1_1 = 4 then (if a1_4 ≥ 0 then (if a1_4 ≤ 0 then (if a1_3 = true then (some (!true)) else (some (!(decide ((l1_5.length : Int) > 0))))) else (some false)) else (some false)) else (if a1_4 ≥ 0 then (if a1_4 ≤ 0 then (some (!false)) else (some false)) else (some false)))) = some r := by rw [if_neg (show ¬ (false = true) by decide)] at H; exact H
    clear H
    have H := H1
    clear H1
    by_cases c27 : a1_1 = 5
    ·rw [if_pos c27] at H
     have c27b0 : (a1_1 == 5) = true := beq_iff_eq.mpr c27
     have c27b1 : (a1_1 != 5) = false := bne_eq_false_iff_eq.mpr c27
     clear c27
     by_cases c28 : a1_1 = 4
     ·rw [if_pos c28] at H
      have c28b0 : (a1_1 == 4) = true := beq_iff_eq.mpr c28
      have c28b1 : (a1_1 != 4) = false := bne_eq_false_iff_eq.mpr c28
      clear c28
      by_cases c29 : a1_4 ≥ 1
      ·rw [if_pos c29] at H
       replace c29 := decide_eq_true c29
       by_cases c30 : a1_4 ≤ 100
       ·rw [if_pos c30] at H
        replace c30 := decide_eq_true c30
        by_cases c31 : a1_3 = true
        ·subst c31
         have H1 : (some (!true)) = some r := by rw [if_pos rfl] at H; exact H
         clear H
         have H := H1
         clear H1
         obtain rfl := Option.some.inj H
         have hnb32 := NB204_203.out
         have hnc32 := NB203_204.out
         obtain ⟨hcz33_0, hcz33_1, hcz33_2, hcz33_3, hcz33_4, hcz33_5, hcz33_6, hfz33_0, hfz33_1, hfz33_2, hfz33_3, hfz33_4, hfz33_5, hfz33_6⟩ := bs7_ BK204
         go_wp2
         go_ret
         exact ⟨er_, hf_⟩
        ·replace c31 := Bool.eq_false_iff.mpr c31
         subst c31
         have H1 : (some (!(decide ((l1_5.length : Int) > 0)))) = some r := by rw [if_neg (show ¬ (false = true) by decide)] at H; exact H
         clear H
         have H := H1
         clear H1
         obtain rfl := Option.some.inj H
         have hnb34 := NB204_203.out
         have hnc34 := NB203_204.out
         obtain ⟨hcz35_0, hcz35_1, hcz35_2, hcz35_3, hcz35_4, hcz35_5, hcz35_6, hfz35_0, hfz35_1, hfz35_2, hfz35_3, hfz35_4, hfz35_5, hfz35_6⟩ := bs7_ BK204
         go_wp2
         go_ret
         exact ⟨er_, hf_⟩
       ·rw [if_neg c30] at H
        replace c30 := decide_eq_false c30
        obtain rfl := Option.some.inj H
        have hnb36 := NB204_203.out
        have hnc36 := NB203_204.out
        obtain ⟨hcz37_0, hcz37_1, hcz37_2, hcz37_3, hcz37_4, hcz37_5, hcz37_6, hfz37_0, hfz37_1, hfz37_2, hfz37_3, hfz37_4, hfz37_5, hfz37_6⟩ := bs7_ BK204
        go_wp2
        go_ret
        exact ⟨er_, hf_⟩
      ·rw [if_neg c29] at H
       replace c29 := decide_eq_false c29
       obtain rfl := Option.some.inj H
       have hnb38 := NB204_203.out
       have hnc38 := NB203_204.out
       obtain ⟨hcz39_0, hcz39_1, hcz39_2, hcz39_3, hcz39_4, hcz39_5, hcz39_6, hfz39_0, hfz39_1, hfz39_2, hfz39_3, hfz39_4, hfz39_5, hfz39_6⟩ := bs7_ BK204
       go_wp2
       go_ret
       exact ⟨er_, hf_⟩
     ·rw [if_neg c28] at H
      have c28b0 : (a1_1 == 4) = false := beq_eq_false_iff_ne.mpr c28
      have c28b1 : (a1_1 != 4) = true := bne_iff_ne.mpr c28
      by_cases c40 : a1_4 ≥ 1
      ·rw [if_pos c40] at H
       replace c40 := decide_eq_true c40
       by_cases c41 : a1_4 ≤ 100
       ·rw [if_pos c41] at H
        replace c41 := decide_eq_true c41
        by_cases c42 : a1_3 = true
        ·subst c42
         have H1 : (some (!true)) = some r := by rw [if_pos rfl] at H; exact H
         clear H
         have H := H1
         clear H1
         obtain rfl := Option.some.inj H
         have hnb43 := NB204_203.out
         have hnc43 := NB203_204.out
         obtain ⟨hcz44_0, hcz44_1, hcz44_2, hcz44_3, hcz44_4, hcz44_5, hcz44_6, hfz44_0, hfz44_1, hfz44_2, hfz44_3, hfz44_4, hfz44_5, hfz44_6⟩ := bs7_ BK204
         go_wp2
         go_ret
         exact ⟨er_, hf_⟩
        ·replace c42 := Bool.eq_false_iff.mpr c42
         subst c42
         have H1 : (some (!(decide ((l1_5.length : Int) > 0)))) = some r := by rw [if_neg (show ¬ (false = true) by decide)] at H; exact H
         clear H
         have H := H1
         clear H1
         obtain rfl := Option.some.inj H
         have hnb45 := NB204_203.out
         have hnc45 := NB203_204.out
         obtain ⟨hcz46_0, hcz46_1, hcz46_2, hcz46_3, hcz46_4, hcz46_5, hcz46_6, hfz46_0, hfz46_1, hfz46_2, hfz46_3, hfz46_4, hfz46_5, hfz46_6⟩ := bs7_ BK204
         go_wp2
         go_ret
         exact ⟨er_, hf_⟩
       ·rw [if_neg c41] at H
        replace c41 := decide_eq_false c41
        obtain rfl := Option.some.inj H
        have hnb47 := NB204_203.out
        have hnc47 := NB203_204.out
        obtain ⟨hcz48_0, hcz48_1, hcz48_2, hcz48_3, hcz48_4, hcz48_5, hcz48_6, hfz48_0, hfz48_1, hfz48_2, hfz48_3, hfz48_4, hfz48_5, hfz48_6⟩ := bs7_ BK204
        go_wp2
        go_ret
        exact ⟨er_, hf_⟩
      ·rw [if_neg c40] at H
       replace c40 := decide_eq_false c40
       obtain rfl := Option.some.inj H
       have hnb49 := NB204_203.out
       have hnc49 := NB203_204.out
       obtain ⟨hcz50_0, hcz50_1, hcz50_2, hcz50_3, hcz50_4, hcz50_5, hcz50_6, hfz50_0, hfz50_1, hfz50_2, hfz50_3, hfz50_4, hfz50_5, hfz50_6⟩ := bs7_ BK204
       go_wp2
       go_ret
       exact ⟨er_, hf_⟩
    ·rw [if_neg c27] at H
     have c27b0 : (a1_1 == 5) = false := beq_eq_false_iff_ne.mpr c27
     have c27b1 : (a1_1 != 5) = true := bne_iff_ne.mpr c27
     by_cases c51 : a1_1 = 4
     ·rw [if_pos c51] at H
      have c51b0 : (a1_1 == 4) = true := beq_iff_eq.mpr c51
      have c51b1 : (a1_1 != 4) = false := bne_eq_false_iff_eq.mpr c51
      clear c51
      by_cases c52 : a1_4 ≥ 0
      ·rw [if_pos c52] at H
       replace c52 := decide_eq_true c52
       by_cases c53 : a1_4 ≤ 0
       ·rw [if_pos c53] at H
        replace c53 := decide_eq_true c53
        by_cases c54 : a1_3 = true
        ·subst c54
         have H1 : (some (!true)) = some r := by rw [if_pos rfl] at H; exact H
         clear H
         have H := H1
         clear H1
         obtain rfl := Option.some.inj H
         have hnb55 := NB204_203.out
         have hnc55 := NB203_204.out
         obtain ⟨hcz56_0, hcz56_1, hcz56_2, hcz56_3, hcz56_4, hcz56_5, hcz56_6, hfz56_0, hfz56_1, hfz56_2, hfz56_3, hfz56_4, hfz56_5, hfz56_6⟩ := bs7_ BK204
         go_wp2
         go_ret
         exact ⟨er_, hf_⟩
        ·replace c54 := Bool.eq_false_iff.mpr c54
         subst c54
         have H1 : (some (!(decide ((l1_5.length : Int) > 0)))) = some r := by rw [if_neg (show ¬ (false = true) by decide)] at H; exact H
         clear H
         have H := H1
         clear H1
         obtain rfl := Option.some.inj H
         have hnb57 := NB204_203.out
         have hnc57 := NB203_204.out
         obtain ⟨hcz58_0, hcz58_1, hcz58_2, hcz58_3, hcz58_4, hcz58_5, hcz58_6, hfz58_0, hfz58_1, hfz58_2, hfz58_3, hfz58_4, hfz58_5, hfz58_6⟩ := bs7_ BK204
         go_wp2
         go_ret
         exact ⟨er_, hf_⟩
       ·rw [if_neg c53] at H
        replace c53 := decide_eq_false c53
        obtain rfl := Option.some.inj H
        have hnb59 := NB204_203.out
        have hnc59 := NB203_204.out
        obtain ⟨hcz60_0, hcz60_1, hcz60_2, hcz60_3, hcz60_4, hcz60_5, hcz60_6, hfz60_0, hfz60_1, hfz60_2, hfz60_3, hfz60_4, hfz60_5, hfz60_6⟩ := bs7_ BK204
        go_wp2
        go_ret
        exact ⟨er_, hf_⟩
      ·rw [if_neg c52] at H
       replace c52 := decide_eq_false c52
       obtain rfl := Option.some.inj H
       have hnb61 := NB204_203.out
       have hnc61 := NB203_204.out
       obtain ⟨hcz62_0, hcz62_1, hcz62_2, hcz62_3, hcz62_4, hcz62_5, hcz62_6, hfz62_0, hfz62_1, hfz62_2, hfz62_3, hfz62_4, hfz62_5, hfz62_6⟩ := bs7_ BK204
       go_wp2
       go_ret
       exact ⟨er_, hf_⟩
     ·rw [if_neg c51] at H
      have c51b0 : (a1_1 == 4) = false := beq_eq_false_iff_ne.mpr c51
      have c51b1 : (a1_1 != 4) = true := bne_iff_ne.mpr c51
      by_cases c63 : a1_4 ≥ 0
      ·rw [if_pos c63] at H
       replace c63 := decide_eq_true c63
       by_cases c64 : a1_4 ≤ 0
       ·rw [if_pos c64] at H
        replace c64 := decide_eq_true c64
        obtain rfl := Option.some.inj H
        have hnb65 := NB204_203.out
        have hnc65 := NB203_204.out
        obtain ⟨hcz66_0, hcz66_1, hcz66_2, hcz66_3, hcz66_4, hcz66_5, hcz66_6, hfz66_0, hfz66_1, hfz66_2, hfz66_3, hfz66_4, hfz66_5, hfz66_6⟩ := bs7_ BK204
        go_wp2
        go_ret
        exact ⟨er_, hf_⟩
       ·rw [if_neg c64] at H
        replace c64 := decide_eq_false c64
        obtain rfl := Option.some.inj H
        have hnb67 := NB204_203.out
        have hnc67 := NB203_204.out
        obtain ⟨hcz68_0, hcz68_1, hcz68_2, hcz68_3, hcz68_4, hcz68_5, hcz68_6, hfz68_0, hfz68_1, hfz68_2, hfz68_3, hfz68_4, hfz68_5, hfz68_6⟩ := bs7_ BK204
        go_wp2
        go_ret
        exact ⟨er_, hf_⟩
      ·rw [if_neg c63] at H
       replace c63 := decide_eq_false c63
       obtain rfl := Option.some.inj H
       have hnb69 := NB204_203.out
       have hnc69 := NB203_204.out
       obtain ⟨hcz70_0, hcz70_1, hcz70_2, hcz70_3, hcz70_4, hcz70_5, hcz70_6, hfz70_0, hfz70_1, hfz70_2, hfz70_3, hfz70_4, hfz70_5, hfz70_6⟩ := bs7_ BK204
       go_wp2
       go_ret
       exact ⟨er_, hf_⟩
def q31.f (a0_0 : ByteArray) (a0_1 : Int) (a0_2 : ByteArray) (a0_3 : Bool) (a0_4 : Int) (l0_5 : List (S45)) (l0_6 : List (S45)) : Option (Bool) := if a0_1 = 1 then (if a0_2.toList = ([] : List UInt8) then (if a0_3 = true then (some false) else (some ((wrap64 ((l0_5.length : Int) + (l0_6.length : Int))) == 0))) else (some false)) else (some false)
set_option maxHeartbeats 8000000 in
set_option maxRecDepth 100000 in
theorem q31.calls (a0_0 : ByteArray) (a0_1 : Int) (a0_2 : ByteArray) (a0_3 : Bool) (a0_4 : Int) (A0_5 : Option Addr) (c0_5 : Nat) (l0_5 : List (S45)) (A0_6 : Option Addr) (c0_6 : Nat) (l0_6 : List (S45)) (r : Bool) (w : World) (hr0_5 : Kd.C k45 w A0_5 l0_5.length l0_5) (hc0_5 : l0_5.length ≤ c0_5) (hr0_6 : Kd.C k45 w A0_6 l0_6.length l0_6) (hc0_6 : l0_6.length ≤ c0_6) (h : q31.f a0_0 a0_1 a0_2 a0_3 a0_4 l0_5 l0_6 = some r) :
 Calls Try.prog 57 #[.agg #[.string a0_0, .int .i64 a0_1, .string a0_2, .bool a0_3, .int .i64 a0_4, .slice A0_5 l0_5.length c0_5, .slice A0_6 l0_6.length c0_6]] w fun e w' => e = .returned (.bool r) ∧ Below w.heap.size w w' := by
 have hu41 := Try.underlying41
 have HR0_5 := q49.mk hr0_5
 have HC0_5 := q49.mk hc0_5
 clear hr0_5 hc0_5
 have HR0_6 := q49.mk hr0_6
 have HC0_6 := q49.mk hc0_6
 clear hr0_6 hc0_6
 have HB := q49.mk (Below.refl w.heap.size w)
 unfold q31.f at h
 have H := h
 clear h
 by_cases c2 : a0_1 = 1
 ·rw [if_pos c2] at H
  have c2b0 : (a0_1 == 1) = true := beq_iff_eq.mpr c2
  have c2b1 : (a0_1 != 1) = false := bne_eq_false_iff_eq.mpr c2
  clear c2
  by_cases c3 : a0_2.toList = ([] : List UInt8)
  ·rw [if_pos c3] at H
   have c3b0 : (a0_2.toList == ([] : List UInt8)) = true := beq_iff_eq.mpr c3
   have c3b1 : (a0_2.toList != ([] : List UInt8)) = false := bne_eq_false_iff_eq.mpr c3
   clear c3
   by_cases c4 : a0_3 = true
   ·subst c4
    have H1 : (some false) = some r := by rw [if_pos rfl] at H; exact H
    clear H
    have H := H1
    clear H1
    obtain rfl := Option.some.inj H
    go_enter Try.func57, Try.ntmps57
    go_wp2_with (first | ((with_reducible refine q64 (N := 1) rfl ?_); (try (refine gate_guard (by rfl) ?_; dsimp only)); refine bx_ 1 #[.string a0_0, .int .i64 a0_1, .string a0_2, .bool true, .int .i64 a0_4, .slice A0_5 l0_5.length c0_5, .slice A0_6 l0_6.length c0_6] 41 ?_; intro gb212 hg w5 hbox hb; have BK212 := q49.mk (hbox); have GW212 := zz_ (w := w) hg; have GE212 := zz_ (w := w) hg; replace HB := hb_ HB hb;  clear hb hbox hg; obtain ⟨hcz6_0, hcz6_1, hcz6_2, hcz6_3, hcz6_4, hcz6_5, hcz6_6, hfz6_0, hfz6_1, hfz6_2, hfz6_3, hfz6_4, hfz6_5, hfz6_6⟩ := bs7_ BK212))
    go_ret
    exact ⟨er_, hf_⟩
   ·replace c4 := Bool.eq_false_iff.mpr c4
    subst c4
    have H1 : (some ((wrap64 ((l0_5.length : Int) + (l0_6.length : Int))) == 0)) = some r := by rw [if_neg (show ¬ (false = true) by decide)] at H; exact H
    clear H
    have H := H1
    clear H1
    obtain rfl := Option.some.inj H
    go_enter Try.func57, Try.ntmps57
    go_wp2_with (first | ((with_reducible refine q64 (N := 1) rfl ?_); (try (refine gate_guard (by rfl) ?_; dsimp only)); refine bx_ 1 #[.string a0_0, .int .i64 a0_1, .string a0_2, .bool false, .int .i64 a0_4, .slice A0_5 l0_5.length c0_5, .slice A0_6 l0_6.length c0_6] 41 ?_; intro gb212 hg w7 hbox hb; have BK212 := q49.mk (hbox); have GW212 := zz_ (w := w) hg; have GE212 := zz_ (w := w) hg; replace HB := hb_ HB hb;  clear hb hbox hg; obtain ⟨hcz8_0, hcz8_1, hcz8_2, hcz8_3, hcz8_4, hcz8_5, hcz8_6, hfz8_0, hfz8_1, hfz8_2, hfz8_3, hfz8_4, hfz8_5, hfz8_6⟩ := bs7_ BK212))
    go_ret
    exact ⟨er_, hf_⟩
  ·rw [if_neg c3] at H
   have c3b0 : (a0_2.toList == ([] : List UInt8)) = false := beq_eq_false_iff_ne.mpr c3
   have c3b1 : (a0_2.toList != ([] : List UInt8)) = true := bne_iff_ne.mpr c3
   obtain rfl := Option.some.inj H
   go_enter Try.func57, Try.ntmps57
   go_wp2_with (first | ((with_reducible refine q64 (N := 1) rfl ?_); (try (refine gate_guard (by rfl) ?_; dsimp only)); refine bx_ 1 #[.string a0_0, .int .i64 a0_1, .string a0_2, .bool a0_3, .int .i64 a0_4, .slice A0_5 l0_5.length c0_5, .slice A0_6 l0_6.length c0_6] 41 ?_; intro gb212 hg w9 hbox hb; have BK212 := q49.mk (hbox); have GW212 := zz_ (w := w) hg; have GE212 := zz_ (w := w) hg; replace HB := hb_ HB hb;  clear hb hbox hg; obtain ⟨hcz10_0, hcz10_1, hcz10_2, hcz10_3, hcz10_4, hcz10_5, hcz10_6, hfz10_0, hfz10_1, hfz10_2, hfz10_3, hfz10_4, hfz10_5, hfz10_6⟩ := bs7_ BK212))
   go_ret
   exact ⟨er_, hf_⟩
 ·rw [if_neg c2] at H
  have c2b0 : (a0_1 == 1) = false := beq_eq_false_iff_ne.mpr c2
  have c2b1 : (a0_1 != 1) = true := bne_iff_ne.mpr c2
  obtain rfl := Option.some.inj H
  go_enter Try.func57, Try.ntmps57
  go_wp2_with (first | ((with_reducible refine q64 (N := 1) rfl ?_); (try (refine gate_guard (by rfl) ?_; dsimp only)); refine bx_ 1 #[.string a0_0, .int .i64 a0_1, .string a0_2, .bool a0_3, .int .i64 a0_4, .slice A0_5 l0_5.length c0_5, .slice A0_6 l0_6.length c0_6] 41 ?_; intro gb212 hg w11 hbox hb; have BK212 := q49.mk (hbox); have GW212 := zz_ (w := w) hg; have GE212 := zz_ (w := w) hg; replace HB := hb_ HB hb;  clear hb hbox hg; obtain ⟨hcz12_0, hcz12_1, hcz12_2, hcz12_3, hcz12_4, hcz12_5, hcz12_6, hfz12_0, hfz12_1, hfz12_2, hfz12_3, hfz12_4, hfz12_5, hfz12_6⟩ := bs7_ BK212))
  go_ret
  exact ⟨er_, hf_⟩
def q28.f (a0 : Int) : Option (Bool) := if a0 ≥ 97 then (if a0 ≤ 122 then (some true) else (if a0 ≥ 65 then (if a0 ≤ 90 then (some true) else (some (a0 == 95))) else (some (a0 == 95)))) else (if a0 ≥ 65 then (if a0 ≤ 90 then (some true) else (some (a0 == 95))) else (some (a0 == 95)))
set_option maxHeartbeats 8000000 in
set_option maxRecDepth 100000 in
theorem q28.calls (a0 : Int) (r : Bool) (w : World) (h : q28.f a0 = some r) :
 Calls Try.prog 92 #[.int .u8 a0] w fun e w' => e = .returned (.bool r) ∧ Drawn0 w w' := by
 unfold q28.f at h
 have H := h
 clear h
 by_cases c2 : a0 ≥ 97
 ·rw [if_pos c2] at H
  replace c2 := decide_eq_true c2
  by_cases c3 : a0 ≤ 122
  ·rw [if_pos c3] at H
   replace c3 := decide_eq_true c3
   obtain rfl := Option.some.inj H
   go_enter Try.func92, Try.ntmps92
   go_wp2
   go_ret
   exact ⟨by first | rfl | (simp; done) | (simp [*]; done), by repeat (first | exact Drawn0.refl _ | apply Drawn0.step)⟩
  ·rw [if_neg c3] at H
   replace c3 := decide_eq_false c3
   by_cases c4 : a0 ≥ 65
   ·rw [if_pos c4] at H
    replace c4 := decide_eq_true c4
    by_cases c5 : a0 ≤ 90
    ·rw [if_pos c5] at H
     replace c5 := decide_eq_true c5
     obtain rfl := Option.some.inj H
     go_enter Try.func92, Try.ntmps92
     go_wp2
     go_ret
     exact ⟨by first | rfl | (simp; done) | (simp [*]; done), by repeat (first | exact Drawn0.refl _ | apply Drawn0.step)⟩
    ·rw [if_neg c5] at H
     replace c5 := decide_eq_false c5
     obtain rfl := Option.some.inj H
     go_enter Try.func92, Try.ntmps92
     go_wp2
     go_ret
     exact ⟨by first | rfl | (simp; done) | (simp [*]; done), by repeat (first | exact Drawn0.refl _ | apply Drawn0.step)⟩
   ·rw [if_neg c4] at H
    replace c4 := decide_eq_false c4
    obtain rfl := Option.some.inj H
    go_enter Try.func92, Try.ntmps92
    go_wp2
    go_ret
    exact ⟨by first | rfl | (simp; done) | (simp [*]; done), by repeat (first | exact Drawn0.refl _ | apply Drawn0.step)⟩
 ·rw [if_neg c2] at H
  replace c2 := decide_eq_false c2
  by_cases c6 : a0 ≥ 65
  ·rw [if_pos c6] at H
   replace c6 := decide_eq_true c6
   by_cases c7 : a0 ≤ 90
   ·rw [if_pos c7] at H
    replace c7 := decide_eq_true c7
    obtain rfl := Option.some.inj H
    go_enter Try.func92, Try.ntmps92
    go_wp2
    go_ret
    exact ⟨by first | rfl | (simp; done) | (simp [*]; done), by repeat (first | exact Drawn0.refl _ | apply Drawn0.step)⟩
   ·rw [if_neg c7] at H
    replace c7 := decide_eq_false c7
    obtain rfl := Option.some.inj H
    go_enter Try.func92, Try.ntmps92
    go_wp2
    go_ret
    exact ⟨by first | rfl | (simp; done) | (simp [*]; done), by repeat (first | exact Drawn0.refl _ | apply Drawn0.step)⟩
  ·rw [if_neg c6] at H
   replace c6 := decide_eq_false c6
   obtain rfl := Option.some.inj H
   go_enter Try.func92, Try.ntmps92
   go_wp2
   go_ret
   exact ⟨by first | rfl | (simp; done) | (simp [*]; done), by repeat (first | exact Drawn0.refl _ | apply Drawn0.step)⟩
def q35.f (a0 : Int) : Option (Bool) := (q28.f a0).bind fun t211 => (if t211 = true then (some true) else (if a0 ≥ 48 then (if a0 ≤ 57 then (some true) else (if a0 = 45 then (some true) else (some (a0 == 46)))) else (if a0 = 45 then (some true) else (some (a0 == 46)))))
set_option maxHeartbeats 8000000 in
set_option maxRecDepth 100000 in
theorem q35.calls (a0 : Int) (r : Bool) (w : World) (h : q35.f a0 = some r) :
 Calls Try.prog 93 #[.int .u8 a0] w fun e w' => e = .returned (.bool r) ∧ Drawn0 w w' := by
 unfold q35.f at h
 have H := h
 clear h
 replace H := Option.bind_eq_some_iff.mp H
 obtain ⟨t211, A20, H⟩ := H
 have A2 := q49.mk A20
 clear A20
 by_cases c3 : t211 = true
 ·subst c3
  have H1 : (some true) = some r := by rw [if_pos rfl] at H; exact H
  clear H
  have H := H1
  clear H1
  obtain rfl := Option.some.inj H
  go_enter Try.func93, Try.ntmps93
  go_wp2_with (first | ((with_reducible refine q63 (f := 92) rfl ?_); refine gl_ (some 4) Try.func92 #[.int .u8 a0] ?_; (with_reducible refine (q28.calls a0 true _ A2.out).mono ?_); rintro e w' ⟨rfl, ⟨nd, rfl⟩⟩; refine ⟨_, rfl, ?_⟩))
  go_ret
  exact ⟨by first | rfl | (simp; done) | (simp [*]; done), by repeat (first | exact Drawn0.refl _ | apply Drawn0.step)⟩
 ·replace c3 := Bool.eq_false_iff.mpr c3
  subst c3
  have H1 : (if a0 ≥ 48 then (if a0 ≤ 57 then (some true) else (if a0 = 45 then (some true) else (some (a0 == 46)))) else (if a0 = 45 then (some true) else (some (a0 == 46)))) = some r := by rw [if_neg (show ¬ (false = true) by decide)] at H; exact H
  clear H
  have H := H1
  clear H1
  by_cases c4 : a0 ≥ 48
  ·rw [if_pos c4] at H
   replace c4 := decide_eq_true c4
   by_cases c5 : a0 ≤ 57
   ·rw [if_pos c5] at H
    replace c5 := decide_eq_true c5
    obtain rfl := Option.some.inj H
    go_enter Try.func93, Try.ntmps93
    go_wp2_with (first | ((with_reducible refine q63 (f := 92) rfl ?_); refine gl_ (some 4) Try.func92 #[.int .u8 a0] ?_; (with_reducible refine (q28.calls a0 false _ A2.out).mono ?_); rintro e w' ⟨rfl, ⟨nd, rfl⟩⟩; refine ⟨_, rfl, ?_⟩))
    go_ret
    exact ⟨by first | rfl | (simp; done) | (simp [*]; done), by repeat (first | exact Drawn0.refl _ | apply Drawn0.step)⟩
   ·rw [if_neg c5] at H
    replace c5 := decide_eq_false c5
    by_cases c6 : a0 = 45
    ·rw [if_pos c6] at H
     have c6b0 : (a0 == 45) = true := beq_iff_eq.mpr c6
     have c6b1 : (a0 != 45) = false := bne_eq_false_iff_eq.mpr c6
     clear c6
     obtain rfl := Option.some.inj H
     go_enter Try.func93, Try.ntmps93
     go_wp2_with (first | ((with_reducible refine q63 (f := 92) rfl ?_); refine gl_ (some 4) Try.func92 #[.int .u8 a0] ?_; (with_reducible refine (q28.calls a0 false _ A2.out).mono ?_); rintro e w' ⟨rfl, ⟨nd, rfl⟩⟩; refine ⟨_, rfl, ?_⟩))
     go_ret
     exact ⟨by first | rfl | (simp; done) | (simp [*]; done), by repeat (first | exact Drawn0.refl _ | apply Drawn0.step)⟩
    ·rw [if_neg c6] at H
     have c6b0 : (a0 == 45) = false := beq_eq_false_iff_ne.mpr c6
     have c6b1 : (a0 != 45) = true := bne_iff_ne.mpr c6
     obtain rfl := Option.some.inj H
     go_enter Try.func93, Try.ntmps93
     go_wp2_with (first | ((with_reducible refine q63 (f := 92) rfl ?_); refine gl_ (some 4) Try.func92 #[.int .u8 a0] ?_; (with_reducible refine (q28.calls a0 false _ A2.out).mono ?_); rintro e w' ⟨rfl, ⟨nd, rfl⟩⟩; refine ⟨_, rfl, ?_⟩))
     go_ret
     exact ⟨by first | rfl | (simp; done) | (simp [*]; done), by repeat (first | exact Drawn0.refl _ | apply Drawn0.step)⟩
  ·rw [if_neg c4] at H
   replace c4 := decide_eq_false c4
   by_cases c7 : a0 = 45
   ·rw [if_pos c7] at H
    have c7b0 : (a0 == 45) = true := beq_iff_eq.mpr c7
    have c7b1 : (a0 != 45) = false := bne_eq_false_iff_eq.mpr c7
    clear c7
    obtain rfl := Option.some.inj H
    go_enter Try.func93, Try.ntmps93
    go_wp2_with (first | ((with_reducible refine q63 (f := 92) rfl ?_); refine gl_ (some 4) Try.func92 #[.int .u8 a0] ?_; (with_reducible refine (q28.calls a0 false _ A2.out).mono ?_); rintro e w' ⟨rfl, ⟨nd, rfl⟩⟩; refine ⟨_, rfl, ?_⟩))
    go_ret
    exact ⟨by first | rfl | (simp; done) | (simp [*]; done), by repeat (first | exact Drawn0.refl _ | apply Drawn0.step)⟩
   ·rw [if_neg c7] at H
    have c7b0 : (a0 == 45) = false := beq_eq_false_iff_ne.mpr c7
    have c7b1 : (a0 != 45) = true := bne_iff_ne.mpr c7
    obtain rfl := Option.some.inj H
    go_enter Try.func93, Try.ntmps93
    go_wp2_with (first | ((with_reducible refine q63 (f := 92) rfl ?_); refine gl_ (some 4) Try.func92 #[.int .u8 a0] ?_; (with_reducible refine (q28.calls a0 false _ A2.out).mono ?_); rintro e w' ⟨rfl, ⟨nd, rfl⟩⟩; refine ⟨_, rfl, ?_⟩))
    go_ret
    exact ⟨by first | rfl | (simp; done) | (simp [*]; done), by repeat (first | exact Drawn0.refl _ | apply Drawn0.step)⟩
def letterB (a : Int) : Bool := decide ((97 ≤ a ∧ a ≤ 122) ∨ (65 ≤ a ∧ a ≤ 90) ∨ a = 95)
def moreB (a : Int) : Bool := letterB a || decide ((48 ≤ a ∧ a ≤ 57) ∨ a = 45 ∨ a = 46)
theorem letter_eq (a : Int) : q28.f a = some (letterB a) := by
 unfold q28.f letterB
 by_cases h1 : a ≥ 97 <;> by_cases h2 : a ≤ 122 <;> by_cases h3 : a ≥ 65 <;> by_cases h4 : a ≤ 90 <;> simp [h1, h2, h3, h4] <;> first | omega | (by_cases h5 : a = 95 <;> simp [h5] <;> omega)
theorem more_eq (a : Int) : q35.f a = some (moreB a) := by
  unfold q35.f moreB
  rw [letter_eq, Option.bind_some]
  cases letterB a with
  | true => simp
  | false =>
    by_cases h1 : a ≥ 48 <;> by_cases h2 : a ≤ 57 <;> by_cases h3 : a = 45 <;> simp [h1, h2, h3] <;> first | omega | (by_cases h5 : a = 46 <;> simp [h5] <;> omega)
def byteAt (s : ByteArray) (i : Nat) : Int := ((s.data.toList.getD i 0).toNat : Int)
def nameB (s : ByteArray) : Bool := decide (1 ≤ s.size ∧ s.size ≤ 12) && letterB (byteAt s 0) && (List.range s.size).all (fun i => moreB (byteAt s i))
def q48.f (a0 : ByteArray) : Option Bool := some (nameB a0)
theorem empty_size (s : ByteArray) : s.toList.isEmpty = decide (s.size = 0) := by
 rw [ByteArray.toList_eq, ← data_length]
 cases s.data.toList with
 | nil => rfl
 | cons x l => simp
theorem byteAt_get (s : ByteArray) (h : 0 < s.size) : ((s[0]'h).toNat : Int) = byteAt s 0 := by
 simp only [byteAt, List.getD_eq_getElem?_getD]
 rw [List.getElem?_eq_getElem (by simpa using h)]
 rfl
set_option maxHeartbeats 4000000 in
set_option maxRecDepth 100000 in
theorem q48.calls (a0 : ByteArray) (r : Bool) (w : World) (h : q48.f a0 = some r) :
    Calls Try.prog 84 #[.string a0] w fun e w' => e = .returned (.bool r) ∧ Below w.heap.size w w' := by
  obtain rfl := Option.some.inj h
  clear h
  by_cases h0 : a0.size = 0
  · have e1 : a0.toList.isEmpty = true := by rw [empty_size]; exact decide_eq_true h0
    have e2 : nameB a0 = false := by simp [nameB, h0]
    rw [e2]
    clear e2 h0
    go_enter Try.func84, Try.ntmps84
    go_wp2
    go_ret
    exact ⟨rfl, Below.refl _ _⟩
  have e1 : a0.toList.isEmpty = false := by rw [empty_size]; exact decide_eq_false h0
  by_cases h12 : 12 < a0.size
  · have e2 : nameB a0 = false := by simp [nameB]; omega
    rw [e2]
    clear e2 h0
    have h12' : (12 : Int) < a0.size := by omega
    go_enter Try.func84, Try.ntmps84
    go_wp2
    go_ret
    exact ⟨rfl, Below.refl _ _⟩
  have h12' : ¬ (12 : Int) < a0.size := by omega
  have hp : 0 < a0.size := by omega
  have hp' : (0 : Int) < a0.size := by omega
  have hl := fun (W : World) => q28.calls (byteAt a0 0) _ W (letter_eq _)
  have HL := Lib.hid hl
  clear hl
  have hb0 := byteAt_get a0 hp
  cases hq : letterB (byteAt a0 0) with
  | false =>
    have e2 : nameB a0 = false := by simp [nameB, hq]
    have hl := HL.out w
    rw [hq] at hl
    rw [e2]
    clear e2 hq h0 HL
    go_enter Try.func84, Try.ntmps84
    go_wp2_with (go_at_call 92; refine hl.mono ?_; rintro e w' ⟨rfl, ⟨nd, rfl⟩⟩)
    go_ret
    exact ⟨rfl, q68 (Below.refl _ _) _⟩
  | true =>
    have hl := HL.out w
    rw [hq] at hl
    have hconv := fun (W : World) => Lib.run_convert_string_bytes (P := Try.prog) W 9 119 5 a0 Try.underlying9 Try.underlying119 Try.underlying5
    obtain ⟨n, hn⟩ : ∃ n, n = a0.size := ⟨_, rfl⟩
    obtain ⟨T, hT⟩ : ∃ T, T = nameB a0 := ⟨_, rfl⟩
    have HT : Hid (T = (List.range n).all (fun i => moreB (byteAt a0 i))) := Lib.hid (by rw [hT, hn]; simp [nameB, hq]; omega)
    rw [← hT]
    clear hT hq
    have HN := Lib.hid hn
    clear hn
    go_enter Try.func84, Try.ntmps84
    go_wp2_with (go_at_call 92; refine hl.mono ?_; rintro e w' ⟨rfl, ⟨nd, rfl⟩⟩)
    have hs := Lib.bytesWorld_size (w.drewN nd) 5 a0
    obtain ⟨W1, hW1⟩ : ∃ W1, W1 = Lib.bytesWorld (w.drewN nd) 5 a0 := ⟨_, rfl⟩
    have B1 : Below w.heap.size w W1 := by
      rw [hW1]
      refine ⟨rfl, rfl, rfl, ?_, fun i hi => ?_⟩
      · rw [hs]; simp
      · exact Lib.bytesWorld_at_old (w.drewN nd) _ a0 i hi
    have C1 : ∀ j, j < n → W1.cell? ⟨w.heap.size, j, none⟩ = some (.int .u8 (byteAt a0 j)) := by
      intro j hj
      rw [hW1]
      exact Lib.bytesWorld_cell (w.drewN nd) 5 a0 j (by rw [← HN.out]; exact hj)
    have hlt1 : w.heap.size < W1.heap.size := by rw [hW1, hs]; simp
    rw [← hW1]
    rw [← HN.out] at h12' ⊢
    have hn12 : n ≤ 12 := by omega
    have BB := Lib.hid (And.intro B1 C1)
    clear hs hW1 B1 C1 hl hconv HL hb0 h12 hp hp' h0
    generalize grownCap (w.drewN nd) n 0 5 = cap
    go_loopg [21] n (fun gg s21 wr => ∃ kk : Nat, kk ≤ n ∧ n - kk ≤ gg ∧ s21 = .int .i64 kk ∧ Aside (Below W1.heap.size W1 wr) ∧ Aside (∀ j, j < kk → moreB (byteAt a0 j) = true))
    case atStart => exact ⟨0, Nat.zero_le _, by omega, rfl, Below.refl _ _, fun j hj => absurd hj (Nat.not_lt_zero _)⟩
    case round =>
      obtain ⟨kk, hkk, hg, rfl, BW, A⟩ := hrel
      have BE : Below w.heap.size w wr := q53 BB.out.1 BB.out.1.size BW.out
      have BEH := Lib.hid BE
      clear BE
      by_cases hlt : kk < n
      · have hltz : (kk : Int) < (n : Int) := by omega
        have hk12 : (kk : Int) ≤ 12 := by omega
        have hx : wr.cell? ⟨w.heap.size, kk, none⟩ = some (.int .u8 (byteAt a0 kk)) := (BW.out.cell hlt1).trans (BB.out.2 kk hlt)
        have hm := q35.calls (byteAt a0 kk) _ wr (more_eq _)
        cases hq : moreB (byteAt a0 kk) with
        | false =>
          rw [hq] at hm
          have e2 : T = false := by
            rw [HT.out, List.all_eq_false]
            exact ⟨kk, List.mem_range.2 hlt, by rw [hq]; simp⟩
          have HE := Lib.hid e2
          clear e2 hq
          go_wp2_with (go_at_call 93; refine hm.mono ?_; rintro e w' ⟨rfl, ⟨nd2, rfl⟩⟩)
          go_ret
          exact ⟨by rw [HE.out]; rfl, q68 BEH.out _⟩
        | true =>
          rw [hq] at hm
          have HQ := Lib.hid hq
          clear hq
          go_wp2_with (go_at_call 93; refine hm.mono ?_; rintro e w' ⟨rfl, ⟨nd2, rfl⟩⟩)
          go_roundg (n - (kk + 1))
          case measure => omega
          case rel =>
            refine ⟨kk + 1, by omega, by omega, by go_num, (show Aside _ from q68 BW.out _), (show Aside _ from fun j hj => ?_)⟩
            by_cases e : j = kk
            · subst e; exact HQ.out
            · exact A.out j (by omega)
      · have hltz : ¬ (kk : Int) < (n : Int) := by omega
        obtain rfl : kk = n := by omega
        have e2 : T = true := by
          rw [HT.out, List.all_eq_true]
          intro j hj
          exact A.out j (List.mem_range.1 hj)
        have HE := Lib.hid e2
        clear e2
        go_wp2
        go_ret
        exact ⟨by rw [HE.out]; rfl, BEH.out⟩
def nameOk (l : List ByteArray) (i : Nat) : Bool := nameB (rdOf ByteArray.empty l (i : Int)) && !memB (l.take i) (rdOf ByteArray.empty l (i : Int))
def namesB (l : List ByteArray) : Bool := (List.range l.length).all (nameOk l)
def q23.f (l0 : List ByteArray) : Option Bool := some (namesB l0)
set_option maxHeartbeats 8000000 in
set_option maxRecDepth 100000 in
theorem q23.calls (A0 : Option Addr) (c0 : Nat) (l0 : List ByteArray) (r : Bool) (w : World) (hr0 : Kd.C Kd.string w A0 l0.length l0) (hc0 : l0.length ≤ c0) (h : q23.f l0 = some r) :
    Calls Try.prog 55 #[.slice A0 l0.length c0] w fun e w' => e = .returned (.bool r) ∧ Below w.heap.size w w' := by
  obtain rfl := Option.some.inj h
  clear h
  have HR := Lib.hid hr0
  have hbig : l0.length ≤ 9223372036854775807 := hr0.2.1
  clear hr0
  obtain ⟨n, hn⟩ : ∃ n, n = l0.length := ⟨_, rfl⟩
  have HN := Lib.hid hn
  rw [← hn] at hc0 hbig ⊢
  clear hn
  go_enter Try.func55, Try.ntmps55
  go_wp2
  go_loopg [7] n (fun gg s7 wr => ∃ i : Nat, s7 = .int .i64 i ∧ i ≤ n ∧ n - i ≤ gg ∧ Hid (Below w.heap.size w wr ∧ ∀ j, j < i → nameOk l0 j = true))
  case atStart => exact ⟨0, rfl, Nat.zero_le _, by omega, Lib.hid ⟨Below.refl _ _, fun j hj => by omega⟩⟩
  case round =>
    obtain ⟨i, rfl, hin, hig, X⟩ := hrel
    by_cases hlt : i < n
    case neg =>
      have hltz : ¬ (i : Int) < (n : Int) := by omega
      obtain rfl : i = n := by omega
      have he : namesB l0 = true := by unfold namesB; rw [List.all_eq_true, ← HN.out]; intro j hj; exact X.out.2 j (List.mem_range.1 hj)
      have HE := Lib.hid he
      clear he
      go_wp2
      go_ret
      exact ⟨by rw [HE.out]; rfl, X.out.1⟩
    have hltz : (i : Int) < (n : Int) := by omega
    obtain ⟨ad, e, hx⟩ := Kd.at_string HR.out (i : Int) (by omega) (by have := HN.out; omega)
    cases e
    simp only [Int.toNat_natCast] at hx
    replace hx := q66 X.out.1 hx
    obtain ⟨x, hxx⟩ : ∃ x, x = rdOf ByteArray.empty l0 (i : Int) := ⟨_, rfl⟩
    rw [← hxx] at hx
    have hok : nameOk l0 i = (nameB x && !memB (l0.take i) x) := by rw [hxx]; rfl
    have HOK := Lib.hid hok
    clear hxx hok
    have hnm := q48.calls x _ wr rfl
    have hic : i ≤ c0 := by omega
    have hic2 : (i : Int) ≤ (c0 : Int) := by omega
    have hi0 : (0 : Int) ≤ (i : Int) := by omega
    cases hq : nameB x with
    | false =>
      have he : namesB l0 = false := by unfold namesB; exact List.all_eq_false.2 ⟨i, List.mem_range.2 (by have := HN.out; omega), by rw [HOK.out, hq]; simp⟩
      have HE := Lib.hid he
      rw [hq] at hnm
      clear he hq
      go_wp2_with (go_at_call 84; refine hnm.mono ?_; rintro e w' ⟨rfl, hb'⟩)
      go_ret
      exact ⟨by rw [HE.out]; rfl, q65 hb' X.out.1⟩
    | true =>
      rw [hq] at hnm HOK
      clear hq
      go_wp2_with fail
      go_at_call 84
      refine hnm.mono ?_
      rintro e w' ⟨rfl, hb'⟩
      have el : (l0.take i).length = i := by rw [List.length_take]; have := HN.out; omega
      have hct := q7.calls (n + 1) (some ad) c0 (l0.take i) x _ w' (Kd.C_below (Kd.C_below (Kd.C_take HR.out (show i ≤ l0.length by have := HN.out; omega)) X.out.1) hb') (by rw [el]; omega) (contains_eq (l0.take i) x (by rw [el]; omega) (n + 1) (by rw [el]; omega))
      rw [el] at hct
      have HB := Lib.hid (q65 hb' X.out.1)
      clear hb' el hnm
      cases hq2 : memB (l0.take i) x with
      | true =>
        have he : namesB l0 = false := by unfold namesB; exact List.all_eq_false.2 ⟨i, List.mem_range.2 (by have := HN.out; omega), by rw [HOK.out, hq2]; simp⟩
        have HE := Lib.hid he
        rw [hq2] at hct
        clear he hq2
        go_wp2_with (go_at_call 85; refine hct.mono ?_; rintro e w2 ⟨rfl, ⟨nd, rfl⟩⟩)
        go_ret
        exact ⟨by rw [HE.out]; rfl, q68 HB.out _⟩
      | false =>
        rw [hq2] at hct HOK
        clear hq2
        go_wp2_with (go_at_call 85; refine hct.mono ?_; rintro e w2 ⟨rfl, ⟨nd, rfl⟩⟩)
        go_roundg (n - (i + 1))
        case measure => omega
        case rel =>
          refine ⟨i + 1, by go_num, by omega, by omega, Lib.hid ⟨q68 HB.out _, fun j hj => ?_⟩⟩
          by_cases e : j = i
          · subst e; rw [HOK.out]; rfl
          · exact X.out.2 j (by omega)
def idxP (s : ByteArray) (y : ByteArray) : Bool := s.toList == y.toList
theorem index_at (l : List ByteArray) (s : ByteArray) (hn : l.length ≤ 9223372036854775807) (d : Nat) : ∀ (i k : Nat), i + d = l.length → d < k → (∀ j, j < i → idxP s (l.getD j ByteArray.empty) = false) → q8.l0 k l s l.length i = some (fidx (idxP s) l) := by
  induction d with
  | zero =>
    intro i k hi hk hno
    obtain ⟨k, rfl⟩ : ∃ m, k = m + 1 := ⟨k - 1, by omega⟩
    simp only [q8.l0]
    rw [if_neg (by omega), fidx_miss (idxP s) l ByteArray.empty (fun j hj => hno j (by omega))]
  | succ d ih =>
    intro i k hi hk hno
    obtain ⟨k, rfl⟩ : ∃ m, k = m + 1 := ⟨k - 1, by omega⟩
    have hlt : i < l.length := by omega
    have hg : l.getD i ByteArray.empty = l[i] := by rw [List.getD_eq_getElem?_getD, List.getElem?_eq_getElem hlt]; rfl
    simp only [q8.l0]
    rw [if_pos (by omega), if_pos (by omega), if_pos (by omega), rdOf_get _ _ _ hlt]
    by_cases he : s.toList = l[i].toList
    · rw [if_pos he, fidx_hit (idxP s) l i ByteArray.empty hlt (by rw [hg]; simpa [idxP] using he) hno]
    · rw [if_neg he, wrap_lt (n := (l.length : Int)) (by omega) (by omega) (by omega)]
      refine ih (i + 1) k (by omega) (by omega) (fun j hj => ?_)
      by_cases e : j = i
      · subst e; rw [hg]; simpa [idxP] using he
      · exact hno j (by omega)
theorem index_eq (l : List ByteArray) (s : ByteArray) (hn : l.length ≤ 9223372036854775807) (k : Nat) (hk : l.length < k) : q8.f k l s = some (fidx (idxP s) l) :=
 index_at l s hn l.length 0 k (by omega) hk (fun j hj => by omega)
def stkStep (l : List (S41)) (i : Nat) (st : List ByteArray) : Option (List ByteArray) :=
 if i = 0 then some (st ++ [(q74 l i).f0]) else
  let t := st.take (fidx (idxP (q74 l i).f2) st + 1).toNat
  if t.length = 0 ∨ 5 < t.length ∨ (q74 l (q67 l (q74 l i).f2)).f1 ≠ 1 then none else some (t ++ [(q74 l i).f0])
def stk (l : List (S41)) : Nat → Option (List ByteArray)
 | 0 => some []
 | i + 1 => (stk l i).bind (stkStep l i)
def standsB (l : List (S41)) : Bool := (stk l l.length).isSome
def q29.f (l0_0 : List ByteArray) (l0_1 : List (S41)) : Option Bool := some (standsB l0_1)
theorem stk_none (l : List (S41)) (i : Nat) (h : stk l i = none) : ∀ d, stk l (i + d) = none := by
 intro d
 induction d with
 | zero => exact h
 | succ d ih => show (stk l (i + d)).bind _ = none; rw [ih]; rfl
theorem stk_false (l : List (S41)) (i : Nat) (hi : i < l.length) (st : List ByteArray) (h : stk l i = some st) (h2 : stkStep l i st = none) : standsB l = false := by
 have h3 : stk l (i + 1) = none := by show (stk l i).bind _ = none; rw [h]; exact h2
 have h4 := stk_none l (i + 1) h3 (l.length - (i + 1))
 rw [show i + 1 + (l.length - (i + 1)) = l.length by omega] at h4
 unfold standsB
 rw [h4]; rfl
theorem stkStep_length (l : List (S41)) (i : Nat) (st st' : List ByteArray) (h : stkStep l i st = some st') (hs : i = 0 → st = []) : 0 < st'.length ∧ st'.length ≤ 6 := by
 unfold stkStep at h
 split at h
 ·rename_i h0
  obtain rfl := Option.some.inj h
  rw [hs h0]; simp
 ·simp only at h
  split at h
  ·cases h
  ·rename_i h1
   obtain rfl := Option.some.inj h
   simp only [List.length_append, List.length_singleton]
   omega
theorem stkStep_mem (l : List (S41)) (i : Nat) (hi : i < l.length) (st st' : List ByteArray) (h : stkStep l i st = some st') (hm : ∀ s ∈ st, ∃ y ∈ l, y.f0 = s) : ∀ s ∈ st', ∃ y ∈ l, y.f0 = s := by
 have hx : q74 l (i : Int) ∈ l := by
  simp [q74, List.getD_eq_getElem?_getD, List.getElem?_eq_getElem hi]
 unfold stkStep at h
 split at h
 ·obtain rfl := Option.some.inj h
  intro s hs
  rcases List.mem_append.1 hs with hs | hs
  ·exact hm s hs
  ·rw [List.mem_singleton.1 hs]; exact ⟨_, hx, rfl⟩
 ·simp only at h
  split at h
  ·cases h
  ·obtain rfl := Option.some.inj h
   intro s hs
   rcases List.mem_append.1 hs with hs | hs
   ·exact hm s (List.mem_of_mem_take hs)
   ·rw [List.mem_singleton.1 hs]; exact ⟨_, hx, rfl⟩
theorem stk_facts (l : List (S41)) (i : Nat) (hi : i ≤ l.length) (st : List ByteArray) (h : stk l i = some st) : st.length ≤ 6 ∧ (0 < i → 0 < st.length) ∧ (i = 0 → st = []) ∧ ∀ s ∈ st, ∃ y ∈ l, y.f0 = s := by
  induction i generalizing st with
  | zero =>
    obtain rfl := Option.some.inj h
    exact ⟨by simp, by omega, fun _ => rfl, by simp⟩
  | succ i ih =>
    have h' : (stk l i).bind (stkStep l i) = some st := h
    obtain ⟨s0, hs0, h2⟩ := Option.bind_eq_some_iff.1 h'
    obtain ⟨_, _, h0, hm⟩ := ih (by omega) s0 hs0
    have hl := stkStep_length l i s0 st h2 h0
    exact ⟨hl.2, fun _ => hl.1, by omega, stkStep_mem l i (by omega) s0 st h2 hm⟩
theorem place_mem (l : List (S41)) (id : ByteArray) (h : ∃ y ∈ l, y.f0.toList = id.toList) : 0 ≤ q67 l id := by
 obtain ⟨y, hy, he⟩ := h
 have ha := fidx_any (q32.p id) l
 have h2 : l.any (q32.p id) = true := List.any_eq_true.2 ⟨y, hy, by simpa [q32.p] using he⟩
 rw [h2] at ha
 exact of_decide_eq_true ha
theorem stk_hit (l : List (S41)) (s : ByteArray) (st : List ByteArray) (hm : ∀ s ∈ st, ∃ y ∈ l, y.f0 = s) (j : Nat) (hj : fidx (idxP s) st = j) : j < st.length ∧ 0 ≤ q67 l s := by
  have hlt := fidx_lt (idxP s) st
  have hjl : j < st.length := by omega
  refine ⟨hjl, place_mem l s ?_⟩
  unfold fidx at hj
  cases h : st.findIdx? (idxP s) with
  | none => rw [h] at hj; simp only at hj; omega
  | some q =>
    obtain ⟨hq, hp, _⟩ := List.findIdx?_eq_some_iff_getElem.1 h
    obtain ⟨y, hy, he⟩ := hm st[q] (List.getElem_mem hq)
    exact ⟨y, hy, by rw [he]; unfold idxP at hp; exact (by simpa using hp : s.toList = st[q].toList).symm⟩
theorem info_str : (Try.prog.info? 9).map (fun i => (i.zero, i.size, i.bytes)) = some (some (.string ⟨#[]⟩), 1, 16) := by kernel_rfl
theorem append_full (B : Nat) (W : World) (A : Option Addr) (st : List ByteArray) (x : ByteArray) (hC : Kd.C Kd.string W A st.length st) (hs : st.length ≤ 6) (hB : B ≤ W.heap.size) :
    ∃ v' w', (Builtin.append_ #[22, 22] 22 #[.slice A st.length st.length, .slice (some ⟨W.heap.size, 0, none⟩) 1 1]).run Try.prog (W.alloc (.cells #[.string x] 9)) = .ok v' w' ∧ Kd.R Kd.string 9 w' B (fun _ => True) v' (st ++ [x]) ∧ Below W.heap.size W w' := by
  obtain ⟨i0, hi0, hz0, hz1, hz2⟩ := info_parts info_str
  have hnew : ∀ (j : Nat) (u : Value), [Value.string x][j]? = some u → (W.alloc (.cells #[.string x] 9)).cell? ((⟨W.heap.size, 0, none⟩ : Addr).add j) = some u := World.news_of_block (cs := #[.string x]) (t := 9) (fr := (0, 0)) (heap_alloc_new W _)
  have hsz : (W.alloc (.cells #[.string x] 9)).heap.size = W.heap.size + 1 := by simp
  have hba := q50 (Below.refl W.heap.size W) (.cells #[.string x] 9)
  cases A with
  | none =>
    have h0 : st.length = 0 := by
      rcases Nat.eq_zero_or_pos st.length with h0 | h0
      · exact h0
      · obtain ⟨ad, h, _⟩ := hC.2.2 h0
        cases h
    obtain rfl := List.eq_nil_of_length_eq_zero h0
    obtain ⟨v', w', hr, ho, hg, _, hat⟩ := run_append_own_at (P := Try.prog) (w := W.alloc (.cells #[.string x] 9)) B 22 22 9 i0 (.string ⟨#[]⟩) 1 16 Try.underlying22 hi0 hz0 hz1 hz2 rfl (by decide) (.slice none 0 0) 0 [] (World.ownsRow_nil _ _ _ _) ⟨W.heap.size, 0, none⟩ 1 1 [.string x] rfl hnew (by simp [Value.oneCell']) (by simp [maxLen]) (by omega) (by omega)
    refine ⟨v', w', hr, Kd.R_of_own (by simpa [encs] using ho) (fun _ _ => trivial), ?_⟩
    exact hba.grown hg (by omega) (by simp [Value.ownBlock])
  | some ad =>
    have hold : ∀ (j : Nat) (u : Value), (encs Value.string st)[j]? = some u → (W.alloc (.cells #[.string x] 9)).cell? (ad.add j) = some u := by
      intro j u hj
      have hjl : j < st.length := by simpa [encs] using (List.getElem?_eq_some_iff.1 hj).1
      obtain ⟨ad', c, e, _, hK, hcc⟩ := Kd.C_get hC ByteArray.empty (j : Int) (by omega) (by omega)
      cases e
      obtain rfl : c = [.string (st.getD j ByteArray.empty)] := hK
      have h1 := hcc 0 _ rfl
      have hu : u = .string (st.getD j ByteArray.empty) := by
        simp [encs, List.getElem?_map, List.getElem?_eq_getElem hjl] at hj
        rw [List.getD_eq_getElem?_getD, List.getElem?_eq_getElem hjl]
        exact hj.symm
      rw [hu]
      exact q66 hba (by simpa [Kd.string, Kd.scalar] using h1)
    obtain ⟨v', w', hr, ho, hg⟩ := run_append_arg_grows (P := Try.prog) (w := W.alloc (.cells #[.string x] 9)) 22 22 9 i0 (.string ⟨#[]⟩) 1 16 Try.underlying22 hi0 hz0 hz1 hz2 rfl (by decide) ad st.length st.length (encs Value.string st) (by simp [encs]) hold ⟨W.heap.size, 0, none⟩ 1 1 [.string x] rfl hnew (by omega) (by simp [maxLen]; omega) (by omega)
    refine ⟨v', w', hr, Kd.R_of_own (own_weaken (by simpa [encs] using ho) (by omega)) (fun _ _ => trivial), ?_⟩
    exact hba.grown hg (by omega) (by simp)
theorem app_event {P : Program} {o : Oper} {a : Act} {W w1 : World} {s x : Operand} {t : TypeId} {v u v1 : Value} (ho : o.op = .call { callee := .builtin .append, args := #[s, x], argTypes := #[t, t] }) (hs : a.eval s = v) (hx : a.eval x = u) (hr : (Builtin.append_ #[t, t] o.type #[v, u]).run P W = .ok v1 w1) : (execOp a.eval o).run P W = .ok (.value v1) w1 := by
 unfold execOp
 simp only [ho, resolve, invoke, builtin, Sem.run_bind, Sem.run_pure, Result.andThen_ok, List.map_toArray, List.map_cons, List.map_nil, hs, hx, hr]
theorem fidx_neg {α : Type} (p : α → Bool) (l : List α) (h : fidx p l < 0) : fidx p l = -1 := by
 unfold fidx at h ⊢
 cases e : l.findIdx? p with
 | none => rfl
 | some i => rw [e] at h; simp only at h; omega
set_option maxHeartbeats 16000000 in
set_option maxRecDepth 100000 in
theorem q29.calls (A0_0 : Option Addr) (c0_0 : Nat) (l0_0 : List ByteArray) (A0_1 : Option Addr) (c0_1 : Nat) (l0_1 : List (S41)) (r : Bool) (w : World) (hr0_0 : Kd.C Kd.string w A0_0 l0_0.length l0_0) (hc0_0 : l0_0.length ≤ c0_0) (hr0_1 : Kd.C k41 w A0_1 l0_1.length l0_1) (hc0_1 : l0_1.length ≤ c0_1) (h : q29.f l0_0 l0_1 = some r) :
 Calls Try.prog 58 #[.agg #[.slice A0_0 l0_0.length c0_0, .slice A0_1 l0_1.length c0_1]] w fun e w' => e = .returned (.bool r) ∧ Below w.heap.size w w' := by
 obtain rfl := Option.some.inj h
 clear h
 have hu36 := Try.underlying25
 have hu32 := Try.underlying41
 have HR := Lib.hid (And.intro hr0_0 hr0_1)
 have hbig : l0_1.length ≤ 9223372036854775807 := hr0_1.2.1
 clear hr0_0 hr0_1
 obtain ⟨n, hn⟩ : ∃ n, n = l0_1.length := ⟨_, rfl⟩
 have HN := Lib.hid hn
 rw [← hn] at hc0_1 hbig ⊢
 clear hn
 go_enter Try.func58, Try.ntmps58
 go_wp2
 obtain ⟨W1, hW1⟩ : ∃ W1, W1 = w.alloc (.cells #[.slice A0_0 l0_0.length c0_0, .slice A0_1 n c0_1] 25) := ⟨_, rfl⟩
 have hb1 : Below w.heap.size w W1 := by rw [hW1]; exact q50 (Below.refl _ _) _
 have hm0 : W1.cell? ⟨w.heap.size, 0, none⟩ = some (.slice A0_0 l0_0.length c0_0) := by rw [hW1]; simp
 have hm1 : W1.cell? ⟨w.heap.size, 1, none⟩ = some (.slice A0_1 n c0_1) := by rw [hW1]; simp
 have hsz : W1.heap.size = w.heap.size + 1 := by rw [hW1]; simp
 rw [← hW1]
 have H1 := Lib.hid (And.intro hb1 (And.intro hm0 (And.intro hm1 hsz)))
 clear hW1 hb1 hm0 hm1 hsz
 go_loopg [3, 9] n (fun gg s3 s9 wr => ∃ (i : Nat) (v : Value) (st : List ByteArray), s9 = .int .i64 i ∧ s3 = v ∧ i ≤ n ∧ n - i ≤ gg ∧ Hid (stk l0_1 i = some st ∧ Kd.R Kd.string 9 wr W1.heap.size (fun _ => True) v st ∧ Below W1.heap.size W1 wr))
 case atStart => exact ⟨0, _, [], rfl, rfl, Nat.zero_le _, by omega, Lib.hid ⟨rfl, Kd.R_nil _ _ _ _ _, Below.refl _ _⟩⟩
 case round =>
  obtain ⟨i, v, st, rfl, rfl, hin, hig, X⟩ := hrel
  have hbw : Below w.heap.size w wr := q53 H1.out.1 H1.out.1.size X.out.2.2
  have HBW := Lib.hid hbw
  clear hbw
  by_cases hlt : i < n
  case neg =>
   have hltz : ¬ (i : Int) < (n : Int) := by omega
   obtain rfl : i = n := by omega
   have he : standsB l0_1 = true := by unfold standsB; rw [← HN.out, X.out.1]; rfl
   have HE := Lib.hid he
   clear he
   go_wp2
   go_ret
   exact ⟨by rw [HE.out]; rfl, HBW.out⟩
  have hltz : (i : Int) < (n : Int) := by omega
  obtain ⟨ad, B5, d5, B6, d6, e, hx0, hx1, hx2, hx3, hx4, hx5, hx6, _, _, _, _⟩ := at_T41 HR.out.2 (i : Int) (by omega) (by have := HN.out; omega)
  cases e
  simp only [Int.toNat_natCast] at hx0 hx1 hx2 hx3 hx4 hx5 hx6
  obtain ⟨x, hx⟩ : ∃ x, x = q74 l0_1 (i : Int) := ⟨_, rfl⟩
  rw [← hx] at hx0 hx1 hx2 hx3 hx4 hx5 hx6
  have HX := Lib.hid hx
  clear hx
  replace hx0 := q66 HBW.out hx0
  replace hx1 := q66 HBW.out hx1
  replace hx2 := q66 HBW.out hx2
  replace hx3 := q66 HBW.out hx3
  replace hx4 := q66 HBW.out hx4
  replace hx5 := q66 HBW.out hx5
  replace hx6 := q66 HBW.out hx6
  obtain ⟨st1, st2, st3, st4⟩ := stk_facts l0_1 i (by have := HN.out; omega) st X.out.1
  have HS := Lib.hid (And.intro st1 (And.intro st2 (And.intro st3 st4)))
  clear st1 st2 st3 st4
  obtain ⟨A, cc, rfl, hlc, hCst⟩ := Kd.R_reads X.out.2.1
  have HC := Lib.hid hCst
  clear hCst
  have hsl : (st.length : Int) ≤ 6 := by have := HS.out.1; omega
  -- the world behind the box of x, and what it holds
  have key : ∃ W2, W2 = wr.alloc (.cells #[.string x.f0, .int .i64 x.f1, .string x.f2, .bool x.f3, .int .i64 x.f4, .slice B5 x.f5.length d5, .slice B6 x.f6.length d6] 41) ∧ Below wr.heap.size wr W2 ∧ W2.cell? ⟨wr.heap.size, 0, none⟩ = some (.string x.f0) ∧ W2.cell? ⟨wr.heap.size, 2, none⟩ = some (.string x.f2) := ⟨_, rfl, q50 (Below.refl _ _) _, by simp, by simp⟩
  obtain ⟨W2, hW2, hb2, hid0, hp2⟩ := key
  have hlo : w.heap.size + 1 ≤ wr.heap.size := by have := X.out.2.2.size; have := H1.out.2.2.2; omega
  have hm0 : W2.cell? ⟨w.heap.size, 0, none⟩ = some (.slice A0_0 l0_0.length c0_0) := q66 hb2 ((X.out.2.2.cell (p := ⟨_, _, none⟩) (by simp only; have := H1.out.2.2.2; omega)).trans H1.out.2.1)
  have hm1 : W2.cell? ⟨w.heap.size, 1, none⟩ = some (.slice (some ad) n c0_1) := q66 hb2 ((X.out.2.2.cell (p := ⟨_, _, none⟩) (by simp only; have := H1.out.2.2.2; omega)).trans H1.out.2.2.1)
  have hbw2 : Below w.heap.size w W2 := q65 hb2 HBW.out
  have F2 := Lib.hid (And.intro hb2 (And.intro hm0 (And.intro hm1 (And.intro hbw2 (And.intro hid0 hp2)))))
  have HW2 := Lib.hid hW2
  clear hb2 hid0 hp2 hm0 hm1 hbw2 hW2
  by_cases hi0 : i = 0
  ·have hnp : ¬ 0 < i := by omega
   have HI := Lib.hid hi0
   clear hi0
   obtain ⟨m, hm⟩ : ∃ m, m = st.length := ⟨_, rfl⟩
   have HM := Lib.hid hm
   rw [← hm] at hlc hsl ⊢
   clear hm
   have hm6 : m ≤ cc := hlc
   have hmz : (0 : Int) ≤ (m : Int) := by omega
   have hmc : (m : Int) ≤ (cc : Int) := by omega
   go_wp2
   rw [← HW2.out]
   clear hx0 hx1 hx2 hx3 hx4 hx5 hx6
   obtain ⟨W5, hW5⟩ : ∃ W, W = W2 := ⟨_, rfl⟩
   have hid0 : W5.cell? ⟨wr.heap.size, 0, none⟩ = some (.string x.f0) := by rw [hW5]; exact F2.out.2.2.2.2.1
   have hb5 : Below wr.heap.size wr W5 := by rw [hW5]; exact F2.out.1
   rw [← hW5]
   clear hW5
   have happ := fun (W6 : World) (h6 : Below W5.heap.size W5 W6) => append_full W1.heap.size W6 A st x.f0 (Kd.C_below (Kd.C_below HC.out hb5) h6) (by have := HS.out.1; omega) (by have := X.out.2.2.size; have := hb5.size; have := h6.size; omega)
   rw [← HM.out] at happ
   refine st_ (fun w' => w'.cell? ⟨wr.heap.size, 0, none⟩ = some (.string x.f0) ∧ Below W5.heap.size W5 w') 11 ⟨hid0, q51 (Below.refl _ _)⟩ (fun hHeld => ?_)
   generalize W5.drew = W6 at hHeld ⊢
   refine pu_ 0 (some 43) ?_
   refine pu_ 1 (some 44) ?_
   refine pu_ 2 (some 45) ?_
   refine pu_ 3 (some 46) ?_
   refine pu_ 4 (some 47) ?_
   refine pu_ 5 (some 48) ?_
   refine pu_ 6 (some 49) ?_
   refine tk_ 7 (some 50) hHeld ?_ (hy := by rintro w' ⟨s0, _⟩; go_simp; with_reducible rfl)
   refine oN_ 8 (some 51) (fun K hK => ?_)
   refine event_step (by rfl) (v := .slice (some ⟨W6.heap.size, 0, none⟩) 1 1) (w1 := W6.alloc (.cells #[.string x.f0] 9)) ?_ ?_
   ·go_simp
   refine hK.out _ _ ⟨q66 (q50 (Below.refl _ _) _) hHeld.1, q65 (q50 (Below.refl _ _) _) hHeld.2⟩ (fun hHeld2 => ?_)
   clear hK K
   refine nz_ (some 51) ?_
   obtain ⟨v9, w9, hrun9, hR9, hB9⟩ := happ W6 hHeld.2
   refine oN_ 9 (some 52) (fun K hK => ?_)
   refine event_step (by rfl) (v := v9) (w1 := w9) ?_ ?_
   ·exact app_event rfl rfl rfl hrun9
   refine hK.out _ _ ⟨q66 hB9 hHeld.1, q65 hB9 hHeld.2⟩ (fun hHeld3 => ?_)
   clear hK K
   refine nz_ (some 52) ?_
   refine pu_ 10 (some 3) ?_
   refine dn_ ?_
   have hnext : stk l0_1 (i + 1) = some (st ++ [x.f0]) := by
    show (stk l0_1 i).bind _ = _
    rw [X.out.1]
    show stkStep l0_1 i st = _
    unfold stkStep
    rw [if_pos HI.out, ← HX.out]
   have hbe : Below W1.heap.size W1 w9 := q53 (q53 X.out.2.2 X.out.2.2.size hb5) (q53 X.out.2.2 X.out.2.2.size hb5).size hHeld3.2
   have XX := Lib.hid (And.intro hnext (And.intro hR9 hbe))
   clear hnext hbe hHeld hHeld2 hHeld3 hrun9 hR9 hB9 happ hid0
   go_wp2
   go_roundg (n - (i + 1))
   case measure => omega
   case rel => exact ⟨i + 1, v9, st ++ [x.f0], by go_num, rfl, by omega, by omega, XX⟩
  ·have hipos : 0 < i := by omega
   clear hi0
   have hidx := q8.calls (st.length + 1) A cc st x.f2 _ W2 (Kd.C_below HC.out F2.out.1) hlc (index_eq st x.f2 (by have := HS.out.1; omega) (st.length + 1) (by omega))
   by_cases hneg : fidx (idxP x.f2) st < 0
   ·have e1 := fidx_neg _ _ hneg
    have he : standsB l0_1 = false := stk_false l0_1 i (by have := HN.out; omega) st X.out.1 (by
     unfold stkStep
     rw [if_neg (by omega), ← HX.out, e1]
     simp)
    have HE := Lib.hid he
    rw [e1] at hidx
    clear e1 hneg he
    go_wp2_with fail
    rw [← HW2.out]
    clear hx0 hx1 hx2 hx3 hx4 hx5 hx6
    refine hidx.mono ?_
    rintro e w3 ⟨rfl, ⟨nd, rfl⟩⟩
    obtain ⟨W3, hW3⟩ : ∃ W, W = W2.drewN nd := ⟨_, rfl⟩
    have hb3 : Below W2.heap.size W2 W3 := by rw [hW3]; exact q68 (Below.refl _ _) _
    rw [← hW3]
    clear hW3
    have hm0 := q66 hb3 F2.out.2.1
    have hm1 := q66 hb3 F2.out.2.2.1
    have hp2 := q66 hb3 F2.out.2.2.2.2.2
    have hbw3 := q65 hb3 F2.out.2.2.2.1
    have HB3 := Lib.hid hbw3
    clear hidx hb3 hbw3
    go_wp2
    refine st_ (fun w' => (w'.cell? ⟨w.heap.size, 0, none⟩ = some (.slice A0_0 l0_0.length c0_0) ∧ w'.cell? ⟨w.heap.size, 1, none⟩ = some (.slice (some ad) n c0_1) ∧ w'.cell? ⟨wr.heap.size, 2, none⟩ = some (.string x.f2)) ∧ Below W3.heap.size W3 w') 20 ⟨⟨hm0, hm1, hp2⟩, q51 (Below.refl _ _)⟩ (fun hHeld => ?_)
    generalize W3.drew = W4 at hHeld ⊢
    refine pu_ 0 (some 23) ?_
    refine pu_ 1 (some 24) ?_
    refine pu_ 2 (some 25) ?_
    refine pu_ 3 (some 26) ?_
    refine sk_ 4 (some 27) ?_
    refine sk_ 5 (some 28) ?_
    refine sk_ 6 (some 29) ?_
    refine pu_ 7 (some 30) ?_
    refine pu_ 8 (some 31) ?_
    refine sk_ 9 (some 32) ?_
    refine sk_ 10 (some 33) ?_
    refine sk_ 11 (some 34) ?_
    refine sk_ 12 (some 35) ?_
    refine sk_ 13 (some 36) ?_
    refine sk_ 14 (some 37) ?_
    refine sk_ 15 (some 38) ?_
    refine sk_ 16 (some 39) ?_
    refine sk_ 17 (some 40) ?_
    refine sk_ 18 (some 41) ?_
    refine pu_ 19 (some 42) ?_
    refine dn_ ?_
    have hfin := q65 hHeld.2 HB3.out
    have HF := Lib.hid hfin
    clear hHeld hfin
    go_wp2
    go_ret
    exact ⟨by rw [HE.out]; rfl, HF.out⟩
   ·obtain ⟨j, hj⟩ : ∃ j : Nat, fidx (idxP x.f2) st = j := ⟨(fidx (idxP x.f2) st).toNat, by omega⟩
    obtain ⟨hjl, hpl0⟩ := stk_hit l0_1 x.f2 st HS.out.2.2.2 j hj
    rw [hj] at hidx
    have HJ := Lib.hid hj
    clear hj hneg
    have htk : (st.take (fidx (idxP x.f2) st + 1).toNat) = st.take (j + 1) := by rw [HJ.out]; congr 1
    have hlen : (st.take (j + 1)).length = j + 1 := by rw [List.length_take]; omega
    have HT := Lib.hid (And.intro htk hlen)
    clear htk hlen
    have hj0 : (0 : Int) ≤ (j : Int) := by omega
    have hj6 : (j : Int) < 6 := by have := HS.out.1; omega
    have hjs : j + 1 ≤ st.length := by omega
    have hjs2 : (j : Int) + 1 ≤ (st.length : Int) := by omega
    have hjc : j + 1 ≤ cc := by omega
    have hjc2 : (j : Int) + 1 ≤ (cc : Int) := by omega
    have hd0 : ((j : Int) + 1 == 0) = false := by
     have : (j : Int) + 1 ≠ 0 := by omega
     simpa using this
    go_wp2_with fail
    rw [← HW2.out]
    clear hx0 hx1 hx2 hx3 hx4 hx5 hx6
    refine hidx.mono ?_
    rintro e w3 ⟨rfl, ⟨nd, rfl⟩⟩
    obtain ⟨W3, hW3⟩ : ∃ W, W = W2.drewN nd := ⟨_, rfl⟩
    have hb3 : Below W2.heap.size W2 W3 := by rw [hW3]; exact q68 (Below.refl _ _) _
    rw [← hW3]
    clear hW3
    have hm0 := q66 hb3 F2.out.2.1
    have hm1 := q66 hb3 F2.out.2.2.1
    have hp2 := q66 hb3 F2.out.2.2.2.2.2
    have hbw3 := q65 hb3 F2.out.2.2.2.1
    have HB3 := Lib.hid (And.intro hb3 hbw3)
    clear hidx hb3
    go_wp2
    by_cases h5 : 5 < j + 1
    ·have hd5 : decide (5 < (j : Int) + 1) = true := decide_eq_true (by omega)
     have he : standsB l0_1 = false := stk_false l0_1 i (by have := HN.out; omega) st X.out.1 (by
      unfold stkStep
      rw [if_neg (by omega), ← HX.out]
      simp only
      rw [HT.out.1, HT.out.2, if_pos (.inr (.inl h5))])
     have HE := Lib.hid he
     clear he
     refine st_ (fun w' => (w'.cell? ⟨w.heap.size, 0, none⟩ = some (.slice A0_0 l0_0.length c0_0) ∧ w'.cell? ⟨w.heap.size, 1, none⟩ = some (.slice (some ad) n c0_1) ∧ w'.cell? ⟨wr.heap.size, 2, none⟩ = some (.string x.f2)) ∧ Below W3.heap.size W3 w') 20 ⟨⟨hm0, hm1, hp2⟩, q51 (Below.refl _ _)⟩ (fun hHeld => ?_)
     generalize W3.drew = W4 at hHeld ⊢
     refine pu_ 0 (some 23) ?_
     refine pu_ 1 (some 24) ?_
     refine pu_ 2 (some 25) ?_
     refine pu_ 3 (some 26) ?_
     refine pu_ 4 (some 27) ?_
     refine pu_ 5 (some 28) ?_
     refine pu_ 6 (some 29) ?_
     refine pu_ 7 (some 30) ?_
     refine pu_ 8 (some 31) ?_
     refine sk_ 9 (some 32) ?_
     refine sk_ 10 (some 33) ?_
     refine sk_ 11 (some 34) ?_
     refine sk_ 12 (some 35) ?_
     refine sk_ 13 (some 36) ?_
     refine sk_ 14 (some 37) ?_
     refine sk_ 15 (some 38) ?_
     refine sk_ 16 (some 39) ?_
     refine sk_ 17 (some 40) ?_
     refine sk_ 18 (some 41) ?_
     refine pu_ 19 (some 42) ?_
     refine dn_ ?_
     have hfin := q65 hHeld.2 HB3.out.2
     have HF := Lib.hid hfin
     clear hHeld hfin hbw3
     go_wp2
     go_ret
     exact ⟨by rw [HE.out]; rfl, HF.out⟩
    ·have hd5 : decide (5 < (j : Int) + 1) = false := decide_eq_false (by omega)
     obtain ⟨p, hp⟩ : ∃ p : Nat, q67 l0_1 x.f2 = p := ⟨(q67 l0_1 x.f2).toNat, by omega⟩
     have hpn : p < n := by have := placeI_lt l0_1 x.f2; have := HN.out; omega
     have hpl := fun (W : World) (hb : Below w.heap.size w W) => q32.calls A0_0 c0_0 l0_0 _ c0_1 l0_1 x.f2 _ W (Kd.C_below HR.out.1 hb) hc0_0 (Kd.C_below HR.out.2 hb) (by have := HN.out; omega) (show q32.f l0_0 l0_1 x.f2 = some (p : Int) by rw [← hp]; rfl)
     rw [← HN.out] at hpl
     obtain ⟨ad', _, _, _, _, e, _, hk1, _⟩ := at_T41 HR.out.2 (p : Int) (by omega) (by have := HN.out; omega)
     cases e
     simp only [Int.toNat_natCast] at hk1
     obtain ⟨y1, hy1⟩ : ∃ y, y = (q74 l0_1 (p : Int)).f1 := ⟨_, rfl⟩
     rw [← hy1] at hk1
     have hky := q66 hbw3 hk1
     have HP := Lib.hid (And.intro hp hy1)
     have hpz : (0 : Int) ≤ (p : Int) := by omega
     have hpn2 : (p : Int) < (n : Int) := by omega
     clear hk1 hp hy1 hpl0
     refine st_ (fun w' => (w'.cell? ⟨w.heap.size, 0, none⟩ = some (.slice A0_0 l0_0.length c0_0) ∧ w'.cell? ⟨w.heap.size, 1, none⟩ = some (.slice (some ad) n c0_1) ∧ w'.cell? ⟨wr.heap.size, 2, none⟩ = some (.string x.f2) ∧ w'.cell? ⟨(ad.add (p * 7)).block, (ad.add (p * 7)).off + 1, none⟩ = some (.int .i64 y1)) ∧ Below W3.heap.size W3 w') 20 ⟨⟨hm0, hm1, hp2, hky⟩, q51 (Below.refl _ _)⟩ (fun hHeld => ?_)
     generalize W3.drew = W4 at hHeld ⊢
     refine pu_ 0 (some 23) ?_
     refine pu_ 1 (some 24) ?_
     refine pu_ 2 (some 25) ?_
     refine pu_ 3 (some 26) ?_
     refine pu_ 4 (some 27) ?_
     refine pu_ 5 (some 28) ?_
     refine pu_ 6 (some 29) ?_
     refine pu_ 7 (some 30) ?_
     refine pu_ 8 (some 31) ?_
     refine pu_ 9 (some 32) ?_
     refine tk_ 10 (some 33) hHeld ?_ (hy := by rintro w' ⟨⟨s0, s1, s2, s3⟩, _⟩; go_simp; with_reducible rfl)
     refine tk_ 11 (some 34) hHeld ?_ (hy := by rintro w' ⟨⟨s0, s1, s2, s3⟩, _⟩; go_simp; with_reducible rfl)
     refine pu_ 12 (some 35) ?_
     refine tk_ 13 (some 36) hHeld ?_ (hy := by rintro w' ⟨⟨s0, s1, s2, s3⟩, _⟩; go_simp; with_reducible rfl)
     refine oN_ 14 (some 37) (fun K hK => ?_)
     refine goes_ Try.func45 (by kernel_rfl) rfl #[.agg #[.slice A0_0 l0_0.length c0_0, .slice (some ad) n c0_1], .string x.f2] (by rfl) rfl rfl (by (try simp only [List.map_toArray, List.map_cons, List.map_nil]); first | done | rfl) ?_
     with_reducible refine (hpl _ (q65 hHeld.2 hbw3)).mono ?_
     rintro e w' ⟨rfl, hb'⟩
     refine ⟨_, rfl, ?_⟩
     refine hK.out _ _ ⟨⟨q66 hb' hHeld.1.1, q66 hb' hHeld.1.2.1, q66 hb' hHeld.1.2.2.1, q66 hb' hHeld.1.2.2.2⟩, q65 hb' hHeld.2⟩ (fun hHeld => ?_)
     clear hK K
     refine nz_ (some 37) ?_
     refine pu_ 15 (some 38) ?_
     refine pu_ 16 (some 39) ?_
     refine tk_ 17 (some 40) hHeld ?_ (hy := by rintro w' ⟨⟨s0, s1, s2, s3⟩, _⟩; go_simp; with_reducible rfl)
     refine pu_ 18 (some 41) ?_
     refine pu_ 19 (some 42) ?_
     refine dn_ ?_
     have HH := Lib.hid hHeld
     have hfin := q65 hHeld.2 HB3.out.2
     have HF := Lib.hid hfin
     clear hHeld hfin hbw3 hky hpl hm0 hm1 hp2 hd0 hd5 hjs hjs2 hpz hpn2
     by_cases hy : y1 = 1
     ·have hyb : (y1 != 1) = false := by simp [hy]
      have HY := Lib.hid hy
      clear hy
      go_wp2
      obtain ⟨W5, hW5⟩ : ∃ W, W = w' := ⟨_, rfl⟩
      have hb5 : Below W2.heap.size W2 W5 := by rw [hW5]; exact q53 HB3.out.1 HB3.out.1.size HH.out.2
      have hb5' : Below wr.heap.size wr W5 := q53 F2.out.1 F2.out.1.size hb5
      have hid0 : W5.cell? ⟨wr.heap.size, 0, none⟩ = some (.string x.f0) := q66 hb5 F2.out.2.2.2.2.1
      rw [← hW5]
      clear hW5
      have happ := fun (W6 : World) (h6 : Below W5.heap.size W5 W6) => append_full W1.heap.size W6 A (st.take (j + 1)) x.f0 (Kd.C_below (Kd.C_below (Kd.C_take HC.out (by have := HT.out.2; rw [List.length_take] at this; omega)) hb5') h6) (by have := HT.out.2; omega) (by have := X.out.2.2.size; have := hb5'.size; have := h6.size; omega)
      rw [HT.out.2] at happ
      have hj1 : (0 : Int) ≤ (j : Int) + 1 := by omega
      refine st_ (fun w' => w'.cell? ⟨wr.heap.size, 0, none⟩ = some (.string x.f0) ∧ Below W5.heap.size W5 w') 11 ⟨hid0, q51 (Below.refl _ _)⟩ (fun hHeld => ?_)
      generalize W5.drew = W6 at hHeld ⊢
      refine pu_ 0 (some 43) ?_
      refine pu_ 1 (some 44) ?_
      refine pu_ 2 (some 45) ?_
      refine pu_ 3 (some 46) ?_
      refine pu_ 4 (some 47) ?_
      refine pu_ 5 (some 48) ?_
      refine pu_ 6 (some 49) ?_
      refine tk_ 7 (some 50) hHeld ?_ (hy := by rintro w' ⟨s0, _⟩; go_simp; with_reducible rfl)
      refine oN_ 8 (some 51) (fun K hK => ?_)
      refine event_step (by rfl) (v := .slice (some ⟨W6.heap.size, 0, none⟩) 1 1) (w1 := W6.alloc (.cells #[.string x.f0] 9)) ?_ ?_
      ·go_simp
      refine hK.out _ _ ⟨q66 (q50 (Below.refl _ _) _) hHeld.1, q65 (q50 (Below.refl _ _) _) hHeld.2⟩ (fun hHeld2 => ?_)
      clear hK K
      refine nz_ (some 51) ?_
      obtain ⟨v9, w9, hrun9, hR9, hB9⟩ := happ W6 hHeld.2
      refine oN_ 9 (some 52) (fun K hK => ?_)
      refine event_step (by rfl) (v := v9) (w1 := w9) ?_ ?_
      ·exact app_event rfl rfl rfl hrun9
      refine hK.out _ _ ⟨q66 hB9 hHeld.1, q65 hB9 hHeld.2⟩ (fun hHeld3 => ?_)
      clear hK K
      refine nz_ (some 52) ?_
      refine pu_ 10 (some 3) ?_
      refine dn_ ?_
      have hnext : stk l0_1 (i + 1) = some (st.take (j + 1) ++ [x.f0]) := by
       show (stk l0_1 i).bind _ = _
       rw [X.out.1]
       show stkStep l0_1 i st = _
       unfold stkStep
       rw [if_neg (by omega), ← HX.out]
       simp only
       rw [HT.out.1, HT.out.2, HP.out.1, ← HP.out.2, HY.out, if_neg (by omega)]
      have hbe : Below W1.heap.size W1 w9 := q53 (q53 X.out.2.2 X.out.2.2.size hb5') (q53 X.out.2.2 X.out.2.2.size hb5').size hHeld3.2
      have XX := Lib.hid (And.intro hnext (And.intro hR9 hbe))
      clear hnext hbe hHeld hHeld2 hHeld3 hrun9 hR9 hB9 happ hid0
      go_wp2
      go_roundg (n - (i + 1))
      case measure => omega
      case rel => exact ⟨i + 1, v9, st.take (j + 1) ++ [x.f0], by go_num, rfl, by omega, by omega, XX⟩
     ·have hyb : (y1 != 1) = true := by simpa using hy
      have he : standsB l0_1 = false := stk_false l0_1 i (by have := HN.out; omega) st X.out.1 (by
       unfold stkStep
       rw [if_neg (by omega), ← HX.out]
       simp only
       rw [HT.out.1, HT.out.2, HP.out.1, ← HP.out.2, if_pos (.inr (.inr hy))])
      have HE := Lib.hid he
      clear he hy
      go_wp2
      go_ret
      exact ⟨by rw [HE.out]; rfl, HF.out⟩
theorem ids_at (fs : List ByteArray) (l : List (S41)) (hn : l.length ≤ 8796093022208) (d : Nat) : ∀ (i k : Nat) (acc : List ByteArray), i + d = l.length → d < k → acc.length = i → q45.l0 k acc l l.length i = some (acc ++ (l.drop i).map (·.f0)) := by
  induction d with
  | zero =>
    intro i k acc hi hk ha
    obtain ⟨k, rfl⟩ : ∃ m, k = m + 1 := ⟨k - 1, by omega⟩
    simp only [q45.l0]
    rw [if_neg (by omega), List.drop_of_length_le (by omega)]
    simp
  | succ d ih =>
    intro i k acc hi hk ha
    obtain ⟨k, rfl⟩ : ∃ m, k = m + 1 := ⟨k - 1, by omega⟩
    have hlt : i < l.length := by omega
    have hrd : q74 l (i : Int) = l[i] := by simp [q74, List.getD_eq_getElem?_getD, List.getElem?_eq_getElem hlt]
    simp only [q45.l0]
    rw [if_pos (by omega), if_pos (by omega), if_pos (by omega), if_pos (by omega), wrap_lt (n := (l.length : Int)) (by omega) (by omega) (by omega), hrd]
    have := ih (i + 1) k (acc ++ [l[i].f0]) (by omega) (by omega) (by simp [ha])
    rw [show ((i + 1 : Nat) : Int) = (i : Int) + 1 by omega] at this
    rw [this, List.drop_eq_getElem_cons hlt, List.map_cons, List.append_assoc]
    rfl
theorem ids_eq (fs : List ByteArray) (l : List (S41)) (hn : l.length ≤ 8796093022208) (k : Nat) (hk : l.length < k) : q45.f k fs l = some (l.map (·.f0)) := by
 have := ids_at fs l hn l.length 0 k [] (by omega) hk rfl
 unfold q45.f
 simpa using this
def planB (kind : Int) (parent : ByteArray) (req : Bool) (en ex : Nat) : Bool := decide (kind = 1) && (decide (parent.toList = []) && (!req && decide (en + ex = 0)))
theorem isPlan_eq (a0 : ByteArray) (a1 : Int) (a2 : ByteArray) (a3 : Bool) (a4 : Int) (l5 l6 : List (S45)) (h5 : l5.length ≤ 9223372036854775807) (h6 : l6.length ≤ 9223372036854775807) : q31.f a0 a1 a2 a3 a4 l5 l6 = some (planB a1 a2 a3 l5.length l6.length) := by
  unfold q31.f planB
  by_cases h1 : a1 = 1
  · by_cases h2 : a2.toList = []
    · cases a3 with
      | true => simp [h1, h2]
      | false =>
        simp only [h1, h2, if_true, Bool.false_eq_true, if_false, decide_true, Bool.true_and, Bool.not_false]
        congr 1
        rw [Bool.eq_iff_iff, beq_iff_eq, decide_eq_true_iff]
        unfold wrap64
        omega
    · simp [h1, h2]
  · simp [h1]
def itemB (fs : List ByteArray) (l : List (S41)) (kind : Int) (req : Bool) (ticks : Int) (en ex : List (S45)) : Bool :=
 decide (1 ≤ kind ∧ kind ≤ 5) && (sentsB fs l en && (sentsB fs l ex && ((if kind = 5 then decide (1 ≤ ticks ∧ ticks ≤ 100) else decide (ticks = 0)) && !(decide (kind = 4 ∨ kind = 5) && (req || decide (0 < en.length))))))
theorem isItem_eq (fs : List ByteArray) (l : List (S41)) (a0 : ByteArray) (a1 : Int) (a2 : ByteArray) (a3 : Bool) (a4 : Int) (l5 l6 : List (S45)) : q30.f 1 fs l a0 a1 a2 a3 a4 l5 l6 = some (itemB fs l a1 a3 a4 l5 l6) := by
  unfold q30.f itemB q15.f
  by_cases h1 : a1 < 1
  · rw [if_pos h1, decide_eq_false (by omega)]; simp [q30.j0]
  rw [if_neg h1]
  by_cases h2 : a1 > 5
  · rw [if_pos h2, decide_eq_false (by omega)]; simp [q30.j0]
  rw [if_neg h2, decide_eq_true (by omega), Option.bind_some]
  cases sentsB fs l l5 with
  | false => simp [q30.j0]
  | true =>
    rw [if_pos rfl, Option.bind_some]
    cases sentsB fs l l6 with
    | false => simp [q30.j0]
    | true =>
      simp only [q30.j0, Bool.not_true, Bool.false_eq_true, if_false, Bool.true_and]
      by_cases h5 : a1 = 5
      · subst h5
        by_cases ha : a4 ≥ 1 <;> by_cases hb : a4 ≤ 100 <;> cases a3 <;> simp [ha, hb] <;> omega
      · by_cases h4 : a1 = 4
        · subst h4
          by_cases ha : a4 ≥ 0 <;> by_cases hb : a4 ≤ 0 <;> cases a3 <;> simp [ha, hb] <;> omega
        · rw [if_neg h5, if_neg h4, if_neg h5]
          by_cases ha : a4 ≥ 0 <;> by_cases hb : a4 ≤ 0 <;> simp [ha, hb, h4, h5] <;> omega
def isB (fs : List ByteArray) (l : List (S41)) : Bool :=
 decide (fs.length ≤ 6 ∧ 1 ≤ l.length ∧ l.length ≤ 16) && (namesB fs && (namesB (l.map (·.f0)) && (planB (q74 l 0).f1 (q74 l 0).f2 (q74 l 0).f3 (q74 l 0).f5.length (q74 l 0).f6.length && (standsB l && !l.any (fun x => !itemB fs l x.f1 x.f3 x.f4 x.f5 x.f6)))))
theorem R_of_cells {α : Type} {d : Kd α} {e base g n cap : Nat} {w : World} {cur : Array Value} {xs : List α} (hb : base ≤ g) (hg : w.heap[g]? = some (.cells cur e (0, 0))) (hn : n = xs.length) (hnc : n ≤ cap) (hcm : cap ≤ maxLen) (hcs : cur.size = cap * d.sz)
 (hx : ∀ (j : Nat) (p : α), xs[j]? = some p → ∃ cs, cs.length = d.sz ∧ (∀ (i : Nat) (u : Value), cs[i]? = some u → cur[j * d.sz + i]? = some u) ∧ d.M w base (fun k => True ∧ k ≠ g) p cs) : d.R e w base (fun _ => True) (.slice (some ⟨g, 0, none⟩) n cap) xs := by
 subst hn
 have hle : xs.length * d.sz ≤ cur.size := by rw [hcs]; exact Nat.mul_le_mul_right _ hnc
 have hil : (cur.toList.take (xs.length * d.sz)).length = xs.length * d.sz := by rw [List.length_take, Array.length_toList]; exact Nat.min_eq_left hle
 refine ⟨fun _ _ => trivial, cur.toList.take (xs.length * d.sz), ⟨hil, .inr ⟨g, cap, cur, rfl, hb, hg, hnc, hcm, hcs, rfl⟩⟩, hil, fun j p hj => ?_⟩
 obtain ⟨cs, h1, h2, h3⟩ := hx j p hj
 have hjl := (List.getElem?_eq_some_iff.1 hj).1
 have hjs : j * d.sz + d.sz ≤ xs.length * d.sz := by
  have := Nat.mul_le_mul_right d.sz (show j + 1 ≤ xs.length from hjl)
  rwa [Nat.succ_mul] at this
 have e1 : ((cur.toList.take (xs.length * d.sz)).drop (j * d.sz)).take d.sz = cs := by
  apply List.ext_getElem?
  intro i
  rw [List.getElem?_take]
  by_cases hi : i < d.sz
  ·rw [if_pos hi, List.getElem?_drop, List.getElem?_take, if_pos (by omega)]
   have hc := h2 i cs[i] (List.getElem?_eq_getElem (by omega))
   rw [Array.getElem?_toList, hc, List.getElem?_eq_getElem (by omega)]
  ·rw [if_neg hi]
   exact (List.getElem?_eq_none (by omega)).symm
 rw [e1]
 exact d.M_mono (fun k hk => ⟨trivial, fun e => hk.2 (by simpa [Value.ownBlock] using e)⟩) h3
theorem raw_cells {m e base n : Nat} {w : World} {v : Value} {rows : List (List Value)} (h : Kd.R (kRaw m) e w base (fun _ => True) v rows) (hn : n = rows.length) (hp : 0 < n) : ∃ g cap cur, v = .slice (some ⟨g, 0, none⟩) n cap ∧ base ≤ g ∧ w.heap[g]? = some (.cells cur e (0, 0)) ∧ n ≤ cap ∧ cap ≤ maxLen ∧ cur.size = cap * m ∧ ∀ (j : Nat) (cs : List Value), rows[j]? = some cs → ∀ (i : Nat) (u : Value), cs[i]? = some u → cur[j * m + i]? = some u := by
 subst hn
 obtain ⟨_, inner, ⟨hl, hor⟩, hrep⟩ := h
 rcases hor with ⟨-, h0⟩ | ⟨g, cap, cur, hv, hb, hg, hnc, hcm, hcs, ht⟩
 ·omega
 ·refine ⟨g, cap, cur, hv, hb, hg, hnc, hcm, hcs, fun j cs hj i u hu => ?_⟩
  obtain ⟨h1, h2, -⟩ := hrep.2 j cs hj
  have him : i < m := by
   have := (List.getElem?_eq_some_iff.1 hu).1
   omega
  have hz : (kRaw m).sz = m := rfl
  rw [← h1, List.getElem?_take, hz, if_pos him, List.getElem?_drop, ← ht, List.getElem?_take] at hu
  split at hu
  ·rwa [Array.getElem?_toList] at hu
  ·cases hu
theorem R_zero {α : Type} {d : Kd α} {m e base : Nat} {w : World} {v : Value} (hm : d.sz = m) (h : Kd.R (kRaw m) e w base (fun _ => True) v []) : d.R e w base (fun _ => True) v [] := by
 obtain ⟨_, inner, ho, hrep⟩ := h
 have hi : inner = [] := by
  have := hrep.1
  simp at this
  exact this
 subst hi
 subst hm
 exact ⟨fun _ _ => trivial, [], ho, by simp, fun j p hj => by simp at hj⟩
def cpInv (w wr : World) (g cap : Nat) (l : List (S45)) (i : Nat) : Prop := ∃ cur, wr.heap[g]? = some (.cells cur 45 (0, 0)) ∧ cur.size = cap * 2 ∧ Below w.heap.size w wr ∧ g < wr.heap.size ∧ ∀ (j : Nat) (p : S45), l[j]? = some p → ∃ u0 u1, cur[j * 2]? = some u0 ∧ cur[j * 2 + 1]? = some u1 ∧ (if j < i then Kd.M k45 wr w.heap.size (fun k => True ∧ k ≠ g) p [u0, u1] else Kd.K k45 w p [u0, u1])
set_option maxHeartbeats 8000000 in
set_option maxRecDepth 100000 in
theorem copied_any (w : World) (A : Option Addr) (c : Nat) (l : List (S45)) (hr : Kd.C k45 w A l.length l) (hc : l.length ≤ c) (hl : l.length * 48 ≤ 140737488355328) (hs : ∀ s ∈ l, s.f0.length * 24 ≤ 140737488355328 ∧ s.f1.length * 40 ≤ 140737488355328) :
 Calls Try.prog 63 #[.slice A l.length c] w fun e w' => ∃ v, e = .returned v ∧ Kd.R k45 45 w' w.heap.size (fun _ => True) v l ∧ Below w.heap.size w w' := by
 have hu29 := Try.underlying45
 obtain ⟨rows, hrl, hrC, hrK⟩ := C_raw hr
 have hcl := cl_sentry w A c rows (by rw [hrl]; exact hrC) (by omega) (by rw [hrl]; exact hl)
 rw [hrl] at hcl
 obtain ⟨n, hn⟩ : ∃ n, n = l.length := ⟨_, rfl⟩
 rw [← hn] at hcl hrl hl ⊢
 have HN := Lib.hid hn
 have HRL := Lib.hid hrl
 have HRK := Lib.hid hrK
 have HS := Lib.hid hs
 clear hr hc hrC hrK hn hrl hs
 go_enter Try.func63, Try.ntmps63
 go_wp2_with fail
 refine hcl.mono ?_
 rintro e w1 ⟨v, rfl, hR, hb⟩
 rcases Nat.eq_zero_or_pos n with h0 | hp
 ·have hr0 : rows = [] := List.eq_nil_of_length_eq_zero (by rw [HRL.out, h0])
  have hl0 : l = [] := List.eq_nil_of_length_eq_zero (by rw [← HN.out, h0])
  rw [hr0] at hR
  obtain ⟨A1, c1, rfl⟩ := Kd.R_slice hR
  have HF : Hid (Kd.R k45 45 w1 w.heap.size (fun _ => True) (.slice A1 0 c1) l ∧ Below w.heap.size w w1) := Lib.hid ⟨by rw [hl0]; exact R_zero rfl hR, hb⟩
  clear hR hb hcl hr0 hl0 h0
  go_wp2
  go_loopg [9] 0 (fun gg s9 wr => s9 = .int .i64 0 ∧ wr = w1)
  case atStart => exact ⟨rfl, rfl⟩
  case round =>
   obtain ⟨rfl, rfl⟩ := hrel
   go_wp2
   go_ret
   exact ⟨_, rfl, HF.out.1, HF.out.2⟩
 ·obtain ⟨g, cap, cur, rfl, hgb, hg, hnc, hcm, hcs, hcur⟩ := raw_cells hR (HRL.out).symm hp
  have HI : Hid (cpInv w w1 g cap l 0) := Lib.hid ⟨cur, hg, hcs, hb, blk_lt hg, fun j p hj => by
   obtain ⟨cs, h1, h2⟩ := HRK.out j p hj
   obtain ⟨B0, d0, B1, d1, rfl, h3⟩ := k45_open h2
   exact ⟨_, _, hcur j _ h1 0 _ rfl, hcur j _ h1 1 _ rfl, by rw [if_neg (by omega)]; exact h2⟩⟩
  have HG := Lib.hid (And.intro hgb (And.intro hnc hcm))
  clear hR hb hcl hgb hg hnc hcm hcs hcur
  go_wp2
  go_loopg [9] n (fun gg s9 wr => ∃ i : Nat, s9 = .int .i64 i ∧ i ≤ n ∧ n - i ≤ gg ∧ Hid (cpInv w wr g cap l i))
  case atStart => exact ⟨0, rfl, by omega, by omega, HI⟩
  case round =>
   obtain ⟨i, rfl, hin, hig, X⟩ := hrel
   obtain ⟨wO, rfl⟩ : ∃ wO, wO = wr := ⟨_, rfl⟩
   by_cases hlt : i < n
   case neg =>
    have hltz : ¬ (i : Int) < (n : Int) := by omega
    obtain ⟨cur, hg, hcs, hb, hgl, hx⟩ := X.out
    have HF : Hid (Kd.R k45 45 wO w.heap.size (fun _ => True) (.slice (some ⟨g, 0, none⟩) n cap) l ∧ Below w.heap.size w wO) := Lib.hid ⟨R_of_cells HG.out.1 hg HN.out HG.out.2.1 HG.out.2.2 hcs (fun j p hj => by
     obtain ⟨u0, u1, h1, h2, h3⟩ := hx j p hj
     have hjl := (List.getElem?_eq_some_iff.1 hj).1
     rw [if_pos (by have := HN.out; omega)] at h3
     refine ⟨[u0, u1], rfl, fun i u hu => ?_, h3⟩
     match i, hu with
     | 0, hu => cases hu; exact h1
     | 1, hu => cases hu; exact h2
     | i + 2, hu => simp at hu), hb⟩
    clear X hg hcs hb hgl hx
    go_wp2
    go_ret
    exact ⟨_, rfl, HF.out.1, HF.out.2⟩
   have hltz : (i : Int) < (n : Int) := by omega
   obtain ⟨cur, hg, hcs, hb, hgl, hx⟩ := X.out
   have hil : i < l.length := by have := HN.out; omega
   obtain ⟨s, hsx⟩ : ∃ s, s = l[i] := ⟨_, rfl⟩
   have hsg : l[i]? = some s := by rw [hsx, List.getElem?_eq_getElem hil]
   obtain ⟨u0, u1, h1, h2, h3⟩ := hx i s hsg
   rw [if_neg (by omega)] at h3
   obtain ⟨B0, d0, B1, d1, e, hl0, hC0, hl1, hC1⟩ := k45_open h3
   obtain ⟨rfl, rfl⟩ : u0 = .slice B0 s.f0.length d0 ∧ u1 = .slice B1 s.f1.length d1 := by simpa using e
   have hb0 := HS.out s (by rw [hsx]; exact List.getElem_mem _)
   have hx0 : wO.cell? ⟨g, i * 2, none⟩ = some (.slice B0 s.f0.length d0) := (q56 hg _).trans h1
   have hx1 : wO.cell? ⟨g, i * 2 + 1, none⟩ = some (.slice B1 s.f1.length d1) := (q56 hg _).trans h2
   have hf0 := q60 hg (i * 2)
   have hf1 := q60 hg (i * 2 + 1)
   obtain ⟨n0, hn0⟩ : ∃ n0, n0 = s.f0.length := ⟨_, rfl⟩
   obtain ⟨n1, hn1⟩ : ∃ n1, n1 = s.f1.length := ⟨_, rfl⟩
   obtain ⟨W1, hW1⟩ : ∃ W1, W1 = wO.alloc (.cells #[.slice B0 n0 d0, .slice B1 n1 d1] 45) := ⟨_, rfl⟩
   have hbW : Below wO.heap.size wO W1 := by rw [hW1]; exact q50 (Below.refl _ _) _
   have hgW : W1.heap[wO.heap.size]? = some (.cells #[.slice B0 n0 d0, .slice B1 n1 d1] 45 (0, 0)) := by rw [hW1]; exact heap_alloc_new wO _
   have HX := Lib.hid (And.intro hg (And.intro hcs (And.intro hb (And.intro hgl hx))))
   have HC := Lib.hid (And.intro hl0 (And.intro hC0 (And.intro hl1 (And.intro hC1 hb0))))
   have HW := Lib.hid hW1
   have HBW := Lib.hid hbW
   have HGW := Lib.hid hgW
   have HSX := Lib.hid (And.intro hsg (And.intro hn0 hn1))
   have HU := Lib.hid (And.intro h1 h2)
   rw [← hn0] at hx0
   rw [← hn1] at hx1
   clear X hg hcs hb hgl hx hil hsg h1 h2 h3 e hl0 hC0 hl1 hC1 hb0 hW1 hbW hgW hsx hn0 hn1
   go_wp2
   rw [← HW.out]
   clear hx0 hx1
   have hc0 := (q56 HGW.out 0).trans rfl
   have hc1 := (q56 HGW.out 1).trans rfl
   refine sD_ [10] (fun w' => w'.cell? ⟨wO.heap.size, 0, none⟩ = some (.slice B0 n0 d0) ∧ w'.cell? ⟨wO.heap.size, 1, none⟩ = some (.slice B1 n1 d1)) 11 ⟨hc0, hc1⟩ (fun hHeld => ?_)
   have hbD : Below wO.heap.size wO W1.drew := q51 HBW.out
   have hgD : W1.drew.heap[wO.heap.size]? = some (.cells #[.slice B0 n0 d0, .slice B1 n1 d1] 45 (0, 0)) := HGW.out
   clear hc0 hc1
   generalize W1.drew = wD at hHeld hbD hgD ⊢
   refine pu_ 0 (some 14) ?_
   refine pu_ 1 (some 15) ?_
   refine pu_ 2 (some 16) ?_
   refine tk_ 3 (some 17) hHeld ?_ (hy := by rintro w' ⟨s0, s1⟩; go_simp; with_reducible rfl)
   refine pu_ 5 (some 19) ?_
   refine tk_ 6 (some 20) hHeld ?_ (hy := by rintro w' ⟨s0, s1⟩; go_simp; with_reducible rfl)
   have hbw : Below w.heap.size w wD := q53 HX.out.2.2.1 HX.out.2.2.1.size hbD
   have hcl1 := cl_on wD B0 d0 s.f0 (Kd.C_below HC.out.2.1 hbw) HC.out.1 HC.out.2.2.2.2.1
   rw [← HSX.out.2.1] at hcl1
   refine ca_ 4 (some 18) Try.func89 #[.slice B0 n0 d0] ?_
   refine hcl1.mono ?_
   rintro e w3 ⟨v3, rfl, hR3, hb3⟩
   obtain ⟨A3, c3, rfl⟩ := Kd.R_slice hR3
   rw [← HSX.out.2.1] at hR3 ⊢
   have hg3 := q55 hgD hb3
   have hbD3 := q53 hbD hbD.size hb3
   have hbw3 := q53 hbw hbw.size hb3
   have hzD : wO.heap.size < wD.heap.size := blk_lt hgD
   refine ⟨_, rfl, ⟨(q56 hg3 0).trans rfl, (q56 hg3 1).trans rfl⟩, fun hHeld => ⟨_, rfl, nz_ (some 18) ?_⟩⟩
   have hcl2 := cl_cond w3 B1 d1 s.f1 (Kd.C_below HC.out.2.2.2.1 hbw3) HC.out.2.2.1 HC.out.2.2.2.2.2
   rw [← HSX.out.2.2] at hcl2
   refine ca_ 7 (some 21) Try.func65 #[.slice B1 n1 d1] ?_
   refine hcl2.mono ?_
   rintro e w4 ⟨v4, rfl, hR4, hb4⟩
   obtain ⟨A4, c4, rfl⟩ := Kd.R_slice hR4
   rw [← HSX.out.2.2] at hR4 ⊢
   have hg4 := q55 hg3 hb4
   have hbD4 := q53 hbD3 hbD3.size hb4
   have hR34 := Kd.R_below hR3 hb4
   have hz3 : wD.heap.size ≤ w3.heap.size := hb3.size
   refine ⟨_, rfl, ⟨(q56 hg4 0).trans rfl, (q56 hg4 1).trans rfl⟩, fun hHeld => ⟨_, rfl, nz_ (some 21) ?_⟩⟩
   refine pu_ 8 (some 22) ?_
   refine pu_ 9 (some 23) ?_
   have hgO := q55 HX.out.1 hbD4
   have hx0 := (q56 hgO (i * 2)).trans HU.out.1
   have hx1 := (q56 hgO (i * 2 + 1)).trans HU.out.2
   rw [← HSX.out.2.1] at hx0
   rw [← HSX.out.2.2] at hx1
   have hf0 := q60 hgO (i * 2)
   have hf1 := q60 hgO (i * 2 + 1)
   refine lA_ 10 none (fun K hK => ?_)
   go_simp
   have HF : Hid (cpInv w ((w4.setCell ⟨g, i * 2, none⟩ (.slice A3 n0 c3)).setCell ⟨g, i * 2 + 1, none⟩ (.slice A4 n1 c4)) g cap l (i + 1)) := Lib.hid (by
    have hgw : w.heap.size ≤ g := HG.out.1
    have hgO' : g < wO.heap.size := HX.out.2.2.2.1
    have hsz : ∀ q, i * 2 = q → q < cur.size := fun q e => by
     have := (Array.getElem?_eq_some_iff.1 HU.out.1).1
     omega
    refine ⟨(cur.setIfInBounds (i * 2) (.slice A3 n0 c3)).setIfInBounds (i * 2 + 1) (.slice A4 n1 c4), q61 (q61 hgO (i * 2) (.slice A3 n0 c3) rfl) (i * 2 + 1) (.slice A4 n1 c4) rfl, by simp only [Array.size_setIfInBounds]; exact HX.out.2.1, ((q53 HX.out.2.2.1 HX.out.2.2.1.size hbD4).setCell hgw _).setCell hgw _, ?_, fun j p hj => ?_⟩
    ·have := hbD4.size
     simp only [World.setCell]
     simpa [World.setCell] using Nat.lt_of_lt_of_le hgO' this
    ·by_cases hji : j = i
     ·subst hji
      obtain rfl : s = p := Option.some.inj (HSX.out.1.symm.trans hj)
      have l0 := (Array.getElem?_eq_some_iff.1 HU.out.1).1
      have l1 := (Array.getElem?_eq_some_iff.1 HU.out.2).1
      refine ⟨.slice A3 n0 c3, .slice A4 n1 c4, ?_, ?_, ?_⟩
      ·rw [Array.getElem?_setIfInBounds_ne (by omega), Array.getElem?_setIfInBounds_self_of_lt l0]
      ·rw [Array.getElem?_setIfInBounds_self_of_lt (by simpa using l1)]
      ·rw [if_pos (by omega)]
       have far : ∀ {α : Type} {d : Kd α} {e base : Nat} {v : Value} {xs : List α}, g < base → w.heap.size ≤ base → d.R e w4 base (fun _ => True) v xs → d.R e ((w4.setCell ⟨g, j * 2, none⟩ (.slice A3 n0 c3)).setCell ⟨g, j * 2 + 1, none⟩ (.slice A4 n1 c4)) w.heap.size (fun k => True ∧ k ≠ g) v xs := fun hg1 hg2 h =>
        Kd.R_lower (Kd.R_mono (Kd.R_far (Kd.R_far (Kd.R_bound h) (p := ⟨g, j * 2, none⟩) (fun k hk => by have := hk.2.1; show k ≠ g; omega) _) (p := ⟨g, j * 2 + 1, none⟩) (fun k hk => by have := hk.2.1; show k ≠ g; omega) _) (fun k hk => ⟨trivial, by have := hk.2.1; omega⟩)) hg2
       exact k45_mkM _ _ _ _ (far (by omega) (by omega) hR34) (far (by omega) (by omega) hR4)
     ·obtain ⟨u0, u1, h1, h2, h3⟩ := HX.out.2.2.2.2 j p hj
      refine ⟨u0, u1, ?_, ?_, ?_⟩
      ·rw [Array.getElem?_setIfInBounds_ne (by omega), Array.getElem?_setIfInBounds_ne (by omega)]; exact h1
      ·rw [Array.getElem?_setIfInBounds_ne (by omega), Array.getElem?_setIfInBounds_ne (by omega)]; exact h2
      ·by_cases hlt' : j < i
       ·rw [if_pos hlt'] at h3
        rw [if_pos (by omega)]
        exact Kd.M_step h3 (fun k hk hkl => (Below.heap_setCell _ _ _ _ hk.2).trans ((Below.heap_setCell _ _ _ _ hk.2).trans (hbD4.block k hkl)))
       ·rw [if_neg hlt'] at h3
        rw [if_neg (by omega)]
        exact h3)
   refine hK.out _ _ ?_
   clear hK K hx0 hx1 hf0 hf1 hgO hR3 hR4 hR34 hg3 hg4 hHeld hcl1 hcl2
   refine dn_ ?_
   go_wp2
   go_roundg (n - (i + 1))
   case measure => omega
   case rel => exact ⟨i + 1, by go_num, by omega, by omega, HF⟩
def wideSents (l : List (S45)) : Prop := l.length * 48 ≤ 140737488355328 ∧ ∀ s ∈ l, s.f0.length * 24 ≤ 140737488355328 ∧ s.f1.length * 40 ≤ 140737488355328
def wideItem (x : S41) : Prop := wideSents x.f5 ∧ wideSents x.f6
def CopyPost (w : World) (fs : List ByteArray) (l : List (S41)) (e : Ending) (w' : World) : Prop := ∃ v0 v1, e = .returned (.agg #[v0, v1]) ∧ Kd.R Kd.string 9 w' w.heap.size (fun _ => True) v0 fs ∧ Kd.R k41 41 w' w.heap.size (fun _ => True) v1 l ∧ Below w.heap.size w w'
def cyInv (w wr : World) (B g cap : Nat) (l : List (S41)) (i : Nat) : Prop := ∃ cur, wr.heap[g]? = some (.cells cur 41 (0, 0)) ∧ cur.size = cap * 7 ∧ g < wr.heap.size ∧ ∀ (j : Nat) (x : S41), l[j]? = some x → ∃ u5 u6, (cur[j * 7]? = some (.string x.f0) ∧ cur[j * 7 + 1]? = some (.int .i64 x.f1) ∧ cur[j * 7 + 2]? = some (.string x.f2) ∧ cur[j * 7 + 3]? = some (.bool x.f3) ∧ cur[j * 7 + 4]? = some (.int .i64 x.f4) ∧ cur[j * 7 + 5]? = some u5 ∧ cur[j * 7 + 6]? = some u6) ∧ (if j < i then Kd.R k45 45 wr B (fun k => True ∧ k ≠ g) u5 x.f5 ∧ Kd.R k45 45 wr B (fun k => True ∧ k ≠ g) u6 x.f6 else ∃ A5 c5 A6 c6, u5 = .slice A5 x.f5.length c5 ∧ u6 = .slice A6 x.f6.length c6 ∧ x.f5.length ≤ c5 ∧ Kd.C k45 w A5 x.f5.length x.f5 ∧ x.f6.length ≤ c6 ∧ Kd.C k45 w A6 x.f6.length x.f6)
set_option maxHeartbeats 16000000 in
set_option maxRecDepth 100000 in
theorem copy_any (w : World) (A0 : Option Addr) (c0 : Nat) (fs : List ByteArray) (A1 : Option Addr) (c1 : Nat) (l : List (S41)) (hr0 : Kd.C Kd.string w A0 fs.length fs) (hc0 : fs.length ≤ c0) (hr1 : Kd.C k41 w A1 l.length l) (hc1 : l.length ≤ c1) (hf : fs.length * 16 ≤ 140737488355328) (hl : l.length * 104 ≤ 140737488355328) (hw : ∀ x ∈ l, wideItem x) :
 Calls Try.prog 22 #[.agg #[.slice A0 fs.length c0, .slice A1 l.length c1]] w (CopyPost w fs l) := by
 have hu36 := Try.underlying25
 have hu32 := Try.underlying41
 obtain ⟨rows, hrl, hrC, hrK⟩ := C_raw hr1
 obtain ⟨wA, hwA⟩ : ∃ wA, wA = w.alloc (.cells #[.slice A0 fs.length c0, .slice A1 l.length c1] 25) := ⟨_, rfl⟩
 obtain ⟨wB, hwB⟩ : ∃ wB, wB = wA.alloc (.cells #[.slice none 0 0, .slice none 0 0] 25) := ⟨_, rfl⟩
 have hbA : Below w.heap.size w wA := by rw [hwA]; exact q50 (Below.refl _ _) _
 have hbB : Below w.heap.size w wB := by rw [hwB]; exact q50 hbA _
 have hzA : wA.heap.size = w.heap.size + 1 := by rw [hwA]; simp
 have hgA : wB.heap[w.heap.size]? = some (.cells #[.slice A0 fs.length c0, .slice A1 l.length c1] 25 (0, 0)) := by rw [hwB]; exact q55 (by rw [hwA]; exact heap_alloc_new w _) (q50 (Below.refl _ _) _)
 have hgB : wB.heap[w.heap.size + 1]? = some (.cells #[.slice none 0 0, .slice none 0 0] 25 (0, 0)) := by rw [hwB, ← hzA]; exact heap_alloc_new wA _
 have hzB : w.heap.size + 1 < wB.heap.size := blk_lt hgB
 obtain ⟨n0, hn0⟩ : ∃ n0, n0 = fs.length := ⟨_, rfl⟩
 obtain ⟨n, hn⟩ : ∃ n, n = l.length := ⟨_, rfl⟩
 have hcl0 : ∀ W, Below w.heap.size w W → _ := fun W hb => cl_str W A0 c0 fs (Kd.C_below hr0 hb) hc0 hf
 have hcl1 : ∀ W, Below w.heap.size w W → _ := fun W hb => cl_item W A1 c1 rows (by rw [hrl]; exact Kd.C_below hrC hb) (by rw [hrl]; exact hc1) (by rw [hrl]; exact hl)
 rw [← hn0] at hcl0 hgA hwA ⊢
 rw [hrl] at hcl1
 rw [← hn] at hcl1 hgA hwA hl ⊢
 have HW := Lib.hid (And.intro hwA hwB)
 have HBB := Lib.hid hbB
 have HG := Lib.hid (And.intro hgA hgB)
 have HCL0 := Lib.hid hcl0
 have HCL1 := Lib.hid hcl1
 have HN := Lib.hid (And.intro hn0 hn)
 have HRL := Lib.hid (hrl.trans hn.symm)
 have HRK := Lib.hid hrK
 have HWI := Lib.hid hw
 clear hr0 hc0 hr1 hc1 hf hw hrl hrC hrK hwA hwB hbA hbB hzA hgA hgB hn0 hn hcl0 hcl1
 go_enter Try.func22, Try.ntmps22
 go_wp2
 rw [← HW.out.1, ← HW.out.2]
 have hc_0 := (q56 HG.out.1 0).trans rfl
 have hc_1 := (q56 HG.out.1 1).trans rfl
 refine sD_ [7, 9] (fun w' => w'.cell? ⟨w.heap.size, 0, none⟩ = some (.slice A0 n0 c0) ∧ w'.cell? ⟨w.heap.size, 1, none⟩ = some (.slice A1 n c1)) 10 ⟨hc_0, hc_1⟩ (fun hHeld => ?_)
 have hbD : Below wB.heap.size wB wB.drew := q51 (Below.refl _ _)
 clear hc_0 hc_1
 generalize wB.drew = wD at hHeld hbD ⊢
 refine pu_ 0 (some 5) ?_
 refine tk_ 1 (some 6) hHeld ?_ (hy := by rintro w' ⟨s0, s1⟩; go_simp; with_reducible rfl)
 refine pu_ 3 (some 8) ?_
 refine tk_ 4 (some 9) hHeld ?_ (hy := by rintro w' ⟨s0, s1⟩; go_simp; with_reducible rfl)
 refine ca_ 2 (some 7) Try.func24 #[.slice A0 n0 c0] ?_
 refine (HCL0.out wD (q65 hbD HBB.out)).mono ?_
 rintro e w2 ⟨v0, rfl, hR2, hb2⟩
 obtain ⟨F0, d0, rfl⟩ := Kd.R_slice hR2
 rw [← HN.out.1] at hR2 ⊢
 have hbB2 := q53 hbD hbD.size hb2
 have hg2 := q55 HG.out.1 hbB2
 refine ⟨_, rfl, ⟨(q56 hg2 0).trans rfl, (q56 hg2 1).trans rfl⟩, fun hHeld => ⟨_, rfl, nz_ (some 7) ?_⟩⟩
 refine pu_ 6 (some 11) ?_
 refine ca_ 5 (some 10) Try.func62 #[.slice A1 n c1] ?_
 refine (HCL1.out w2 (q65 hbB2 HBB.out)).mono ?_
 rintro e w3 ⟨v1, rfl, hR3, hb3⟩
 have hbB3 := q53 hbB2 hbB2.size hb3
 have hg3 := q55 HG.out.1 hbB3
 have hR23 := Kd.R_below hR2 hb3
 obtain ⟨F1, d1, rfl⟩ := Kd.R_slice hR3
 rw [HRL.out] at hR3 ⊢
 refine ⟨_, rfl, ⟨(q56 hg3 0).trans rfl, (q56 hg3 1).trans rfl⟩, fun hHeld => ⟨_, rfl, nz_ (some 10) ?_⟩⟩
 have hcz := (q56 hg3 0).trans rfl
 have hfz := q60 hg3 0
 refine lA_ 7 none (fun K hK => ?_)
 go_simp
 refine hK.out _ _ ?_
 clear hK K
 refine pu_ 8 (some 12) ?_
 have hg4 := q61 hg3 0 (.slice F0 n0 d0) rfl
 have hcz1 := (q56 hg4 1).trans rfl
 have hfz1 := q60 hg4 1
 clear hcz hfz
 refine lA_ 9 none (fun K hK => ?_)
 go_simp
 have hgE := q61 hg4 1 (.slice F1 n d1) rfl
 have hgB3 := q55 HG.out.2 hbB3
 have hbw3 := q65 hbB3 HBB.out
 obtain ⟨wE, hwE⟩ : ∃ wE, wE = (w3.setCell ⟨w.heap.size, 0, none⟩ (.slice F0 n0 d0)).setCell ⟨w.heap.size, 1, none⟩ (.slice F1 n d1) := ⟨_, rfl⟩
 rw [← hwE] at hgE ⊢
 have hsE : ∀ k, k ≠ w.heap.size → wE.heap[k]? = w3.heap[k]? := fun k hk => by rw [hwE]; exact (Below.heap_setCell _ _ _ _ hk).trans (Below.heap_setCell _ _ _ _ hk)
 have hgE2 : wE.heap[w.heap.size + 1]? = some (.cells #[.slice none 0 0, .slice none 0 0] 25 (0, 0)) := (hsE _ (by omega)).trans hgB3
 have hbE : Below w.heap.size w wE := by rw [hwE]; exact (hbw3.setCell (Nat.le_refl _) _).setCell (Nat.le_refl _) _
 have hzE : wE.heap.size = w3.heap.size := by rw [hwE]; simp [World.setCell]
 have hD2 : wD.heap.size ≤ w2.heap.size := hb2.size
 have hE2 : w2.heap.size ≤ wE.heap.size := by rw [hzE]; exact hb3.size
 have hBD : wB.heap.size ≤ wD.heap.size := hbD.size
 have hRF : Kd.R Kd.string 9 wE wB.heap.size (fun k => k < w2.heap.size) (.slice F0 n0 d0) fs := by
  refine Kd.R_lower (Kd.R_mono (Kd.R_step (Kd.R_bound (Kd.R_below (Kd.R_mono (Kd.R_bound hR2) (ok' := fun k => wD.heap.size ≤ k ∧ k < w2.heap.size) (fun k hk => ⟨hk.2.1, hk.2.2.1⟩)) hb3)) (fun k hk _ => hsE k (by have := hk.1.1; omega))) (fun k hk => hk.1.2)) hBD
 have hRI : Kd.R (kRaw 7) 41 wE w2.heap.size (fun _ => True) (.slice F1 n d1) rows := Kd.R_mono (Kd.R_step (Kd.R_bound hR3) (fun k hk _ => hsE k (by have := hk.2.1; omega))) (fun _ _ => trivial)
 refine hK.out _ _ ?_
 clear hK K hcz1 hfz1 hg4 hg3 hg2 hR2 hR3 hR23 hHeld hb2 hb3 hbB2 hbB3 hgB3 hbw3 hbD hwE
 have HRF := Lib.hid hRF
 have HBE := Lib.hid hbE
 have HGE := Lib.hid (And.intro hgE hgE2)
 refine dn_ ?_
 have hk_0 := (q56 HGE.out.1 0).trans rfl
 have hk_1 := (q56 HGE.out.1 1).trans rfl
 clear hsE hgE hgE2 hbE hRF hzE
 have rset : ∀ {W : World} {α : Type} {d : Kd α} {e : Nat} {ok : Nat → Prop} {v : Value} {xs : List α} {i : Nat} {u : Value}, d.R e W wB.heap.size ok v xs → d.R e (W.setCell ⟨w.heap.size + 1, i, none⟩ u) wB.heap.size ok v xs := fun h => Kd.R_mono (Kd.R_far (Kd.R_bound h) (fun k hk => by have := hk.2.1; show k ≠ w.heap.size + 1; omega) _) (fun _ hk => hk.1)
 rcases Nat.eq_zero_or_pos n with h0 | hp
 ·have hr0 : rows = [] := List.eq_nil_of_length_eq_zero (by rw [HRL.out, h0])
  have hl0 : l = [] := List.eq_nil_of_length_eq_zero (by rw [← HN.out.2, h0])
  rw [hr0] at hRI
  have hRIo : Kd.R k41 41 wE wB.heap.size (fun _ => True) (.slice F1 n d1) l := by rw [hl0]; exact Kd.R_lower (R_zero rfl hRI) (by omega)
  rw [h0] at hRIo
  have HRIo := Lib.hid hRIo
  have hg1 := HGE.out.1
  rw [h0] at hg1
  have HG1 := Lib.hid hg1
  clear hRI hr0 hl0 hRIo hg1
  subst h0
  go_wp2
  clear hk_0 hk_1
  go_loopg [16] 0 (fun gg s16 wr => s16 = .int .i64 0 ∧ wr = wE)
  case atStart => exact ⟨rfl, rfl⟩
  case round =>
   obtain ⟨rfl, rfl⟩ := hrel
   have hRFo := HRF.out
   have hRIo := HRIo.out
   have hbo := HBE.out
   have hg1 := HG1.out
   have hg2 := HGE.out.2
   have HFIN : Hid (Kd.R Kd.string 9 ((wr.setCell ⟨w.heap.size + 1, 0, none⟩ (.slice F0 n0 d0)).setCell ⟨w.heap.size + 1, 1, none⟩ (.slice F1 0 d1)) w.heap.size (fun _ => True) (.slice F0 n0 d0) fs ∧ Kd.R k41 41 ((wr.setCell ⟨w.heap.size + 1, 0, none⟩ (.slice F0 n0 d0)).setCell ⟨w.heap.size + 1, 1, none⟩ (.slice F1 0 d1)) w.heap.size (fun _ => True) (.slice F1 0 d1) l ∧ Below w.heap.size w ((wr.setCell ⟨w.heap.size + 1, 0, none⟩ (.slice F0 n0 d0)).setCell ⟨w.heap.size + 1, 1, none⟩ (.slice F1 0 d1))) := Lib.hid ⟨Kd.R_mono (Kd.R_lower (rset (rset hRFo)) (by omega)) (fun _ _ => trivial), Kd.R_lower (rset (rset hRIo)) (by omega), (hbo.setCell (Nat.le_succ _) _).setCell (Nat.le_succ _) _⟩
   have HGF := Lib.hid (q61 (q61 hg2 0 (.slice F0 n0 d0) rfl) 1 (.slice F1 0 d1) rfl)
   have hx_0 := (q56 hg1 0).trans rfl
   have hx_1 := (q56 hg1 1).trans rfl
   have hz_0 := (q56 hg2 0).trans rfl
   have hz_1 := (q56 hg2 1).trans rfl
   have hq_0 := q60 hg2 0
   have hq_1 := q60 hg2 1
   clear hRFo hRIo hbo hg1 hg2
   go_wp2
   clear hx_0 hx_1 hz_0 hz_1 hq_0 hq_1
   refine bodyPost_ret (results_cell_row rfl _ _ (w.heap.size + 1) 25 #[.slice F0 n0 d0, (.slice F1 0 d1)] (0, 0) _ rfl HGF.out Try.underlying25 rfl (by kernel_rfl)) rfl ?_
   exact ⟨_, _, rfl, HFIN.out.1, HFIN.out.2.1, HFIN.out.2.2⟩
 ·obtain ⟨g, cap, cur, e1, hgb, hg, hnc, hcm, hcs, hcur⟩ := raw_cells hRI HRL.out.symm hp
  cases e1
  have HI : Hid (cyInv w wE wB.heap.size g d1 l 0) := Lib.hid ⟨cur, hg, hcs, blk_lt hg, fun j x hj => by
   obtain ⟨cs, h1, h2⟩ := HRK.out j x hj
   obtain ⟨A5, c5, A6, c6, rfl, h5, hC5, h6, hC6⟩ := k41_open h2
   exact ⟨_, _, ⟨hcur j _ h1 0 _ rfl, hcur j _ h1 1 _ rfl, hcur j _ h1 2 _ rfl, hcur j _ h1 3 _ rfl, hcur j _ h1 4 _ rfl, hcur j _ h1 5 _ rfl, hcur j _ h1 6 _ rfl⟩, by rw [if_neg (by omega)]; exact ⟨A5, c5, A6, c6, rfl, rfl, h5, hC5, h6, hC6⟩⟩⟩
  have HGC := Lib.hid (And.intro hgb (And.intro hnc hcm))
  clear hRI hg hnc hcm hcs hcur
  go_wp2
  clear hk_0 hk_1
  go_loopg [16] n (fun gg s16 wr => ∃ i : Nat, s16 = .int .i64 i ∧ i ≤ n ∧ n - i ≤ gg ∧ Hid (cyInv w wr wB.heap.size g d1 l i ∧ Kept wE wr (fun k => k = g) ∧ Below w.heap.size w wr))
  case atStart => exact ⟨0, rfl, by omega, by omega, Lib.hid ⟨HI.out, Kept.refl _ _, HBE.out⟩⟩
  case round =>
   obtain ⟨i, rfl, hin, hig, X⟩ := hrel
   obtain ⟨wO, rfl⟩ : ∃ wO, wO = wr := ⟨_, rfl⟩
   by_cases hlt : i < n
   case neg =>
    have hltz : ¬ (i : Int) < (n : Int) := by omega
    obtain ⟨⟨cur, hg, hcs, hgl, hx⟩, hk, hbo⟩ := X.out
    have hg1 := (hk.2 _ (blk_lt HGE.out.1) (show ¬ w.heap.size = g by omega)).trans HGE.out.1
    have hg2 := (hk.2 _ (blk_lt HGE.out.2) (show ¬ w.heap.size + 1 = g by omega)).trans HGE.out.2
    have hRFo : Kd.R Kd.string 9 wO wB.heap.size (fun k => k < w2.heap.size) (.slice F0 n0 d0) fs := Kd.R_step HRF.out (fun k hk' hkl => hk.2 k hkl (show ¬ k = g by omega))
    have hRIo : Kd.R k41 41 wO wB.heap.size (fun _ => True) (.slice (some ⟨g, 0, none⟩) n d1) l := R_of_cells (by omega) hg HN.out.2 HGC.out.2.1 HGC.out.2.2 hcs (fun j p hj => by
     obtain ⟨u5, u6, ⟨q0, q1, q2, q3, q4, q5, q6⟩, h3⟩ := hx j p hj
     have hjl := (List.getElem?_eq_some_iff.1 hj).1
     rw [if_pos (by have := HN.out.2; omega)] at h3
     refine ⟨[.string p.f0, .int .i64 p.f1, .string p.f2, .bool p.f3, .int .i64 p.f4, u5, u6], rfl, fun i u hu => ?_, k41_mkM _ _ _ _ h3.1 h3.2⟩
     match i, hu with
     | 0, hu => cases hu; exact q0
     | 1, hu => cases hu; exact q1
     | 2, hu => cases hu; exact q2
     | 3, hu => cases hu; exact q3
     | 4, hu => cases hu; exact q4
     | 5, hu => cases hu; exact q5
     | 6, hu => cases hu; exact q6
     | i + 7, hu => simp at hu)
    clear X hg hcs hgl hx hk
    have HFIN : Hid (Kd.R Kd.string 9 ((wO.setCell ⟨w.heap.size + 1, 0, none⟩ (.slice F0 n0 d0)).setCell ⟨w.heap.size + 1, 1, none⟩ (.slice (some ⟨g, 0, none⟩) n d1)) w.heap.size (fun _ => True) (.slice F0 n0 d0) fs ∧ Kd.R k41 41 ((wO.setCell ⟨w.heap.size + 1, 0, none⟩ (.slice F0 n0 d0)).setCell ⟨w.heap.size + 1, 1, none⟩ (.slice (some ⟨g, 0, none⟩) n d1)) w.heap.size (fun _ => True) (.slice (some ⟨g, 0, none⟩) n d1) l ∧ Below w.heap.size w ((wO.setCell ⟨w.heap.size + 1, 0, none⟩ (.slice F0 n0 d0)).setCell ⟨w.heap.size + 1, 1, none⟩ (.slice (some ⟨g, 0, none⟩) n d1))) := Lib.hid ⟨Kd.R_mono (Kd.R_lower (rset (rset hRFo)) (by omega)) (fun _ _ => trivial), Kd.R_lower (rset (rset hRIo)) (by omega), (hbo.setCell (Nat.le_succ _) _).setCell (Nat.le_succ _) _⟩
    have HGF := Lib.hid (q61 (q61 hg2 0 (.slice F0 n0 d0) rfl) 1 (.slice (some ⟨g, 0, none⟩) n d1) rfl)
    have hx_0 := (q56 hg1 0).trans rfl
    have hx_1 := (q56 hg1 1).trans rfl
    have hz_0 := (q56 hg2 0).trans rfl
    have hz_1 := (q56 hg2 1).trans rfl
    have hq_0 := q60 hg2 0
    have hq_1 := q60 hg2 1
    clear hRFo hRIo hbo hg1 hg2
    go_wp2
    clear hx_0 hx_1 hz_0 hz_1 hq_0 hq_1
    refine bodyPost_ret (results_cell_row rfl _ _ (w.heap.size + 1) 25 #[.slice F0 n0 d0, (.slice (some ⟨g, 0, none⟩) n d1)] (0, 0) _ rfl HGF.out Try.underlying25 rfl (by kernel_rfl)) rfl ?_
    exact ⟨_, _, rfl, HFIN.out.1, HFIN.out.2.1, HFIN.out.2.2⟩
   have hltz : (i : Int) < (n : Int) := by omega
   obtain ⟨⟨cur, hg, hcs, hgl, hx⟩, hk, hb⟩ := X.out
   have hil : i < l.length := by have := HN.out.2; omega
   obtain ⟨x, hxx⟩ : ∃ x, x = l[i] := ⟨_, rfl⟩
   have hxg : l[i]? = some x := by rw [hxx, List.getElem?_eq_getElem hil]
   obtain ⟨u5, u6, ⟨q0, q1, q2, q3, q4, q5, q6⟩, h3⟩ := hx i x hxg
   rw [if_neg (by omega)] at h3
   obtain ⟨A5, c5, A6, c6, rfl, rfl, h5, hC5, h6, hC6⟩ := h3
   have hwx := HWI.out x (by rw [hxx]; exact List.getElem_mem _)
   have hx0 := (q56 hg _).trans q0
   have hx1 := (q56 hg _).trans q1
   have hx2 := (q56 hg _).trans q2
   have hx3 := (q56 hg _).trans q3
   have hx4 := (q56 hg _).trans q4
   have hx5 := (q56 hg _).trans q5
   have hx6 := (q56 hg _).trans q6
   obtain ⟨n5, hn5⟩ : ∃ n5, n5 = x.f5.length := ⟨_, rfl⟩
   obtain ⟨n6, hn6⟩ : ∃ n6, n6 = x.f6.length := ⟨_, rfl⟩
   obtain ⟨W1, hW1⟩ : ∃ W1, W1 = wO.alloc (.cells #[.string x.f0, .int .i64 x.f1, .string x.f2, .bool x.f3, .int .i64 x.f4, .slice A5 n5 c5, .slice A6 n6 c6] 41) := ⟨_, rfl⟩
   have hbW : Below wO.heap.size wO W1 := by rw [hW1]; exact q50 (Below.refl _ _) _
   have hgW : W1.heap[wO.heap.size]? = some (.cells #[.string x.f0, .int .i64 x.f1, .string x.f2, .bool x.f3, .int .i64 x.f4, .slice A5 n5 c5, .slice A6 n6 c6] 41 (0, 0)) := by rw [hW1]; exact heap_alloc_new wO _
   rw [← hn5] at hx5
   rw [← hn6] at hx6
   have HW1 := Lib.hid hW1
   have HBW := Lib.hid hbW
   have HGW := Lib.hid hgW
   have HX := Lib.hid (And.intro hg (And.intro hcs (And.intro hgl hx)))
   have HKB := Lib.hid (And.intro hk hb)
   have HQ := Lib.hid (And.intro q0 (And.intro q1 (And.intro q2 (And.intro q3 (And.intro q4 (And.intro q5 q6))))))
   have HC := Lib.hid (And.intro h5 (And.intro hC5 (And.intro h6 (And.intro hC6 hwx))))
   have HXG := Lib.hid (And.intro hxg (And.intro hn5 hn6))
   clear X hg hcs hgl hx hk hb hil hxx hxg q0 q1 q2 q3 q4 q5 q6 h5 hC5 h6 hC6 hwx hW1 hbW hgW hn5 hn6
   go_wp2
   rw [← HW1.out]
   clear hx0 hx1 hx2 hx3 hx4 hx5 hx6
   have hgE1 : W1.heap[w.heap.size]? = some (.cells #[.slice F0 n0 d0, .slice (some ⟨g, 0, none⟩) n d1] 25 (0, 0)) := q55 ((HKB.out.1.2 _ (blk_lt HGE.out.1) (by omega)).trans HGE.out.1) HBW.out
   have hs_0 := (q56 hgE1 1).trans rfl
   have hs_1 := (q56 HGW.out 5).trans rfl
   have hs_2 := (q56 HGW.out 6).trans rfl
   have hOw : w.heap.size < wO.heap.size := Nat.lt_of_lt_of_le (blk_lt HGE.out.1) HKB.out.1.1
   refine sD_ [] (fun w' => w'.cell? ⟨w.heap.size, 1, none⟩ = some (.slice (some ⟨g, 0, none⟩) n d1) ∧ w'.cell? ⟨wO.heap.size, 5, none⟩ = some (.slice A5 n5 c5) ∧ w'.cell? ⟨wO.heap.size, 6, none⟩ = some (.slice A6 n6 c6)) 18 ⟨hs_0, hs_1, hs_2⟩ (fun hHeld => ?_)
   have hbO : Below wO.heap.size wO W1.drew := q51 HBW.out
   have hgO1 : W1.drew.heap[w.heap.size]? = some (.cells #[.slice F0 n0 d0, .slice (some ⟨g, 0, none⟩) n d1] 25 (0, 0)) := hgE1
   have hgO2 : W1.drew.heap[wO.heap.size]? = some (.cells #[.string x.f0, .int .i64 x.f1, .string x.f2, .bool x.f3, .int .i64 x.f4, .slice A5 n5 c5, .slice A6 n6 c6] 41 (0, 0)) := HGW.out
   clear hs_0 hs_1 hs_2 hgE1
   generalize W1.drew = wP at hHeld hbO hgO1 hgO2 ⊢
   refine pu_ 0 (some 21) ?_
   refine tk_ 1 (some 22) hHeld ?_ (hy := by rintro w' ⟨s0, s1, s2⟩; go_simp; with_reducible rfl)
   refine pu_ 2 (some 23) ?_
   refine pu_ 3 (some 24) ?_
   refine tk_ 4 (some 25) hHeld ?_ (hy := by rintro w' ⟨s0, s1, s2⟩; go_simp; with_reducible rfl)
   refine pu_ 5 (some 26) ?_
   refine pu_ 6 (some 27) ?_
   refine tk_ 7 (some 28) hHeld ?_ (hy := by rintro w' ⟨s0, s1, s2⟩; go_simp; with_reducible rfl)
   refine pu_ 9 (some 30) ?_
   refine tk_ 10 (some 31) hHeld ?_ (hy := by rintro w' ⟨s0, s1, s2⟩; go_simp; with_reducible rfl)
   have hbwP := q53 HKB.out.2 HKB.out.2.size hbO
   have hcp5 := copied_any wP A5 c5 x.f5 (Kd.C_below HC.out.2.1 hbwP) HC.out.1 HC.out.2.2.2.2.1.1 HC.out.2.2.2.2.1.2
   rw [← HXG.out.2.1] at hcp5
   refine ca_ 8 (some 29) Try.func63 #[.slice A5 n5 c5] ?_
   refine hcp5.mono ?_
   rintro e w6 ⟨v5, rfl, hR5, hb6⟩
   obtain ⟨E5, e5, rfl⟩ := Kd.R_slice hR5
   rw [← HXG.out.2.1] at hR5 ⊢
   have hg61 := q55 hgO1 hb6
   have hg62 := q55 hgO2 hb6
   have hbO6 := q53 hbO hbO.size hb6
   have hbw6 := q53 hbwP hbwP.size hb6
   have hzP : wO.heap.size < wP.heap.size := blk_lt hgO2
   refine ⟨_, rfl, ⟨(q56 hg61 1).trans rfl, (q56 hg62 5).trans rfl, (q56 hg62 6).trans rfl⟩, fun hHeld => ⟨_, rfl, nz_ (some 29) ?_⟩⟩
   have hcp6 := copied_any w6 A6 c6 x.f6 (Kd.C_below HC.out.2.2.2.1 hbw6) HC.out.2.2.1 HC.out.2.2.2.2.2.1 HC.out.2.2.2.2.2.2
   rw [← HXG.out.2.2] at hcp6
   refine ca_ 11 (some 32) Try.func63 #[.slice A6 n6 c6] ?_
   refine hcp6.mono ?_
   rintro e w7 ⟨v6, rfl, hR6, hb7⟩
   obtain ⟨E6, e6, rfl⟩ := Kd.R_slice hR6
   rw [← HXG.out.2.2] at hR6 ⊢
   have hg71 := q55 hg61 hb7
   have hg72 := q55 hg62 hb7
   have hbO7 := q53 hbO6 hbO6.size hb7
   have hbw7 := q53 hbw6 hbw6.size hb7
   have hR57 := Kd.R_below hR5 hb7
   have hz6 : wP.heap.size ≤ w6.heap.size := hb6.size
   have hgO := q55 HX.out.1 hbO7
   refine ⟨_, rfl, ⟨(q56 hg71 1).trans rfl, (q56 hg72 5).trans rfl, (q56 hg72 6).trans rfl⟩, fun hHeld => ⟨_, rfl, nz_ (some 32) ?_⟩⟩
   refine pu_ 12 (some 33) ?_
   refine pu_ 13 (some 34) ?_
   have hgg : g < wO.heap.size := HX.out.2.2.1
   have hx5 := (q56 hgO (i * 7 + 5)).trans HQ.out.2.2.2.2.2.1
   have hf5 := q60 hgO (i * 7 + 5)
   refine oN_ 14 none (fun K hK => ?_)
   go_simp
   have hgO8 := q61 hgO (i * 7 + 5) (.slice E5 n5 e5) rfl
   have hg81 := (Below.heap_setCell w7 ⟨g, i * 7 + 5, none⟩ (.slice E5 n5 e5) w.heap.size (show w.heap.size ≠ g by omega)).trans hg71
   have hg82 := (Below.heap_setCell w7 ⟨g, i * 7 + 5, none⟩ (.slice E5 n5 e5) wO.heap.size (show wO.heap.size ≠ g by omega)).trans hg72
   refine hK.out _ _ ⟨(q56 hg81 1).trans rfl, (q56 hg82 5).trans rfl, (q56 hg82 6).trans rfl⟩ (fun hHeld => ?_)
   clear hK K hx5 hf5
   refine pu_ 15 (some 35) ?_
   refine pu_ 16 (some 36) ?_
   have l6 := (Array.getElem?_eq_some_iff.1 HQ.out.2.2.2.2.2.2).1
   have hx6 : (w7.setCell ⟨g, i * 7 + 5, none⟩ (.slice E5 n5 e5)).cell? ⟨g, i * 7 + 6, none⟩ = some (.slice A6 x.f6.length c6) := (q56 hgO8 (i * 7 + 6)).trans ((Array.getElem?_setIfInBounds_ne (by omega)).trans HQ.out.2.2.2.2.2.2)
   have hf6 := q60 hgO8 (i * 7 + 6)
   refine oN_ 17 none (fun K hK => ?_)
   go_simp
   have HF : Hid (cyInv w ((w7.setCell ⟨g, i * 7 + 5, none⟩ (.slice E5 n5 e5)).setCell ⟨g, i * 7 + 6, none⟩ (.slice E6 n6 e6)) wB.heap.size g d1 l (i + 1) ∧ Kept wE ((w7.setCell ⟨g, i * 7 + 5, none⟩ (.slice E5 n5 e5)).setCell ⟨g, i * 7 + 6, none⟩ (.slice E6 n6 e6)) (fun k => k = g) ∧ Below w.heap.size w ((w7.setCell ⟨g, i * 7 + 5, none⟩ (.slice E5 n5 e5)).setCell ⟨g, i * 7 + 6, none⟩ (.slice E6 n6 e6))) := Lib.hid (by
    have hgB : wB.heap.size ≤ g := by omega
    have l5 := (Array.getElem?_eq_some_iff.1 HQ.out.2.2.2.2.2.1).1
    refine ⟨⟨(cur.setIfInBounds (i * 7 + 5) (.slice E5 n5 e5)).setIfInBounds (i * 7 + 6) (.slice E6 n6 e6), q61 hgO8 (i * 7 + 6) (.slice E6 n6 e6) rfl, by simp only [Array.size_setIfInBounds]; exact HX.out.2.1, ?_, fun j p hj => ?_⟩, ?_, ?_⟩
    ·have := hbO7.size
     simpa [World.setCell] using Nat.lt_of_lt_of_le hgg this
    ·by_cases hji : j = i
     ·subst hji
      obtain rfl : x = p := Option.some.inj (HXG.out.1.symm.trans hj)
      obtain ⟨q0, q1, q2, q3, q4, q5, q6⟩ := HQ.out
      refine ⟨.slice E5 n5 e5, .slice E6 n6 e6, ⟨?_, ?_, ?_, ?_, ?_, ?_, ?_⟩, ?_⟩
      ·rw [Array.getElem?_setIfInBounds_ne (by omega), Array.getElem?_setIfInBounds_ne (by omega)]; exact q0
      ·rw [Array.getElem?_setIfInBounds_ne (by omega), Array.getElem?_setIfInBounds_ne (by omega)]; exact q1
      ·rw [Array.getElem?_setIfInBounds_ne (by omega), Array.getElem?_setIfInBounds_ne (by omega)]; exact q2
      ·rw [Array.getElem?_setIfInBounds_ne (by omega), Array.getElem?_setIfInBounds_ne (by omega)]; exact q3
      ·rw [Array.getElem?_setIfInBounds_ne (by omega), Array.getElem?_setIfInBounds_ne (by omega)]; exact q4
      ·rw [Array.getElem?_setIfInBounds_ne (by omega), Array.getElem?_setIfInBounds_self_of_lt l5]
      ·rw [Array.getElem?_setIfInBounds_self_of_lt (by simpa using l6)]
      ·rw [if_pos (by omega)]
       have far : ∀ {α : Type} {d : Kd α} {e base : Nat} {v : Value} {xs : List α}, g < base → wB.heap.size ≤ base → d.R e w7 base (fun _ => True) v xs → d.R e ((w7.setCell ⟨g, j * 7 + 5, none⟩ (.slice E5 n5 e5)).setCell ⟨g, j * 7 + 6, none⟩ (.slice E6 n6 e6)) wB.heap.size (fun k => True ∧ k ≠ g) v xs := fun hg1 hg2 h =>
        Kd.R_lower (Kd.R_mono (Kd.R_far (Kd.R_far (Kd.R_bound h) (p := ⟨g, j * 7 + 5, none⟩) (fun k hk => by have := hk.2.1; show k ≠ g; omega) _) (p := ⟨g, j * 7 + 6, none⟩) (fun k hk => by have := hk.2.1; show k ≠ g; omega) _) (fun k hk => ⟨trivial, by have := hk.2.1; omega⟩)) hg2
       exact ⟨far (by omega) (by omega) hR57, far (by omega) (by omega) hR6⟩
     ·obtain ⟨u5, u6, ⟨q0, q1, q2, q3, q4, q5, q6⟩, h3⟩ := HX.out.2.2.2 j p hj
      refine ⟨u5, u6, ⟨?_, ?_, ?_, ?_, ?_, ?_, ?_⟩, ?_⟩
      ·rw [Array.getElem?_setIfInBounds_ne (by omega), Array.getElem?_setIfInBounds_ne (by omega)]; exact q0
      ·rw [Array.getElem?_setIfInBounds_ne (by omega), Array.getElem?_setIfInBounds_ne (by omega)]; exact q1
      ·rw [Array.getElem?_setIfInBounds_ne (by omega), Array.getElem?_setIfInBounds_ne (by omega)]; exact q2
      ·rw [Array.getElem?_setIfInBounds_ne (by omega), Array.getElem?_setIfInBounds_ne (by omega)]; exact q3
      ·rw [Array.getElem?_setIfInBounds_ne (by omega), Array.getElem?_setIfInBounds_ne (by omega)]; exact q4
      ·rw [Array.getElem?_setIfInBounds_ne (by omega), Array.getElem?_setIfInBounds_ne (by omega)]; exact q5
      ·rw [Array.getElem?_setIfInBounds_ne (by omega), Array.getElem?_setIfInBounds_ne (by omega)]; exact q6
      ·by_cases hlt' : j < i
       ·rw [if_pos hlt'] at h3
        rw [if_pos (by omega)]
        have stp : ∀ {α : Type} {d : Kd α} {e base : Nat} {v : Value} {xs : List α}, d.R e wO base (fun k => True ∧ k ≠ g) v xs → d.R e ((w7.setCell ⟨g, i * 7 + 5, none⟩ (.slice E5 n5 e5)).setCell ⟨g, i * 7 + 6, none⟩ (.slice E6 n6 e6)) base (fun k => True ∧ k ≠ g) v xs := fun h => Kd.R_step h (fun k hk hkl => (Below.heap_setCell _ _ _ _ hk.2).trans ((Below.heap_setCell _ _ _ _ hk.2).trans (hbO7.block k hkl)))
        exact ⟨stp h3.1, stp h3.2⟩
       ·rw [if_neg hlt'] at h3
        rw [if_neg (by omega)]
        exact h3
    ·exact ((HKB.out.1.below hbO7).setCell (p := ⟨g, i * 7 + 5, none⟩) (.inl rfl) _).setCell (p := ⟨g, i * 7 + 6, none⟩) (.inl rfl) _
    ·exact (hbw7.setCell (show w.heap.size ≤ g by omega) _).setCell (show w.heap.size ≤ g by omega) _)
   have hg91 := (Below.heap_setCell (w7.setCell ⟨g, i * 7 + 5, none⟩ (.slice E5 n5 e5)) ⟨g, i * 7 + 6, none⟩ (.slice E6 n6 e6) w.heap.size (show w.heap.size ≠ g by omega)).trans hg81
   have hg92 := (Below.heap_setCell (w7.setCell ⟨g, i * 7 + 5, none⟩ (.slice E5 n5 e5)) ⟨g, i * 7 + 6, none⟩ (.slice E6 n6 e6) wO.heap.size (show wO.heap.size ≠ g by omega)).trans hg82
   refine hK.out _ _ ⟨(q56 hg91 1).trans rfl, (q56 hg92 5).trans rfl, (q56 hg92 6).trans rfl⟩ (fun _ => ?_)
   clear hK K hx6 hf6 hg91 hg92 hg81 hg82 hgO8 hgO hR5 hR6 hR57 hg61 hg62 hg71 hg72 hHeld hcp5 hcp6 hgO1 hgO2
   refine dn_ ?_
   go_wp2
   go_roundg (n - (i + 1))
   case measure => omega
   case rel => exact ⟨i + 1, by go_num, by omega, by omega, HF⟩
end Go.Proofs.Yteddgedacjdjgaa.Pm
end
section
namespace Go.Proofs.Yteddgedacjdjgaa.OpenKd
open Go Go.RowKit Go.ChangeShapes Go.WideShapes Go.Deep Go.Proofs.YteddgedacjdjgaaW.PrintWords
set_option linter.unusedVariables false
set_option linter.unusedSectionVars false
section
variable {H : Type} {enc : TypeId × Value → H} {P : Program} {w : World} {α β : Type}
theorem weights_mem_all {e : TypeId} : ∀ {ds : List (DataW H)} {d : DataW H}, d ∈ ds → ∀ n ∈ d.weights P e, n ∈ DataW.weightsAll P e ds
  | [], _, h, _, _ => by simp at h
  | x :: ds, d, h, n, hn => by
    rcases List.mem_cons.1 h with rfl | h
    · simp [DataW.weightsAll, hn]
    · simp [DataW.weightsAll, weights_mem_all h n hn]
def Light (P : Program) (t : TypeId) (d : DataW H) : Prop := ∀ n ∈ d.weights P t, n ≤ reachBytes
structure Opens (enc : TypeId × Value → H) (P : Program) (w : World) (t : TypeId) (d : Kd α) (good : α → Prop) : Prop where
 cells : P.cellsOf t = d.sz
 go : ∀ (fuel : Nat) (cs : List Value) (x : DataW H × List MemPlace), DataW.trod enc P w 0 (fun _ => true) true fuel t cs = some x → Light P t x.1 → ∃ a, d.K w a cs ∧ good a
theorem opens_int {t : TypeId} {k : IntKind} (hu : P.underlying t = some (.int k)) (hc : P.cellsOf t = 1) : Opens enc P w t (Kd.int k) (fun n => (Lit.int k n).wf = true) :=
 ⟨hc, fun fuel cs x h _ => by
  obtain ⟨n, rfl, _, hw⟩ := DataW.trod_int hu h
  exact ⟨n, rfl, hw⟩⟩
theorem opens_bool {t : TypeId} (hu : P.underlying t = some .bool) (hc : P.cellsOf t = 1) : Opens enc P w t Kd.bool (fun _ => True) :=
 ⟨hc, fun fuel cs x h _ => by
  obtain ⟨n, rfl, _⟩ := DataW.trod_bool hu h
  exact ⟨n, rfl, trivial⟩⟩
theorem opens_string {t : TypeId} (hu : P.underlying t = some .string) (hc : P.cellsOf t = 1) : Opens enc P w t Kd.string (fun s => s.size ≤ 140737488351232) :=
 ⟨hc, fun fuel cs x h hl => by
  obtain ⟨s, rfl, rfl, _⟩ := DataW.trod_string hu h
  refine ⟨s, rfl, ?_⟩
  have := hl s.data.toList.length (by simp [DataW.weights])
  simpa [reachBytes] using this⟩
theorem opens_slice {t e : TypeId} {d : Kd α} {good : α → Prop} (hu : P.underlying t = some (.slice e)) (hc : P.cellsOf t = 1) (h : Opens enc P w e d good) : Opens enc P w t (Kd.slice e d) (fun xs => xs.length * P.bytesOf e ≤ 140737488351232 ∧ ∀ x ∈ xs, good x) :=
  ⟨hc, fun fuel cs x hx hl => by
    rcases open_slice hu hx with ⟨rfl, rfl⟩ | ⟨a, len, cap, m, n, D, Pl, rfl, hb, hlc, hcm, hm, rfl, hel⟩
    · exact ⟨[], ⟨none, 0, rfl, Nat.le_refl _, ⟨rfl, by simp, fun h => by simp at h⟩⟩, by simp, by simp⟩
    · have hle : len ≤ m := by rw [hm]; split <;> omega
      have hmem : ∀ i, i < m → D i ∈ (List.range len).map D ∨ D i ∈ (List.range (m - len)).map fun j => D (len + j) := by
        intro i hi
        by_cases h1 : i < len
        · exact .inl (List.mem_map.2 ⟨i, List.mem_range.2 h1, rfl⟩)
        · exact .inr (List.mem_map.2 ⟨i - len, List.mem_range.2 (by omega), by congr 1; omega⟩)
      have hlight : ∀ i, i < m → Light P e (D i) := by
        intro i hi q hq
        refine hl q ?_
        simp only [DataW.weights, hu]
        rcases hmem i hi with h1 | h1
        · exact List.mem_cons_of_mem _ (List.mem_append_left _ (weights_mem_all h1 q hq))
        · exact List.mem_cons_of_mem _ (List.mem_append_right _ (weights_mem_all h1 q hq))
      have hall : ∀ i, i < len → ∃ x : α, good x ∧ ∃ c, c.length = d.sz ∧ d.K w x c ∧ ∀ j u, c[j]? = some u → w.cell? (a.add (i * d.sz + j)) = some u := by
        intro i hi
        obtain ⟨cs', hcs, htr⟩ := hel i (by omega)
        obtain ⟨y, hK, hg⟩ := h.go n cs' _ htr (hlight i (by omega))
        obtain ⟨_, hcl, hcc⟩ := World.cells?_some hcs
        refine ⟨y, hg, cs', by rw [hcl, h.cells], hK, fun j u hj => ?_⟩
        have hjl : j < P.cellsOf e := by rw [← hcl]; exact (List.getElem?_eq_some_iff.1 hj).1
        have := hcc j hjl
        rw [hj, Deep.add_add, h.cells] at this
        exact this
      have hlist : ∃ xs : List α, xs.length = len ∧ ∀ i (x : α), xs[i]? = some x → good x ∧ ∃ c, c.length = d.sz ∧ d.K w x c ∧ ∀ j u, c[j]? = some u → w.cell? (a.add (i * d.sz + j)) = some u := by
        clear hmem hlight hle hlc hl hel hx hm
        induction len with
        | zero => exact ⟨[], rfl, fun i x h => by simp at h⟩
        | succ len ih =>
          obtain ⟨xs, hxl, hxs⟩ := ih (fun i hi => hall i (by omega))
          obtain ⟨y, hy⟩ := hall len (by omega)
          refine ⟨xs ++ [y], by simp [hxl], fun i x hi => ?_⟩
          by_cases h1 : i < xs.length
          · rw [List.getElem?_append_left h1] at hi
            exact hxs i x hi
          · rw [List.getElem?_append_right (by omega)] at hi
            have h2 : i = xs.length := by
              have := (List.getElem?_eq_some_iff.1 hi).1
              simp at this
              omega
            subst h2
            simp at hi
            subst hi
            rw [hxl]
            exact hy
      obtain ⟨xs, hxl, hxs⟩ := hlist
      subst hxl
      refine ⟨xs, ⟨some a, cap, rfl, hlc, rfl, by have := hcm; unfold maxLen at this; omega, fun _ => ⟨a, rfl, fun j p hj => (hxs j p hj).2⟩⟩, ?_, fun x hx => ?_⟩
      · have hw := hl ((((List.range xs.length).map D).length + ((List.range (m - xs.length)).map fun j => D (xs.length + j)).length) * P.bytesOf e) (by simp [DataW.weights, hu])
        simp only [List.length_map, List.length_range] at hw
        have h2 : xs.length * P.bytesOf e ≤ (xs.length + (m - xs.length)) * P.bytesOf e := Nat.mul_le_mul_right _ (by omega)
        unfold reachBytes at hw
        omega
      · obtain ⟨i, hi, rfl⟩ := List.getElem_of_mem hx
        exact (hxs i _ (List.getElem?_eq_getElem hi)).1⟩
structure OpensF (enc : TypeId × Value → H) (P : Program) (w : World) (fs : List Field) (o : Nat) (d : Kd α) (good : α → Prop) : Prop where
 go : ∀ (n : Nat) (cs : List Value) (xs : List (DataW H × List MemPlace)), (∀ (i : Nat) (f : Field), fs[i]? = some f → DataW.trod enc P w 0 (fun _ => true) true n f.type ((cs.drop f.offset).take (P.cellsOf f.type)) = xs[i]?) →
  xs.length = fs.length → cs.length = o + d.sz → (∀ q ∈ DataW.weightsEach P (fs.map (·.type)) (xs.map (·.1)), q ≤ reachBytes) → ∃ a, d.K w a (cs.drop o) ∧ good a
theorem opens_last {f : Field} {o : Nat} {d : Kd α} {good : α → Prop} (ho : f.offset = o) (h : Opens enc P w f.type d good) : OpensF enc P w [f] o d good :=
  ⟨fun n cs xs hx hxl hcl hw => by
    match xs, hxl with
    | [x], _ =>
      have h0 := hx 0 f rfl
      rw [ho, h.cells, List.take_of_length_le (by rw [List.length_drop]; omega)] at h0
      exact h.go n _ x (by simpa using h0) (fun q hq => hw q (by simp [DataW.weightsEach, hq]))⟩
theorem opens_cons {f : Field} {fs : List Field} {o o2 : Nat} {a : Kd α} {b : Kd β} {ga : α → Prop} {gb : β → Prop} (ho : f.offset = o) (h : Opens enc P w f.type a ga) (ho2 : o2 = o + a.sz) (h2 : OpensF enc P w fs o2 b gb) :
    OpensF enc P w (f :: fs) o (Kd.pair a b) (fun p => ga p.1 ∧ gb p.2) :=
  ⟨fun n cs xs hx hxl hcl hw => by
    match xs, hxl with
    | x :: xs, hxl =>
      have h0 := hx 0 f rfl
      rw [ho, h.cells] at h0
      have hcl' : cs.length = o + (a.sz + b.sz) := hcl
      obtain ⟨x1, hK1, hg1⟩ := h.go n _ x (by simpa using h0) (fun q hq => hw q (by simp [DataW.weightsEach, hq]))
      obtain ⟨x2, hK2, hg2⟩ := h2.go n cs xs (fun i f' hf => by simpa using hx (i + 1) f' (by simpa using hf)) (by simpa using hxl) (by omega) (fun q hq => hw q (by
        simp only [List.map_cons, DataW.weightsEach]
        exact List.mem_append_right _ hq))
      refine ⟨(x1, x2), ⟨(cs.drop o).take a.sz, cs.drop o2, ?_, hK1, hK2⟩, hg1, hg2⟩
      have h3 := List.take_append_drop a.sz (cs.drop o)
      rw [List.drop_drop] at h3
      rw [ho2]
      exact h3.symm⟩
theorem opens_struct {t : TypeId} {fs : Array Field} {d : Kd α} {good : α → Prop} (hu : P.underlying t = some (.struct fs)) (hc : P.cellsOf t = d.sz) (h : OpensF enc P w fs.toList 0 d good) {f : β → α} (g : α → β) (hg : ∀ a, f (g a) = a) :
 Opens enc P w t (Kd.iso d f) (fun y => good (f y)) :=
 ⟨hc, fun fuel cs x hx hl => by
  obtain ⟨xs, n, _, rfl, hcl, hxl, hxs⟩ := DataW.trod_struct hu hx
  obtain ⟨a, hK, hga⟩ := h.go n cs xs (fun i f' hf => hxs i f' (by rw [← Array.getElem?_toList]; exact hf)) (by simpa using hxl) (by rw [hcl, hc]; omega) (fun q hq => hl q (by simpa [DataW.weights, hu] using hq))
  refine ⟨g a, ?_, by rw [hg]; exact hga⟩
  show d.K w (f (g a)) cs
  rw [hg]
  simpa using hK⟩
end
end Go.Proofs.Yteddgedacjdjgaa.OpenKd
end
section
namespace Go.Proofs.Yteddgedacjdjgaa.Pm
open Go.RowKit Go.Proofs.YteddgedacjdjgaaW.PrintWords Go.Proofs.YteddgedacjdjgaaW.PrintLast Go.Proofs.YteddgedacjdjgaaW.PrintMore
attribute [local go_sem] max2_int min2_int max_two min_two max_three min_three max_four min_four   -- for this text's walks alone
set_option linter.unusedVariables false
set_option linter.unusedSimpArgs false
open OpenKd
def goodSentry (x : S45) : Prop := x.f0.length ≤ 140737488351232 ∧ x.f1.length ≤ 140737488351232
def goodItem (x : S41) : Prop := x.f0.size ≤ 140737488351232 ∧ x.f2.size ≤ 140737488351232 ∧ x.f5.length ≤ 140737488351232 ∧ x.f6.length ≤ 140737488351232 ∧ (∀ s ∈ x.f5, goodSentry s) ∧ ∀ s ∈ x.f6, goodSentry s
theorem Opens.imp {H : Type} {enc : TypeId × Value → H} {P : Program} {w : World} {t : TypeId} {α : Type} {d : Kd α} {g g' : α → Prop} (h : Opens enc P w t d g) (hg : ∀ x, g x → g' x) : Opens enc P w t d g' :=
 ⟨h.cells, fun n cs x hx hl => let ⟨a, hK, ha⟩ := h.go n cs x hx hl; ⟨a, hK, hg a ha⟩⟩
section
variable {H : Type} {enc : TypeId × Value → H} {w : World}
set_option maxRecDepth 100000 in
theorem opens_on : Opens enc Try.prog w 101 k101 (fun _ => True) :=
 Opens.imp (opens_struct Try.underlying101 (by kernel_rfl) (opens_cons rfl (opens_string Try.underlying9 (by kernel_rfl)) rfl (opens_last rfl (opens_int Try.underlying3 (by kernel_rfl)))) (fun a => ⟨a.1, a.2⟩) (fun _ => rfl)) (fun _ _ => trivial)
set_option maxRecDepth 100000 in
theorem opens_cond : Opens enc Try.prog w 90 k90 (fun _ => True) :=
 Opens.imp (opens_struct Try.underlying90 (by kernel_rfl) (opens_cons rfl (opens_string Try.underlying9 (by kernel_rfl)) rfl (opens_cons rfl (opens_string Try.underlying9 (by kernel_rfl)) rfl (opens_last rfl (opens_int Try.underlying3 (by kernel_rfl))))) (fun a => ⟨a.1, a.2.1, a.2.2⟩) (fun _ => rfl)) (fun _ _ => trivial)
set_option maxRecDepth 100000 in
theorem opens_ons : Opens enc Try.prog w 42 (Kd.slice 101 k101) (fun xs => xs.length ≤ 140737488351232) :=
 Opens.imp (opens_slice Try.underlying42 (by kernel_rfl) opens_on) (fun xs h => by have := h.1; rw [show Try.prog.bytesOf 101 = 24 by kernel_rfl] at this; omega)
set_option maxRecDepth 100000 in
theorem opens_conds : Opens enc Try.prog w 43 (Kd.slice 90 k90) (fun xs => xs.length ≤ 140737488351232) :=
 Opens.imp (opens_slice Try.underlying43 (by kernel_rfl) opens_cond) (fun xs h => by have := h.1; rw [show Try.prog.bytesOf 90 = 40 by kernel_rfl] at this; omega)
set_option maxRecDepth 100000 in
theorem opens_sentry : Opens enc Try.prog w 45 k45 goodSentry :=
 Opens.imp (opens_struct Try.underlying45 (by kernel_rfl) (opens_cons rfl opens_ons rfl (opens_last rfl opens_conds)) (fun a => ⟨a.1, a.2⟩) (fun _ => rfl)) (fun _ h => h)
set_option maxRecDepth 100000 in
theorem opens_sentries : Opens enc Try.prog w 39 (Kd.slice 45 k45) (fun xs => xs.length ≤ 140737488351232 ∧ ∀ s ∈ xs, goodSentry s) :=
 Opens.imp (opens_slice Try.underlying39 (by kernel_rfl) opens_sentry) (fun xs h => ⟨by have := h.1; rw [show Try.prog.bytesOf 45 = 48 by kernel_rfl] at this; omega, h.2⟩)
set_option maxRecDepth 100000 in
theorem opens_item : Opens enc Try.prog w 41 k41 goodItem :=
 Opens.imp (opens_struct Try.underlying41 (by kernel_rfl) (opens_cons rfl (opens_string Try.underlying9 (by kernel_rfl)) rfl (opens_cons rfl (opens_int Try.underlying3 (by kernel_rfl)) rfl (opens_cons rfl (opens_string Try.underlying9 (by kernel_rfl)) rfl (opens_cons rfl (opens_bool Try.underlying4 (by kernel_rfl)) rfl (opens_cons rfl (opens_int Try.underlying3 (by kernel_rfl)) rfl (opens_cons rfl opens_sentries rfl (opens_last rfl opens_sentries)))))))
  (fun a => ⟨a.1, a.2.1, a.2.2.1, a.2.2.2.1, a.2.2.2.2.1, a.2.2.2.2.2.1, a.2.2.2.2.2.2⟩) (fun _ => rfl)) (fun x h => ⟨h.1, h.2.2.1, h.2.2.2.2.2.1.1, h.2.2.2.2.2.2.1, h.2.2.2.2.2.1.2, h.2.2.2.2.2.2.2⟩)
set_option maxRecDepth 100000 in
theorem opens_items : Opens enc Try.prog w 23 (Kd.slice 41 k41) (fun xs => xs.length ≤ 140737488351232 ∧ ∀ x ∈ xs, goodItem x) :=
 Opens.imp (opens_slice Try.underlying23 (by kernel_rfl) opens_item) (fun xs h => ⟨by have := h.1; rw [show Try.prog.bytesOf 41 = 104 by kernel_rfl] at this; omega, h.2⟩)
set_option maxRecDepth 100000 in
theorem opens_files : Opens enc Try.prog w 22 (Kd.slice 9 Kd.string) (fun xs => xs.length ≤ 140737488351232) :=
 Opens.imp (opens_slice Try.underlying22 (by kernel_rfl) (opens_string Try.underlying9 (by kernel_rfl))) (fun xs h => by have := h.1; rw [show Try.prog.bytesOf 9 = 16 by kernel_rfl] at this; omega)
set_option maxRecDepth 100000 in
theorem opens_model : Opens enc Try.prog w 25 (Kd.iso (Kd.pair (Kd.slice 9 Kd.string) (Kd.slice 41 k41)) (fun (p : List ByteArray × List (S41)) => p)) (fun p => p.1.length ≤ 140737488351232 ∧ p.2.length ≤ 140737488351232 ∧ ∀ x ∈ p.2, goodItem x) :=
 opens_struct Try.underlying25 (by kernel_rfl) (opens_cons rfl opens_files rfl (opens_last rfl opens_items)) (fun a => a) (fun _ => rfl)
set_option maxRecDepth 100000 in
theorem open_model {b0 : Nat} {v : Value} {d : DataW H} {p : List MemPlace} (hv : Value.okWide Try.prog w .any b0 25 v) (h : DataW.Trod enc Try.prog w 0 (fun _ => true) true 25 v d p) (hl : Light Try.prog 25 d) :
 ∃ A0 c0 fs A1 c1 l, v = .agg #[.slice A0 fs.length c0, .slice A1 l.length c1] ∧ Kd.C Kd.string w A0 fs.length fs ∧ fs.length ≤ c0 ∧ Kd.C k41 w A1 l.length l ∧ l.length ≤ c1 ∧ fs.length ≤ 140737488351232 ∧ l.length ≤ 140737488351232 ∧ ∀ x ∈ l, goodItem x := by
 obtain ⟨cs, rfl, hsz⟩ := Go.WideShapes.okWide_struct Try.underlying25 hv
 obtain ⟨fuel, hf⟩ := h
 obtain ⟨⟨fs, l⟩, hK, h1, h2, h3⟩ := opens_model.go fuel _ _ hf hl
 obtain ⟨z0, z1, hz, ⟨A0, c0, rfl, q1, q2⟩, ⟨A1, c1, rfl, q3, q4⟩⟩ := hK
 have hz' : cs = #[.slice A0 fs.length c0, .slice A1 l.length c1] := by
  have : cs.toList = [.slice A0 fs.length c0, .slice A1 l.length c1] := by simpa [Value.cells] using hz
  rw [← Array.toArray_toList (xs := cs), this]
 exact ⟨A0, c0, fs, A1, c1, l, by rw [hz'], q2, q1, q4, q3, h1, h2, h3⟩
set_option maxRecDepth 100000 in
theorem light_of {ts : List TypeId} {ds : List (DataW H)} (h : (DataW.weightsEach Try.prog ts ds).all (· ≤ reachBytes) = true) {j : Nat} {t : TypeId} {d : DataW H} (ht : ts[j]? = some t) (hd : ds[j]? = some d) : Light Try.prog t d := by
 intro n hn
 have := List.all_eq_true.1 h n (DataW.weights_mem_each ht hd n hn)
 simpa using this
end
end Go.Proofs.Yteddgedacjdjgaa.Pm
end
section
namespace Go.Proofs.Yteddgedacjdjgaa.Pm
open Go.RowKit Go.Proofs.YteddgedacjdjgaaW.PrintWords Go.Proofs.YteddgedacjdjgaaW.PrintLast Go.Proofs.YteddgedacjdjgaaW.PrintMore
attribute [local go_sem] max2_int min2_int max_two min_two max_three min_three max_four min_four   -- for this text's walks alone
set_option linter.unusedVariables false
set_option linter.unusedSimpArgs false
def q16.f (a0 : Int) : Option (Bool) := if a0 ≥ 97 then (if a0 ≤ 122 then (some true) else (if a0 ≥ 65 then (if a0 ≤ 90 then (some true) else (some (a0 == 95))) else (some (a0 == 95)))) else (if a0 ≥ 65 then (if a0 ≤ 90 then (some true) else (some (a0 == 95))) else (some (a0 == 95)))
set_option maxHeartbeats 8000000 in
set_option maxRecDepth 100000 in
theorem q16.calls (a0 : Int) (r : Bool) (w : World) (h : q16.f a0 = some r) :
 Calls Try.prog 50 #[.int .u8 a0] w fun e w' => e = .returned (.bool r) ∧ Drawn0 w w' := by
 unfold q16.f at h
 have H := h
 clear h
 by_cases c2 : a0 ≥ 97
 ·rw [if_pos c2] at H
  replace c2 := decide_eq_true c2
  by_cases c3 : a0 ≤ 122
  ·rw [if_pos c3] at H
   replace c3 := decide_eq_true c3
   obtain rfl := Option.some.inj H
   go_enter Try.func50, Try.ntmps50
   go_wp2
   go_ret
   exact ⟨by first | rfl | (simp; done) | (simp [*]; done), by repeat (first | exact Drawn0.refl _ | apply Drawn0.step)⟩
  ·rw [if_neg c3] at H
   replace c3 := decide_eq_false c3
   by_cases c4 : a0 ≥ 65
   ·rw [if_pos c4] at H
    replace c4 := decide_eq_true c4
    by_cases c5 : a0 ≤ 90
    ·rw [if_pos c5] at H
     replace c5 := decide_eq_true c5
     obtain rfl := Option.some.inj H
     go_enter Try.func50, Try.ntmps50
     go_wp2
     go_ret
     exact ⟨by first | rfl | (simp; done) | (simp [*]; done), by repeat (first | exact Drawn0.refl _ | apply Drawn0.step)⟩
    ·rw [if_neg c5] at H
     replace c5 := decide_eq_false c5
     obtain rfl := Option.some.inj H
     go_enter Try.func50, Try.ntmps50
     go_wp2
     go_ret
     exact ⟨by first | rfl | (simp; done) | (simp [*]; done), by repeat (first | exact Drawn0.refl _ | apply Drawn0.step)⟩
   ·rw [if_neg c4] at H
    replace c4 := decide_eq_false c4
    obtain rfl := Option.some.inj H
    go_enter Try.func50, Try.ntmps50
    go_wp2
    go_ret
    exact ⟨by first | rfl | (simp; done) | (simp [*]; done), by repeat (first | exact Drawn0.refl _ | apply Drawn0.step)⟩
 ·rw [if_neg c2] at H
  replace c2 := decide_eq_false c2
  by_cases c6 : a0 ≥ 65
  ·rw [if_pos c6] at H
   replace c6 := decide_eq_true c6
   by_cases c7 : a0 ≤ 90
   ·rw [if_pos c7] at H
    replace c7 := decide_eq_true c7
    obtain rfl := Option.some.inj H
    go_enter Try.func50, Try.ntmps50
    go_wp2
    go_ret
    exact ⟨by first | rfl | (simp; done) | (simp [*]; done), by repeat (first | exact Drawn0.refl _ | apply Drawn0.step)⟩
   ·rw [if_neg c7] at H
    replace c7 := decide_eq_false c7
    obtain rfl := Option.some.inj H
    go_enter Try.func50, Try.ntmps50
    go_wp2
    go_ret
    exact ⟨by first | rfl | (simp; done) | (simp [*]; done), by repeat (first | exact Drawn0.refl _ | apply Drawn0.step)⟩
  ·rw [if_neg c6] at H
   replace c6 := decide_eq_false c6
   obtain rfl := Option.some.inj H
   go_enter Try.func50, Try.ntmps50
   go_wp2
   go_ret
   exact ⟨by first | rfl | (simp; done) | (simp [*]; done), by repeat (first | exact Drawn0.refl _ | apply Drawn0.step)⟩
def q21.f (a0 : Int) : Option (Bool) := (q16.f a0).bind fun t101 => (if t101 = true then (some true) else (if a0 ≥ 48 then (if a0 ≤ 57 then (some true) else (if a0 = 45 then (some true) else (some (a0 == 46)))) else (if a0 = 45 then (some true) else (some (a0 == 46)))))
set_option maxHeartbeats 8000000 in
set_option maxRecDepth 100000 in
theorem q21.calls (a0 : Int) (r : Bool) (w : World) (h : q21.f a0 = some r) :
 Calls Try.prog 51 #[.int .u8 a0] w fun e w' => e = .returned (.bool r) ∧ Drawn0 w w' := by
 unfold q21.f at h
 have H := h
 clear h
 replace H := Option.bind_eq_some_iff.mp H
 obtain ⟨t101, A20, H⟩ := H
 have A2 := q49.mk A20
 clear A20
 by_cases c3 : t101 = true
 ·subst c3
  have H1 : (some true) = some r := by rw [if_pos rfl] at H; exact H
  clear H
  have H := H1
  clear H1
  obtain rfl := Option.some.inj H
  go_enter Try.func51, Try.ntmps51
  go_wp2_with (first | ((with_reducible refine q63 (f := 50) rfl ?_); refine gl_ (some 4) Try.func50 #[.int .u8 a0] ?_; (with_reducible refine (q16.calls a0 true _ A2.out).mono ?_); rintro e w' ⟨rfl, ⟨nd, rfl⟩⟩; refine ⟨_, rfl, ?_⟩))
  go_ret
  exact ⟨by first | rfl | (simp; done) | (simp [*]; done), by repeat (first | exact Drawn0.refl _ | apply Drawn0.step)⟩
 ·replace c3 := Bool.eq_false_iff.mpr c3
  subst c3
  have H1 : (if a0 ≥ 48 then (if a0 ≤ 57 then (some true) else (if a0 = 45 then (some true) else (some (a0 == 46)))) else (if a0 = 45 then (some true) else (some (a0 == 46)))) = some r := by rw [if_neg (show ¬ (false = true) by decide)] at H; exact H
  clear H
  have H := H1
  clear H1
  by_cases c4 : a0 ≥ 48
  ·rw [if_pos c4] at H
   replace c4 := decide_eq_true c4
   by_cases c5 : a0 ≤ 57
   ·rw [if_pos c5] at H
    replace c5 := decide_eq_true c5
    obtain rfl := Option.some.inj H
    go_enter Try.func51, Try.ntmps51
    go_wp2_with (first | ((with_reducible refine q63 (f := 50) rfl ?_); refine gl_ (some 4) Try.func50 #[.int .u8 a0] ?_; (with_reducible refine (q16.calls a0 false _ A2.out).mono ?_); rintro e w' ⟨rfl, ⟨nd, rfl⟩⟩; refine ⟨_, rfl, ?_⟩))
    go_ret
    exact ⟨by first | rfl | (simp; done) | (simp [*]; done), by repeat (first | exact Drawn0.refl _ | apply Drawn0.step)⟩
   ·rw [if_neg c5] at H
    replace c5 := decide_eq_false c5
    by_cases c6 : a0 = 45
    ·rw [if_pos c6] at H
     have c6b0 : (a0 == 45) = true := beq_iff_eq.mpr c6
     have c6b1 : (a0 != 45) = false := bne_eq_false_iff_eq.mpr c6
     clear c6
     obtain rfl := Option.some.inj H
     go_enter Try.func51, Try.ntmps51
     go_wp2_with (first | ((with_reducible refine q63 (f := 50) rfl ?_); refine gl_ (some 4) Try.func50 #[.int .u8 a0] ?_; (with_reducible refine (q16.calls a0 false _ A2.out).mono ?_); rintro e w' ⟨rfl, ⟨nd, rfl⟩⟩; refine ⟨_, rfl, ?_⟩))
     go_ret
     exact ⟨by first | rfl | (simp; done) | (simp [*]; done), by repeat (first | exact Drawn0.refl _ | apply Drawn0.step)⟩
    ·rw [if_neg c6] at H
     have c6b0 : (a0 == 45) = false := beq_eq_false_iff_ne.mpr c6
     have c6b1 : (a0 != 45) = true := bne_iff_ne.mpr c6
     obtain rfl := Option.some.inj H
     go_enter Try.func51, Try.ntmps51
     go_wp2_with (first | ((with_reducible refine q63 (f := 50) rfl ?_); refine gl_ (some 4) Try.func50 #[.int .u8 a0] ?_; (with_reducible refine (q16.calls a0 false _ A2.out).mono ?_); rintro e w' ⟨rfl, ⟨nd, rfl⟩⟩; refine ⟨_, rfl, ?_⟩))
     go_ret
     exact ⟨by first | rfl | (simp; done) | (simp [*]; done), by repeat (first | exact Drawn0.refl _ | apply Drawn0.step)⟩
  ·rw [if_neg c4] at H
   replace c4 := decide_eq_false c4
   by_cases c7 : a0 = 45
   ·rw [if_pos c7] at H
    have c7b0 : (a0 == 45) = true := beq_iff_eq.mpr c7
    have c7b1 : (a0 != 45) = false := bne_eq_false_iff_eq.mpr c7
    clear c7
    obtain rfl := Option.some.inj H
    go_enter Try.func51, Try.ntmps51
    go_wp2_with (first | ((with_reducible refine q63 (f := 50) rfl ?_); refine gl_ (some 4) Try.func50 #[.int .u8 a0] ?_; (with_reducible refine (q16.calls a0 false _ A2.out).mono ?_); rintro e w' ⟨rfl, ⟨nd, rfl⟩⟩; refine ⟨_, rfl, ?_⟩))
    go_ret
    exact ⟨by first | rfl | (simp; done) | (simp [*]; done), by repeat (first | exact Drawn0.refl _ | apply Drawn0.step)⟩
   ·rw [if_neg c7] at H
    have c7b0 : (a0 == 45) = false := beq_eq_false_iff_ne.mpr c7
    have c7b1 : (a0 != 45) = true := bne_iff_ne.mpr c7
    obtain rfl := Option.some.inj H
    go_enter Try.func51, Try.ntmps51
    go_wp2_with (first | ((with_reducible refine q63 (f := 50) rfl ?_); refine gl_ (some 4) Try.func50 #[.int .u8 a0] ?_; (with_reducible refine (q16.calls a0 false _ A2.out).mono ?_); rintro e w' ⟨rfl, ⟨nd, rfl⟩⟩; refine ⟨_, rfl, ?_⟩))
    go_ret
    exact ⟨by first | rfl | (simp; done) | (simp [*]; done), by repeat (first | exact Drawn0.refl _ | apply Drawn0.step)⟩
mutual
def q26.j0 : Nat → ByteArray → Bool → Option (Bool)
 | 0, _, _ => none
 | k + 1, x0, x17 => if x17 = true then (some false) else (q26.l0 k x0 0)
def q26.l0 : Nat → ByteArray → Int → Option (Bool)
 | 0, _, _ => none
 | k + 1, x0, x3 => if x3 < (x0.size : Int) then (if 0 ≤ x3 then ((q21.f (bt x0 x3)).bind fun t103 => (if t103 = true then (q26.l0 k x0 (wrap64 (x3 + 1))) else (some false))) else (none)) else (some true)
end
def q26.f (k : Nat) (a0 : ByteArray) : Option (Bool) := if (a0.size : Int) < 1 then (q26.j0 k a0 true) else (if (a0.size : Int) > 12 then (q26.j0 k a0 true) else (if 0 < (a0.size : Int) then ((q16.f (bt a0 0)).bind fun t102 => (q26.j0 k a0 (!t102))) else (none)))
theorem q26.mono_l : ∀ k, (∀ y0 y1, LeO (q26.j0 k y0 y1) (q26.j0 (k + 1) y0 y1)) ∧ (∀ y0 y1, LeO (q26.l0 k y0 y1) (q26.l0 (k + 1) y0 y1))
 | 0 => ⟨fun _ _ r h => by simp [q26.j0] at h, fun _ _ r h => by simp [q26.l0] at h⟩
 | k + 1 => by
  obtain ⟨ih0, ih1⟩ := q26.mono_l k
  refine ⟨?_, ?_⟩
  intro y0 y1
  unfold q26.j0
  rotate_left
  intro y0 y1
  unfold q26.l0
  rotate_left
  all_goals repeat' first
   | (with_reducible exact ih0 _ _)
   | (with_reducible exact ih1 _ _)
   | (with_reducible exact LeO.refl _)
   | (with_reducible exact LeO.none _)
   | (with_reducible refine LeO.ite ?_ ?_)
   | (with_reducible refine LeO.bind ?_ (fun _ => ?_))
   | exact ih0 _ _
   | exact ih1 _ _
   | exact LeO.none _
   | refine LeO.ite ?_ ?_
   | refine LeO.bind ?_ (fun _ => ?_)
theorem q26.mono : ∀ a0 k, LeO (q26.f k a0) (q26.f (k + 1) a0) := by
 intro a0 k
 obtain ⟨ih0, ih1⟩ := q26.mono_l k
 unfold q26.f
 repeat' first
  | (with_reducible exact ih0 _ _)
  | (with_reducible exact ih1 _ _)
  | (with_reducible exact LeO.refl _)
  | (with_reducible exact LeO.none _)
  | (with_reducible refine LeO.ite ?_ ?_)
  | (with_reducible refine LeO.bind ?_ (fun _ => ?_))
  | exact ih0 _ _
  | exact ih1 _ _
  | exact LeO.none _
  | refine LeO.ite ?_ ?_
  | refine LeO.bind ?_ (fun _ => ?_)
set_option maxHeartbeats 8000000 in
set_option maxRecDepth 100000 in
theorem q26.calls (k : Nat) (a0 : ByteArray) (r : Bool) (w : World) (h : q26.f k a0 = some r) :
 Calls Try.prog 17 #[.string a0] w fun e w' => e = .returned (.bool r) ∧ Drawn0 w w' := by
 unfold q26.f at h
 have H := h
 clear h
 have HC2 := q49.mk H
 clear H
 go_enter Try.func17, Try.ntmps17
 go_upto_region 1 with (fail)
 go_cut [17] (fun v17 wc => ∃ (kq : Nat) (x17_1 : Bool), v17 = .bool x17_1 ∧ q49 (q26.j0 kq a0 x17_1 = some r) ∧ q49 (kq ≤ k) ∧ Drawn0 w wc)
 case first =>
  have H := HC2.out
  clear HC2
  by_cases c3 : (a0.size : Int) < 1
  ·rw [if_pos c3] at H
   have c3b0 := decide_eq_true c3
   have c3b1 : decide (a0.size < 1) = true := decide_eq_true (by omega)
   clear c3
   (first | rw [c3b0] | (simp only [i64_w, i32_w]; rw [c3b0]) | skip)
   have H' := q49.mk H
   clear H
   go_wp2
   go_meet
   case rel => exact ⟨_, (true), rf_, H', ⟨by first | omega | exact Nat.le_refl _⟩, by repeat (first | exact Drawn0.refl _ | apply Drawn0.step)⟩
  ·rw [if_neg c3] at H
   have c3b0 := decide_eq_false c3
   have c3b1 : decide (a0.size < 1) = false := decide_eq_false (by omega)
   clear c3
   (first | rw [c3b0] | (simp only [i64_w, i32_w]; rw [c3b0]) | skip)
   by_cases c4 : (a0.size : Int) > 12
   ·rw [if_pos c4] at H
    have c4b0 := decide_eq_true c4
    have c4b1 : decide (12 < a0.size) = true := decide_eq_true (by omega)
    clear c4
    have H' := q49.mk H
    clear H
    go_wp2
    go_meet
    case rel => exact ⟨_, (true), rf_, H', ⟨by first | omega | exact Nat.le_refl _⟩, by repeat (first | exact Drawn0.refl _ | apply Drawn0.step)⟩
   ·rw [if_neg c4] at H
    have c4b0 := decide_eq_false c4
    have c4b1 : decide (12 < a0.size) = false := decide_eq_false (by omega)
    clear c4
    by_cases c5 : 0 < (a0.size : Int)
    ·rw [if_pos c5] at H
     have c5b0 := decide_eq_true c5
     have c5b1 : decide (0 < a0.size) = true := decide_eq_true (by omega)
     clear c5
     replace H := Option.bind_eq_some_iff.mp H
     obtain ⟨t102, A70, H⟩ := H
     have A7 := q49.mk A70
     clear A70
     have H' := q49.mk H
     clear H
     have p6 : 0 ≤ (0 : Int) := (by omega)
     have q6 : 0 < a0.size := (by have : (0 : Int) < (a0.size : Int) := od_; omega)
     have hx6 : ∀ h : 0 < a0.size, ((a0[0]'h).toNat : Int) = bt a0 0 := bt_at a0 0
     clear p6
     have qi6 : (0 < (a0.size : Int)) = True := eq_true (od_)
     replace q6 := eq_true q6
     go_wp2_with (first | (go_at_call 50; (with_reducible refine (q16.calls (bt a0 0) t102 _ A7.out).mono ?_); rintro e w' ⟨rfl, ⟨nd, rfl⟩⟩))
     go_meet
     case rel => exact ⟨_, (!t102), rf_, H', ⟨by first | omega | exact Nat.le_refl _⟩, by repeat (first | exact Drawn0.refl _ | apply Drawn0.step)⟩
    ·rw [if_neg c5] at H
     exact absurd H (by simp)
 case rest =>
  clear HC2
  obtain ⟨kq, x17_1, rfl, HA, HJ1, ⟨mc1, rfl⟩⟩ := hcut
  cases kq with
  | zero => exact absurd HA.out (by simp [q26.j0])
  | succ kj1 =>
   have H := HA.out
   clear HA
   simp only [q26.j0] at H
   by_cases c8 : x17_1 = true
   ·subst c8
    have H1 : (some false) = some r := by rw [if_pos rfl] at H; exact H
    clear H
    have H := H1
    clear H1
    obtain rfl := Option.some.inj H
    go_wp2
    go_ret
    exact ⟨by first | rfl | (simp; done) | (simp [*]; done), by repeat (first | exact Drawn0.refl _ | apply Drawn0.step)⟩
   ·replace c8 := Bool.eq_false_iff.mpr c8
    subst c8
    have H1 : (q26.l0 kj1 a0 0) = some r := by rw [if_neg (show ¬ (false = true) by decide)] at H; exact H
    clear H
    have H := H1
    clear H1
    have H' := q49.mk H
    clear H
    go_wp2
    go_loopg [3] kj1 (fun kq v3 w' => ∃ (x3_2 : Int), v3 = .int .i64 x3_2 ∧ q49 (q26.l0 kq a0 x3_2 = some r) ∧ q49 (kq ≤ kj1) ∧ Drawn0 w w')
    case atStart => exact ⟨(0), rf_, H', ⟨Nat.le_refl _⟩, by repeat (first | exact Drawn0.refl _ | apply Drawn0.step)⟩
    case round =>
     clear H'
     obtain ⟨x3_2, rfl, HA, HK2, ⟨m2, rfl⟩⟩ := hrel
     cases gk with
     | zero => exact absurd HA.out (by simp [q26.l0])
     | succ k2 =>
      have H := HA.out
      clear HA
      simp only [q26.l0] at H
      by_cases c9 : x3_2 < (a0.size : Int)
      ·rw [if_pos c9] at H
       replace c9 := decide_eq_true c9
       by_cases c10 : 0 ≤ x3_2
       ·rw [if_pos c10] at H
        replace c10 := decide_eq_true c10
        replace H := Option.bind_eq_some_iff.mp H
        obtain ⟨t103, A120, H⟩ := H
        have A12 := q49.mk A120
        clear A120
        by_cases c13 : t103 = true
        ·subst c13
         have H1 : (q26.l0 k2 a0 (wrap64 (x3_2 + 1))) = some r := by rw [if_pos rfl] at H; exact H
         clear H
         have H := H1
         clear H1
         have H' := q49.mk H
         clear H
         have p11 : 0 ≤ (x3_2 : Int) := od_
         have q11 : x3_2 < (a0.size : Int) := od_
         have hx11 := bt_at a0 x3_2
         replace p11 := eq_true p11
         replace q11 := eq_true q11
         go_wp2_with (first | ((with_reducible refine q63 (f := 51) rfl ?_); refine gl_ (some 27) Try.func51 #[.int .u8 (bt a0 x3_2)] ?_; (with_reducible refine (q21.calls (bt a0 x3_2) true _ A12.out).mono ?_); rintro e w' ⟨rfl, ⟨nd, rfl⟩⟩; refine ⟨_, rfl, ?_⟩))
         go_roundg k2
         case measure => have := HJ1.out; have := HK2.out; omega
         case rel => exact ⟨(wrap64 (x3_2 + 1)), rf_, H', ⟨by have := HJ1.out; have := HK2.out; omega⟩, by repeat (first | exact Drawn0.refl _ | apply Drawn0.step)⟩
        ·replace c13 := Bool.eq_false_iff.mpr c13
         subst c13
         have H1 : (some false) = some r := by rw [if_neg (show ¬ (false = true) by decide)] at H; exact H
         clear H
         have H := H1
         clear H1
         obtain rfl := Option.some.inj H
         have p11 : 0 ≤ (x3_2 : Int) := od_
         have q11 : x3_2 < (a0.size : Int) := od_
         have hx11 := bt_at a0 x3_2
         replace p11 := eq_true p11
         replace q11 := eq_true q11
         go_wp2_with (first | ((with_reducible refine q63 (f := 51) rfl ?_); refine gl_ (some 27) Try.func51 #[.int .u8 (bt a0 x3_2)] ?_; (with_reducible refine (q21.calls (bt a0 x3_2) false _ A12.out).mono ?_); rintro e w' ⟨rfl, ⟨nd, rfl⟩⟩; refine ⟨_, rfl, ?_⟩))
         go_ret
         exact ⟨by first | rfl | (simp; done) | (simp [*]; done), by repeat (first | exact Drawn0.refl _ | apply Drawn0.step)⟩
       ·rw [if_neg c10] at H
        exact absurd H (by simp)
      ·rw [if_neg c9] at H
       replace c9 := decide_eq_false c9
       obtain rfl := Option.some.inj H
       go_wp2
       go_ret
       exact ⟨by first | rfl | (simp; done) | (simp [*]; done), by repeat (first | exact Drawn0.refl _ | apply Drawn0.step)⟩
end Go.Proofs.Yteddgedacjdjgaa.Pm
end
