/- Walks and plain laws on the way to the law XlateFlags: several texts of this workplace and of the kit's printer, merged; what is not used is struck, by a program. No condition. -/
import Derived.Lib.Hide
import Derived.Shelf.Abstract
import Derived.Test.YteddgedacjdjgaaMXlateFlags0
import Derived.Deep.RegionHeld3
import Derived.Outline
import Derived.Lib.SliceRun
import Derived.Deep.Slices
import Derived.Lib.SmallJoins
import Derived.SizedLaws
section
namespace Go.Proofs.Yteddgedacjdjgaa.Pm
open Go.RowKit Go.Proofs.YteddgedacjdjgaaW.PrintWords Go.Proofs.YteddgedacjdjgaaW.PrintLast Go.Proofs.YteddgedacjdjgaaW.PrintMore
attribute [local go_sem] max2_int min2_int max_two min_two max_three min_three max_four min_four   -- for this text's walks alone
set_option linter.unusedVariables false
set_option linter.unusedSimpArgs false
def fidx {α : Type} (p : α → Bool) (l : List α) : Int := match l.findIdx? p with | some i => (i : Int) | none => -1
theorem fidx_hit {α : Type} (p : α → Bool) (l : List α) (k : Nat) (z : α) (hk : k < l.length) (h : p (l.getD k z) = true) (hn : ∀ j, j < k → p (l.getD j z) = false) : fidx p l = k := by
 have e : l.findIdx? p = some k := by
  rw [List.findIdx?_eq_some_iff_getElem]
  refine ⟨hk, ?_, fun j hj => ?_⟩
  ·rw [List.getD_eq_getElem?_getD, List.getElem?_eq_getElem hk] at h; exact h
  ·have := hn j hj
   rw [List.getD_eq_getElem?_getD, List.getElem?_eq_getElem (by omega)] at this
   simpa using this
 unfold fidx
 rw [e]
theorem fidx_miss {α : Type} (p : α → Bool) (l : List α) (z : α) (hn : ∀ j, j < l.length → p (l.getD j z) = false) : fidx p l = -1 := by
 have e : l.findIdx? p = none := by
  rw [List.findIdx?_eq_none_iff]
  intro x hx
  obtain ⟨j, hj, rfl⟩ := List.getElem_of_mem hx
  have := hn j hj
  rw [List.getD_eq_getElem?_getD, List.getElem?_eq_getElem hj] at this
  simpa using this
 unfold fidx
 rw [e]
theorem fidx_any {α : Type} (p : α → Bool) (l : List α) : decide (fidx p l ≥ 0) = l.any p := by
  unfold fidx
  cases h : l.findIdx? p with
  | none =>
    have := List.findIdx?_eq_none_iff.1 h
    have e : l.any p = false := by rw [List.any_eq_false]; intro x hx; simp [this x hx]
    rw [e]; rfl
  | some i =>
    obtain ⟨hi, hp, _⟩ := List.findIdx?_eq_some_iff_getElem.1 h
    have e : l.any p = true := List.any_eq_true.2 ⟨_, List.getElem_mem hi, hp⟩
    rw [e]; exact decide_eq_true (show (i : Int) ≥ 0 by omega)
def PaysItem (g : Nat) (lb : Array Value) (p : S41 → Bool) (l : List S41) (w : World) : Prop :=
 ∀ (W : World) (x : S41) (cs : List Value), x ∈ l → Below w.heap.size w W → Kd.K k41 W x cs → Calls Try.prog g (#[.agg cs.toArray] ++ lb) W fun e w' => e = .returned (.bool (p x)) ∧ Below W.heap.size W w'
set_option maxHeartbeats 4000000 in
set_option maxRecDepth 100000 in
theorem idxItem (A : Option Addr) (c : Nat) (l : List S41) (w : World) (hr : Kd.C k41 w A l.length l) (hc : l.length ≤ c) (g : Nat) (lb : Array Value) (eg : ∀ args w, (callFunc g args).run Try.prog w = .ok (.enter g args) w) (p : S41 → Bool) (hp : PaysItem g lb p l w) :
    Calls Try.prog 80 #[.slice A l.length c, .func (.func g) #[] lb] w fun e w' => e = .returned (.int .i64 (fidx p l)) ∧ Below w.heap.size w w' := by
  have HR := Lib.hid hr
  have HP := Lib.hid hp
  clear hr hp
  obtain ⟨n, hn⟩ : ∃ n, n = l.length := ⟨_, rfl⟩
  have HN := Lib.hid hn
  rw [← hn] at hc ⊢
  clear hn
  have hbig : n ≤ 9223372036854775807 := by have := HR.out.2.1; have := HN.out; omega
  go_enter Try.func80, Try.ntmps80
  go_wp2
  go_loopg [5, 8] n (fun gg _ s8 wr => ∃ kk : Nat, kk ≤ n ∧ n - kk ≤ gg ∧ s8 = .int .i64 kk ∧ Aside (Below w.heap.size w wr) ∧ Aside (∀ j, j < kk → p (l.getD j z41) = false))
  case atStart => exact ⟨0, Nat.zero_le _, by omega, rfl, Below.refl _ w, fun j hj => absurd hj (Nat.not_lt_zero _)⟩
  case round =>
    obtain ⟨kk, hkk, hg, rfl, BW, A⟩ := hrel
    by_cases hlt : kk < n
    · have hltz : (kk : Int) < (n : Int) := by omega
      obtain ⟨ad, A5, c5, A6, c6, e, hx0, hx1, hx2, hx3, hx4, hx5, hx6, l5, g5, l6, g6⟩ := at_T41 HR.out (kk : Int) (by omega) (by have := HN.out; omega)
      cases e
      have hcall := HP.out wr (l.getD kk z41) [.string (q84 l kk).f0, .int .i64 (q84 l kk).f1, .string (q84 l kk).f2, .bool (q84 l kk).f3, .int .i64 (q84 l kk).f4, .slice A5 (q84 l kk).f5.length c5, .slice A6 (q84 l kk).f6.length c6] (by rw [List.getD_eq_getElem?_getD, List.getElem?_eq_getElem (show kk < l.length by have := HN.out; omega)]; exact List.getElem_mem _) BW.out (k41_mk _ _ l5 (Kd.C_below g5 BW.out) l6 (Kd.C_below g6 BW.out))
      simp only [Int.toNat_natCast] at hx0 hx1 hx2 hx3 hx4 hx5 hx6
      replace hx0 := (BW.out.cell (World.block_lt_of_cell? w _ hx0)).trans hx0
      replace hx1 := (BW.out.cell (World.block_lt_of_cell? w _ hx1)).trans hx1
      replace hx2 := (BW.out.cell (World.block_lt_of_cell? w _ hx2)).trans hx2
      replace hx3 := (BW.out.cell (World.block_lt_of_cell? w _ hx3)).trans hx3
      replace hx4 := (BW.out.cell (World.block_lt_of_cell? w _ hx4)).trans hx4
      replace hx5 := (BW.out.cell (World.block_lt_of_cell? w _ hx5)).trans hx5
      replace hx6 := (BW.out.cell (World.block_lt_of_cell? w _ hx6)).trans hx6
      have B := Lib.hid (show p (l.getD kk z41) = p (l.getD kk z41) from rfl)
      cases hq : p (l.getD kk z41) with
      | true =>
        rw [hq] at hcall
        have HQ := Lib.hid hq
        clear hq
        go_wp2_with (go_at_fn g; refine hcall.mono ?_; rintro e w' ⟨rfl, hb'⟩)
        go_ret
        refine ⟨?_, q63 BW.out BW.out.size hb'⟩
        rw [fidx_hit p l kk z41 (by have := HN.out; omega) HQ.out A.out]
        rfl
      | false =>
        rw [hq] at hcall
        have HQ := Lib.hid hq
        clear hq
        go_wp2_with (go_at_fn g; refine hcall.mono ?_; rintro e w' ⟨rfl, hb'⟩)
        go_roundg (n - (kk + 1))
        case measure => omega
        case rel =>
          refine ⟨kk + 1, by omega, by omega, by go_num, q63 BW.out BW.out.size hb', (show Aside _ from fun j hj => ?_)⟩
          by_cases e : j = kk
          · subst e
            exact HQ.out
          · exact A.out j (by omega)
    · have hltz : ¬ (kk : Int) < (n : Int) := by omega
      obtain rfl : kk = n := by omega
      go_wp2
      go_ret
      refine ⟨?_, BW.out⟩
      rw [fidx_miss p l z41 (by rw [← HN.out]; exact A.out)]
      rfl
set_option maxHeartbeats 4000000 in
theorem anyItem (A : Option Addr) (c : Nat) (l : List S41) (w : World) (hr : Kd.C k41 w A l.length l) (hc : l.length ≤ c) (g : Nat) (lb : Array Value) (eg : ∀ args w, (callFunc g args).run Try.prog w = .ok (.enter g args) w) (p : S41 → Bool) (hp : PaysItem g lb p l w) :
 Calls Try.prog 59 #[.slice A l.length c, .func (.func g) #[] lb] w fun e w' => e = .returned (.bool (l.any p)) ∧ Below w.heap.size w w' := by
 have h := idxItem A c l w hr hc g lb eg p hp
 rw [← fidx_any]
 clear hr hp eg
 obtain ⟨n, hn⟩ : ∃ n : Int, n = fidx p l := ⟨_, rfl⟩
 rw [← hn] at h ⊢
 clear hn
 go_enter Try.func59, Try.ntmps59
 go_wp2_with (go_at_call 80; refine h.mono ?_; rintro e w' ⟨rfl, hb⟩)
 go_ret
 exact ⟨rfl, hb⟩
def PaysSentry (g : Nat) (lb : Array Value) (p : S45 → Bool) (l : List S45) (w : World) : Prop :=
 ∀ (W : World) (x : S45) (cs : List Value), x ∈ l → Below w.heap.size w W → Kd.K k45 W x cs → Calls Try.prog g (#[.agg cs.toArray] ++ lb) W fun e w' => e = .returned (.bool (p x)) ∧ Below W.heap.size W w'
set_option maxHeartbeats 4000000 in
set_option maxRecDepth 100000 in
theorem idxSentry (A : Option Addr) (c : Nat) (l : List S45) (w : World) (hr : Kd.C k45 w A l.length l) (hc : l.length ≤ c) (g : Nat) (lb : Array Value) (eg : ∀ args w, (callFunc g args).run Try.prog w = .ok (.enter g args) w) (p : S45 → Bool) (hp : PaysSentry g lb p l w) :
    Calls Try.prog 98 #[.slice A l.length c, .func (.func g) #[] lb] w fun e w' => e = .returned (.int .i64 (fidx p l)) ∧ Below w.heap.size w w' := by
  have HR := Lib.hid hr
  have HP := Lib.hid hp
  clear hr hp
  obtain ⟨n, hn⟩ : ∃ n, n = l.length := ⟨_, rfl⟩
  have HN := Lib.hid hn
  rw [← hn] at hc ⊢
  clear hn
  have hbig : n ≤ 9223372036854775807 := by have := HR.out.2.1; have := HN.out; omega
  go_enter Try.func98, Try.ntmps98
  go_wp2
  go_loopg [5, 8] n (fun gg _ s8 wr => ∃ kk : Nat, kk ≤ n ∧ n - kk ≤ gg ∧ s8 = .int .i64 kk ∧ Aside (Below w.heap.size w wr) ∧ Aside (∀ j, j < kk → p (l.getD j z45) = false))
  case atStart => exact ⟨0, Nat.zero_le _, by omega, rfl, Below.refl _ w, fun j hj => absurd hj (Nat.not_lt_zero _)⟩
  case round =>
    obtain ⟨kk, hkk, hg, rfl, BW, A⟩ := hrel
    by_cases hlt : kk < n
    · have hltz : (kk : Int) < (n : Int) := by omega
      obtain ⟨ad, A0, c0, A1, c1, e, hx0, hx1, l0, g0, l1, g1⟩ := at_T45 HR.out (kk : Int) (by omega) (by have := HN.out; omega)
      cases e
      have hcall := HP.out wr (l.getD kk z45) [.slice A0 (q85 l kk).f0.length c0, .slice A1 (q85 l kk).f1.length c1] (by rw [List.getD_eq_getElem?_getD, List.getElem?_eq_getElem (show kk < l.length by have := HN.out; omega)]; exact List.getElem_mem _) BW.out (k45_mk _ _ l0 (Kd.C_below g0 BW.out) l1 (Kd.C_below g1 BW.out))
      simp only [Int.toNat_natCast] at hx0 hx1
      replace hx0 := (BW.out.cell (World.block_lt_of_cell? w _ hx0)).trans hx0
      replace hx1 := (BW.out.cell (World.block_lt_of_cell? w _ hx1)).trans hx1
      have B := Lib.hid (show p (l.getD kk z45) = p (l.getD kk z45) from rfl)
      cases hq : p (l.getD kk z45) with
      | true =>
        rw [hq] at hcall
        have HQ := Lib.hid hq
        clear hq
        go_wp2_with (go_at_fn g; refine hcall.mono ?_; rintro e w' ⟨rfl, hb'⟩)
        go_ret
        refine ⟨?_, q63 BW.out BW.out.size hb'⟩
        rw [fidx_hit p l kk z45 (by have := HN.out; omega) HQ.out A.out]
        rfl
      | false =>
        rw [hq] at hcall
        have HQ := Lib.hid hq
        clear hq
        go_wp2_with (go_at_fn g; refine hcall.mono ?_; rintro e w' ⟨rfl, hb'⟩)
        go_roundg (n - (kk + 1))
        case measure => omega
        case rel =>
          refine ⟨kk + 1, by omega, by omega, by go_num, q63 BW.out BW.out.size hb', (show Aside _ from fun j hj => ?_)⟩
          by_cases e : j = kk
          · subst e
            exact HQ.out
          · exact A.out j (by omega)
    · have hltz : ¬ (kk : Int) < (n : Int) := by omega
      obtain rfl : kk = n := by omega
      go_wp2
      go_ret
      refine ⟨?_, BW.out⟩
      rw [fidx_miss p l z45 (by rw [← HN.out]; exact A.out)]
      rfl
set_option maxHeartbeats 4000000 in
theorem anySentry (A : Option Addr) (c : Nat) (l : List S45) (w : World) (hr : Kd.C k45 w A l.length l) (hc : l.length ≤ c) (g : Nat) (lb : Array Value) (eg : ∀ args w, (callFunc g args).run Try.prog w = .ok (.enter g args) w) (p : S45 → Bool) (hp : PaysSentry g lb p l w) :
 Calls Try.prog 94 #[.slice A l.length c, .func (.func g) #[] lb] w fun e w' => e = .returned (.bool (l.any p)) ∧ Below w.heap.size w w' := by
 have h := idxSentry A c l w hr hc g lb eg p hp
 rw [← fidx_any]
 clear hr hp eg
 obtain ⟨n, hn⟩ : ∃ n : Int, n = fidx p l := ⟨_, rfl⟩
 rw [← hn] at h ⊢
 clear hn
 go_enter Try.func94, Try.ntmps94
 go_wp2_with (go_at_call 98; refine h.mono ?_; rintro e w' ⟨rfl, hb⟩)
 go_ret
 exact ⟨rfl, hb⟩
def PaysCond (g : Nat) (lb : Array Value) (p : S90 → Bool) (l : List S90) (w : World) : Prop :=
 ∀ (W : World) (x : S90) (cs : List Value), x ∈ l → Below w.heap.size w W → Kd.K k90 W x cs → Calls Try.prog g (#[.agg cs.toArray] ++ lb) W fun e w' => e = .returned (.bool (p x)) ∧ Below W.heap.size W w'
set_option maxHeartbeats 4000000 in
set_option maxRecDepth 100000 in
theorem idxCond (A : Option Addr) (c : Nat) (l : List S90) (w : World) (hr : Kd.C k90 w A l.length l) (hc : l.length ≤ c) (g : Nat) (lb : Array Value) (eg : ∀ args w, (callFunc g args).run Try.prog w = .ok (.enter g args) w) (p : S90 → Bool) (hp : PaysCond g lb p l w) :
    Calls Try.prog 106 #[.slice A l.length c, .func (.func g) #[] lb] w fun e w' => e = .returned (.int .i64 (fidx p l)) ∧ Below w.heap.size w w' := by
  have HR := Lib.hid hr
  have HP := Lib.hid hp
  clear hr hp
  obtain ⟨n, hn⟩ : ∃ n, n = l.length := ⟨_, rfl⟩
  have HN := Lib.hid hn
  rw [← hn] at hc ⊢
  clear hn
  have hbig : n ≤ 9223372036854775807 := by have := HR.out.2.1; have := HN.out; omega
  go_enter Try.func106, Try.ntmps106
  go_wp2
  go_loopg [5, 8] n (fun gg _ s8 wr => ∃ kk : Nat, kk ≤ n ∧ n - kk ≤ gg ∧ s8 = .int .i64 kk ∧ Aside (Below w.heap.size w wr) ∧ Aside (∀ j, j < kk → p (l.getD j z90) = false))
  case atStart => exact ⟨0, Nat.zero_le _, by omega, rfl, Below.refl _ w, fun j hj => absurd hj (Nat.not_lt_zero _)⟩
  case round =>
    obtain ⟨kk, hkk, hg, rfl, BW, A⟩ := hrel
    by_cases hlt : kk < n
    · have hltz : (kk : Int) < (n : Int) := by omega
      obtain ⟨ad, e, hx0, hx1, hx2⟩ := at_T90 HR.out (kk : Int) (by omega) (by have := HN.out; omega)
      cases e
      have hcall := HP.out wr (l.getD kk z90) [.string (q87 l kk).f0, .string (q87 l kk).f1, .int .i64 (q87 l kk).f2] (by rw [List.getD_eq_getElem?_getD, List.getElem?_eq_getElem (show kk < l.length by have := HN.out; omega)]; exact List.getElem_mem _) BW.out (k90_mk _ _)
      simp only [Int.toNat_natCast] at hx0 hx1 hx2
      replace hx0 := (BW.out.cell (World.block_lt_of_cell? w _ hx0)).trans hx0
      replace hx1 := (BW.out.cell (World.block_lt_of_cell? w _ hx1)).trans hx1
      replace hx2 := (BW.out.cell (World.block_lt_of_cell? w _ hx2)).trans hx2
      have B := Lib.hid (show p (l.getD kk z90) = p (l.getD kk z90) from rfl)
      cases hq : p (l.getD kk z90) with
      | true =>
        rw [hq] at hcall
        have HQ := Lib.hid hq
        clear hq
        go_wp2_with (go_at_fn g; refine hcall.mono ?_; rintro e w' ⟨rfl, hb'⟩)
        go_ret
        refine ⟨?_, q63 BW.out BW.out.size hb'⟩
        rw [fidx_hit p l kk z90 (by have := HN.out; omega) HQ.out A.out]
        rfl
      | false =>
        rw [hq] at hcall
        have HQ := Lib.hid hq
        clear hq
        go_wp2_with (go_at_fn g; refine hcall.mono ?_; rintro e w' ⟨rfl, hb'⟩)
        go_roundg (n - (kk + 1))
        case measure => omega
        case rel =>
          refine ⟨kk + 1, by omega, by omega, by go_num, q63 BW.out BW.out.size hb', (show Aside _ from fun j hj => ?_)⟩
          by_cases e : j = kk
          · subst e
            exact HQ.out
          · exact A.out j (by omega)
    · have hltz : ¬ (kk : Int) < (n : Int) := by omega
      obtain rfl : kk = n := by omega
      go_wp2
      go_ret
      refine ⟨?_, BW.out⟩
      rw [fidx_miss p l z90 (by rw [← HN.out]; exact A.out)]
      rfl
set_option maxHeartbeats 4000000 in
theorem anyCond (A : Option Addr) (c : Nat) (l : List S90) (w : World) (hr : Kd.C k90 w A l.length l) (hc : l.length ≤ c) (g : Nat) (lb : Array Value) (eg : ∀ args w, (callFunc g args).run Try.prog w = .ok (.enter g args) w) (p : S90 → Bool) (hp : PaysCond g lb p l w) :
 Calls Try.prog 101 #[.slice A l.length c, .func (.func g) #[] lb] w fun e w' => e = .returned (.bool (l.any p)) ∧ Below w.heap.size w w' := by
 have h := idxCond A c l w hr hc g lb eg p hp
 rw [← fidx_any]
 clear hr hp eg
 obtain ⟨n, hn⟩ : ∃ n : Int, n = fidx p l := ⟨_, rfl⟩
 rw [← hn] at h ⊢
 clear hn
 go_enter Try.func101, Try.ntmps101
 go_wp2_with (go_at_call 106; refine h.mono ?_; rintro e w' ⟨rfl, hb⟩)
 go_ret
 exact ⟨rfl, hb⟩
def q45.p (a1 : ByteArray) (x : S41) : Bool := x.f0.toList == a1.toList
def q45.f (l0_0 : List ByteArray) (l0_1 : List (S41)) (a1 : ByteArray) : Option Int := some (fidx (q45.p a1) l0_1)
set_option maxHeartbeats 2000000 in
theorem q45.closure (b : Nat) (id : ByteArray) (W : World) (hc : W.cell? ⟨b, 0, none⟩ = some (.string id)) (x : S41) (cs : List Value) (hK : Kd.K k41 W x cs) :
 Calls Try.prog 81 (#[.agg cs.toArray] ++ #[.pointer (some ⟨b, 0, none⟩)]) W fun e w' => e = .returned (.bool (q45.p id x)) ∧ Below W.heap.size W w' := by
 obtain ⟨A5, c5, A6, c6, rfl, _⟩ := k41_open hK
 unfold q45.p
 have hb := World.block_lt_of_cell? W _ hc
 simp only at hb
 have hu := Try.underlying41
 go_enter Try.func81, Try.ntmps81
 go_wp2
 go_ret
 exact ⟨rfl, q60 (Below.refl _ _) _⟩
theorem q45.eg : ∀ args w, (callFunc 81 args).run Try.prog w = .ok (.enter 81 args) w := enters_of Try.func81 (by kernel_rfl) rfl
set_option maxHeartbeats 2000000 in
theorem q45.calls (A0_0 : Option Addr) (c0_0 : Nat) (l0_0 : List ByteArray) (A0_1 : Option Addr) (c0_1 : Nat) (l0_1 : List (S41)) (a1 : ByteArray) (r : Int) (w : World) (hr0_0 : Kd.C Kd.string w A0_0 l0_0.length l0_0) (hc0_0 : l0_0.length ≤ c0_0) (hr0_1 : Kd.C k41 w A0_1 l0_1.length l0_1) (hc0_1 : l0_1.length ≤ c0_1) (h : q45.f l0_0 l0_1 a1 = some r) :
 Calls Try.prog 45 #[.agg #[.slice A0_0 l0_0.length c0_0, .slice A0_1 l0_1.length c0_1], .string a1] w fun e w' => e = .returned (.int .i64 r) ∧ Below w.heap.size w w' := by
 obtain rfl := Option.some.inj h
 have W1 := q60 (q60 (Below.refl w.heap.size w) (.cells #[.slice A0_0 l0_0.length c0_0, .slice A0_1 l0_1.length c0_1] 25)) (.cells #[.string a1] 9)
 have hcell : ((w.alloc (.cells #[.slice A0_0 l0_0.length c0_0, .slice A0_1 l0_1.length c0_1] 25)).alloc (.cells #[.string a1] 9)).cell? ⟨w.heap.size + 1, 0, none⟩ = some (.string a1) := by simp
 have hsz : ((w.alloc (.cells #[.slice A0_0 l0_0.length c0_0, .slice A0_1 l0_1.length c0_1] 25)).alloc (.cells #[.string a1] 9)).heap.size = w.heap.size + 2 := by simp
 have hi := idxItem A0_1 c0_1 l0_1 _ (Kd.C_below hr0_1 W1) hc0_1 81 #[.pointer (some ⟨w.heap.size + 1, 0, none⟩)] q45.eg (q45.p a1) (fun W x cs hx hb hK => q45.closure _ a1 W ((hb.cell (by rw [hsz]; simp)).trans hcell) x cs hK)
 have H := Lib.hid W1
 clear hr0_0 hr0_1 W1 hcell h hsz
 obtain ⟨n, hn⟩ : ∃ n : Int, n = fidx (q45.p a1) l0_1 := ⟨_, rfl⟩
 rw [← hn] at hi ⊢
 clear hn
 have hu := Try.underlying25
 go_enter Try.func45, Try.ntmps45
 go_wp2_with (go_at_call 80; refine hi.mono ?_; rintro e w' ⟨rfl, hb⟩)
 go_ret
 exact ⟨rfl, q63 H.out H.out.size hb⟩
def q51.f (l0_0 : List ByteArray) (l0_1 : List (S41)) (a1 : ByteArray) (a2 : Int) : Option (Int) := (q45.f l0_0 l0_1 a1).bind fun t246 => (if t246 < 0 then (some (-1)) else (if a2 < 1 then (some (-1)) else (if a2 > 4 then (some (-1)) else ((q54.f t246 a2).bind fun t247 => (some t247)))))
set_option maxHeartbeats 8000000 in
set_option maxRecDepth 100000 in
theorem q51.calls (A0_0 : Option Addr) (c0_0 : Nat) (l0_0 : List ByteArray) (A0_1 : Option Addr) (c0_1 : Nat) (l0_1 : List (S41)) (a1 : ByteArray) (a2 : Int) (r : Int) (w : World) (hr0_0 : Kd.C Kd.string w A0_0 l0_0.length l0_0) (hc0_0 : l0_0.length ≤ c0_0) (hr0_1 : Kd.C k41 w A0_1 l0_1.length l0_1) (hc0_1 : l0_1.length ≤ c0_1) (h : q51.f l0_0 l0_1 a1 a2 = some r) :
 Calls Try.prog 13 #[.agg #[.slice A0_0 l0_0.length c0_0, .slice A0_1 l0_1.length c0_1], .string a1, .int .i64 a2] w fun e w' => e = .returned (.int .i64 r) ∧ Below w.heap.size w w' := by
 have hu25 := Try.underlying25
 have HR0_0 := q59.mk hr0_0
 have HC0_0 := q59.mk hc0_0
 clear hr0_0 hc0_0
 have HR0_1 := q59.mk hr0_1
 have HC0_1 := q59.mk hc0_1
 clear hr0_1 hc0_1
 have HB := q59.mk (Below.refl w.heap.size w)
 unfold q51.f at h
 have H := h
 clear h
 replace H := Option.bind_eq_some_iff.mp H
 obtain ⟨t246, A40, H⟩ := H
 have A4 := q59.mk A40
 clear A40
 by_cases c5 : t246 < 0
 ·rw [if_pos c5] at H
  replace c5 := decide_eq_true c5
  obtain rfl := Option.some.inj H
  go_enter Try.func13, Try.ntmps13
  go_wp2_with (first | ((with_reducible refine q74 (N := 3) rfl ?_); refine bx_ 3 #[.slice A0_0 l0_0.length c0_0, .slice A0_1 l0_1.length c0_1] 25 ?_; intro gb245 hg w6 hbox hb; have BK245 := q59.mk (hbox); have GW245 := zz_ (w := w) hg; have GE245 := zz_ (w := w) hg; replace HB := hb_ HB hb;  clear hb hbox hg; obtain ⟨hcz7_0, hcz7_1, hfz7_0, hfz7_1⟩ := bs2_ BK245) | ((with_reducible refine q73 (f := 45) rfl ?_); refine gl_ (some 10) Try.func45 #[.agg #[.slice A0_0 l0_0.length c0_0, .slice A0_1 l0_1.length c0_1], .string a1] ?_; (with_reducible refine (q45.calls _ _ l0_0 _ _ l0_1 a1 t246 _ ?side1 ?side2 ?side3 ?side4 A4.out).mono ?_); (case side1 => exact kc_ HR0_0 HB); (case side2 => exact HC0_0.out); (case side3 => exact kc_ HR0_1 HB); (case side4 => exact HC0_1.out); rintro e w8 ⟨rfl, hb⟩; refine ⟨_, rfl, ?_⟩; replace BK245 := bb_ BK245 hb; replace HB := hb_ HB hb;  (try clear hb)))
  go_ret
  exact ⟨er_, hf_⟩
 ·rw [if_neg c5] at H
  replace c5 := decide_eq_false c5
  by_cases c9 : a2 < 1
  ·rw [if_pos c9] at H
   replace c9 := decide_eq_true c9
   obtain rfl := Option.some.inj H
   go_enter Try.func13, Try.ntmps13
   go_wp2_with (first | ((with_reducible refine q74 (N := 3) rfl ?_); refine bx_ 3 #[.slice A0_0 l0_0.length c0_0, .slice A0_1 l0_1.length c0_1] 25 ?_; intro gb245 hg w10 hbox hb; have BK245 := q59.mk (hbox); have GW245 := zz_ (w := w) hg; have GE245 := zz_ (w := w) hg; replace HB := hb_ HB hb;  clear hb hbox hg; obtain ⟨hcz11_0, hcz11_1, hfz11_0, hfz11_1⟩ := bs2_ BK245) | ((with_reducible refine q73 (f := 45) rfl ?_); refine gl_ (some 10) Try.func45 #[.agg #[.slice A0_0 l0_0.length c0_0, .slice A0_1 l0_1.length c0_1], .string a1] ?_; (with_reducible refine (q45.calls _ _ l0_0 _ _ l0_1 a1 t246 _ ?side1 ?side2 ?side3 ?side4 A4.out).mono ?_); (case side1 => exact kc_ HR0_0 HB); (case side2 => exact HC0_0.out); (case side3 => exact kc_ HR0_1 HB); (case side4 => exact HC0_1.out); rintro e w12 ⟨rfl, hb⟩; refine ⟨_, rfl, ?_⟩; replace BK245 := bb_ BK245 hb; replace HB := hb_ HB hb;  (try clear hb)))
   go_ret
   exact ⟨er_, hf_⟩
  ·rw [if_neg c9] at H
   replace c9 := decide_eq_false c9
   by_cases c13 : a2 > 4
   ·rw [if_pos c13] at H
    replace c13 := decide_eq_true c13
    obtain rfl := Option.some.inj H
    go_enter Try.func13, Try.ntmps13
    go_wp2_with (first | ((with_reducible refine q74 (N := 3) rfl ?_); refine bx_ 3 #[.slice A0_0 l0_0.length c0_0, .slice A0_1 l0_1.length c0_1] 25 ?_; intro gb245 hg w14 hbox hb; have BK245 := q59.mk (hbox); have GW245 := zz_ (w := w) hg; have GE245 := zz_ (w := w) hg; replace HB := hb_ HB hb;  clear hb hbox hg; obtain ⟨hcz15_0, hcz15_1, hfz15_0, hfz15_1⟩ := bs2_ BK245) | ((with_reducible refine q73 (f := 45) rfl ?_); refine gl_ (some 10) Try.func45 #[.agg #[.slice A0_0 l0_0.length c0_0, .slice A0_1 l0_1.length c0_1], .string a1] ?_; (with_reducible refine (q45.calls _ _ l0_0 _ _ l0_1 a1 t246 _ ?side1 ?side2 ?side3 ?side4 A4.out).mono ?_); (case side1 => exact kc_ HR0_0 HB); (case side2 => exact HC0_0.out); (case side3 => exact kc_ HR0_1 HB); (case side4 => exact HC0_1.out); rintro e w16 ⟨rfl, hb⟩; refine ⟨_, rfl, ?_⟩; replace BK245 := bb_ BK245 hb; replace HB := hb_ HB hb;  (try clear hb)))
    go_ret
    exact ⟨er_, hf_⟩
   ·rw [if_neg c13] at H
    replace c13 := decide_eq_false c13
    replace H := Option.bind_eq_some_iff.mp H
    obtain ⟨t247, A170, H⟩ := H
    have A17 := q59.mk A170
    clear A170
    obtain rfl := Option.some.inj H
    go_enter Try.func13, Try.ntmps13
    go_wp2_with (first | ((with_reducible refine q74 (N := 3) rfl ?_); refine bx_ 3 #[.slice A0_0 l0_0.length c0_0, .slice A0_1 l0_1.length c0_1] 25 ?_; intro gb245 hg w18 hbox hb; have BK245 := q59.mk (hbox); have GW245 := zz_ (w := w) hg; have GE245 := zz_ (w := w) hg; replace HB := hb_ HB hb;  clear hb hbox hg; obtain ⟨hcz19_0, hcz19_1, hfz19_0, hfz19_1⟩ := bs2_ BK245) | ((with_reducible refine q73 (f := 45) rfl ?_); refine gl_ (some 10) Try.func45 #[.agg #[.slice A0_0 l0_0.length c0_0, .slice A0_1 l0_1.length c0_1], .string a1] ?_; (with_reducible refine (q45.calls _ _ l0_0 _ _ l0_1 a1 t246 _ ?side1 ?side2 ?side3 ?side4 A4.out).mono ?_); (case side1 => exact kc_ HR0_0 HB); (case side2 => exact HC0_0.out); (case side3 => exact kc_ HR0_1 HB); (case side4 => exact HC0_1.out); rintro e w20 ⟨rfl, hb⟩; refine ⟨_, rfl, ?_⟩; replace BK245 := bb_ BK245 hb; replace HB := hb_ HB hb;  (try clear hb)) | ((with_reducible refine q73 (f := 23) rfl ?_); refine gl_ (some 23) Try.func23 #[.int .i64 t246, .int .i64 a2] ?_; (with_reducible refine (q54.calls t246 a2 t247 _ A17.out).mono ?_); rintro e w' ⟨rfl, ⟨nd, rfl⟩⟩; refine ⟨_, rfl, ?_⟩))
    go_ret
    exact ⟨er_, hf_⟩
def bits (n m : Nat) : Array Bool := ((List.range n).map (fun i => m.testBit i)).toArray
section
variable {P : Program} {md : Region.Mode} {ops : Array Oper} {Q : Exit → Act → World → Prop} {S : World → Prop} {ds : List Nat}
theorem st_ {id : Nat} {a : Act} {w : World} (S : World → Prop) (n : Nat) (hS : S w.drew) (h : S w.drew → q89 P .any ops Q S [] n (bits n 0) a w.drew)
 (hm : P.follows .mixedOrders = true := by kernel_rfl) (hn : ops.size = n := by exact rfl) (hl : Array.replicate n false = bits n 0 := by kernel_rfl) : (Code.region id ops true).wp P Q a w :=
 start_ (bits n 0) hm hn hl hS h
theorem pu_ {n m fuel : Nat} {oi : Oper} {v : Value} {a a' : Act} {w : World} (i : Nat) (N : Option Tmp) (h : q89 P md ops Q S ds fuel (bits n (m ||| 1 <<< i)) a' w)
 (hi : ops[i]? = some oi := by exact rfl) (hN : oi.dst = N := by exact rfl) (hc : anyB md ops (bits n m) (bits n (m ||| 1 <<< i)) i = true := by kernel_rfl)
 (hw : Region.wanted oi (yielded ops a.tmps) = true := by exact rfl) (hy : ∀ w', (execOp a.eval oi).run P w' = .ok (.value v) w' := by (intro w'; go_simp; with_reducible rfl))
 (ha : a.put N v = a' := by (simp only [Act.put, List.setIfInBounds_toArray, List.set_cons_zero, List.set_cons_succ, i64_w, i32_w]; rfl))
 (hQ : ∀ c a w, Q (.panic c) (a.put oi.dst v) w → Q (.panic c) a w := by exact fun _ _ _ h => h) : q89 P md ops Q S ds (fuel + 1) (bits n m) a w :=
 pure_ _ hi hN hc hQ (Or.inl ⟨hw, hy⟩) ha h
theorem sk_ {n m fuel : Nat} {oi : Oper} {a a' : Act} {w : World} (i : Nat) (N : Option Tmp) (h : q89 P md ops Q S ds fuel (bits n (m ||| 1 <<< i)) a' w)
 (hi : ops[i]? = some oi := by exact rfl) (hN : oi.dst = N := by exact rfl) (hc : anyB md ops (bits n m) (bits n (m ||| 1 <<< i)) i = true := by kernel_rfl)
 (hw : Region.wanted oi (yielded ops a.tmps) = false := by exact rfl)
 (ha : a.put N undef = a' := by (simp only [Act.put, List.setIfInBounds_toArray, List.set_cons_zero, List.set_cons_succ, i64_w, i32_w]; rfl))
 (hQ : ∀ c a w, Q (.panic c) (a.put oi.dst undef) w → Q (.panic c) a w := by exact fun _ _ _ h => h) : q89 P md ops Q S ds (fuel + 1) (bits n m) a w :=
 pure_ _ hi hN hc hQ (Or.inr ⟨hw, rfl⟩) ha h
theorem tk_ {n m fuel : Nat} {oi : Oper} {v : Value} {a a' : Act} {w : World} (i : Nat) (N : Option Tmp) (hS : S w) (h : q89 P md ops Q S ds fuel (bits n (m ||| 1 <<< i)) a' w)
 (hi : ops[i]? = some oi := by exact rfl) (hN : oi.dst = N := by exact rfl) (hc : takeB md ops ds (bits n m) (bits n (m ||| 1 <<< i)) i = true := by kernel_rfl)
 (hw : Region.wanted oi (yielded ops a.tmps) = true := by exact rfl) (hy : ∀ w', S w' → (execOp a.eval oi).run P w' = .ok (.value v) w')
 (ha : a.put N v = a' := by (simp only [Act.put, List.setIfInBounds_toArray, List.set_cons_zero, List.set_cons_succ, i64_w, i32_w]; rfl))
 (hQ : ∀ c a w, Q (.panic c) (a.put oi.dst v) w → Q (.panic c) a w := by exact fun _ _ _ h => h) : q89 P md ops Q S ds (fuel + 1) (bits n m) a w :=
 take_ _ hi hN hc hQ (Or.inl ⟨hw, hy⟩) hS ha h
theorem ca_ {n m fuel : Nat} {oi : Oper} {a : Act} {w : World} {f : FuncId} {fn : Func} {os : Array Operand} {ts : Array TypeId} (i : Nat) (N : Option Tmp) (hf : P.funcs[f]? = some fn) (args : Array Value)
 (h : Calls P f args w fun e w' => ∃ v, e = .returned v ∧ S w' ∧ (S w' → ∃ a', a.put N v = a' ∧ q89 P md ops Q S ds fuel (bits n (m ||| 1 <<< i)) a' w'))
 (hi : ops[i]? = some oi := by exact rfl) (hN : oi.dst = N := by exact rfl) (hc : readyB md ops (bits n m) (bits n (m ||| 1 <<< i)) i = true := by kernel_rfl) (hd : i ∉ ds := by decide)
 (hop : oi.op = .call { callee := .value (.func f), args := os, argTypes := ts } := by exact rfl) (hargs : os.map a.eval = args := by ((try simp only [List.map_toArray, List.map_cons, List.map_nil]); first | done | rfl))
 (hw : Region.wanted oi (yielded ops a.tmps) = true := by exact rfl)
 (hname : (fn.name == "runtime.NumGoroutine") = false := by kernel_rfl) (hb : fn.body.isSome = true := by exact rfl) : q89 P md ops Q S ds (fuel + 1) (bits n m) a w :=
 one_ _ hi hN hc hd fun K hK => goes_ hf hname hb args hw hN hop hargs (h.mono fun e w' hh => by
  obtain ⟨v, rfl, hS, hW⟩ := hh
  refine ⟨v, rfl, hK.out _ _ hS fun hs => ?_⟩
  obtain ⟨a', rfl, h'⟩ := hW hs
  exact h')
theorem dn_ {n m : Nat} {a : Act} {w : World} {k : Nat} (h : Q .normal a w) (hr : (Region.ready md ops (bits n m) == []) = true := by kernel_rfl) : q89 P md ops Q S ds k (bits n m) a w := done_ hr h
end
section
variable {P : Program} {md : Region.Mode} {ops : Array Oper} {Q : Exit → Act → World → Prop} {S : World → Prop} {ds : List Nat}
theorem oN_ {n m fuel : Nat} {oi : Oper} {a : Act} {w : World} (i : Nat) (N : Option Tmp)
 (h : ∀ K : Act → World → Prop, Shut (∀ a' w', S w' → (S w' → q89 P md ops Q S ds fuel (bits n (m ||| 1 <<< i)) a' w') → K a' w') → if Region.wanted oi (yielded ops a.tmps) = true then Oper.wp P oi a w K Q else K (a.put N undef) w)
 (hi : ops[i]? = some oi := by exact rfl) (hN : oi.dst = N := by exact rfl) (hc : readyB md ops (bits n m) (bits n (m ||| 1 <<< i)) i = true := by kernel_rfl) (hd : i ∉ ds := by decide) : q89 P md ops Q S ds (fuel + 1) (bits n m) a w :=
 one_ _ hi hN hc hd h
theorem tW_ {n m fuel : Nat} {oi oj : Oper} {a : Act} {w : World} (i j : Nat) (Ni Nj : Option Tmp)
 (h1 : ∀ K : Act → World → Prop, Shut (∀ a' w', S w' → (S w' → q89 P md ops Q S ds fuel (bits n (m ||| 1 <<< i)) a' w') → K a' w') → if Region.wanted oi (yielded ops a.tmps) = true then Oper.wp P oi a w K Q else K (a.put Ni undef) w)
 (h2 : ∀ K : Act → World → Prop, Shut (∀ a' w', S w' → (S w' → q89 P md ops Q S ds fuel (bits n (m ||| 1 <<< j)) a' w') → K a' w') → if Region.wanted oj (yielded ops a.tmps) = true then Oper.wp P oj a w K Q else K (a.put Nj undef) w)
 (hi : ops[i]? = some oi := by exact rfl) (hj : ops[j]? = some oj := by exact rfl) (hNi : oi.dst = Ni := by exact rfl) (hNj : oj.dst = Nj := by exact rfl)
 (hc : (Region.ready md ops (bits n m) == [i, j] && (bits n m).setIfInBounds i true == bits n (m ||| 1 <<< i) && (bits n m).setIfInBounds j true == bits n (m ||| 1 <<< j)) = true := by kernel_rfl) (hdi : i ∉ ds := by decide) (hdj : j ∉ ds := by decide) : q89 P md ops Q S ds (fuel + 1) (bits n m) a w :=
 two_ _ _ hi hj hNi hNj hc hdi hdj h1 h2
theorem sD_ {id : Nat} {a : Act} {w : World} (ds : List Nat) (S : World → Prop) (n : Nat) (hS : S w.drew) (h : S w.drew → q89 P .any ops Q S ds n (bits n 0) a w.drew)
 (hm : P.follows .mixedOrders = true := by kernel_rfl) (hn : ops.size = n := by exact rfl) (hl : Array.replicate n false = bits n 0 := by kernel_rfl) : (Code.region id ops true).wp P Q a w :=
 start_ (bits n 0) hm hn hl hS h
theorem lA_ {n m fuel : Nat} {oi : Oper} {a : Act} {w : World} (i : Nat) (N : Option Tmp)
 (h : ∀ K : Act → World → Prop, Shut (∀ a' w', q89 P md ops Q S ds fuel (bits n (m ||| 1 <<< i)) a' w' → K a' w') → if Region.wanted oi (yielded ops a.tmps) = true then Oper.wp P oi a w K Q else K (a.put N undef) w)
 (hi : ops[i]? = some oi := by exact rfl) (hN : oi.dst = N := by exact rfl) (hc : readyB md ops (bits n m) (bits n (m ||| 1 <<< i)) i = true := by kernel_rfl) (hd : i ∈ ds := by decide) : q89 P md ops Q S ds (fuel + 1) (bits n m) a w :=
 last_ _ hi hN hc hd h
end
theorem eqA101 (d : Nat) (w : World) (x0 y0 : ByteArray) (x1 y1 : Int) :
 (Op.equalIn (d + 2) 101 (.agg #[.string x0, .int .i64 x1]) (.agg #[.string y0, .int .i64 y1])).run Try.prog w = .ok (x0.toList == y0.toList && (x1 == y1)) w := by
 refine eqA_of Try.underlying101 (by kernel_rfl) ?_
 refine eqf_cons (by rfl) (by go_simp; rfl) (by go_simp; rfl) (by go_simp) ?_
 exact eqf_last (by rfl) (by go_simp; rfl) (by go_simp; rfl) (by go_simp)
end Go.Proofs.Yteddgedacjdjgaa.Pm
end
section
namespace Go.Proofs.Yteddgedacjdjgaa.Pm
open Go.RowKit Go.Proofs.YteddgedacjdjgaaW.PrintWords Go.Proofs.YteddgedacjdjgaaW.PrintLast Go.Proofs.YteddgedacjdjgaaW.PrintMore
attribute [local go_sem] max2_int min2_int max_two min_two max_three min_three max_four min_four   -- for this text's walks alone
set_option linter.unusedVariables false
set_option linter.unusedSimpArgs false
attribute [local go_sem high] eqA101
def q50.l0 : Nat → List (S101) → Int → Int → ByteArray → Int → Option (Int)
 | 0, _, _, _, _, _ => none
 | k + 1, x0, x7, x8, x208000, x208001 => if x8 < x7 then (if 0 ≤ x8 then (if x8 < (x0.length : Int) then (if (x208000.toList == (((q79 x0 x8).f0).toList) && (x208001 == ((q79 x0 x8).f1))) = true then (some x8) else (q50.l0 k x0 x7 (wrap64 (x8 + 1)) x208000 x208001)) else (none)) else (none)) else (some (-1))
def q50.f (k : Nat) (l0 : List (S101)) (a1_0 : ByteArray) (a1_1 : Int) : Option (Int) := q50.l0 k l0 (l0.length : Int) 0 a1_0 a1_1
theorem q50.mono_l : ∀ k, (∀ y0 y1 y2 y3 y4, LeO (q50.l0 k y0 y1 y2 y3 y4) (q50.l0 (k + 1) y0 y1 y2 y3 y4))
 | 0 => fun _ _ _ _ _ r h => by simp [q50.l0] at h
 | k + 1 => by
  have ih0 := q50.mono_l k
  ·intro y0 y1 y2 y3 y4
   unfold q50.l0
   repeat' first
   | (with_reducible exact ih0 _ _ _ _ _)
   | (with_reducible exact LeO.refl _)
   | (with_reducible exact LeO.none _)
   | (with_reducible refine LeO.ite ?_ ?_)
   | (with_reducible refine LeO.bind ?_ (fun _ => ?_))
   | exact ih0 _ _ _ _ _
   | exact LeO.none _
   | refine LeO.ite ?_ ?_
   | refine LeO.bind ?_ (fun _ => ?_)
theorem q50.mono : ∀ a0 a1 a2 k, LeO (q50.f k a0 a1 a2) (q50.f (k + 1) a0 a1 a2) := by
 intro a0 a1 a2 k
 have ih0 := q50.mono_l k
 unfold q50.f
 repeat' first
  | (with_reducible exact ih0 _ _ _ _ _)
  | (with_reducible exact LeO.refl _)
  | (with_reducible exact LeO.none _)
  | (with_reducible refine LeO.ite ?_ ?_)
  | (with_reducible refine LeO.bind ?_ (fun _ => ?_))
  | exact ih0 _ _ _ _ _
  | exact LeO.none _
  | refine LeO.ite ?_ ?_
  | refine LeO.bind ?_ (fun _ => ?_)
set_option maxHeartbeats 8000000 in
set_option maxRecDepth 100000 in
theorem q50.calls (k : Nat) (A0 : Option Addr) (c0 : Nat) (l0 : List (S101)) (a1_0 : ByteArray) (a1_1 : Int) (r : Int) (w : World) (hr0 : Kd.C k101 w A0 l0.length l0) (hc0 : l0.length ≤ c0) (h : q50.f k l0 a1_0 a1_1 = some r) :
 Calls Try.prog 105 #[.slice A0 l0.length c0, .agg #[.string a1_0, .int .i64 a1_1]] w fun e w' => e = .returned (.int .i64 r) ∧ Below w.heap.size w w' := by
 have hu101 := Try.underlying101
 have HR0 := q59.mk hr0
 have HC0 := q59.mk hc0
 clear hr0 hc0
 have HB := q59.mk (Below.refl w.heap.size w)
 have H : (q50.l0 k l0 (l0.length : Int) 0 a1_0 a1_1) = some r := h
 clear h
 have H' := q59.mk H
 clear H
 go_enter Try.func105, Try.ntmps105
 go_wp2_with (first | ((with_reducible refine q74 (N := 3) rfl ?_); refine bx_ 3 #[.string a1_0, .int .i64 a1_1] 101 ?_; intro gb207 hg w3 hbox hb; have BK207 := q59.mk (hbox); have GW207 := zz_ (w := w) hg; have GE207 := zz_ (w := w) hg; replace HB := hb_ HB hb;  clear hb hbox hg))
 repeat (go_quiet (first | ((with_reducible refine q74 (N := 3) rfl ?_); refine bx_ 3 #[.string a1_0, .int .i64 a1_1] 101 ?_; intro gb207 hg w3 hbox hb; have BK207 := q59.mk (hbox); have GW207 := zz_ (w := w) hg; have GE207 := zz_ (w := w) hg; replace HB := hb_ HB hb;  clear hb hbox hg)); try go_wp2_with (first | ((with_reducible refine q74 (N := 3) rfl ?_); refine bx_ 3 #[.string a1_0, .int .i64 a1_1] 101 ?_; intro gb207 hg w3 hbox hb; have BK207 := q59.mk (hbox); have GW207 := zz_ (w := w) hg; have GE207 := zz_ (w := w) hg; replace HB := hb_ HB hb;  clear hb hbox hg)))
 go_loopg [8] k (fun kq v8 w' => ∃ (x8_1 : Int), v8 = .int .i64 x8_1 ∧ q59 (q50.l0 kq l0 (l0.length : Int) x8_1 a1_0 a1_1 = some r) ∧ q59 (kq ≤ k) ∧ q59 (w'.heap[gb207]? = some (.cells #[.string a1_0, .int .i64 a1_1] 101 (0, 0))) ∧ q59 (Below w.heap.size w w'))
 case atStart => exact ⟨(0), rf_, H', ⟨Nat.le_refl _⟩, ⟨gx_ BK207⟩, ⟨hf_⟩⟩
 case round =>
  clear H'
  obtain ⟨x8_1, rfl, HA, HK1, BK207, HB⟩ := hrel
  cases gk with
  | zero => exact absurd HA.out (by simp [q50.l0])
  | succ k1 =>
   have H := HA.out
   clear HA
   simp only [q50.l0] at H
   by_cases c4 : x8_1 < (l0.length : Int)
   ·rw [if_pos c4] at H
    replace c4 := decide_eq_true c4
    by_cases c5 : 0 ≤ x8_1
    ·rw [if_pos c5] at H
     replace c5 := decide_eq_true c5
     by_cases c6 : x8_1 < (l0.length : Int)
     ·rw [if_pos c6] at H
      replace c6 := decide_eq_true c6
      by_cases c7 : (a1_0.toList == (((q79 l0 x8_1).f0).toList) && (a1_1 == ((q79 l0 x8_1).f1))) = true
      ·rw [if_pos c7] at H
       have c7b0 : (a1_0.toList == (((q79 l0 x8_1).f0).toList) && (a1_1 == ((q79 l0 x8_1).f1))) = true := c7
       (try (have c7b1 : decide (a1_0.toList = (((q79 l0 x8_1).f0).toList) && (a1_1 == ((q79 l0 x8_1).f1))) = true := by simpa using c7))
       (try (have c7b2 : (a1_0.toList == (((q79 l0 x8_1).f0).toList) && (a1_1 == ((q79 l0 x8_1).f1))) = true := by simpa using c7))
       clear c7
       obtain rfl := Option.some.inj H
       obtain ⟨hcz8_0, hcz8_1, hfz8_0, hfz8_1⟩ := bs2_ BK207
       obtain ⟨ad208, e208, hx208_0, hx208_1, p208, q208⟩ := au_T101 HR0 HB (x8_1)
       cases e208
       go_wp2
       repeat (go_quiet (fail); try go_wp2)
       go_ret
       exact ⟨er_, hf_⟩
      ·rw [if_neg c7] at H
       have c7b0 : (a1_0.toList == (((q79 l0 x8_1).f0).toList) && (a1_1 == ((q79 l0 x8_1).f1))) = false := by simpa using c7
       (try (have c7b1 : decide (a1_0.toList = (((q79 l0 x8_1).f0).toList) && (a1_1 == ((q79 l0 x8_1).f1))) = false := by simpa using c7))
       (try (have c7b2 : (a1_0.toList == (((q79 l0 x8_1).f0).toList) && (a1_1 == ((q79 l0 x8_1).f1))) = false := by simpa using c7))
       (try (have c7b3 : ¬ (a1_0.toList = (((q79 l0 x8_1).f0).toList) && (a1_1 == ((q79 l0 x8_1).f1))) := by simpa using c7))
       clear c7
       have H' := q59.mk H
       clear H
       obtain ⟨hcz9_0, hcz9_1, hfz9_0, hfz9_1⟩ := bs2_ BK207
       obtain ⟨ad208, e208, hx208_0, hx208_1, p208, q208⟩ := au_T101 HR0 HB (x8_1)
       cases e208
       go_wp2
       repeat (go_quiet (fail); try go_wp2)
       go_roundg k1
       case measure => have := HK1.out; omega
       case rel => exact ⟨(wrap64 (x8_1 + 1)), rf_, H', ⟨by have := HK1.out; omega⟩, ⟨gx_ BK207⟩, ⟨hf_⟩⟩
     ·rw [if_neg c6] at H
      exact absurd H (by simp)
    ·rw [if_neg c5] at H
     exact absurd H (by simp)
   ·rw [if_neg c4] at H
    replace c4 := decide_eq_false c4
    obtain rfl := Option.some.inj H
    go_wp2
    repeat (go_quiet (fail); try go_wp2)
    go_ret
    exact ⟨er_, hf_⟩
end Go.Proofs.Yteddgedacjdjgaa.Pm
end
section
namespace Go.Proofs.Yteddgedacjdjgaa.Pm
open Go.RowKit Go.Proofs.YteddgedacjdjgaaW.PrintWords Go.Proofs.YteddgedacjdjgaaW.PrintLast Go.Proofs.YteddgedacjdjgaaW.PrintMore
attribute [local go_sem] max2_int min2_int max_two min_two max_three min_three max_four min_four   -- for this text's walks alone
set_option linter.unusedVariables false
set_option linter.unusedSimpArgs false
def q46.f (k : Nat) (l0 : List (S101)) (a1_0 : ByteArray) (a1_1 : Int) : Option (Bool) := (q50.f k l0 a1_0 a1_1).bind fun t210 => (some (decide (t210 ≥ 0)))
theorem q46.mono : ∀ a0 a1 a2 k, LeO (q46.f k a0 a1 a2) (q46.f (k + 1) a0 a1 a2) := by
 intro a0 a1 a2 k
 unfold q46.f
 repeat' first
  | (with_reducible exact q50.mono _ _ _ _)
  | (with_reducible exact LeO.refl _)
  | (with_reducible exact LeO.none _)
  | (with_reducible refine LeO.ite ?_ ?_)
  | (with_reducible refine LeO.bind ?_ (fun _ => ?_))
  | exact q50.mono _ _ _ _
  | exact LeO.none _
  | refine LeO.ite ?_ ?_
  | refine LeO.bind ?_ (fun _ => ?_)
set_option maxHeartbeats 8000000 in
set_option maxRecDepth 100000 in
theorem q46.calls (k : Nat) (A0 : Option Addr) (c0 : Nat) (l0 : List (S101)) (a1_0 : ByteArray) (a1_1 : Int) (r : Bool) (w : World) (hr0 : Kd.C k101 w A0 l0.length l0) (hc0 : l0.length ≤ c0) (h : q46.f k l0 a1_0 a1_1 = some r) :
 Calls Try.prog 100 #[.slice A0 l0.length c0, .agg #[.string a1_0, .int .i64 a1_1]] w fun e w' => e = .returned (.bool r) ∧ Below w.heap.size w w' := by
 have hu101 := Try.underlying101
 have HR0 := q59.mk hr0
 have HC0 := q59.mk hc0
 clear hr0 hc0
 have HB := q59.mk (Below.refl w.heap.size w)
 have H : ((q50.f k l0 a1_0 a1_1).bind fun t210 => (some (decide (t210 ≥ 0)))) = some r := h
 clear h
 replace H := Option.bind_eq_some_iff.mp H
 obtain ⟨t210, A30, H⟩ := H
 have A3 := q59.mk A30
 clear A30
 obtain rfl := Option.some.inj H
 go_enter Try.func100, Try.ntmps100
 go_wp2_with (first | ((with_reducible refine q74 (N := 3) rfl ?_); refine bx_ 3 #[.string a1_0, .int .i64 a1_1] 101 ?_; intro gb209 hg w4 hbox hb; have BK209 := q59.mk (hbox); have GW209 := zz_ (w := w) hg; have GE209 := zz_ (w := w) hg; replace HB := hb_ HB hb;  clear hb hbox hg; obtain ⟨hcz5_0, hcz5_1, hfz5_0, hfz5_1⟩ := bs2_ BK209) | ((with_reducible refine q73 (f := 105) rfl ?_); refine gl_ (some 7) Try.func105 #[.slice A0 l0.length c0, .agg #[.string a1_0, .int .i64 a1_1]] ?_; (with_reducible refine (q50.calls k _ _ l0 a1_0 a1_1 t210 _ ?side1 ?side2 A3.out).mono ?_); (case side1 => exact kc_ HR0 HB); (case side2 => exact HC0.out); rintro e w6 ⟨rfl, hb⟩; refine ⟨_, rfl, ?_⟩; replace BK209 := bb_ BK209 hb; replace HB := hb_ HB hb;  (try clear hb)))
 go_ret
 exact ⟨er_, hf_⟩
def q8.l0 : Nat → List ByteArray → ByteArray → Int → Int → Option (Int)
 | 0, _, _, _, _ => none
 | k + 1, x0, x1, x7, x8 => if x8 < x7 then (if 0 ≤ x8 then (if x8 < (x0.length : Int) then (if x1.toList = (rdOf ByteArray.empty x0 x8).toList then (some x8) else (q8.l0 k x0 x1 x7 (wrap64 (x8 + 1)))) else (none)) else (none)) else (some (-1))
def q8.f (k : Nat) (l0 : List ByteArray) (a1 : ByteArray) : Option (Int) := q8.l0 k l0 a1 (l0.length : Int) 0
theorem q8.mono_l : ∀ k, (∀ y0 y1 y2 y3, LeO (q8.l0 k y0 y1 y2 y3) (q8.l0 (k + 1) y0 y1 y2 y3))
 | 0 => fun _ _ _ _ r h => by simp [q8.l0] at h
 | k + 1 => by
  have ih0 := q8.mono_l k
  ·intro y0 y1 y2 y3
   unfold q8.l0
   repeat' first
   | (with_reducible exact ih0 _ _ _ _)
   | (with_reducible exact LeO.refl _)
   | (with_reducible exact LeO.none _)
   | (with_reducible refine LeO.ite ?_ ?_)
   | (with_reducible refine LeO.bind ?_ (fun _ => ?_))
   | exact ih0 _ _ _ _
   | exact LeO.none _
   | refine LeO.ite ?_ ?_
   | refine LeO.bind ?_ (fun _ => ?_)
theorem q8.mono : ∀ a0 a1 k, LeO (q8.f k a0 a1) (q8.f (k + 1) a0 a1) := by
 intro a0 a1 k
 have ih0 := q8.mono_l k
 unfold q8.f
 repeat' first
  | (with_reducible exact ih0 _ _ _ _)
  | (with_reducible exact LeO.refl _)
  | (with_reducible exact LeO.none _)
  | (with_reducible refine LeO.ite ?_ ?_)
  | (with_reducible refine LeO.bind ?_ (fun _ => ?_))
  | exact ih0 _ _ _ _
  | exact LeO.none _
  | refine LeO.ite ?_ ?_
  | refine LeO.bind ?_ (fun _ => ?_)
set_option maxHeartbeats 8000000 in
set_option maxRecDepth 100000 in
theorem q8.calls (k : Nat) (A0 : Option Addr) (c0 : Nat) (l0 : List ByteArray) (a1 : ByteArray) (r : Int) (w : World) (hr0 : Kd.C Kd.string w A0 l0.length l0) (hc0 : l0.length ≤ c0) (h : q8.f k l0 a1 = some r) :
 Calls Try.prog 86 #[.slice A0 l0.length c0, .string a1] w fun e w' => e = .returned (.int .i64 r) ∧ Drawn0 w w' := by
 have HR0 := q59.mk hr0
 have HC0 := q59.mk hc0
 clear hr0 hc0
 have H : (q8.l0 k l0 a1 (l0.length : Int) 0) = some r := h
 clear h
 have H' := q59.mk H
 clear H
 go_enter Try.func86, Try.ntmps86
 go_wp2
 go_loopg [8] k (fun kq v8 w' => ∃ (x8_1 : Int), v8 = .int .i64 x8_1 ∧ q59 (q8.l0 kq l0 a1 (l0.length : Int) x8_1 = some r) ∧ q59 (kq ≤ k) ∧ Drawn0 w w')
 case atStart => exact ⟨(0), rf_, H', ⟨Nat.le_refl _⟩, by repeat (first | exact Drawn0.refl _ | apply Drawn0.step)⟩
 case round =>
  clear H'
  try clear p2
  obtain ⟨x8_1, rfl, HA, HK1, ⟨m1, rfl⟩⟩ := hrel
  cases gk with
  | zero => exact absurd HA.out (by simp [q8.l0])
  | succ k1 =>
   have H := HA.out
   clear HA
   simp only [q8.l0] at H
   by_cases c3 : x8_1 < (l0.length : Int)
   ·rw [if_pos c3] at H
    replace c3 := decide_eq_true c3
    by_cases c4 : 0 ≤ x8_1
    ·rw [if_pos c4] at H
     replace c4 := decide_eq_true c4
     by_cases c5 : x8_1 < (l0.length : Int)
     ·rw [if_pos c5] at H
      replace c5 := decide_eq_true c5
      by_cases c6 : a1.toList = (rdOf ByteArray.empty l0 x8_1).toList
      ·rw [if_pos c6] at H
       have c6b0 : (a1.toList == (rdOf ByteArray.empty l0 x8_1).toList) = true := beq_iff_eq.mpr c6
       have c6b1 : (a1.toList != (rdOf ByteArray.empty l0 x8_1).toList) = false := bne_eq_false_iff_eq.mpr c6
       clear c6
       obtain rfl := Option.some.inj H
       obtain ⟨ad189, e189, hx189_0, p189, q189⟩ := au_string HR0 ⟨Below.refl _ _⟩ (x8_1)
       cases e189
       go_wp2
       go_ret
       exact ⟨by first | rfl | (simp; done) | (simp [*]; done), by repeat (first | exact Drawn0.refl _ | apply Drawn0.step)⟩
      ·rw [if_neg c6] at H
       have c6b0 : (a1.toList == (rdOf ByteArray.empty l0 x8_1).toList) = false := beq_eq_false_iff_ne.mpr c6
       have c6b1 : (a1.toList != (rdOf ByteArray.empty l0 x8_1).toList) = true := bne_iff_ne.mpr c6
       have H' := q59.mk H
       clear H
       obtain ⟨ad189, e189, hx189_0, p189, q189⟩ := au_string HR0 ⟨Below.refl _ _⟩ (x8_1)
       cases e189
       go_wp2
       go_roundg k1
       case measure => have := HK1.out; omega
       case rel => exact ⟨(wrap64 (x8_1 + 1)), rf_, H', ⟨by have := HK1.out; omega⟩, by repeat (first | exact Drawn0.refl _ | apply Drawn0.step)⟩
     ·rw [if_neg c5] at H
      exact absurd H (by simp)
    ·rw [if_neg c4] at H
     exact absurd H (by simp)
   ·rw [if_neg c3] at H
    replace c3 := decide_eq_false c3
    obtain rfl := Option.some.inj H
    go_wp2
    go_ret
    exact ⟨by first | rfl | (simp; done) | (simp [*]; done), by repeat (first | exact Drawn0.refl _ | apply Drawn0.step)⟩
def q7.f (k : Nat) (l0 : List ByteArray) (a1 : ByteArray) : Option (Bool) := (q8.f k l0 a1).bind fun t190 => (some (decide (t190 ≥ 0)))
theorem q7.mono : ∀ a0 a1 k, LeO (q7.f k a0 a1) (q7.f (k + 1) a0 a1) := by
 intro a0 a1 k
 unfold q7.f
 repeat' first
  | (with_reducible exact q8.mono _ _ _)
  | (with_reducible exact LeO.refl _)
  | (with_reducible exact LeO.none _)
  | (with_reducible refine LeO.ite ?_ ?_)
  | (with_reducible refine LeO.bind ?_ (fun _ => ?_))
  | exact q8.mono _ _ _
  | exact LeO.none _
  | refine LeO.ite ?_ ?_
  | refine LeO.bind ?_ (fun _ => ?_)
set_option maxHeartbeats 8000000 in
set_option maxRecDepth 100000 in
theorem q7.calls (k : Nat) (A0 : Option Addr) (c0 : Nat) (l0 : List ByteArray) (a1 : ByteArray) (r : Bool) (w : World) (hr0 : Kd.C Kd.string w A0 l0.length l0) (hc0 : l0.length ≤ c0) (h : q7.f k l0 a1 = some r) :
 Calls Try.prog 85 #[.slice A0 l0.length c0, .string a1] w fun e w' => e = .returned (.bool r) ∧ Drawn0 w w' := by
 have HR0 := q59.mk hr0
 have HC0 := q59.mk hc0
 clear hr0 hc0
 have H : ((q8.f k l0 a1).bind fun t190 => (some (decide (t190 ≥ 0)))) = some r := h
 clear h
 replace H := Option.bind_eq_some_iff.mp H
 obtain ⟨t190, A30, H⟩ := H
 have A3 := q59.mk A30
 clear A30
 obtain rfl := Option.some.inj H
 go_enter Try.func85, Try.ntmps85
 go_wp2_with (first | ((with_reducible refine q73 (f := 86) rfl ?_); refine gl_ (some 7) Try.func86 #[.slice A0 l0.length c0, .string a1] ?_; (with_reducible refine (q8.calls k _ _ l0 a1 t190 _ ?side1 ?side2 A3.out).mono ?_); (case side1 => repeat (first | exact HR0.out | (with_reducible refine Kd.C_alloc ?_ _) | (with_reducible refine Kd.C_drewN ?_ _) | (with_reducible refine Kd.C_drew ?_))); (case side2 => exact HC0.out); rintro e w' ⟨rfl, ⟨nd, rfl⟩⟩; refine ⟨_, rfl, ?_⟩))
 go_ret
 exact ⟨by first | rfl | (simp; done) | (simp [*]; done), by repeat (first | exact Drawn0.refl _ | apply Drawn0.step)⟩
def q49.f (k : Nat) (l0_0 : List ByteArray) (l0_1 : List (S41)) (a1_0 : ByteArray) (a1_1 : ByteArray) (a1_2 : Int) : Option (Bool) := (q7.f k (([(⟨#[60]⟩ : ByteArray), (⟨#[60, 61]⟩ : ByteArray), (⟨#[61]⟩ : ByteArray), (⟨#[33, 61]⟩ : ByteArray), (⟨#[62, 61]⟩ : ByteArray), (⟨#[62]⟩ : ByteArray)] : List ByteArray)) a1_1).bind fun t196 => (if t196 = true then ((q7.f k l0_0 a1_0).bind fun t197 => (if t197 = true then (if a1_2 ≥ (-1000000) then (some (decide (a1_2 ≤ 1000000))) else (some false)) else (some false))) else (some false))
theorem q49.mono : ∀ a0 a1 a2 a3 a4 k, LeO (q49.f k a0 a1 a2 a3 a4) (q49.f (k + 1) a0 a1 a2 a3 a4) := by
 intro a0 a1 a2 a3 a4 k
 unfold q49.f
 repeat' first
  | (with_reducible exact q7.mono _ _ _)
  | (with_reducible exact LeO.refl _)
  | (with_reducible exact LeO.none _)
  | (with_reducible refine LeO.ite ?_ ?_)
  | (with_reducible refine LeO.bind ?_ (fun _ => ?_))
  | exact q7.mono _ _ _
  | exact LeO.none _
  | refine LeO.ite ?_ ?_
  | refine LeO.bind ?_ (fun _ => ?_)
set_option maxHeartbeats 8000000 in
set_option maxRecDepth 100000 in
theorem q49.calls (k : Nat) (A0_0 : Option Addr) (c0_0 : Nat) (l0_0 : List ByteArray) (A0_1 : Option Addr) (c0_1 : Nat) (l0_1 : List (S41)) (a1_0 : ByteArray) (a1_1 : ByteArray) (a1_2 : Int) (r : Bool) (w : World) (hr0_0 : Kd.C Kd.string w A0_0 l0_0.length l0_0) (hc0_0 : l0_0.length ≤ c0_0) (hr0_1 : Kd.C k41 w A0_1 l0_1.length l0_1) (hc0_1 : l0_1.length ≤ c0_1) (h : q49.f k l0_0 l0_1 a1_0 a1_1 a1_2 = some r) :
 Calls Try.prog 103 #[.agg #[.slice A0_0 l0_0.length c0_0, .slice A0_1 l0_1.length c0_1], .agg #[.string a1_0, .string a1_1, .int .i64 a1_2]] w fun e w' => e = .returned (.bool r) ∧ Below w.heap.size w w' := by
 have hu25 := Try.underlying25
 have hu90 := Try.underlying90
 have HR0_0 := q59.mk hr0_0
 have HC0_0 := q59.mk hc0_0
 clear hr0_0 hc0_0
 have HR0_1 := q59.mk hr0_1
 have HC0_1 := q59.mk hc0_1
 clear hr0_1 hc0_1
 have HB := q59.mk (Below.refl w.heap.size w)
 unfold q49.f at h
 have H := h
 clear h
 obtain ⟨y193, hy193⟩ : ∃ y_ : List ByteArray, y_ = (([(⟨#[60]⟩ : ByteArray), (⟨#[60, 61]⟩ : ByteArray), (⟨#[61]⟩ : ByteArray), (⟨#[33, 61]⟩ : ByteArray), (⟨#[62, 61]⟩ : ByteArray), (⟨#[62]⟩ : ByteArray)] : List ByteArray)) := ⟨_, rfl⟩
 rw [← hy193] at H
 have Ny193 := q59.mk hy193
 clear hy193
 replace H := Option.bind_eq_some_iff.mp H
 obtain ⟨t196, A30, H⟩ := H
 have A3 := q59.mk A30
 clear A30
 by_cases c4 : t196 = true
 ·subst c4
  have H1 : ((q7.f k l0_0 a1_0).bind fun t197 => (if t197 = true then (if a1_2 ≥ (-1000000) then (some (decide (a1_2 ≤ 1000000))) else (some false)) else (some false))) = some r := by rw [if_pos rfl] at H; exact H
  clear H
  have H := H1
  clear H1
  replace H := Option.bind_eq_some_iff.mp H
  obtain ⟨t197, A50, H⟩ := H
  have A5 := q59.mk A50
  clear A50
  by_cases c6 : t197 = true
  ·subst c6
   have H1 : (if a1_2 ≥ (-1000000) then (some (decide (a1_2 ≤ 1000000))) else (some false)) = some r := by rw [if_pos rfl] at H; exact H
   clear H
   have H := H1
   clear H1
   by_cases c7 : a1_2 ≥ (-1000000)
   ·rw [if_pos c7] at H
    replace c7 := decide_eq_true c7
    obtain rfl := Option.some.inj H
    go_enter Try.func103, Try.ntmps103
    go_wp2_with (first | ((with_reducible refine q74 (N := 2) rfl ?_); refine bx_ 2 #[.slice A0_0 l0_0.length c0_0, .slice A0_1 l0_1.length c0_1] 25 ?_; intro gb191 hg w8 hbox hb; have BK191 := q59.mk (hbox); have GW191 := zz_ (w := w) hg; have GE191 := zz_ (w := w) hg; replace HB := hb_ HB hb;  clear hb hbox hg) | ((with_reducible refine q74 (N := 3) rfl ?_); refine bx_ 3 #[.string a1_0, .string a1_1, .int .i64 a1_2] 90 ?_; intro gb192 hg w9 hbox hb; have BK192 := q59.mk (hbox); have GW192 := zz_ (w := w) hg; have GE192 := zz_ (w := w) hg; replace HB := hb_ HB hb; have NB191_192 := ne1_ hg BK191; have NB192_191 := ne2_ hg BK191; replace BK191 := bb_ BK191 hb;  clear hb hbox hg) | ((with_reducible refine q74 (N := 6) rfl ?_); refine Kd.R_lit Kd.string _ 9 ?hg (N := 6) ?hd (xs := ([(⟨#[60]⟩ : ByteArray), (⟨#[60, 61]⟩ : ByteArray), (⟨#[61]⟩ : ByteArray), (⟨#[33, 61]⟩ : ByteArray), (⟨#[62, 61]⟩ : ByteArray), (⟨#[62]⟩ : ByteArray)] : List ByteArray)) (inner := [.string (⟨#[60]⟩ : ByteArray), .string (⟨#[60, 61]⟩ : ByteArray), .string (⟨#[61]⟩ : ByteArray), .string (⟨#[33, 61]⟩ : ByteArray), .string (⟨#[62, 61]⟩ : ByteArray), .string (⟨#[62]⟩ : ByteArray)]) (ok := fun _ => True) (okp := fun _ => True) ?hr ?hp (fun _ hk => hk) trivial (Below.refl _ _) (Nat.le_refl _) (by simp) ?_; (case hd => rfl); (case hg => rfl); (case hr => first | (go_simp; done) | (go_simp; rfl)); (case hp => exact (Reps.one (show Kd.M Kd.string _ _ _ (⟨#[60]⟩ : ByteArray) [.string (⟨#[60]⟩ : ByteArray)] from rfl) (Reps.one (show Kd.M Kd.string _ _ _ (⟨#[60, 61]⟩ : ByteArray) [.string (⟨#[60, 61]⟩ : ByteArray)] from rfl) (Reps.one (show Kd.M Kd.string _ _ _ (⟨#[61]⟩ : ByteArray) [.string (⟨#[61]⟩ : ByteArray)] from rfl) (Reps.one (show Kd.M Kd.string _ _ _ (⟨#[33, 61]⟩ : ByteArray) [.string (⟨#[33, 61]⟩ : ByteArray)] from rfl) (Reps.one (show Kd.M Kd.string _ _ _ (⟨#[62, 61]⟩ : ByteArray) [.string (⟨#[62, 61]⟩ : ByteArray)] from rfl) (Reps.one (show Kd.M Kd.string _ _ _ (⟨#[62]⟩ : ByteArray) [.string (⟨#[62]⟩ : ByteArray)] from rfl) (Reps.none _ _)))))))); intro v194 w10 ho11 hb hg_ hnew_; clear hg_ hnew_; (first | rw [← Ny193.out] at ho11 | (simp only [Int.reduceToNat] at ho11; rw [← Ny193.out] at ho11)); have HO195 := q59.mk (Kd.R_lower ho11 (q62 hf_)); replace BK191 := bb_ BK191 hb; replace BK192 := bb_ BK192 hb; replace HB := hb_ HB hb;  clear hb ho11; have hnb12 := NB192_191.out; have hnc12 := NB191_192.out; obtain ⟨hcz13_0, hcz13_1, hcz13_2, hfz13_0, hfz13_1, hfz13_2⟩ := bs3_ BK192; obtain ⟨Ao14, co14, eo14⟩ := Kd.R_slice HO195.out; subst eo14) | ((with_reducible refine q73 (f := 85) rfl ?_); refine gl_ (some 9) Try.func85 #[.slice Ao14 y193.length co14, .string a1_1] ?_; (with_reducible refine (q7.calls k _ _ y193 a1_1 true _ ?side1 ?side2 A3.out).mono ?_); (case side1 => repeat (first | exact (Kd.R_reads' HO195.out).2.2 | (with_reducible refine Kd.C_alloc ?_ _) | (with_reducible refine Kd.C_drewN ?_ _) | (with_reducible refine Kd.C_drew ?_))); (case side2 => exact (Kd.R_reads' HO195.out).2.1); rintro e w' ⟨rfl, ⟨nd, rfl⟩⟩; refine ⟨_, rfl, ?_⟩; obtain ⟨hcz15_0, hcz15_1, hfz15_0, hfz15_1⟩ := bs2_ BK191) | (go_at_call 85; (with_reducible refine (q7.calls k _ _ l0_0 a1_0 true _ ?side1 ?side2 A5.out).mono ?_); (case side1 => repeat (first | exact (Kd.C_below HR0_0.out hf_) | (with_reducible refine Kd.C_alloc ?_ _) | (with_reducible refine Kd.C_drewN ?_ _) | (with_reducible refine Kd.C_drew ?_))); (case side2 => exact HC0_0.out); rintro e w' ⟨rfl, ⟨nd, rfl⟩⟩))
    go_ret
    exact ⟨er_, hf_⟩
   ·rw [if_neg c7] at H
    replace c7 := decide_eq_false c7
    obtain rfl := Option.some.inj H
    go_enter Try.func103, Try.ntmps103
    go_wp2_with (first | ((with_reducible refine q74 (N := 2) rfl ?_); refine bx_ 2 #[.slice A0_0 l0_0.length c0_0, .slice A0_1 l0_1.length c0_1] 25 ?_; intro gb191 hg w16 hbox hb; have BK191 := q59.mk (hbox); have GW191 := zz_ (w := w) hg; have GE191 := zz_ (w := w) hg; replace HB := hb_ HB hb;  clear hb hbox hg) | ((with_reducible refine q74 (N := 3) rfl ?_); refine bx_ 3 #[.string a1_0, .string a1_1, .int .i64 a1_2] 90 ?_; intro gb192 hg w17 hbox hb; have BK192 := q59.mk (hbox); have GW192 := zz_ (w := w) hg; have GE192 := zz_ (w := w) hg; replace HB := hb_ HB hb; have NB191_192 := ne1_ hg BK191; have NB192_191 := ne2_ hg BK191; replace BK191 := bb_ BK191 hb;  clear hb hbox hg) | ((with_reducible refine q74 (N := 6) rfl ?_); refine Kd.R_lit Kd.string _ 9 ?hg (N := 6) ?hd (xs := ([(⟨#[60]⟩ : ByteArray), (⟨#[60, 61]⟩ : ByteArray), (⟨#[61]⟩ : ByteArray), (⟨#[33, 61]⟩ : ByteArray), (⟨#[62, 61]⟩ : ByteArray), (⟨#[62]⟩ : ByteArray)] : List ByteArray)) (inner := [.string (⟨#[60]⟩ : ByteArray), .string (⟨#[60, 61]⟩ : ByteArray), .string (⟨#[61]⟩ : ByteArray), .string (⟨#[33, 61]⟩ : ByteArray), .string (⟨#[62, 61]⟩ : ByteArray), .string (⟨#[62]⟩ : ByteArray)]) (ok := fun _ => True) (okp := fun _ => True) ?hr ?hp (fun _ hk => hk) trivial (Below.refl _ _) (Nat.le_refl _) (by simp) ?_; (case hd => rfl); (case hg => rfl); (case hr => first | (go_simp; done) | (go_simp; rfl)); (case hp => exact (Reps.one (show Kd.M Kd.string _ _ _ (⟨#[60]⟩ : ByteArray) [.string (⟨#[60]⟩ : ByteArray)] from rfl) (Reps.one (show Kd.M Kd.string _ _ _ (⟨#[60, 61]⟩ : ByteArray) [.string (⟨#[60, 61]⟩ : ByteArray)] from rfl) (Reps.one (show Kd.M Kd.string _ _ _ (⟨#[61]⟩ : ByteArray) [.string (⟨#[61]⟩ : ByteArray)] from rfl) (Reps.one (show Kd.M Kd.string _ _ _ (⟨#[33, 61]⟩ : ByteArray) [.string (⟨#[33, 61]⟩ : ByteArray)] from rfl) (Reps.one (show Kd.M Kd.string _ _ _ (⟨#[62, 61]⟩ : ByteArray) [.string (⟨#[62, 61]⟩ : ByteArray)] from rfl) (Reps.one (show Kd.M Kd.string _ _ _ (⟨#[62]⟩ : ByteArray) [.string (⟨#[62]⟩ : ByteArray)] from rfl) (Reps.none _ _)))))))); intro v194 w18 ho19 hb hg_ hnew_; clear hg_ hnew_; (first | rw [← Ny193.out] at ho19 | (simp only [Int.reduceToNat] at ho19; rw [← Ny193.out] at ho19)); have HO195 := q59.mk (Kd.R_lower ho19 (q62 hf_)); replace BK191 := bb_ BK191 hb; replace BK192 := bb_ BK192 hb; replace HB := hb_ HB hb;  clear hb ho19; have hnb20 := NB192_191.out; have hnc20 := NB191_192.out; obtain ⟨hcz21_0, hcz21_1, hcz21_2, hfz21_0, hfz21_1, hfz21_2⟩ := bs3_ BK192; obtain ⟨Ao22, co22, eo22⟩ := Kd.R_slice HO195.out; subst eo22) | ((with_reducible refine q73 (f := 85) rfl ?_); refine gl_ (some 9) Try.func85 #[.slice Ao22 y193.length co22, .string a1_1] ?_; (with_reducible refine (q7.calls k _ _ y193 a1_1 true _ ?side1 ?side2 A3.out).mono ?_); (case side1 => repeat (first | exact (Kd.R_reads' HO195.out).2.2 | (with_reducible refine Kd.C_alloc ?_ _) | (with_reducible refine Kd.C_drewN ?_ _) | (with_reducible refine Kd.C_drew ?_))); (case side2 => exact (Kd.R_reads' HO195.out).2.1); rintro e w' ⟨rfl, ⟨nd, rfl⟩⟩; refine ⟨_, rfl, ?_⟩; obtain ⟨hcz23_0, hcz23_1, hfz23_0, hfz23_1⟩ := bs2_ BK191) | (go_at_call 85; (with_reducible refine (q7.calls k _ _ l0_0 a1_0 true _ ?side1 ?side2 A5.out).mono ?_); (case side1 => repeat (first | exact (Kd.C_below HR0_0.out hf_) | (with_reducible refine Kd.C_alloc ?_ _) | (with_reducible refine Kd.C_drewN ?_ _) | (with_reducible refine Kd.C_drew ?_))); (case side2 => exact HC0_0.out); rintro e w' ⟨rfl, ⟨nd, rfl⟩⟩))
    go_ret
    exact ⟨er_, hf_⟩
  ·replace c6 := Bool.eq_false_iff.mpr c6
   subst c6
   have H1 : (some false) = some r := by rw [if_neg (show ¬ (false = true) by decide)] at H; exact H
   clear H
   have H := H1
   clear H1
   obtain rfl := Option.some.inj H
   go_enter Try.func103, Try.ntmps103
   go_wp2_with (first | ((with_reducible refine q74 (N := 2) rfl ?_); refine bx_ 2 #[.slice A0_0 l0_0.length c0_0, .slice A0_1 l0_1.length c0_1] 25 ?_; intro gb191 hg w24 hbox hb; have BK191 := q59.mk (hbox); have GW191 := zz_ (w := w) hg; have GE191 := zz_ (w := w) hg; replace HB := hb_ HB hb;  clear hb hbox hg) | ((with_reducible refine q74 (N := 3) rfl ?_); refine bx_ 3 #[.string a1_0, .string a1_1, .int .i64 a1_2] 90 ?_; intro gb192 hg w25 hbox hb; have BK192 := q59.mk (hbox); have GW192 := zz_ (w := w) hg; have GE192 := zz_ (w := w) hg; replace HB := hb_ HB hb; have NB191_192 := ne1_ hg BK191; have NB192_191 := ne2_ hg BK191; replace BK191 := bb_ BK191 hb;  clear hb hbox hg) | ((with_reducible refine q74 (N := 6) rfl ?_); refine Kd.R_lit Kd.string _ 9 ?hg (N := 6) ?hd (xs := ([(⟨#[60]⟩ : ByteArray), (⟨#[60, 61]⟩ : ByteArray), (⟨#[61]⟩ : ByteArray), (⟨#[33, 61]⟩ : ByteArray), (⟨#[62, 61]⟩ : ByteArray), (⟨#[62]⟩ : ByteArray)] : List ByteArray)) (inner := [.string (⟨#[60]⟩ : ByteArray), .string (⟨#[60, 61]⟩ : ByteArray), .string (⟨#[61]⟩ : ByteArray), .string (⟨#[33, 61]⟩ : ByteArray), .string (⟨#[62, 61]⟩ : ByteArray), .string (⟨#[62]⟩ : ByteArray)]) (ok := fun _ => True) (okp := fun _ => True) ?hr ?hp (fun _ hk => hk) trivial (Below.refl _ _) (Nat.le_refl _) (by simp) ?_; (case hd => rfl); (case hg => rfl); (case hr => first | (go_simp; done) | (go_simp; rfl)); (case hp => exact (Reps.one (show Kd.M Kd.string _ _ _ (⟨#[60]⟩ : ByteArray) [.string (⟨#[60]⟩ : ByteArray)] from rfl) (Reps.one (show Kd.M Kd.string _ _ _ (⟨#[60, 61]⟩ : ByteArray) [.string (⟨#[60, 61]⟩ : ByteArray)] from rfl) (Reps.one (show Kd.M Kd.string _ _ _ (⟨#[61]⟩ : ByteArray) [.string (⟨#[61]⟩ : ByteArray)] from rfl) (Reps.one (show Kd.M Kd.string _ _ _ (⟨#[33, 61]⟩ : ByteArray) [.string (⟨#[33, 61]⟩ : ByteArray)] from rfl) (Reps.one (show Kd.M Kd.string _ _ _ (⟨#[62, 61]⟩ : ByteArray) [.string (⟨#[62, 61]⟩ : ByteArray)] from rfl) (Reps.one (show Kd.M Kd.string _ _ _ (⟨#[62]⟩ : ByteArray) [.string (⟨#[62]⟩ : ByteArray)] from rfl) (Reps.none _ _)))))))); intro v194 w26 ho27 hb hg_ hnew_; clear hg_ hnew_; (first | rw [← Ny193.out] at ho27 | (simp only [Int.reduceToNat] at ho27; rw [← Ny193.out] at ho27)); have HO195 := q59.mk (Kd.R_lower ho27 (q62 hf_)); replace BK191 := bb_ BK191 hb; replace BK192 := bb_ BK192 hb; replace HB := hb_ HB hb;  clear hb ho27; have hnb28 := NB192_191.out; have hnc28 := NB191_192.out; obtain ⟨hcz29_0, hcz29_1, hcz29_2, hfz29_0, hfz29_1, hfz29_2⟩ := bs3_ BK192; obtain ⟨Ao30, co30, eo30⟩ := Kd.R_slice HO195.out; subst eo30) | ((with_reducible refine q73 (f := 85) rfl ?_); refine gl_ (some 9) Try.func85 #[.slice Ao30 y193.length co30, .string a1_1] ?_; (with_reducible refine (q7.calls k _ _ y193 a1_1 true _ ?side1 ?side2 A3.out).mono ?_); (case side1 => repeat (first | exact (Kd.R_reads' HO195.out).2.2 | (with_reducible refine Kd.C_alloc ?_ _) | (with_reducible refine Kd.C_drewN ?_ _) | (with_reducible refine Kd.C_drew ?_))); (case side2 => exact (Kd.R_reads' HO195.out).2.1); rintro e w' ⟨rfl, ⟨nd, rfl⟩⟩; refine ⟨_, rfl, ?_⟩; obtain ⟨hcz31_0, hcz31_1, hfz31_0, hfz31_1⟩ := bs2_ BK191) | (go_at_call 85; (with_reducible refine (q7.calls k _ _ l0_0 a1_0 false _ ?side1 ?side2 A5.out).mono ?_); (case side1 => repeat (first | exact (Kd.C_below HR0_0.out hf_) | (with_reducible refine Kd.C_alloc ?_ _) | (with_reducible refine Kd.C_drewN ?_ _) | (with_reducible refine Kd.C_drew ?_))); (case side2 => exact HC0_0.out); rintro e w' ⟨rfl, ⟨nd, rfl⟩⟩))
   go_ret
   exact ⟨er_, hf_⟩
 ·replace c4 := Bool.eq_false_iff.mpr c4
  subst c4
  have H1 : (some false) = some r := by rw [if_neg (show ¬ (false = true) by decide)] at H; exact H
  clear H
  have H := H1
  clear H1
  obtain rfl := Option.some.inj H
  go_enter Try.func103, Try.ntmps103
  go_wp2_with (first | ((with_reducible refine q74 (N := 2) rfl ?_); refine bx_ 2 #[.slice A0_0 l0_0.length c0_0, .slice A0_1 l0_1.length c0_1] 25 ?_; intro gb191 hg w32 hbox hb; have BK191 := q59.mk (hbox); have GW191 := zz_ (w := w) hg; have GE191 := zz_ (w := w) hg; replace HB := hb_ HB hb;  clear hb hbox hg) | ((with_reducible refine q74 (N := 3) rfl ?_); refine bx_ 3 #[.string a1_0, .string a1_1, .int .i64 a1_2] 90 ?_; intro gb192 hg w33 hbox hb; have BK192 := q59.mk (hbox); have GW192 := zz_ (w := w) hg; have GE192 := zz_ (w := w) hg; replace HB := hb_ HB hb; have NB191_192 := ne1_ hg BK191; have NB192_191 := ne2_ hg BK191; replace BK191 := bb_ BK191 hb;  clear hb hbox hg) | ((with_reducible refine q74 (N := 6) rfl ?_); refine Kd.R_lit Kd.string _ 9 ?hg (N := 6) ?hd (xs := ([(⟨#[60]⟩ : ByteArray), (⟨#[60, 61]⟩ : ByteArray), (⟨#[61]⟩ : ByteArray), (⟨#[33, 61]⟩ : ByteArray), (⟨#[62, 61]⟩ : ByteArray), (⟨#[62]⟩ : ByteArray)] : List ByteArray)) (inner := [.string (⟨#[60]⟩ : ByteArray), .string (⟨#[60, 61]⟩ : ByteArray), .string (⟨#[61]⟩ : ByteArray), .string (⟨#[33, 61]⟩ : ByteArray), .string (⟨#[62, 61]⟩ : ByteArray), .string (⟨#[62]⟩ : ByteArray)]) (ok := fun _ => True) (okp := fun _ => True) ?hr ?hp (fun _ hk => hk) trivial (Below.refl _ _) (Nat.le_refl _) (by simp) ?_; (case hd => rfl); (case hg => rfl); (case hr => first | (go_simp; done) | (go_simp; rfl)); (case hp => exact (Reps.one (show Kd.M Kd.string _ _ _ (⟨#[60]⟩ : ByteArray) [.string (⟨#[60]⟩ : ByteArray)] from rfl) (Reps.one (show Kd.M Kd.string _ _ _ (⟨#[60, 61]⟩ : ByteArray) [.string (⟨#[60, 61]⟩ : ByteArray)] from rfl) (Reps.one (show Kd.M Kd.string _ _ _ (⟨#[61]⟩ : ByteArray) [.string (⟨#[61]⟩ : ByteArray)] from rfl) (Reps.one (show Kd.M Kd.string _ _ _ (⟨#[33, 61]⟩ : ByteArray) [.string (⟨#[33, 61]⟩ : ByteArray)] from rfl) (Reps.one (show Kd.M Kd.string _ _ _ (⟨#[62, 61]⟩ : ByteArray) [.string (⟨#[62, 61]⟩ : ByteArray)] from rfl) (Reps.one (show Kd.M Kd.string _ _ _ (⟨#[62]⟩ : ByteArray) [.string (⟨#[62]⟩ : ByteArray)] from rfl) (Reps.none _ _)))))))); intro v194 w34 ho35 hb hg_ hnew_; clear hg_ hnew_; (first | rw [← Ny193.out] at ho35 | (simp only [Int.reduceToNat] at ho35; rw [← Ny193.out] at ho35)); have HO195 := q59.mk (Kd.R_lower ho35 (q62 hf_)); replace BK191 := bb_ BK191 hb; replace BK192 := bb_ BK192 hb; replace HB := hb_ HB hb;  clear hb ho35; have hnb36 := NB192_191.out; have hnc36 := NB191_192.out; obtain ⟨hcz37_0, hcz37_1, hcz37_2, hfz37_0, hfz37_1, hfz37_2⟩ := bs3_ BK192; obtain ⟨Ao38, co38, eo38⟩ := Kd.R_slice HO195.out; subst eo38) | ((with_reducible refine q73 (f := 85) rfl ?_); refine gl_ (some 9) Try.func85 #[.slice Ao38 y193.length co38, .string a1_1] ?_; (with_reducible refine (q7.calls k _ _ y193 a1_1 false _ ?side1 ?side2 A3.out).mono ?_); (case side1 => repeat (first | exact (Kd.R_reads' HO195.out).2.2 | (with_reducible refine Kd.C_alloc ?_ _) | (with_reducible refine Kd.C_drewN ?_ _) | (with_reducible refine Kd.C_drew ?_))); (case side2 => exact (Kd.R_reads' HO195.out).2.1); rintro e w' ⟨rfl, ⟨nd, rfl⟩⟩; refine ⟨_, rfl, ?_⟩))
  go_ret
  exact ⟨er_, hf_⟩
mutual
def q42.j0 : Nat → Int → Int → Bool → Option (Bool)
 | 0, _, _, _ => none
 | k + 1, x0, x5, x6 => if x6 = true then (if x0 ≥ 1 then (some (decide (x0 ≤ 5))) else (some false)) else (if x5 = 2 then (q42.j1 k x0 x5 (x5 == 2)) else (q42.j1 k x0 x5 (x5 == 3)))
def q42.j1 : Nat → Int → Int → Bool → Option (Bool)
 | 0, _, _, _ => none
 | k + 1, x0, x5, x15 => if x15 = true then (if x0 = 1 then (some true) else (some (x0 == 2))) else (if x5 = 4 then (if x0 ≥ 3 then (some (decide (x0 ≤ 5))) else (some false)) else (some false))
end
def q42.f (k : Nat) (a0 : Int) (a1 : Int) : Option (Bool) := if a1 = 1 then (q42.j0 k a0 a1 (a1 == 1)) else (q42.j0 k a0 a1 (a1 == 5))
theorem q42.mono_l : ∀ k, (∀ y0 y1 y2, LeO (q42.j0 k y0 y1 y2) (q42.j0 (k + 1) y0 y1 y2)) ∧ (∀ y0 y1 y2, LeO (q42.j1 k y0 y1 y2) (q42.j1 (k + 1) y0 y1 y2))
 | 0 => ⟨fun _ _ _ r h => by simp [q42.j0] at h, fun _ _ _ r h => by simp [q42.j1] at h⟩
 | k + 1 => by
  obtain ⟨ih0, ih1⟩ := q42.mono_l k
  refine ⟨?_, ?_⟩
  intro y0 y1 y2
  unfold q42.j0
  rotate_left
  intro y0 y1 y2
  unfold q42.j1
  rotate_left
  all_goals repeat' first
   | (with_reducible exact ih0 _ _ _)
   | (with_reducible exact ih1 _ _ _)
   | (with_reducible exact LeO.refl _)
   | (with_reducible exact LeO.none _)
   | (with_reducible refine LeO.ite ?_ ?_)
   | (with_reducible refine LeO.bind ?_ (fun _ => ?_))
   | exact ih0 _ _ _
   | exact ih1 _ _ _
   | exact LeO.none _
   | refine LeO.ite ?_ ?_
   | refine LeO.bind ?_ (fun _ => ?_)
theorem q42.mono : ∀ a0 a1 k, LeO (q42.f k a0 a1) (q42.f (k + 1) a0 a1) := by
 intro a0 a1 k
 obtain ⟨ih0, ih1⟩ := q42.mono_l k
 unfold q42.f
 repeat' first
  | (with_reducible exact ih0 _ _ _)
  | (with_reducible exact ih1 _ _ _)
  | (with_reducible exact LeO.refl _)
  | (with_reducible exact LeO.none _)
  | (with_reducible refine LeO.ite ?_ ?_)
  | (with_reducible refine LeO.bind ?_ (fun _ => ?_))
  | exact ih0 _ _ _
  | exact ih1 _ _ _
  | exact LeO.none _
  | refine LeO.ite ?_ ?_
  | refine LeO.bind ?_ (fun _ => ?_)
set_option maxHeartbeats 8000000 in
set_option maxRecDepth 100000 in
theorem q42.calls (k : Nat) (a0 : Int) (a1 : Int) (r : Bool) (w : World) (h : q42.f k a0 a1 = some r) :
 Calls Try.prog 104 #[.int .i64 a0, .int .i64 a1] w fun e w' => e = .returned (.bool r) ∧ Drawn0 w w' := by
 have H : (if a1 = 1 then (q42.j0 k a0 a1 (a1 == 1)) else (q42.j0 k a0 a1 (a1 == 5))) = some r := h
 clear h
 have HC3 := q59.mk H
 clear H
 go_enter Try.func104, Try.ntmps104
 go_upto_if 6 with (fail)
 go_cut [6] (fun v6 wc => ∃ (kq : Nat) (x6_2 : Bool), v6 = .bool x6_2 ∧ q59 (q42.j0 kq a0 a1 x6_2 = some r) ∧ q59 (kq ≤ k) ∧ Drawn0 w wc)
 case first =>
  have H := HC3.out
  clear HC3
  by_cases c4 : a1 = 1
  ·rw [if_pos c4] at H
   have c4b0 : (a1 == 1) = true := beq_iff_eq.mpr c4
   have c4b1 : (a1 != 1) = false := bne_eq_false_iff_eq.mpr c4
   clear c4
   (first | rw [c4b0] | (simp only [i64_w, i32_w]; rw [c4b0]) | skip)
   have H' := q59.mk H
   clear H
   go_wp2
   go_meet
   case rel => exact ⟨_, ((a1 == 1)), rf_, H', ⟨by first | omega | exact Nat.le_refl _⟩, by repeat (first | exact Drawn0.refl _ | apply Drawn0.step)⟩
  ·rw [if_neg c4] at H
   have c4b0 : (a1 == 1) = false := beq_eq_false_iff_ne.mpr c4
   have c4b1 : (a1 != 1) = true := bne_iff_ne.mpr c4
   (first | rw [c4b0] | (simp only [i64_w, i32_w]; rw [c4b0]) | skip)
   have H' := q59.mk H
   clear H
   go_wp2
   go_meet
   case rel => exact ⟨_, ((a1 == 5)), rf_, H', ⟨by first | omega | exact Nat.le_refl _⟩, by repeat (first | exact Drawn0.refl _ | apply Drawn0.step)⟩
 case rest =>
  clear HC3
  obtain ⟨kq, x6_2, rfl, HA, HJ2, ⟨mc2, rfl⟩⟩ := hcut
  cases kq with
  | zero => exact absurd HA.out (by simp [q42.j0])
  | succ kj2 =>
   have H := HA.out
   clear HA
   simp only [q42.j0] at H
   by_cases c5 : x6_2 = true
   ·subst c5
    have H1 : (if a0 ≥ 1 then (some (decide (a0 ≤ 5))) else (some false)) = some r := by rw [if_pos rfl] at H; exact H
    clear H
    have H := H1
    clear H1
    by_cases c6 : a0 ≥ 1
    ·rw [if_pos c6] at H
     replace c6 := decide_eq_true c6
     obtain rfl := Option.some.inj H
     go_wp2
     go_ret
     exact ⟨by first | rfl | (simp; done) | (simp [*]; done), by repeat (first | exact Drawn0.refl _ | apply Drawn0.step)⟩
    ·rw [if_neg c6] at H
     replace c6 := decide_eq_false c6
     obtain rfl := Option.some.inj H
     go_wp2
     go_ret
     exact ⟨by first | rfl | (simp; done) | (simp [*]; done), by repeat (first | exact Drawn0.refl _ | apply Drawn0.step)⟩
   ·replace c5 := Bool.eq_false_iff.mpr c5
    subst c5
    have H1 : (if a1 = 2 then (q42.j1 kj2 a0 a1 (a1 == 2)) else (q42.j1 kj2 a0 a1 (a1 == 3))) = some r := by rw [if_neg (show ¬ (false = true) by decide)] at H; exact H
    clear H
    have H := H1
    clear H1
    have HC7 := q59.mk H
    clear H
    go_upto_if 15 with (fail)
    go_cut [15] (fun v15 wc => ∃ (kq : Nat) (x15_6 : Bool), v15 = .bool x15_6 ∧ q59 (q42.j1 kq a0 a1 x15_6 = some r) ∧ q59 (kq ≤ kj2) ∧ Drawn0 w wc)
    case first =>
     have H := HC7.out
     clear HC7
     by_cases c8 : a1 = 2
     ·rw [if_pos c8] at H
      have c8b0 : (a1 == 2) = true := beq_iff_eq.mpr c8
      have c8b1 : (a1 != 2) = false := bne_eq_false_iff_eq.mpr c8
      clear c8
      (first | rw [c8b0] | (simp only [i64_w, i32_w]; rw [c8b0]) | skip)
      have H' := q59.mk H
      clear H
      go_wp2
      go_meet
      case rel => exact ⟨_, ((a1 == 2)), rf_, H', ⟨by have := HJ2.out; first | omega | exact Nat.le_refl _⟩, by repeat (first | exact Drawn0.refl _ | apply Drawn0.step)⟩
     ·rw [if_neg c8] at H
      have c8b0 : (a1 == 2) = false := beq_eq_false_iff_ne.mpr c8
      have c8b1 : (a1 != 2) = true := bne_iff_ne.mpr c8
      (first | rw [c8b0] | (simp only [i64_w, i32_w]; rw [c8b0]) | skip)
      have H' := q59.mk H
      clear H
      go_wp2
      go_meet
      case rel => exact ⟨_, ((a1 == 3)), rf_, H', ⟨by have := HJ2.out; first | omega | exact Nat.le_refl _⟩, by repeat (first | exact Drawn0.refl _ | apply Drawn0.step)⟩
    case rest =>
     clear HC7
     obtain ⟨kq, x15_6, rfl, HA, HJ6, ⟨mc6, rfl⟩⟩ := hcut
     cases kq with
     | zero => exact absurd HA.out (by simp [q42.j1])
     | succ kj6 =>
      have H := HA.out
      clear HA
      simp only [q42.j1] at H
      by_cases c9 : x15_6 = true
      ·subst c9
       have H1 : (if a0 = 1 then (some true) else (some (a0 == 2))) = some r := by rw [if_pos rfl] at H; exact H
       clear H
       have H := H1
       clear H1
       by_cases c10 : a0 = 1
       ·rw [if_pos c10] at H
        have c10b0 : (a0 == 1) = true := beq_iff_eq.mpr c10
        have c10b1 : (a0 != 1) = false := bne_eq_false_iff_eq.mpr c10
        clear c10
        obtain rfl := Option.some.inj H
        go_wp2
        go_ret
        exact ⟨by first | rfl | (simp; done) | (simp [*]; done), by repeat (first | exact Drawn0.refl _ | apply Drawn0.step)⟩
       ·rw [if_neg c10] at H
        have c10b0 : (a0 == 1) = false := beq_eq_false_iff_ne.mpr c10
        have c10b1 : (a0 != 1) = true := bne_iff_ne.mpr c10
        obtain rfl := Option.some.inj H
        go_wp2
        go_ret
        exact ⟨by first | rfl | (simp; done) | (simp [*]; done), by repeat (first | exact Drawn0.refl _ | apply Drawn0.step)⟩
      ·replace c9 := Bool.eq_false_iff.mpr c9
       subst c9
       have H1 : (if a1 = 4 then (if a0 ≥ 3 then (some (decide (a0 ≤ 5))) else (some false)) else (some false)) = some r := by rw [if_neg (show ¬ (false = true) by decide)] at H; exact H
       clear H
       have H := H1
       clear H1
       by_cases c11 : a1 = 4
       ·rw [if_pos c11] at H
        have c11b0 : (a1 == 4) = true := beq_iff_eq.mpr c11
        have c11b1 : (a1 != 4) = false := bne_eq_false_iff_eq.mpr c11
        clear c11
        by_cases c12 : a0 ≥ 3
        ·rw [if_pos c12] at H
         replace c12 := decide_eq_true c12
         obtain rfl := Option.some.inj H
         go_wp2
         go_ret
         exact ⟨by first | rfl | (simp; done) | (simp [*]; done), by repeat (first | exact Drawn0.refl _ | apply Drawn0.step)⟩
        ·rw [if_neg c12] at H
         replace c12 := decide_eq_false c12
         obtain rfl := Option.some.inj H
         go_wp2
         go_ret
         exact ⟨by first | rfl | (simp; done) | (simp [*]; done), by repeat (first | exact Drawn0.refl _ | apply Drawn0.step)⟩
       ·rw [if_neg c11] at H
        have c11b0 : (a1 == 4) = false := beq_eq_false_iff_ne.mpr c11
        have c11b1 : (a1 != 4) = true := bne_iff_ne.mpr c11
        obtain rfl := Option.some.inj H
        go_wp2
        go_ret
        exact ⟨by first | rfl | (simp; done) | (simp [*]; done), by repeat (first | exact Drawn0.refl _ | apply Drawn0.step)⟩
def q47.f (k : Nat) (l0_0 : List ByteArray) (l0_1 : List (S41)) (a1_0 : ByteArray) (a1_1 : Int) : Option (Bool) := (q45.f l0_0 l0_1 a1_0).bind fun t200 => (if t200 ≥ 0 then (if 0 ≤ t200 then (if t200 < (l0_1.length : Int) then ((q42.f k ((q84 l0_1 t200).f1) a1_1).bind fun t202 => (some t202)) else (none)) else (none)) else (some false))
theorem q47.mono : ∀ a0 a1 a2 a3 k, LeO (q47.f k a0 a1 a2 a3) (q47.f (k + 1) a0 a1 a2 a3) := by
 intro a0 a1 a2 a3 k
 unfold q47.f
 repeat' first
  | (with_reducible exact q42.mono _ _ _)
  | (with_reducible exact LeO.refl _)
  | (with_reducible exact LeO.none _)
  | (with_reducible refine LeO.ite ?_ ?_)
  | (with_reducible refine LeO.bind ?_ (fun _ => ?_))
  | exact q42.mono _ _ _
  | exact LeO.none _
  | refine LeO.ite ?_ ?_
  | refine LeO.bind ?_ (fun _ => ?_)
set_option maxHeartbeats 8000000 in
set_option maxRecDepth 100000 in
theorem q47.calls (k : Nat) (A0_0 : Option Addr) (c0_0 : Nat) (l0_0 : List ByteArray) (A0_1 : Option Addr) (c0_1 : Nat) (l0_1 : List (S41)) (a1_0 : ByteArray) (a1_1 : Int) (r : Bool) (w : World) (hr0_0 : Kd.C Kd.string w A0_0 l0_0.length l0_0) (hc0_0 : l0_0.length ≤ c0_0) (hr0_1 : Kd.C k41 w A0_1 l0_1.length l0_1) (hc0_1 : l0_1.length ≤ c0_1) (h : q47.f k l0_0 l0_1 a1_0 a1_1 = some r) :
 Calls Try.prog 99 #[.agg #[.slice A0_0 l0_0.length c0_0, .slice A0_1 l0_1.length c0_1], .agg #[.string a1_0, .int .i64 a1_1]] w fun e w' => e = .returned (.bool r) ∧ Below w.heap.size w w' := by
 have hu25 := Try.underlying25
 have hu101 := Try.underlying101
 have HR0_0 := q59.mk hr0_0
 have HC0_0 := q59.mk hc0_0
 clear hr0_0 hc0_0
 have HR0_1 := q59.mk hr0_1
 have HC0_1 := q59.mk hc0_1
 clear hr0_1 hc0_1
 have HB := q59.mk (Below.refl w.heap.size w)
 unfold q47.f at h
 have H := h
 clear h
 replace H := Option.bind_eq_some_iff.mp H
 obtain ⟨t200, A30, H⟩ := H
 have A3 := q59.mk A30
 clear A30
 by_cases c4 : t200 ≥ 0
 ·rw [if_pos c4] at H
  replace c4 := decide_eq_true c4
  by_cases c5 : 0 ≤ t200
  ·rw [if_pos c5] at H
   replace c5 := decide_eq_true c5
   by_cases c6 : t200 < (l0_1.length : Int)
   ·rw [if_pos c6] at H
    replace c6 := decide_eq_true c6
    replace H := Option.bind_eq_some_iff.mp H
    obtain ⟨t202, A70, H⟩ := H
    have A7 := q59.mk A70
    clear A70
    obtain rfl := Option.some.inj H
    go_enter Try.func99, Try.ntmps99
    go_wp2_with (first | ((with_reducible refine q74 (N := 2) rfl ?_); refine bx_ 2 #[.slice A0_0 l0_0.length c0_0, .slice A0_1 l0_1.length c0_1] 25 ?_; intro gb198 hg w8 hbox hb; have BK198 := q59.mk (hbox); have GW198 := zz_ (w := w) hg; have GE198 := zz_ (w := w) hg; replace HB := hb_ HB hb;  clear hb hbox hg) | ((with_reducible refine q74 (N := 3) rfl ?_); refine bx_ 3 #[.string a1_0, .int .i64 a1_1] 101 ?_; intro gb199 hg w9 hbox hb; have BK199 := q59.mk (hbox); have GW199 := zz_ (w := w) hg; have GE199 := zz_ (w := w) hg; replace HB := hb_ HB hb; have NB198_199 := ne1_ hg BK198; have NB199_198 := ne2_ hg BK198; replace BK198 := bb_ BK198 hb;  clear hb hbox hg; have hnb10 := NB198_199.out; have hnc10 := NB199_198.out; obtain ⟨hcz11_0, hcz11_1, hfz11_0, hfz11_1⟩ := bs2_ BK198; obtain ⟨hcz12_0, hcz12_1, hfz12_0, hfz12_1⟩ := bs2_ BK199) | (go_at_call 45; (with_reducible refine (q45.calls _ _ l0_0 _ _ l0_1 a1_0 t200 _ ?side1 ?side2 ?side3 ?side4 A3.out).mono ?_); (case side1 => exact kc_ HR0_0 HB); (case side2 => exact HC0_0.out); (case side3 => exact kc_ HR0_1 HB); (case side4 => exact HC0_1.out); rintro e w13 ⟨rfl, hb⟩; replace BK198 := bb_ BK198 hb; replace BK199 := bb_ BK199 hb; replace HB := hb_ HB hb;  (try clear hb); obtain ⟨hcz14_0, hcz14_1, hfz14_0, hfz14_1⟩ := bs2_ BK198; have p201 : 0 ≤ (t200 : Int) := od_; have q201 : t200 < (l0_1.length : Int) := od_; obtain ⟨ad201, A201_5, c201_5, A201_6, c201_6, e201, hx201_0, hx201_1, hx201_2, hx201_3, hx201_4, hx201_5, hx201_6, hl201_5, hi201_5, hl201_6, hi201_6⟩ := at_T41 HR0_1.out t200 p201 q201; cases e201; replace hx201_0 := rr_ HB hx201_0; replace hx201_1 := rr_ HB hx201_1; replace hx201_2 := rr_ HB hx201_2; replace hx201_3 := rr_ HB hx201_3; replace hx201_4 := rr_ HB hx201_4; replace hx201_5 := rr_ HB hx201_5; replace hx201_6 := rr_ HB hx201_6; have HR201_5 := q59.mk hi201_5; have HC201_5 := q59.mk hl201_5; clear hi201_5 hl201_5; have HR201_6 := q59.mk hi201_6; have HC201_6 := q59.mk hl201_6; clear hi201_6 hl201_6; replace p201 := eq_true p201; replace q201 := eq_true q201; obtain ⟨hcz15_0, hcz15_1, hfz15_0, hfz15_1⟩ := bs2_ BK199) | (go_at_call 104; (with_reducible refine (q42.calls k ((q84 l0_1 t200).f1) a1_1 t202 _ A7.out).mono ?_); rintro e w' ⟨rfl, ⟨nd, rfl⟩⟩; (try first | exact ⟨rfl, _, World.drewN_drewN _ _ _⟩ | exact ⟨rfl, _, Eq.trans (World.drewN_drewN _ _ _) (congrArg (World.drewN _) (Nat.add_assoc _ _ _))⟩)))
    repeat (go_quiet (first | ((with_reducible refine q74 (N := 2) rfl ?_); refine bx_ 2 #[.slice A0_0 l0_0.length c0_0, .slice A0_1 l0_1.length c0_1] 25 ?_; intro gb198 hg w8 hbox hb; have BK198 := q59.mk (hbox); have GW198 := zz_ (w := w) hg; have GE198 := zz_ (w := w) hg; replace HB := hb_ HB hb;  clear hb hbox hg) | ((with_reducible refine q74 (N := 3) rfl ?_); refine bx_ 3 #[.string a1_0, .int .i64 a1_1] 101 ?_; intro gb199 hg w9 hbox hb; have BK199 := q59.mk (hbox); have GW199 := zz_ (w := w) hg; have GE199 := zz_ (w := w) hg; replace HB := hb_ HB hb; have NB198_199 := ne1_ hg BK198; have NB199_198 := ne2_ hg BK198; replace BK198 := bb_ BK198 hb;  clear hb hbox hg; have hnb10 := NB198_199.out; have hnc10 := NB199_198.out; obtain ⟨hcz11_0, hcz11_1, hfz11_0, hfz11_1⟩ := bs2_ BK198; obtain ⟨hcz12_0, hcz12_1, hfz12_0, hfz12_1⟩ := bs2_ BK199) | (go_at_call 45; (with_reducible refine (q45.calls _ _ l0_0 _ _ l0_1 a1_0 t200 _ ?side1 ?side2 ?side3 ?side4 A3.out).mono ?_); (case side1 => exact kc_ HR0_0 HB); (case side2 => exact HC0_0.out); (case side3 => exact kc_ HR0_1 HB); (case side4 => exact HC0_1.out); rintro e w13 ⟨rfl, hb⟩; replace BK198 := bb_ BK198 hb; replace BK199 := bb_ BK199 hb; replace HB := hb_ HB hb;  (try clear hb); obtain ⟨hcz14_0, hcz14_1, hfz14_0, hfz14_1⟩ := bs2_ BK198; have p201 : 0 ≤ (t200 : Int) := od_; have q201 : t200 < (l0_1.length : Int) := od_; obtain ⟨ad201, A201_5, c201_5, A201_6, c201_6, e201, hx201_0, hx201_1, hx201_2, hx201_3, hx201_4, hx201_5, hx201_6, hl201_5, hi201_5, hl201_6, hi201_6⟩ := at_T41 HR0_1.out t200 p201 q201; cases e201; replace hx201_0 := rr_ HB hx201_0; replace hx201_1 := rr_ HB hx201_1; replace hx201_2 := rr_ HB hx201_2; replace hx201_3 := rr_ HB hx201_3; replace hx201_4 := rr_ HB hx201_4; replace hx201_5 := rr_ HB hx201_5; replace hx201_6 := rr_ HB hx201_6; have HR201_5 := q59.mk hi201_5; have HC201_5 := q59.mk hl201_5; clear hi201_5 hl201_5; have HR201_6 := q59.mk hi201_6; have HC201_6 := q59.mk hl201_6; clear hi201_6 hl201_6; replace p201 := eq_true p201; replace q201 := eq_true q201; obtain ⟨hcz15_0, hcz15_1, hfz15_0, hfz15_1⟩ := bs2_ BK199) | (go_at_call 104; (with_reducible refine (q42.calls k ((q84 l0_1 t200).f1) a1_1 t202 _ A7.out).mono ?_); rintro e w' ⟨rfl, ⟨nd, rfl⟩⟩; (try first | exact ⟨rfl, _, World.drewN_drewN _ _ _⟩ | exact ⟨rfl, _, Eq.trans (World.drewN_drewN _ _ _) (congrArg (World.drewN _) (Nat.add_assoc _ _ _))⟩))); try go_wp2_with (first | ((with_reducible refine q74 (N := 2) rfl ?_); refine bx_ 2 #[.slice A0_0 l0_0.length c0_0, .slice A0_1 l0_1.length c0_1] 25 ?_; intro gb198 hg w8 hbox hb; have BK198 := q59.mk (hbox); have GW198 := zz_ (w := w) hg; have GE198 := zz_ (w := w) hg; replace HB := hb_ HB hb;  clear hb hbox hg) | ((with_reducible refine q74 (N := 3) rfl ?_); refine bx_ 3 #[.string a1_0, .int .i64 a1_1] 101 ?_; intro gb199 hg w9 hbox hb; have BK199 := q59.mk (hbox); have GW199 := zz_ (w := w) hg; have GE199 := zz_ (w := w) hg; replace HB := hb_ HB hb; have NB198_199 := ne1_ hg BK198; have NB199_198 := ne2_ hg BK198; replace BK198 := bb_ BK198 hb;  clear hb hbox hg; have hnb10 := NB198_199.out; have hnc10 := NB199_198.out; obtain ⟨hcz11_0, hcz11_1, hfz11_0, hfz11_1⟩ := bs2_ BK198; obtain ⟨hcz12_0, hcz12_1, hfz12_0, hfz12_1⟩ := bs2_ BK199) | (go_at_call 45; (with_reducible refine (q45.calls _ _ l0_0 _ _ l0_1 a1_0 t200 _ ?side1 ?side2 ?side3 ?side4 A3.out).mono ?_); (case side1 => exact kc_ HR0_0 HB); (case side2 => exact HC0_0.out); (case side3 => exact kc_ HR0_1 HB); (case side4 => exact HC0_1.out); rintro e w13 ⟨rfl, hb⟩; replace BK198 := bb_ BK198 hb; replace BK199 := bb_ BK199 hb; replace HB := hb_ HB hb;  (try clear hb); obtain ⟨hcz14_0, hcz14_1, hfz14_0, hfz14_1⟩ := bs2_ BK198; have p201 : 0 ≤ (t200 : Int) := od_; have q201 : t200 < (l0_1.length : Int) := od_; obtain ⟨ad201, A201_5, c201_5, A201_6, c201_6, e201, hx201_0, hx201_1, hx201_2, hx201_3, hx201_4, hx201_5, hx201_6, hl201_5, hi201_5, hl201_6, hi201_6⟩ := at_T41 HR0_1.out t200 p201 q201; cases e201; replace hx201_0 := rr_ HB hx201_0; replace hx201_1 := rr_ HB hx201_1; replace hx201_2 := rr_ HB hx201_2; replace hx201_3 := rr_ HB hx201_3; replace hx201_4 := rr_ HB hx201_4; replace hx201_5 := rr_ HB hx201_5; replace hx201_6 := rr_ HB hx201_6; have HR201_5 := q59.mk hi201_5; have HC201_5 := q59.mk hl201_5; clear hi201_5 hl201_5; have HR201_6 := q59.mk hi201_6; have HC201_6 := q59.mk hl201_6; clear hi201_6 hl201_6; replace p201 := eq_true p201; replace q201 := eq_true q201; obtain ⟨hcz15_0, hcz15_1, hfz15_0, hfz15_1⟩ := bs2_ BK199) | (go_at_call 104; (with_reducible refine (q42.calls k ((q84 l0_1 t200).f1) a1_1 t202 _ A7.out).mono ?_); rintro e w' ⟨rfl, ⟨nd, rfl⟩⟩; (try first | exact ⟨rfl, _, World.drewN_drewN _ _ _⟩ | exact ⟨rfl, _, Eq.trans (World.drewN_drewN _ _ _) (congrArg (World.drewN _) (Nat.add_assoc _ _ _))⟩))))
    go_ret
    exact ⟨er_, hf_⟩
   ·rw [if_neg c6] at H
    exact absurd H (by simp)
  ·rw [if_neg c5] at H
   exact absurd H (by simp)
 ·rw [if_neg c4] at H
  replace c4 := decide_eq_false c4
  obtain rfl := Option.some.inj H
  go_enter Try.func99, Try.ntmps99
  go_wp2_with (first | ((with_reducible refine q74 (N := 2) rfl ?_); refine bx_ 2 #[.slice A0_0 l0_0.length c0_0, .slice A0_1 l0_1.length c0_1] 25 ?_; intro gb198 hg w16 hbox hb; have BK198 := q59.mk (hbox); have GW198 := zz_ (w := w) hg; have GE198 := zz_ (w := w) hg; replace HB := hb_ HB hb;  clear hb hbox hg) | ((with_reducible refine q74 (N := 3) rfl ?_); refine bx_ 3 #[.string a1_0, .int .i64 a1_1] 101 ?_; intro gb199 hg w17 hbox hb; have BK199 := q59.mk (hbox); have GW199 := zz_ (w := w) hg; have GE199 := zz_ (w := w) hg; replace HB := hb_ HB hb; have NB198_199 := ne1_ hg BK198; have NB199_198 := ne2_ hg BK198; replace BK198 := bb_ BK198 hb;  clear hb hbox hg; have hnb18 := NB198_199.out; have hnc18 := NB199_198.out; obtain ⟨hcz19_0, hcz19_1, hfz19_0, hfz19_1⟩ := bs2_ BK198; obtain ⟨hcz20_0, hcz20_1, hfz20_0, hfz20_1⟩ := bs2_ BK199) | (go_at_call 45; (with_reducible refine (q45.calls _ _ l0_0 _ _ l0_1 a1_0 t200 _ ?side1 ?side2 ?side3 ?side4 A3.out).mono ?_); (case side1 => exact kc_ HR0_0 HB); (case side2 => exact HC0_0.out); (case side3 => exact kc_ HR0_1 HB); (case side4 => exact HC0_1.out); rintro e w21 ⟨rfl, hb⟩; replace BK198 := bb_ BK198 hb; replace BK199 := bb_ BK199 hb; replace HB := hb_ HB hb;  (try clear hb)))
  repeat (go_quiet (first | ((with_reducible refine q74 (N := 2) rfl ?_); refine bx_ 2 #[.slice A0_0 l0_0.length c0_0, .slice A0_1 l0_1.length c0_1] 25 ?_; intro gb198 hg w16 hbox hb; have BK198 := q59.mk (hbox); have GW198 := zz_ (w := w) hg; have GE198 := zz_ (w := w) hg; replace HB := hb_ HB hb;  clear hb hbox hg) | ((with_reducible refine q74 (N := 3) rfl ?_); refine bx_ 3 #[.string a1_0, .int .i64 a1_1] 101 ?_; intro gb199 hg w17 hbox hb; have BK199 := q59.mk (hbox); have GW199 := zz_ (w := w) hg; have GE199 := zz_ (w := w) hg; replace HB := hb_ HB hb; have NB198_199 := ne1_ hg BK198; have NB199_198 := ne2_ hg BK198; replace BK198 := bb_ BK198 hb;  clear hb hbox hg; have hnb18 := NB198_199.out; have hnc18 := NB199_198.out; obtain ⟨hcz19_0, hcz19_1, hfz19_0, hfz19_1⟩ := bs2_ BK198; obtain ⟨hcz20_0, hcz20_1, hfz20_0, hfz20_1⟩ := bs2_ BK199) | (go_at_call 45; (with_reducible refine (q45.calls _ _ l0_0 _ _ l0_1 a1_0 t200 _ ?side1 ?side2 ?side3 ?side4 A3.out).mono ?_); (case side1 => exact kc_ HR0_0 HB); (case side2 => exact HC0_0.out); (case side3 => exact kc_ HR0_1 HB); (case side4 => exact HC0_1.out); rintro e w21 ⟨rfl, hb⟩; replace BK198 := bb_ BK198 hb; replace BK199 := bb_ BK199 hb; replace HB := hb_ HB hb;  (try clear hb))); try go_wp2_with (first | ((with_reducible refine q74 (N := 2) rfl ?_); refine bx_ 2 #[.slice A0_0 l0_0.length c0_0, .slice A0_1 l0_1.length c0_1] 25 ?_; intro gb198 hg w16 hbox hb; have BK198 := q59.mk (hbox); have GW198 := zz_ (w := w) hg; have GE198 := zz_ (w := w) hg; replace HB := hb_ HB hb;  clear hb hbox hg) | ((with_reducible refine q74 (N := 3) rfl ?_); refine bx_ 3 #[.string a1_0, .int .i64 a1_1] 101 ?_; intro gb199 hg w17 hbox hb; have BK199 := q59.mk (hbox); have GW199 := zz_ (w := w) hg; have GE199 := zz_ (w := w) hg; replace HB := hb_ HB hb; have NB198_199 := ne1_ hg BK198; have NB199_198 := ne2_ hg BK198; replace BK198 := bb_ BK198 hb;  clear hb hbox hg; have hnb18 := NB198_199.out; have hnc18 := NB199_198.out; obtain ⟨hcz19_0, hcz19_1, hfz19_0, hfz19_1⟩ := bs2_ BK198; obtain ⟨hcz20_0, hcz20_1, hfz20_0, hfz20_1⟩ := bs2_ BK199) | (go_at_call 45; (with_reducible refine (q45.calls _ _ l0_0 _ _ l0_1 a1_0 t200 _ ?side1 ?side2 ?side3 ?side4 A3.out).mono ?_); (case side1 => exact kc_ HR0_0 HB); (case side2 => exact HC0_0.out); (case side3 => exact kc_ HR0_1 HB); (case side4 => exact HC0_1.out); rintro e w21 ⟨rfl, hb⟩; replace BK198 := bb_ BK198 hb; replace BK199 := bb_ BK199 hb; replace HB := hb_ HB hb;  (try clear hb))))
  go_ret
  exact ⟨er_, hf_⟩
def legalB (kind event : Int) : Bool :=
 if event = 1 ∨ event = 5 then decide (1 ≤ kind ∧ kind ≤ 5) else if event = 2 ∨ event = 3 then decide (kind = 1 ∨ kind = 2) else if event = 4 then decide (3 ≤ kind ∧ kind ≤ 5) else false
theorem legal_eq (a b : Int) : q42.f 2 a b = some (legalB a b) := by
 unfold q42.f legalB
 by_cases h1 : b = 1
 ·subst h1; simp only [q42.j0]; by_cases h2 : a ≥ 1 <;> by_cases h3 : a ≤ 5 <;> simp [h2, h3]
 by_cases h5 : b = 5
 ·subst h5; simp only [q42.j0]; by_cases h2 : a ≥ 1 <;> by_cases h3 : a ≤ 5 <;> simp [h2, h3]
 rw [if_neg h1, show (b == 5) = false by simpa using h5]
 simp only [q42.j0, Bool.false_eq_true, if_false]
 have h15 : ¬ (b = 1 ∨ b = 5) := by omega
 rw [if_neg h15]
 by_cases h2 : b = 2
 ·subst h2; simp only [q42.j1]; by_cases h3 : a = 1 <;> by_cases h4 : a = 2 <;> simp [h3, h4]
 by_cases h3 : b = 3
 ·subst h3; simp only [q42.j1]; by_cases h3 : a = 1 <;> by_cases h4 : a = 2 <;> simp [h3, h4]
 rw [if_neg h2, show (b == 3) = false by simpa using h3]
 simp only [q42.j1, Bool.false_eq_true, if_false]
 have h23 : ¬ (b = 2 ∨ b = 3) := by omega
 rw [if_neg h23]
 by_cases h4 : b = 4
 ·subst h4; by_cases h2 : a ≥ 3 <;> by_cases h3 : a ≤ 5 <;> simp [h2, h3]
 ·simp [h4]
theorem wrap_lt {i n : Int} (h0 : 0 ≤ i) (h : i < n) (hn : n ≤ 9223372036854775807) : wrap64 (i + 1) = i + 1 := by
 unfold wrap64
 omega
def memB (l : List ByteArray) (s : ByteArray) : Bool := l.any (fun x => s.toList == x.toList)
theorem rdOf_get {α : Type} (z : α) (l : List α) (i : Nat) (h : i < l.length) : rdOf z l (i : Int) = l[i] := by
 simp [rdOf, List.getD_eq_getElem?_getD, List.getElem?_eq_getElem h]
theorem index_any (l : List ByteArray) (s : ByteArray) (hn : l.length ≤ 9223372036854775807) (d : Nat) : ∀ (i k : Nat), i + d = l.length → d < k → ∃ r, q8.l0 k l s l.length i = some r ∧ decide (r ≥ 0) = (l.drop i).any (fun x => s.toList == x.toList) := by
  induction d with
  | zero =>
    intro i k hi hk
    obtain ⟨k, rfl⟩ : ∃ m, k = m + 1 := ⟨k - 1, by omega⟩
    refine ⟨-1, ?_, ?_⟩
    · simp only [q8.l0]
      rw [if_neg (by omega)]
    · rw [List.drop_of_length_le (by omega)]
      rfl
  | succ d ih =>
    intro i k hi hk
    obtain ⟨k, rfl⟩ : ∃ m, k = m + 1 := ⟨k - 1, by omega⟩
    have hlt : i < l.length := by omega
    simp only [q8.l0]
    rw [if_pos (by omega), if_pos (by omega), if_pos (by omega), rdOf_get _ _ _ hlt, List.drop_eq_getElem_cons hlt, List.any_cons]
    by_cases he : s.toList = l[i].toList
    · rw [if_pos he]
      refine ⟨i, rfl, ?_⟩
      rw [show (s.toList == l[i].toList) = true by simpa using he]
      simp
    · rw [if_neg he, show (s.toList == l[i].toList) = false by simpa using he, Bool.false_or, wrap_lt (n := (l.length : Int)) (by omega) (by omega) (by omega)]
      exact ih (i + 1) k (by omega) (by omega)
theorem contains_eq (l : List ByteArray) (s : ByteArray) (hn : l.length ≤ 9223372036854775807) (k : Nat) (hk : l.length < k) : q7.f k l s = some (memB l s) := by
 obtain ⟨r, hr, hd⟩ := index_any l s hn l.length 0 k (by omega) hk
 unfold q7.f q8.f
 have hr' : _ = some r := hr
 simp only [Int.natCast_zero, Int.ofNat_eq_natCast, Int.cast_ofNat_Int] at hr'
 rw [hr', Option.bind_some, hd]
 rfl
abbrev hasOn_p (a : ByteArray) (b : Int) (x : S101) : Bool := a.toList == x.f0.toList && (b == x.f1)
def hasOn (l : List (S101)) (a : ByteArray) (b : Int) : Bool := l.any (hasOn_p a b)
theorem hasOn_any (l : List (S101)) (a : ByteArray) (b : Int) (hn : l.length ≤ 9223372036854775807) (d : Nat) : ∀ (i k : Nat), i + d = l.length → d < k → ∃ r, q50.l0 k l l.length i a b = some r ∧ decide (r ≥ 0) = (l.drop i).any (hasOn_p a b) := by
  induction d with
  | zero =>
    intro i k hi hk
    obtain ⟨k, rfl⟩ : ∃ m, k = m + 1 := ⟨k - 1, by omega⟩
    refine ⟨-1, ?_, ?_⟩
    · simp only [q50.l0]
      rw [if_neg (by omega)]
    · rw [List.drop_of_length_le (by omega)]
      rfl
  | succ d ih =>
    intro i k hi hk
    obtain ⟨k, rfl⟩ : ∃ m, k = m + 1 := ⟨k - 1, by omega⟩
    have hlt : i < l.length := by omega
    have hrd : q79 l (i : Int) = l[i] := by simp [q79, List.getD_eq_getElem?_getD, List.getElem?_eq_getElem hlt]
    simp only [q50.l0]
    rw [if_pos (by omega), if_pos (by omega), if_pos (by omega), hrd, List.drop_eq_getElem_cons hlt, List.any_cons]
    cases he : hasOn_p a b l[i] with
    | true =>
      rw [if_pos he]
      exact ⟨i, rfl, by simp⟩
    | false =>
      rw [if_neg (show ¬ (hasOn_p a b l[i]) = true by rw [he]; simp), Bool.false_or, wrap_lt (n := (l.length : Int)) (by omega) (by omega) (by omega)]
      exact ih (i + 1) k (by omega) (by omega)
theorem hasOn_eq (l : List (S101)) (a : ByteArray) (b : Int) (hn : l.length ≤ 9223372036854775807) (k : Nat) (hk : l.length < k) : q46.f k l a b = some (hasOn l a b) := by
 obtain ⟨r, hr, hd⟩ := hasOn_any l a b hn l.length 0 k (by omega) hk
 unfold q46.f q50.f
 have hr' : _ = some r := hr
 simp only [Int.natCast_zero, Int.ofNat_eq_natCast, Int.cast_ofNat_Int] at hr'
 rw [hr', Option.bind_some, hd]
 rfl
def q77 (l : List (S41)) (id : ByteArray) : Int := fidx (q45.p id) l
theorem fidx_lt {α : Type} (p : α → Bool) (l : List α) : fidx p l < l.length := by
  unfold fidx
  cases h : l.findIdx? p with
  | none => show (-1 : Int) < _; omega
  | some i =>
    obtain ⟨hi, _⟩ := List.findIdx?_eq_some_iff_getElem.1 h
    show (i : Int) < _
    omega
theorem placeI_lt (l : List (S41)) (id : ByteArray) : q77 l id < l.length := fidx_lt _ _
def onB (l : List (S41)) (a : ByteArray) (b : Int) : Bool := if 0 ≤ q77 l a then legalB (q84 l (q77 l a)).f1 b else false
theorem isOn_eq (fs : List ByteArray) (l : List (S41)) (a : ByteArray) (b : Int) : q47.f 2 fs l a b = some (onB l a b) := by
 unfold q47.f onB q45.f
 rw [show fidx (q45.p a) l = q77 l a from rfl, Option.bind_some]
 by_cases h : 0 ≤ q77 l a
 ·rw [if_pos h, if_pos h, if_pos (placeI_lt l a), legal_eq, if_pos h]
  rfl
 ·rw [if_neg h, if_neg h]
def opsL : List ByteArray := [(⟨#[60]⟩ : ByteArray), (⟨#[60, 61]⟩ : ByteArray), (⟨#[61]⟩ : ByteArray), (⟨#[33, 61]⟩ : ByteArray), (⟨#[62, 61]⟩ : ByteArray), (⟨#[62]⟩ : ByteArray)]
def ifB (fs : List ByteArray) (file op : ByteArray) (n : Int) : Bool := memB opsL op && (memB fs file && decide (-1000000 ≤ n ∧ n ≤ 1000000))
theorem isIf_eq (fs : List ByteArray) (l : List (S41)) (a b : ByteArray) (c : Int) (hn : fs.length ≤ 9223372036854775807) (k : Nat) (hk : fs.length < k) (hk6 : 6 < k) : q49.f k fs l a b c = some (ifB fs a b c) := by
 unfold q49.f ifB
 rw [show ([(⟨#[60]⟩ : ByteArray), (⟨#[60, 61]⟩ : ByteArray), (⟨#[61]⟩ : ByteArray), (⟨#[33, 61]⟩ : ByteArray), (⟨#[62, 61]⟩ : ByteArray), (⟨#[62]⟩ : ByteArray)] : List ByteArray) = opsL by rfl, contains_eq opsL b (by decide) k hk6, contains_eq fs a hn k hk, Option.bind_some, Option.bind_some]
 cases memB opsL b <;> cases memB fs a <;> simp
 by_cases h : c ≥ -1000000 <;> by_cases h2 : c ≤ 1000000 <;> simp [h, h2] <;> omega
def onOk (l : List (S41)) (on : List (S101)) (i : Nat) : Bool := onB l (q79 on i).f0 (q79 on i).f1 && !hasOn (on.take i) (q79 on i).f0 (q79 on i).f1
def ifsOk (fs : List ByteArray) (l : List (S90)) : Bool := !l.any (fun c => !ifB fs c.f0 c.f1 c.f2)
def sentryB (fs : List ByteArray) (l : List (S41)) (on : List (S101)) (ifs : List (S90)) : Bool :=
 decide (on.length ≤ 3 ∧ ifs.length ≤ 2 ∧ on.length + ifs.length ≠ 0) && ((List.range on.length).all (onOk l on) && ifsOk fs ifs)
def q33.f (l0_0 : List ByteArray) (l0_1 : List (S41)) (l1_0 : List (S101)) (l1_1 : List (S90)) : Option Bool := some (sentryB l0_0 l0_1 l1_0 l1_1)
theorem q76 {w1 w' : World} {a : Addr} {v : Value} (hb : Below w1.heap.size w1 w') (hc : w1.cell? a = some v) : w'.cell? a = some v := (hb.cell (World.block_lt_of_cell? _ _ hc)).trans hc
theorem q75 {w w1 w' : World} (hb : Below w1.heap.size w1 w') (hB : Below w.heap.size w w1) : Below w.heap.size w w' := q63 hB hB.size hb
theorem q33.eg : ∀ args w, (callFunc 102 args).run Try.prog w = .ok (.enter 102 args) w := enters_of Try.func102 (by kernel_rfl) rfl
set_option maxHeartbeats 4000000 in
theorem q33.closure (b : Nat) (A0_0 : Option Addr) (c0_0 : Nat) (l0_0 : List ByteArray) (A0_1 : Option Addr) (c0_1 : Nat) (l0_1 : List (S41)) (W : World) (hm0 : W.cell? ⟨b, 0, none⟩ = some (.slice A0_0 l0_0.length c0_0)) (hm1 : W.cell? ⟨b, 1, none⟩ = some (.slice A0_1 l0_1.length c0_1))
 (hr0_0 : Kd.C Kd.string W A0_0 l0_0.length l0_0) (hc0_0 : l0_0.length ≤ c0_0) (hr0_1 : Kd.C k41 W A0_1 l0_1.length l0_1) (hc0_1 : l0_1.length ≤ c0_1) (x : S90) (cs : List Value) (hK : Kd.K k90 W x cs) :
 Calls Try.prog 102 (#[.agg cs.toArray] ++ #[.pointer (some ⟨b, 0, none⟩)]) W fun e w' => e = .returned (.bool (!ifB l0_0 x.f0 x.f1 x.f2)) ∧ Below W.heap.size W w' := by
 obtain rfl := k90_open hK
 have hb := World.block_lt_of_cell? W _ hm0
 simp only at hb
 have hW1 := q60 (Below.refl W.heap.size W) (.cells #[.string x.f0, .string x.f1, .int .i64 x.f2] 90)
 have hif := q49.calls (l0_0.length + 7) A0_0 c0_0 l0_0 A0_1 c0_1 l0_1 x.f0 x.f1 x.f2 _ _ (Kd.C_below hr0_0 hW1) hc0_0 (Kd.C_below hr0_1 hW1) hc0_1 (isIf_eq l0_0 l0_1 x.f0 x.f1 x.f2 hr0_0.2.1 (l0_0.length + 7) (by omega) (by omega))
 have HW := Lib.hid hW1
 clear hr0_0 hr0_1 hW1 hK
 obtain ⟨T, hT⟩ : ∃ T, T = ifB l0_0 x.f0 x.f1 x.f2 := ⟨_, rfl⟩
 rw [← hT] at hif ⊢
 clear hT
 have hu36 := Try.underlying25
 have hu25 := Try.underlying90
 go_enter Try.func102, Try.ntmps102
 go_wp2_with (go_at_call 103; refine hif.mono ?_; rintro e w' ⟨rfl, hb'⟩)
 go_ret
 exact ⟨rfl, q75 hb' HW.out⟩
set_option maxHeartbeats 8000000 in
set_option maxRecDepth 100000 in
theorem q33.calls (A0_0 : Option Addr) (c0_0 : Nat) (l0_0 : List ByteArray) (A0_1 : Option Addr) (c0_1 : Nat) (l0_1 : List (S41)) (A1_0 : Option Addr) (c1_0 : Nat) (l1_0 : List (S101)) (A1_1 : Option Addr) (c1_1 : Nat) (l1_1 : List (S90)) (r : Bool) (w : World) (hr0_0 : Kd.C Kd.string w A0_0 l0_0.length l0_0) (hc0_0 : l0_0.length ≤ c0_0) (hr0_1 : Kd.C k41 w A0_1 l0_1.length l0_1) (hc0_1 : l0_1.length ≤ c0_1) (hr1_0 : Kd.C k101 w A1_0 l1_0.length l1_0) (hc1_0 : l1_0.length ≤ c1_0) (hr1_1 : Kd.C k90 w A1_1 l1_1.length l1_1) (hc1_1 : l1_1.length ≤ c1_1) (h : q33.f l0_0 l0_1 l1_0 l1_1 = some r) :
    Calls Try.prog 96 #[.agg #[.slice A0_0 l0_0.length c0_0, .slice A0_1 l0_1.length c0_1], .agg #[.slice A1_0 l1_0.length c1_0, .slice A1_1 l1_1.length c1_1]] w fun e w' => e = .returned (.bool r) ∧ Below w.heap.size w w' := by
  obtain rfl := Option.some.inj h
  clear h
  have hu36 := Try.underlying25
  have hu29 := Try.underlying45
  have hu39 := Try.underlying101
  have hbound : l1_0.length ≤ 9223372036854775807 ∧ l1_1.length ≤ 9223372036854775807 := ⟨hr1_0.2.1, hr1_1.2.1⟩
  by_cases hA : 3 < l1_0.length
  · have e : sentryB l0_0 l0_1 l1_0 l1_1 = false := by simp [sentryB]; omega
    rw [e]
    have hA' : (3 : Int) < l1_0.length := by omega
    clear hr0_0 hr0_1 hr1_0 hr1_1 e hbound
    go_enter Try.func96, Try.ntmps96
    go_wp2
    go_ret
    exact ⟨rfl, q60 (q60 (Below.refl _ _) _) _⟩
  have hA' : ¬ (3 : Int) < l1_0.length := by omega
  by_cases hB : 2 < l1_1.length
  · have e : sentryB l0_0 l0_1 l1_0 l1_1 = false := by simp [sentryB]; omega
    rw [e]
    have hB' : (2 : Int) < l1_1.length := by omega
    clear hr0_0 hr0_1 hr1_0 hr1_1 e hbound
    go_enter Try.func96, Try.ntmps96
    go_wp2
    go_ret
    exact ⟨rfl, q60 (q60 (Below.refl _ _) _) _⟩
  have hB' : ¬ (2 : Int) < l1_1.length := by omega
  by_cases hC : l1_0.length + l1_1.length = 0
  · have h1 : l1_0 = [] := List.eq_nil_of_length_eq_zero (by omega)
    have h2 : l1_1 = [] := List.eq_nil_of_length_eq_zero (by omega)
    subst h1 h2
    have e : sentryB l0_0 l0_1 [] [] = false := by simp [sentryB]
    rw [e]
    clear hr0_0 hr0_1 hr1_0 hr1_1 e hbound hA hA' hB hB' hC
    go_enter Try.func96, Try.ntmps96
    go_wp2
    go_ret
    exact ⟨rfl, q60 (q60 (Below.refl _ _) _) _⟩
  have hC' : (((l1_0.length : Int) + (l1_1.length : Int)) == 0) = false := by
    have : ((l1_0.length : Int) + (l1_1.length : Int)) ≠ 0 := by omega
    simpa using this
  have HR := Lib.hid (And.intro hr0_0 (And.intro hr0_1 (And.intro hr1_0 hr1_1)))
  clear hr0_0 hr0_1 hr1_0 hr1_1
  obtain ⟨n, hn⟩ : ∃ n, n = l1_0.length := ⟨_, rfl⟩
  obtain ⟨m, hm⟩ : ∃ m, m = l1_1.length := ⟨_, rfl⟩
  have HN := Lib.hid (And.intro hn hm)
  rw [← hn] at hbound hA hA' hC hC' hc1_0 ⊢
  rw [← hm] at hbound hB hB' hC hC' hc1_1 ⊢
  clear hn hm
  have hn3 : (n : Int) ≤ 3 := by omega
  have hm2 : (m : Int) ≤ 2 := by omega
  go_enter Try.func96, Try.ntmps96
  go_wp2
  obtain ⟨W1, hW1⟩ : ∃ W1, W1 = (w.alloc (.cells #[.slice A0_0 l0_0.length c0_0, .slice A0_1 l0_1.length c0_1] 25)).alloc (.cells #[.slice A1_0 n c1_0, .slice A1_1 m c1_1] 45) := ⟨_, rfl⟩
  have hb1 : Below w.heap.size w W1 := by rw [hW1]; exact q60 (q60 (Below.refl _ _) _) _
  have hm0 : W1.cell? ⟨w.heap.size, 0, none⟩ = some (.slice A0_0 l0_0.length c0_0) := by rw [hW1]; simp
  have hm1 : W1.cell? ⟨w.heap.size, 1, none⟩ = some (.slice A0_1 l0_1.length c0_1) := by rw [hW1]; simp
  have hs0 : W1.cell? ⟨w.heap.size + 1, 0, none⟩ = some (.slice A1_0 n c1_0) := by rw [hW1]; simp
  have hs1 : W1.cell? ⟨w.heap.size + 1, 1, none⟩ = some (.slice A1_1 m c1_1) := by rw [hW1]; simp
  have hsz : W1.heap.size = w.heap.size + 2 := by rw [hW1]; simp
  rw [← hW1]
  have H1 := Lib.hid (And.intro hb1 (And.intro hm0 (And.intro hm1 (And.intro hs0 (And.intro hs1 hsz)))))
  clear hW1 hb1 hm0 hm1 hs0 hs1 hsz
  go_loopg [30] n (fun gg s30 wr => ∃ i : Nat, i ≤ n ∧ n - i ≤ gg ∧ s30 = .int .i64 i ∧ Hid (Below W1.heap.size W1 wr ∧ ∀ j, j < i → onOk l0_1 l1_0 j = true))
  case atStart => exact ⟨0, Nat.zero_le _, by omega, rfl, Lib.hid ⟨Below.refl _ _, fun j hj => absurd hj (Nat.not_lt_zero _)⟩⟩
  case round =>
    obtain ⟨i, hin, hig, rfl, X⟩ := hrel
    have hbw : Below w.heap.size w wr := q63 H1.out.1 H1.out.1.size X.out.1
    have HBW := Lib.hid hbw
    clear hbw
    by_cases hlt : i < n
    · have hltz : (i : Int) < (n : Int) := by omega
      obtain ⟨ad, e, hx0, hx1⟩ := at_T101 HR.out.2.2.1 (i : Int) (by omega) (by have := HN.out; omega)
      cases e
      simp only [Int.toNat_natCast] at hx0 hx1
      obtain ⟨x, hx⟩ : ∃ x, x = q79 l1_0 (i : Int) := ⟨_, rfl⟩
      rw [← hx] at hx0 hx1
      have HX := Lib.hid hx
      clear hx
      replace hx0 := (HBW.out.cell (World.block_lt_of_cell? w _ hx0)).trans hx0
      replace hx1 := (HBW.out.cell (World.block_lt_of_cell? w _ hx1)).trans hx1
      go_wp2
      clear hx0 hx1
      obtain ⟨W2, hW2⟩ : ∃ W2, W2 = wr.alloc (.cells #[.string x.f0, .int .i64 x.f1] 101) := ⟨_, rfl⟩
      have hb2 : Below wr.heap.size wr W2 := by rw [hW2]; exact q60 (Below.refl _ _) _
      have hx0 : W2.cell? ⟨wr.heap.size, 0, none⟩ = some (.string x.f0) := by rw [hW2]; simp
      have hx1 : W2.cell? ⟨wr.heap.size, 1, none⟩ = some (.int .i64 x.f1) := by rw [hW2]; simp
      rw [← hW2]
      clear hW2
      have hlo : w.heap.size + 2 ≤ wr.heap.size := by have := X.out.1.size; have := H1.out.2.2.2.2.2; omega
      have hm0 : W2.cell? ⟨w.heap.size, 0, none⟩ = some (.slice A0_0 l0_0.length c0_0) := (hb2.cell (p := ⟨_, _, none⟩) (by simp only; omega)).trans ((X.out.1.cell (p := ⟨_, _, none⟩) (by simp only; have := H1.out.2.2.2.2.2; omega)).trans H1.out.2.1)
      have hm1 : W2.cell? ⟨w.heap.size, 1, none⟩ = some (.slice A0_1 l0_1.length c0_1) := (hb2.cell (p := ⟨_, _, none⟩) (by simp only; omega)).trans ((X.out.1.cell (p := ⟨_, _, none⟩) (by simp only; have := H1.out.2.2.2.2.2; omega)).trans H1.out.2.2.1)
      have hs0 : W2.cell? ⟨w.heap.size + 1, 0, none⟩ = some (.slice (some ad) n c1_0) := (hb2.cell (p := ⟨_, _, none⟩) (by simp only; omega)).trans ((X.out.1.cell (p := ⟨_, _, none⟩) (by simp only; have := H1.out.2.2.2.2.2; omega)).trans H1.out.2.2.2.1)
      have hbw2 : Below w.heap.size w W2 := q63 HBW.out HBW.out.size hb2
      have hon := fun (W : World) (hb : Below w.heap.size w W) => q47.calls 2 _ c0_0 l0_0 _ c0_1 l0_1 x.f0 x.f1 _ W (Kd.C_below HR.out.1 hb) hc0_0 (Kd.C_below HR.out.2.1 hb) hc0_1 (isOn_eq l0_0 l0_1 x.f0 x.f1)
      have hin2 : i ≤ c1_0 := by omega
      have el : (l1_0.take i).length = i := by rw [List.length_take]; have := HN.out; omega
      have hhas : ∀ (W : World), Below w.heap.size w W → Calls Try.prog 100 #[.slice (some ad) i c1_0, .agg #[.string x.f0, .int .i64 x.f1]] W fun e w' => e = .returned (.bool (hasOn (l1_0.take i) x.f0 x.f1)) ∧ Below W.heap.size W w' := fun W hb => by
        have := q46.calls (n + 1) (some ad) c1_0 (l1_0.take i) x.f0 x.f1 _ W (Kd.C_below (Kd.C_take HR.out.2.2.1 (show i ≤ l1_0.length by have := HN.out; omega)) hb) (by rw [el]; omega) (hasOn_eq (l1_0.take i) x.f0 x.f1 (by rw [el]; omega) (n + 1) (by rw [el]; omega))
        rw [el] at this
        exact this
      have hxo : onOk l0_1 l1_0 i = (onB l0_1 x.f0 x.f1 && !hasOn (l1_0.take i) x.f0 x.f1) := by rw [HX.out]; rfl
      have HXO := Lib.hid hxo
      have HON := Lib.hid hon
      have HHAS := Lib.hid hhas
      clear hxo hon hhas el
      cases hq : onB l0_1 x.f0 x.f1 with
      | false =>
        have hon := HON.out
        rw [hq] at hon HXO
        clear hq HON HHAS
        refine st_ (fun w' => (w'.cell? ⟨w.heap.size, 0, none⟩ = some (.slice A0_0 l0_0.length c0_0) ∧ w'.cell? ⟨w.heap.size, 1, none⟩ = some (.slice A0_1 l0_1.length c0_1) ∧ w'.cell? ⟨w.heap.size + 1, 0, none⟩ = some (.slice (some ad) n c1_0) ∧ w'.cell? ⟨wr.heap.size, 0, none⟩ = some (.string x.f0) ∧ w'.cell? ⟨wr.heap.size, 1, none⟩ = some (.int .i64 x.f1)) ∧ Below W2.heap.size W2 w') 12 ⟨⟨hm0, hm1, hs0, hx0, hx1⟩, q61 (Below.refl _ _)⟩ (fun hHeld => ?_)
        generalize W2.drew = W3 at hHeld ⊢
        refine tk_ 0 (some 35) hHeld ?_ (hy := by rintro w' ⟨⟨s0, s1, s2, s3, s4⟩, _⟩; go_simp; with_reducible rfl)
        refine tk_ 1 (some 36) hHeld ?_ (hy := by rintro w' ⟨⟨s0, s1, s2, s3, s4⟩, _⟩; go_simp; with_reducible rfl)
        refine oN_ 2 (some 37) (fun K hK => ?_)
        refine goes_ Try.func99 (by kernel_rfl) rfl #[.agg #[.slice A0_0 l0_0.length c0_0, .slice A0_1 l0_1.length c0_1], .agg #[.string x.f0, .int .i64 x.f1]] (by rfl) rfl rfl (by (try simp only [List.map_toArray, List.map_cons, List.map_nil]); first | done | rfl) ?_
        with_reducible refine (hon _ (q75 hHeld.2 hbw2)).mono ?_
        rintro e w' ⟨rfl, hb'⟩
        refine ⟨_, rfl, ?_⟩
        refine hK.out _ _ ⟨⟨q76 hb' hHeld.1.1, q76 hb' hHeld.1.2.1, q76 hb' hHeld.1.2.2.1, q76 hb' hHeld.1.2.2.2.1, q76 hb' hHeld.1.2.2.2.2⟩, q75 hb' hHeld.2⟩ (fun hHeld => ?_)
        clear hK K
        refine nz_ (some 37) ?_
        refine pu_ 3 (some 38) ?_
        refine pu_ 4 (some 39) ?_
        refine sk_ 5 (some 40) ?_
        refine sk_ 6 (some 41) ?_
        refine sk_ 7 (some 42) ?_
        refine sk_ 8 (some 43) ?_
        refine sk_ 9 (some 44) ?_
        refine sk_ 10 (some 45) ?_
        refine pu_ 11 (some 46) ?_
        refine dn_ ?_
        have hbx := q75 hHeld.2 hbw2
        have he : sentryB l0_0 l0_1 l1_0 l1_1 = false := by
          have h1 : (List.range l1_0.length).all (onOk l0_1 l1_0) = false := List.all_eq_false.2 ⟨i, List.mem_range.2 (by have := HN.out; omega), by rw [HXO.out]; simp⟩
          simp [sentryB, h1]
        have HE := Lib.hid he
        clear hHeld he
        go_wp2
        go_ret
        exact ⟨by rw [HE.out]; rfl, hbx⟩
      | true =>
        have hon := HON.out
        have hhas := HHAS.out
        rw [hq] at hon HXO
        clear hq HON HHAS
        have p0 : (0 : Int) ≤ i := by omega
        have p1 : (i : Int) ≤ n := by omega
        have p2 : (i : Int) ≤ c1_0 := by omega
        refine st_ (fun w' => (w'.cell? ⟨w.heap.size, 0, none⟩ = some (.slice A0_0 l0_0.length c0_0) ∧ w'.cell? ⟨w.heap.size, 1, none⟩ = some (.slice A0_1 l0_1.length c0_1) ∧ w'.cell? ⟨w.heap.size + 1, 0, none⟩ = some (.slice (some ad) n c1_0) ∧ w'.cell? ⟨wr.heap.size, 0, none⟩ = some (.string x.f0) ∧ w'.cell? ⟨wr.heap.size, 1, none⟩ = some (.int .i64 x.f1)) ∧ Below W2.heap.size W2 w') 12 ⟨⟨hm0, hm1, hs0, hx0, hx1⟩, q61 (Below.refl _ _)⟩ (fun hHeld => ?_)
        generalize W2.drew = W3 at hHeld ⊢
        refine tk_ 0 (some 35) hHeld ?_ (hy := by rintro w' ⟨⟨s0, s1, s2, s3, s4⟩, _⟩; go_simp; with_reducible rfl)
        refine tk_ 1 (some 36) hHeld ?_ (hy := by rintro w' ⟨⟨s0, s1, s2, s3, s4⟩, _⟩; go_simp; with_reducible rfl)
        refine oN_ 2 (some 37) (fun K hK => ?_)
        refine goes_ Try.func99 (by kernel_rfl) rfl #[.agg #[.slice A0_0 l0_0.length c0_0, .slice A0_1 l0_1.length c0_1], .agg #[.string x.f0, .int .i64 x.f1]] (by rfl) rfl rfl (by (try simp only [List.map_toArray, List.map_cons, List.map_nil]); first | done | rfl) ?_
        with_reducible refine (hon _ (q75 hHeld.2 hbw2)).mono ?_
        rintro e w' ⟨rfl, hb'⟩
        refine ⟨_, rfl, ?_⟩
        refine hK.out _ _ ⟨⟨q76 hb' hHeld.1.1, q76 hb' hHeld.1.2.1, q76 hb' hHeld.1.2.2.1, q76 hb' hHeld.1.2.2.2.1, q76 hb' hHeld.1.2.2.2.2⟩, q75 hb' hHeld.2⟩ (fun hHeld => ?_)
        clear hK K
        refine nz_ (some 37) ?_
        refine pu_ 3 (some 38) ?_
        refine pu_ 4 (some 39) ?_
        refine pu_ 5 (some 40) ?_
        refine tk_ 6 (some 41) hHeld ?_ (hy := by rintro w' ⟨⟨s0, s1, s2, s3, s4⟩, _⟩; go_simp; with_reducible rfl)
        refine pu_ 7 (some 42) ?_
        refine pu_ 8 (some 43) ?_
        refine tk_ 9 (some 44) hHeld ?_ (hy := by rintro w' ⟨⟨s0, s1, s2, s3, s4⟩, _⟩; go_simp; with_reducible rfl)
        refine oN_ 10 (some 45) (fun K hK => ?_)
        refine goes_ Try.func100 (by kernel_rfl) rfl #[.slice (some ad) i c1_0, .agg #[.string x.f0, .int .i64 x.f1]] (by rfl) rfl rfl (by (try simp only [List.map_toArray, List.map_cons, List.map_nil]); first | done | rfl) ?_
        with_reducible refine (hhas _ (q75 hHeld.2 hbw2)).mono ?_
        rintro e w' ⟨rfl, hb'⟩
        refine ⟨_, rfl, ?_⟩
        refine hK.out _ _ ⟨⟨q76 hb' hHeld.1.1, q76 hb' hHeld.1.2.1, q76 hb' hHeld.1.2.2.1, q76 hb' hHeld.1.2.2.2.1, q76 hb' hHeld.1.2.2.2.2⟩, q75 hb' hHeld.2⟩ (fun hHeld => ?_)
        clear hK K
        refine nz_ (some 45) ?_
        refine pu_ 11 (some 46) ?_
        refine dn_ ?_
        have hbx := q75 hHeld.2 hbw2
        have HS := Lib.hid hHeld
        have HSB := Lib.hid hbx
        clear hHeld hbx p0 p1 p2 hhas hon
        cases hq2 : hasOn (l1_0.take i) x.f0 x.f1 with
        | true =>
          rw [hq2] at HXO
          have he : sentryB l0_0 l0_1 l1_0 l1_1 = false := by
            have h1 : (List.range l1_0.length).all (onOk l0_1 l1_0) = false := List.all_eq_false.2 ⟨i, List.mem_range.2 (by have := HN.out; omega), by rw [HXO.out]; simp⟩
            simp [sentryB, h1]
          have HE := Lib.hid he
          clear he hq2
          go_wp2
          go_ret
          exact ⟨by rw [HE.out]; rfl, HSB.out⟩
        | false =>
          rw [hq2] at HXO
          clear hq2
          go_wp2
          go_roundg (n - (i + 1))
          case measure => omega
          case rel =>
            refine ⟨i + 1, by omega, by omega, by go_num, Lib.hid ⟨?_, fun j hj => ?_⟩⟩
            · have hb3 := q63 X.out.1 X.out.1.size hb2
              exact q63 hb3 hb3.size HS.out.2
            · by_cases e : j = i
              · subst e; rw [HXO.out]; rfl
              · exact X.out.2 j (by omega)
    · have hltz : ¬ (i : Int) < (n : Int) := by omega
      obtain rfl : i = n := by omega
      have hsz := H1.out.2.2.2.2.2
      have hm0 : wr.cell? ⟨w.heap.size, 0, none⟩ = some (.slice A0_0 l0_0.length c0_0) := (X.out.1.cell (p := ⟨_, _, none⟩) (by simp only; omega)).trans H1.out.2.1
      have hm1 : wr.cell? ⟨w.heap.size, 1, none⟩ = some (.slice A0_1 l0_1.length c0_1) := (X.out.1.cell (p := ⟨_, _, none⟩) (by simp only; omega)).trans H1.out.2.2.1
      have hs1 : wr.cell? ⟨w.heap.size + 1, 1, none⟩ = some (.slice A1_1 m c1_1) := (X.out.1.cell (p := ⟨_, _, none⟩) (by simp only; omega)).trans H1.out.2.2.2.2.1
      clear hsz
      have hany := anyCond A1_1 c1_1 l1_1 wr (Kd.C_below HR.out.2.2.2 HBW.out) (by have := HN.out; omega) 102 #[.pointer (some ⟨w.heap.size, 0, none⟩)] q33.eg (fun c => !ifB l0_0 c.f0 c.f1 c.f2) (fun W x cs hx hb hK => q33.closure w.heap.size A0_0 c0_0 l0_0 A0_1 c0_1 l0_1 W (q76 hb hm0) (q76 hb hm1) (Kd.C_below (Kd.C_below HR.out.1 HBW.out) hb) hc0_0 (Kd.C_below (Kd.C_below HR.out.2.1 HBW.out) hb) hc0_1 x cs hK)
      rw [← HN.out.2] at hany
      have he : sentryB l0_0 l0_1 l1_0 l1_1 = !(l1_1.any (fun c => !ifB l0_0 c.f0 c.f1 c.f2)) := by
        have h1 : (List.range l1_0.length).all (onOk l0_1 l1_0) = true := List.all_eq_true.2 fun j hj => X.out.2 j (by have := List.mem_range.1 hj; have := HN.out; omega)
        have h2 : decide (l1_0.length ≤ 3 ∧ l1_1.length ≤ 2 ∧ l1_0.length + l1_1.length ≠ 0) = true := decide_eq_true (by have := HN.out; omega)
        unfold sentryB
        rw [h1, h2]
        rfl
      have HE := Lib.hid he
      clear he hm0 hm1
      obtain ⟨T, hT⟩ : ∃ T, T = l1_1.any (fun c => !ifB l0_0 c.f0 c.f1 c.f2) := ⟨_, rfl⟩
      rw [← hT] at hany HE
      clear hT
      go_wp2_with (go_at_call 101; refine hany.mono ?_; rintro e w' ⟨rfl, hb'⟩)
      go_ret
      exact ⟨by rw [HE.out]; rfl, q75 hb' HBW.out⟩
def sentsB (fs : List ByteArray) (l : List (S41)) (ss : List (S45)) : Bool := decide (ss.length ≤ 3) && !ss.any (fun s => !sentryB fs l s.f0 s.f1)
def q18.f (l0_0 : List ByteArray) (l0_1 : List (S41)) (l1 : List (S45)) : Option Bool := some (sentsB l0_0 l0_1 l1)
theorem q18.eg : ∀ args w, (callFunc 95 args).run Try.prog w = .ok (.enter 95 args) w := enters_of Try.func95 (by kernel_rfl) rfl
set_option maxHeartbeats 4000000 in
theorem q18.closure (b : Nat) (A0_0 : Option Addr) (c0_0 : Nat) (l0_0 : List ByteArray) (A0_1 : Option Addr) (c0_1 : Nat) (l0_1 : List (S41)) (W : World) (hm0 : W.cell? ⟨b, 0, none⟩ = some (.slice A0_0 l0_0.length c0_0)) (hm1 : W.cell? ⟨b, 1, none⟩ = some (.slice A0_1 l0_1.length c0_1))
 (hr0_0 : Kd.C Kd.string W A0_0 l0_0.length l0_0) (hc0_0 : l0_0.length ≤ c0_0) (hr0_1 : Kd.C k41 W A0_1 l0_1.length l0_1) (hc0_1 : l0_1.length ≤ c0_1) (x : S45) (cs : List Value) (hK : Kd.K k45 W x cs) :
 Calls Try.prog 95 (#[.agg cs.toArray] ++ #[.pointer (some ⟨b, 0, none⟩)]) W fun e w' => e = .returned (.bool (!sentryB l0_0 l0_1 x.f0 x.f1)) ∧ Below W.heap.size W w' := by
 obtain ⟨A0, c0, A1, c1, rfl, g0, h0, g1, h1⟩ := k45_open hK
 have hb := World.block_lt_of_cell? W _ hm0
 simp only at hb
 have hW1 := q60 (Below.refl W.heap.size W) (.cells #[.slice A0 x.f0.length c0, .slice A1 x.f1.length c1] 45)
 have hif := q33.calls A0_0 c0_0 l0_0 A0_1 c0_1 l0_1 A0 c0 x.f0 A1 c1 x.f1 _ _ (Kd.C_below hr0_0 hW1) hc0_0 (Kd.C_below hr0_1 hW1) hc0_1 (Kd.C_below h0 hW1) g0 (Kd.C_below h1 hW1) g1 rfl
 have HW := Lib.hid hW1
 clear hr0_0 hr0_1 hW1 hK h0 h1
 obtain ⟨T, hT⟩ : ∃ T, T = sentryB l0_0 l0_1 x.f0 x.f1 := ⟨_, rfl⟩
 rw [← hT] at hif ⊢
 clear hT
 have hu36 := Try.underlying25
 have hu29 := Try.underlying45
 go_enter Try.func95, Try.ntmps95
 go_wp2_with (go_at_call 96; refine hif.mono ?_; rintro e w' ⟨rfl, hb'⟩)
 go_ret
 exact ⟨rfl, q75 hb' HW.out⟩
set_option maxHeartbeats 8000000 in
set_option maxRecDepth 100000 in
theorem q18.calls (A0_0 : Option Addr) (c0_0 : Nat) (l0_0 : List ByteArray) (A0_1 : Option Addr) (c0_1 : Nat) (l0_1 : List (S41)) (A1 : Option Addr) (c1 : Nat) (l1 : List (S45)) (r : Bool) (w : World) (hr0_0 : Kd.C Kd.string w A0_0 l0_0.length l0_0) (hc0_0 : l0_0.length ≤ c0_0) (hr0_1 : Kd.C k41 w A0_1 l0_1.length l0_1) (hc0_1 : l0_1.length ≤ c0_1) (hr1 : Kd.C k45 w A1 l1.length l1) (hc1 : l1.length ≤ c1) (h : q18.f l0_0 l0_1 l1 = some r) :
 Calls Try.prog 87 #[.agg #[.slice A0_0 l0_0.length c0_0, .slice A0_1 l0_1.length c0_1], .slice A1 l1.length c1] w fun e w' => e = .returned (.bool r) ∧ Below w.heap.size w w' := by
 obtain rfl := Option.some.inj h
 clear h
 have hu36 := Try.underlying25
 have W1 := q60 (Below.refl w.heap.size w) (.cells #[.slice A0_0 l0_0.length c0_0, .slice A0_1 l0_1.length c0_1] 25)
 by_cases hA : 3 < l1.length
 ·have e : sentsB l0_0 l0_1 l1 = false := by simp [sentsB]; omega
  rw [e]
  have hA' : (3 : Int) < l1.length := by omega
  have H := Lib.hid W1
  clear hr0_0 hr0_1 hr1 e W1
  go_enter Try.func87, Try.ntmps87
  go_wp2
  go_ret
  exact ⟨rfl, H.out⟩
 have hA' : ¬ (3 : Int) < l1.length := by omega
 have hm0 : (w.alloc (.cells #[.slice A0_0 l0_0.length c0_0, .slice A0_1 l0_1.length c0_1] 25)).cell? ⟨w.heap.size, 0, none⟩ = some (.slice A0_0 l0_0.length c0_0) := by simp
 have hm1 : (w.alloc (.cells #[.slice A0_0 l0_0.length c0_0, .slice A0_1 l0_1.length c0_1] 25)).cell? ⟨w.heap.size, 1, none⟩ = some (.slice A0_1 l0_1.length c0_1) := by simp
 have hany := anySentry A1 c1 l1 _ (Kd.C_below hr1 W1) hc1 95 #[.pointer (some ⟨w.heap.size, 0, none⟩)] q18.eg (fun s => !sentryB l0_0 l0_1 s.f0 s.f1) (fun W x cs hx hb hK => q18.closure w.heap.size A0_0 c0_0 l0_0 A0_1 c0_1 l0_1 W (q76 hb hm0) (q76 hb hm1) (Kd.C_below (Kd.C_below hr0_0 W1) hb) hc0_0 (Kd.C_below (Kd.C_below hr0_1 W1) hb) hc0_1 x cs hK)
 have he : sentsB l0_0 l0_1 l1 = !(l1.any (fun s => !sentryB l0_0 l0_1 s.f0 s.f1)) := by
  unfold sentsB
  rw [decide_eq_true (by omega), Bool.true_and]
 rw [he]
 have H := Lib.hid W1
 clear hr0_0 hr0_1 hr1 he W1 hm0 hm1
 obtain ⟨T, hT⟩ : ∃ T, T = l1.any (fun s => !sentryB l0_0 l0_1 s.f0 s.f1) := ⟨_, rfl⟩
 rw [← hT] at hany ⊢
 clear hT
 go_enter Try.func87, Try.ntmps87
 go_wp2_with (go_at_call 94; refine hany.mono ?_; rintro e w' ⟨rfl, hb'⟩)
 go_ret
 exact ⟨rfl, q75 hb' H.out⟩
def q53.f (a0 : Int) : Option (Int × Bool) := some (a0, true)
set_option maxHeartbeats 8000000 in
set_option maxRecDepth 100000 in
theorem q53.calls (a0 : Int) (r1 : Int) (r2 : Bool) (w : World) (h : q53.f a0 = some (r1, r2)) :
 Calls Try.prog 73 #[.int .i64 a0] w fun e w' => e = .returned (.agg #[.int .i64 r1, .bool r2]) ∧ Below w.heap.size w w' := by
 have hu93 := Try.underlying93
 have HB := q59.mk (Below.refl w.heap.size w)
 have H : (some (a0, true)) = some (r1, r2) := h
 clear h
 simp only [Option.some.injEq, Prod.mk.injEq] at H
 obtain ⟨rfl, rfl⟩ := H
 go_enter Try.func73, Try.ntmps73
 go_wp2_with (first | ((with_reducible refine q74 (N := 2) rfl ?_); refine bx_ 2 #[.int .i64 0, .bool false] 93 ?_; intro gb252 hg w2 hbox hb; have BK252 := q59.mk (hbox); have GW252 := zz_ (w := w) hg; have GE252 := zz_ (w := w) hg; replace HB := hb_ HB hb;  clear hb hbox hg; obtain ⟨hcz3_0, hcz3_1, hfz3_0, hfz3_1⟩ := bs2_ BK252))
 refine bodyPost_ret (results_cell_row rfl _ _ gb252 93 #[.int .i64 a0, .bool true] (0, 0) _ rfl (by (with_reducible repeat (first | refine q68 ?_ _ | refine q67 ?_ | refine q64 ?_ _)); refine q71 (cs := #[.int .i64 a0, .bool false]) ?_ 1 _ rfl; (with_reducible repeat (first | refine q68 ?_ _ | refine q67 ?_ | refine q64 ?_ _)); refine q71 (cs := #[.int .i64 0, .bool false]) ?_ 0 _ rfl; (with_reducible repeat (first | refine q68 ?_ _ | refine q67 ?_ | refine q64 ?_ _)); exact BK252.out) Try.underlying93 rfl (by kernel_rfl)) rfl ?_
 exact ⟨er_, hf_⟩
def q48.l0 : Nat → List (S111) → List Int → Int → Int → Option ((List (S111)))
 | 0, _, _, _, _ => none
 | k + 1, x3, x6, x7, x8 => if x8 < x7 then (if 0 ≤ x8 then (if x8 < (x6.length : Int) then (if x3.length < 8796093022208 then (q48.l0 k (x3 ++ [(⟨rd x6 x8, (x8 == 0)⟩ : S111)]) x6 x7 (wrap64 (x8 + 1))) else (none)) else (none)) else (none)) else (some x3)
def q48.f (k : Nat) (l0 : List Int) : Option ((List (S111))) := q48.l0 k ([] : List (S111)) l0 (l0.length : Int) 0
theorem q48.mono_l : ∀ k, (∀ y0 y1 y2 y3, LeO (q48.l0 k y0 y1 y2 y3) (q48.l0 (k + 1) y0 y1 y2 y3))
 | 0 => fun _ _ _ _ r h => by simp [q48.l0] at h
 | k + 1 => by
  have ih0 := q48.mono_l k
  ·intro y0 y1 y2 y3
   unfold q48.l0
   repeat' first
   | (with_reducible exact ih0 _ _ _ _)
   | (with_reducible exact LeO.refl _)
   | (with_reducible exact LeO.none _)
   | (with_reducible refine LeO.ite ?_ ?_)
   | (with_reducible refine LeO.bind ?_ (fun _ => ?_))
   | exact ih0 _ _ _ _
   | exact LeO.none _
   | refine LeO.ite ?_ ?_
   | refine LeO.bind ?_ (fun _ => ?_)
theorem q48.mono : ∀ a0 k, LeO (q48.f k a0) (q48.f (k + 1) a0) := by
 intro a0 k
 have ih0 := q48.mono_l k
 unfold q48.f
 repeat' first
  | (with_reducible exact ih0 _ _ _ _)
  | (with_reducible exact LeO.refl _)
  | (with_reducible exact LeO.none _)
  | (with_reducible refine LeO.ite ?_ ?_)
  | (with_reducible refine LeO.bind ?_ (fun _ => ?_))
  | exact ih0 _ _ _ _
  | exact LeO.none _
  | refine LeO.ite ?_ ?_
  | refine LeO.bind ?_ (fun _ => ?_)
set_option maxHeartbeats 8000000 in
set_option maxRecDepth 100000 in
theorem q48.calls (k : Nat) (A0 : Option Addr) (c0 : Nat) (l0 : List Int) (r : List (S111)) (w : World) (hr0 : Kd.C (Kd.int .i64) w A0 l0.length l0) (hc0 : l0.length ≤ c0) (h : q48.f k l0 = some r) :
 Calls Try.prog 66 #[.slice A0 l0.length c0] w fun e w' => ∃ v0_ : Value, e = .returned (v0_) ∧ Kd.R k111 111 w' w.heap.size (fun _ => True) v0_ r ∧ Below w.heap.size w w' := by
 have hu111 := Try.underlying111
 have HR0 := q59.mk hr0
 have HC0 := q59.mk hc0
 clear hr0 hc0
 have HB := q59.mk (Below.refl w.heap.size w)
 have H : (q48.l0 k ([] : List (S111)) l0 (l0.length : Int) 0) = some r := h
 clear h
 have H' := q59.mk H
 clear H
 go_enter Try.func66, Try.ntmps66
 go_wp2
 go_loopg [3, 8] k (fun kq v3 v8 w' => ∃ (x3_1 : List (S111)) (x8_1 : Int), v8 = .int .i64 x8_1 ∧ q59 (q48.l0 kq x3_1 l0 (l0.length : Int) x8_1 = some r) ∧ q59 (kq ≤ k) ∧ q59 (Kd.R k111 111 w' w.heap.size (fun _ => True) v3 x3_1) ∧ q59 (Below w.heap.size w w'))
 case atStart => exact ⟨(([] : List (S111))), (0), rf_, H', ⟨Nat.le_refl _⟩, ⟨by first | exact Kd.R_nil _ _ _ _ _ | exact Kd.N_nil _ _ _ _ _ | exact Kd.V_nil _ _ _ _ _ | exact Kd.Q_nil _ _ _ _ _ | exact Kd.S_nil _ _ _ _ _⟩, ⟨hf_⟩⟩
 case round =>
  clear H'
  obtain ⟨x3_1, x8_1, rfl, HA, HK1, HO_3, HB⟩ := hrel
  cases gk with
  | zero => exact absurd HA.out (by simp [q48.l0])
  | succ k1 =>
   have H := HA.out
   clear HA
   simp only [q48.l0] at H
   by_cases c2 : x8_1 < (l0.length : Int)
   ·rw [if_pos c2] at H
    replace c2 := decide_eq_true c2
    by_cases c3 : 0 ≤ x8_1
    ·rw [if_pos c3] at H
     replace c3 := decide_eq_true c3
     by_cases c4 : x8_1 < (l0.length : Int)
     ·rw [if_pos c4] at H
      replace c4 := decide_eq_true c4
      by_cases c5 : x3_1.length < 8796093022208
      ·rw [if_pos c5] at H
       have LMc5 := q59.mk c5
       clear c5
       obtain ⟨y254, hy254⟩ : ∃ y_ : List (S111), y_ = (x3_1 ++ [(⟨rd l0 x8_1, (x8_1 == 0)⟩ : S111)]) := ⟨_, rfl⟩
       rw [← hy254] at H
       have Ny254 := q59.mk hy254
       clear hy254
       have H' := q59.mk H
       clear H
       obtain ⟨ad253, e253, hx253_0, p253, q253⟩ := au_int HR0 HB (x8_1)
       cases e253
       go_wp2_with (first | ((with_reducible refine q72 (b := .append) (xs := #[.tmp 13, .tmp 18]) rfl ?_); at_builtin; refine Kd.R_append k111 (w0 := w) w.heap.size rfl (.tmp 13) (.tmp 18) 70 111 (.agg #[(.int .i64 0), (.bool false)]) 16 rfl Try.underlying70 info111 rfl (by decide) (by omega) u3 x3_1 (⟨rd l0 x8_1, (x8_1 == 0)⟩ : S111) [.int .i64 (rd l0 x8_1), .bool (x8_1 == 0)] (fun _ => True) (fun _ => False) rfl rfl ?aP (fun _ hk => hk.elim) ?aF ?aO ?aB ?aS ?aL ?_; (case aP => exact k111_mkM _ _ _ (⟨rd l0 x8_1, (x8_1 == 0)⟩ : S111)); (case aB => exact hf_); (case aF => exact (fun _ _ => trivial)); (case aO => exact (ra_ HO_3.out)); (case aS => exact (q62 hf_)); (case aL => have := LMc5.out; omega); intro v255 w6 ho hb hg hat; rw [← Ny254.out] at ho; have n0_ := q59.mk (hb); have n1_ := q59.mk (ho); clear HB; clear HO_3; have HB := n0_; have HO256 := n1_; clear n0_ n1_; clear ho hb hg hat))
       go_roundg k1
       case measure => have := HK1.out; omega
       case rel => exact ⟨(y254), (wrap64 (x8_1 + 1)), rf_, H', ⟨by have := HK1.out; omega⟩, ⟨ra_ HO256.out⟩, ⟨hf_⟩⟩
      ·rw [if_neg c5] at H
       exact absurd H (by simp)
     ·rw [if_neg c4] at H
      exact absurd H (by simp)
    ·rw [if_neg c3] at H
     exact absurd H (by simp)
   ·rw [if_neg c2] at H
    replace c2 := decide_eq_false c2
    obtain rfl := Option.some.inj H
    go_wp2
    go_ret
    exact ⟨_, by first | rfl | (simp [errW_none, errW_some] <;> rfl) | (simp [*, errW_none, errW_some] <;> rfl), by (with_reducible repeat (first | apply Kd.R_alloc | apply Kd.R_drewN | apply Kd.R_drew)); exact HO_3.out, by repeat (first | (with_reducible first | exact HB.out | apply q60 | apply q78 | apply q61) | exact HB.out)⟩
def q56.f (a0 : Int) : Option (Int × Bool) := some (a0, false)
set_option maxHeartbeats 8000000 in
set_option maxRecDepth 100000 in
theorem q56.calls (a0 : Int) (r1 : Int) (r2 : Bool) (w : World) (h : q56.f a0 = some (r1, r2)) :
 Calls Try.prog 67 #[.int .i64 a0] w fun e w' => e = .returned (.agg #[.int .i64 r1, .bool r2]) ∧ Below w.heap.size w w' := by
 have hu93 := Try.underlying93
 have HB := q59.mk (Below.refl w.heap.size w)
 have H : (some (a0, false)) = some (r1, r2) := h
 clear h
 simp only [Option.some.injEq, Prod.mk.injEq] at H
 obtain ⟨rfl, rfl⟩ := H
 go_enter Try.func67, Try.ntmps67
 go_wp2_with (first | ((with_reducible refine q74 (N := 2) rfl ?_); refine bx_ 2 #[.int .i64 0, .bool false] 93 ?_; intro gb251 hg w2 hbox hb; have BK251 := q59.mk (hbox); have GW251 := zz_ (w := w) hg; have GE251 := zz_ (w := w) hg; replace HB := hb_ HB hb;  clear hb hbox hg; obtain ⟨hcz3_0, hcz3_1, hfz3_0, hfz3_1⟩ := bs2_ BK251))
 refine bodyPost_ret (results_cell_row rfl _ _ gb251 93 #[.int .i64 a0, .bool false] (0, 0) _ rfl (by (with_reducible repeat (first | refine q68 ?_ _ | refine q67 ?_ | refine q64 ?_ _)); refine q71 (cs := #[.int .i64 a0, .bool false]) ?_ 1 _ rfl; (with_reducible repeat (first | refine q68 ?_ _ | refine q67 ?_ | refine q64 ?_ _)); refine q71 (cs := #[.int .i64 0, .bool false]) ?_ 0 _ rfl; (with_reducible repeat (first | refine q68 ?_ _ | refine q67 ?_ | refine q64 ?_ _)); exact BK251.out) Try.underlying93 rfl (by kernel_rfl)) rfl ?_
 exact ⟨er_, hf_⟩
structure Mc where
 A0 : Option Addr
 c0 : Nat
 fs : List ByteArray
 A1 : Option Addr
 c1 : Nat
 l : List (S41)
 fl : Int
 la : Int
 v4 : Value
 v5 : Value
 v7 : Value
 v11 : Value
 vd : Value
def Mcells (c : Mc) (vr vc vu : Value) : Array Value := #[.slice c.A0 c.fs.length c.c0, .slice c.A1 c.l.length c.c1, .int .i64 c.fl, .int .i64 c.la, c.v4, c.v5, .int .i64 6, c.v7, vr, vc, vu, c.v11, c.vd]
def Mr (c : Mc) (w0 w : World) (g : Nat) (vr : Value) (rs : List (S72)) : Prop :=
 Below w0.heap.size w0 w ∧ w0.heap.size ≤ g ∧ w.heap[g]? = some (.cells (Mcells c vr (.slice none 0 0) (.slice none 0 0)) 58 (0, 0)) ∧ Kd.R k72 72 w (g + 1) (fun _ => True) vr rs
def Go_ (g : Nat) (vr vr' : Value) (w w' : World) : Prop := Kept w w' (fun k => k = g ∨ vr.ownBlock = some k) ∧ ∀ k, vr'.ownBlock = some k → vr.ownBlock = some k ∨ w.heap.size ≤ k
def RulePost (c : Mc) (w0 w : World) (g : Nat) (vr : Value) (rs : List (S72)) (e : Ending) (w' : World) : Prop := e = .returned (.tuple #[]) ∧ ∃ vr', Mr c w0 w' g vr' rs ∧ Go_ g vr vr' w w'
section
variable {c : Mc} {w0 w w1 w2 : World} {g : Nat} {vr vr' vr'' : Value} {rs : List (S72)}
theorem Go_.refl : Go_ g vr vr w w := ⟨Kept.refl _ _, fun _ h => .inl h⟩
theorem Go_.then_ (h : Go_ g vr vr' w w1) (k : Go_ g vr' vr'' w1 w2) : Go_ g vr vr'' w w2 :=
 ⟨h.1.then_ k.1 (fun j e => e.elim (fun e => .inl (.inl e)) (fun e => (h.2 j e).elim (fun e => .inl (.inr e)) .inr)), fun j e => (k.2 j e).elim (fun e => h.2 j e) (fun e => .inr (Nat.le_trans h.1.1 e))⟩
theorem Go_.below (h : Go_ g vr vr' w w1) (hb : Below w1.heap.size w1 w2) : Go_ g vr vr' w w2 := ⟨h.1.below hb, h.2⟩
theorem Mr.lt (h : Mr c w0 w g vr rs) : g < w.heap.size := blk_lt h.2.2.1
theorem Mr.below (h : Mr c w0 w g vr rs) (hb : Below w.heap.size w w1) : Mr c w0 w1 g vr rs := ⟨q63 h.1 h.1.size hb, h.2.1, q65 h.2.2.1 hb, Kd.R_below h.2.2.2 hb⟩
end
theorem R_set2x {w : World} {α : Type} {d : Kd α} {e base : Nat} {ok : Nat → Prop} {v : Value} {xs : List α} (h : d.R e w base ok v xs) (p : Addr) (u : Value) (hp : p.block < base) : d.R e (w.setCell p u) base ok v xs :=
 Kd.R_mono (Kd.R_far (Kd.R_bound h) (fun k hk => by have := hk.2.1; omega) u) (fun _ hk => hk.1)
theorem info72x_ : (Try.prog.info? 72).map (fun i => (i.zero, i.size, i.bytes)) = some (some (.agg #[.int .i64 0, .slice none 0 0, .slice none 0 0, .slice none 0 0]), 4, 80) := by kernel_rfl
set_option maxHeartbeats 4000000 in
set_option maxRecDepth 100000 in
theorem rule_any (c : Mc) (w0 w : World) (g : Nat) (vr : Value) (rs : List (S72)) (st : Int) (A2 : Option Addr) (c2 : Nat) (th : List (S111)) (A3 : Option Addr) (c3 : Nat) (ls : List (S93))
 (hM : Mr c w0 w g vr rs) (h2 : Kd.R k111 111 w (g + 1) (fun k => some k ≠ vr.ownBlock) (.slice A2 th.length c2) th) (h3 : Kd.R k93 93 w (g + 1) (fun k => some k ≠ vr.ownBlock) (.slice A3 ls.length c3) ls) (hlim : rs.length ≤ 100000) :
 Calls Try.prog 69 #[.pointer (some ⟨g, 0, none⟩), .int .i64 st, .slice A2 th.length c2, .slice A3 ls.length c3] w (RulePost c w0 w g vr (rs ++ [⟨st, ls, [], th⟩])) := by
 have hu32 := Try.underlying32
 have hu58 := Try.underlying58
 have hgl := hM.lt
 obtain ⟨hb0, hwg, hg, hR⟩ := hM
 obtain ⟨A8, c8, rfl⟩ := Kd.R_slice hR
 have hM1 : Kd.M k72 w (g + 1) (fun k => some k ≠ (Value.slice A8 rs.length c8).ownBlock) ⟨st, ls, [], th⟩ [.int .i64 st, .slice A3 ls.length c3, .slice none 0 0, .slice A2 th.length c2] := k72_mkM _ _ _ _ h3 (Kd.R_nil _ _ _ _ _) h2
 obtain ⟨m, hm⟩ : ∃ m, m = rs.length := ⟨_, rfl⟩
 have hl : (rs.length + 1) * 80 ≤ 140737488355328 := by omega
 have HB0 := Lib.hid hb0
 have HG := Lib.hid hg
 have HM1 := Lib.hid hM1
 have HR := Lib.hid hR
 have HL := Lib.hid hl
 have HM := Lib.hid hm
 rw [← hm] at HG HM1 HR ⊢
 have hcz : w.cell? ⟨g, 8, none⟩ = some (.slice A8 m c8) := (q66 HG.out 8).trans rfl
 obtain ⟨n2, hn2⟩ : ∃ n2, n2 = th.length := ⟨_, rfl⟩
 obtain ⟨n3, hn3⟩ : ∃ n3, n3 = ls.length := ⟨_, rfl⟩
 rw [← hn2, ← hn3] at HM1 ⊢
 clear hb0 hg hR hM1 hl hm h2 h3 hn2 hn3
 go_enter Try.func69, Try.ntmps69
 go_wp2_with (first | ((with_reducible refine q72 (b := .append) (xs := #[.tmp 13, .tmp 18]) rfl ?_); at_builtin; refine Kd.R_append k72 (w0 := w) (g + 1) rfl (.tmp 13) (.tmp 18) 28 72 (.agg #[.int .i64 0, .slice none 0 0, .slice none 0 0, .slice none 0 0]) 80 rfl Try.underlying28 info72x_ rfl (by decide) (by omega) (.slice A8 m c8) rs ⟨st, ls, [], th⟩ [.int .i64 st, .slice A3 n3 c3, .slice none 0 0, .slice A2 n2 c2] (fun _ => True) (fun k => some k ≠ (Value.slice A8 m c8).ownBlock) rfl rfl HM1.out (fun _ hk => ⟨trivial, hk⟩) (fun _ _ => trivial) HR.out (Below.refl _ _) hgl HL.out ?_; intro v1 w1 hR1 hB1 hgr hat; have hown : ∀ kk, (Value.slice A8 m c8).ownBlock = some kk → g + 1 ≤ kk := Kd.R_base HR.out; have hg1 := (hgr.block _ hgl (fun ek => by have := hown _ ek.symm; omega)).trans HG.out; have hb1 : Below w0.heap.size w0 w1 := HB0.out.grown hgr HB0.out.size (fun kk ek => by have := hown kk ek; omega); have hkp : Kept w w1 (fun k => k = g ∨ (Value.slice A8 m c8).ownBlock = some k) := Kept.of_grown hgr (Kept.refl _ _) (fun kk ek => .inl (.inr ek)); obtain ⟨A9, c9, rfl⟩ := Kd.R_slice hR1; rw [List.length_append, List.length_singleton] at hR1 hat; have hc8 : w1.cell? ⟨g, 8, none⟩ = some (.slice A8 m c8) := (q66 hg1 8).trans rfl; have hf8 := q70 hg1 8; have HG1 := Lib.hid hg1; have HB1 := Lib.hid hb1; have HKP := Lib.hid hkp; have HR1 := Lib.hid hR1; have HAT := Lib.hid hat; clear hgr hB1 hg1 hb1 hkp hR1 hat hown))
 refine bodyPost_end (results_none rfl _ _ _) rfl ?_
 refine ⟨rfl, .slice A9 (rs.length + 1) c9, ⟨HB1.out.setCell hwg _, hwg, q71 HG1.out 8 _ rfl, R_set2x HR1.out _ _ (Nat.lt_succ_self g)⟩, HKP.out.setCell (p := ⟨g, 8, none⟩) (.inl (.inl rfl)) _, fun k ek => ?_⟩
 rcases HAT.out with e | ⟨b, e, hb⟩
 ·exact .inl (e ▸ ek)
 ·rw [ek] at e
  cases e
  exact .inr hb
def Mm (c : Mc) (w0 : World) : Prop := Kd.C Kd.string w0 c.A0 c.fs.length c.fs ∧ c.fs.length ≤ c.c0 ∧ Kd.C k41 w0 c.A1 c.l.length c.l ∧ c.l.length ≤ c.c1 ∧ c.l.length ≤ 1000 ∧ (0 ≤ c.la ∧ c.la ≤ 100000) ∧ ∀ x ∈ c.l, (x.f5 ++ x.f6).length ≤ 6 ∧ ∀ s ∈ x.f5 ++ x.f6, s.f0.length ≤ 3 ∧ s.f1.length ≤ 2
def Mg (c : Mc) (w : World) (g : Nat) : Prop := ∃ vr vc vu, w.heap[g]? = some (.cells (Mcells c vr vc vu) 58 (0, 0))
theorem Mr.mg {c : Mc} {w0 w : World} {g : Nat} {vr : Value} {rs : List (S72)} (h : Mr c w0 w g vr rs) : Mg c w g := ⟨_, _, _, h.2.2.1⟩
def passF (la : Int) (i f : Int) : Int := la + 6 * i + f
set_option maxHeartbeats 4000000 in
set_option maxRecDepth 100000 in
theorem pass_any (c : Mc) (w : World) (g : Nat) (i f : Int) (hG : Mg c w g) (hla : 0 ≤ c.la ∧ c.la ≤ 100000) (hi : 0 ≤ i ∧ i ≤ 1000) (hf : 0 ≤ f ∧ f ≤ 10) :
 Calls Try.prog 70 #[.pointer (some ⟨g, 0, none⟩), .int .i64 i, .int .i64 f] w fun e w' => e = .returned (.int .i64 (passF c.la i f)) ∧ w' = w := by
 have hu32 := Try.underlying32
 have hu58 := Try.underlying58
 obtain ⟨vr, vc, vu, hg⟩ := hG
 have hcz : w.cell? ⟨g, 3, none⟩ = some (.int .i64 c.la) := (q66 hg 3).trans rfl
 have h1 : wrap64 (6 * i) = 6 * i := by unfold wrap64; omega
 have h2 : wrap64 (c.la + 6 * i) = c.la + 6 * i := by unfold wrap64; omega
 have h3 : wrap64 (c.la + 6 * i + f) = passF c.la i f := by unfold wrap64 passF; omega
 obtain ⟨la, hla'⟩ : ∃ la, la = c.la := ⟨_, rfl⟩
 rw [← hla'] at hcz h2 h3 ⊢
 obtain ⟨R, hR⟩ : ∃ R, R = passF la i f := ⟨_, rfl⟩
 rw [← hR] at h3 ⊢
 clear hg hla hi hf hla' hR
 go_enter Try.func70, Try.ntmps70
 go_wp2
 go_ret
 exact ⟨by show Ending.returned (.int .i64 (wrap64 (la + 6 * i + f))) = _; rw [h3], rfl⟩
theorem R_voidN {α : Type} (d : Kd α) (e base : Nat) (w : World) (ok : Nat → Prop) (hok : ok w.heap.size) (hb : base ≤ w.heap.size) : d.R e (w.alloc (.cells #[] e)) base ok (.slice (some ⟨w.heap.size, 0, none⟩) 0 0) [] := by
 refine ⟨fun k hk => ?_, [], ?_, ⟨by simp, fun j p hj => by simp at hj⟩⟩
 ·have : w.heap.size = k := by simpa [Value.ownBlock] using hk
  subst this
  exact hok
 ·have h2 := World.ownsRow_lit (base := base) (e := e) (size := d.sz) w #[] 0 hb (by simp [maxLen]) (by simp)
  simpa using h2
def kRaw (n : Nat) : Kd (List Value) where
 sz := n
 E := []
 K := fun _ x cs => cs = x ∧ x.length = n ∧ ∀ u ∈ x, u.oneCell' = true
 M := fun _ _ _ x cs => cs = x ∧ x.length = n ∧ ∀ u ∈ x, u.oneCell' = true
 K_len := fun h => by rw [h.1]; exact h.2.1
 K_one := fun h u hu => h.2.2 u (h.1 ▸ hu)
 K_below := fun _ h => h
 K_of_M := fun h => h
 M_mono := fun _ h => h
 M_bound := fun h => h
 M_move := fun _ h => h
 M_lower := fun _ h => h
theorem C_raw {α : Type} {d : Kd α} {w : World} {A : Option Addr} {n : Nat} {xs : List α} (h : Kd.C d w A n xs) : ∃ rows : List (List Value), rows.length = n ∧ Kd.C (kRaw d.sz) w A n rows ∧ ∀ (j : Nat) (p : α), xs[j]? = some p → ∃ cs, rows[j]? = some cs ∧ d.K w p cs := by
  obtain ⟨h1, h2, h3⟩ := h
  rcases Nat.eq_zero_or_pos n with rfl | hp
  · refine ⟨[], rfl, ⟨rfl, h2, fun hp => absurd hp (by omega)⟩, fun j p hj => ?_⟩
    have := (List.getElem?_eq_some_iff.1 hj).1
    omega
  · obtain ⟨ad, e, hc⟩ := h3 hp
    have hex : ∀ j : Nat, ∃ c : List Value, ∀ p, xs[j]? = some p → c.length = d.sz ∧ d.K w p c ∧ ∀ i u, c[i]? = some u → w.cell? (ad.add (j * d.sz + i)) = some u := by
      intro j
      cases hx : xs[j]? with
      | none => exact ⟨[], fun p hp => by cases hp⟩
      | some p =>
        obtain ⟨c, h⟩ := hc j p hx
        exact ⟨c, fun q hq => by cases hq; exact h⟩
    obtain ⟨f, hf⟩ := Classical.axiomOfChoice hex
    have hget : ∀ j, j < n → ((List.range n).map f)[j]? = some (f j) := fun j hj => by simp [hj]
    refine ⟨(List.range n).map f, by simp, ⟨by simp, h2, fun _ => ⟨ad, e, fun j p hj => ?_⟩⟩, fun j p hj => ?_⟩
    · have hjn : j < n := by have := (List.getElem?_eq_some_iff.1 hj).1; simpa using this
      rw [hget j hjn] at hj
      cases hj
      have hx : xs[j]? = some (xs[j]'(by omega)) := List.getElem?_eq_getElem _
      obtain ⟨a, b, c⟩ := hf j _ hx
      exact ⟨f j, a, ⟨rfl, a, d.K_one b⟩, c⟩
    · have hjn : j < n := by have := (List.getElem?_eq_some_iff.1 hj).1; omega
      exact ⟨f j, hget j hjn, (hf j p hj).2.1⟩
theorem iOn_ : (Try.prog.info? 101).map (fun i => (i.zero, i.size, i.bytes)) = some (some (.agg #[.string ⟨#[]⟩, .int .i64 0]), 2, 24) := by kernel_rfl
theorem iCond_ : (Try.prog.info? 90).map (fun i => (i.zero, i.size, i.bytes)) = some (some (.agg #[.string ⟨#[]⟩, .string ⟨#[]⟩, .int .i64 0]), 3, 40) := by kernel_rfl
theorem iSent_ : (Try.prog.info? 45).map (fun i => (i.zero, i.size, i.bytes)) = some (some (.agg #[.slice none 0 0, .slice none 0 0]), 2, 48) := by kernel_rfl
theorem iItem_ : (Try.prog.info? 41).map (fun i => (i.zero, i.size, i.bytes)) = some (some (.agg #[.string ⟨#[]⟩, .int .i64 0, .string ⟨#[]⟩, .bool false, .int .i64 0, .slice none 0 0, .slice none 0 0]), 7, 104) := by kernel_rfl
set_option maxHeartbeats 2000000 in
set_option maxRecDepth 100000 in
theorem cl_str (w : World) (A : Option Addr) (c : Nat) (l : List (ByteArray)) (hr : Kd.C Kd.string w A l.length l) (hc : l.length ≤ c) (hl : l.length * 16 ≤ 140737488355328) :
    Calls Try.prog 24 #[.slice A l.length c] w fun e w' => ∃ v, e = .returned v ∧ Kd.R Kd.string 9 w' w.heap.size (fun _ => True) v l ∧ Below w.heap.size w w' := by
  cases A with
  | none =>
    have h0 : l = [] := by
      rcases l with _ | ⟨a, l⟩
      · rfl
      · obtain ⟨ad, e, _⟩ := hr.2.2 (by simp)
        cases e
    subst h0
    clear hr
    have hz : ∀ W, (binOp .eql 22 (.slice none 0 c) (.slice none 0 0)).run Try.prog W = .ok (.bool true) W := fun W => Lib.run_eql_slice_nil W 22 9 none 0 c 0 0 Try.underlying22
    go_enter Try.func24, Try.ntmps24
    go_wp2
    go_ret
    exact ⟨_, rfl, Kd.R_nil _ _ _ _ _, Below.refl _ _⟩
  | some ad =>
    have HR := Lib.hid hr
    obtain ⟨n, hn⟩ : ∃ n, n = l.length := ⟨_, rfl⟩
    have HN := Lib.hid hn
    rw [← hn] at hc hl ⊢
    clear hr hn
    have hz : ∀ W, (binOp .eql 22 (.slice (some ad) n c) (.slice none 0 0)).run Try.prog W = .ok (.bool false) W := fun W => Lib.run_eql_slice_nil W 22 9 (some ad) n c 0 0 Try.underlying22
    go_enter Try.func24, Try.ntmps24
    go_wp2_with (first | ((with_reducible refine q72 (b := .append) (xs := #[.tmp 5, .tmp 6]) rfl ?_); at_builtin; refine Kd.R_append_rows Kd.string (w0 := w) w.heap.size rfl (.tmp 5) (.tmp 6) 22 9 (.string ⟨#[]⟩) 16 rfl Try.underlying22 info9 rfl (by decide) (by omega) (.slice (some ⟨w.heap.size, 0, none⟩) 0 0) [] l _ _ _ (fun _ => True) (fun _ => False) rfl rfl (R_voidN Kd.string 9 w.heap.size w _ trivial (Nat.le_refl _)) (HN.out ▸ Kd.C_alloc HR.out _) (fun _ _ h => h) (fun _ h => h.elim) (fun _ _ => trivial) (q60 (Below.refl _ _) _) (q60 (Below.refl _ _) _).size (by simpa using hl) ?_; intro v2 w2 hR2 hB2 hg1 hg2; clear hg1 hg2))
    go_ret
    exact ⟨_, rfl, hR2, hB2⟩
set_option maxHeartbeats 2000000 in
set_option maxRecDepth 100000 in
theorem cl_on (w : World) (A : Option Addr) (c : Nat) (l : List (S101)) (hr : Kd.C k101 w A l.length l) (hc : l.length ≤ c) (hl : l.length * 24 ≤ 140737488355328) :
    Calls Try.prog 89 #[.slice A l.length c] w fun e w' => ∃ v, e = .returned v ∧ Kd.R k101 101 w' w.heap.size (fun _ => True) v l ∧ Below w.heap.size w w' := by
  cases A with
  | none =>
    have h0 : l = [] := by
      rcases l with _ | ⟨a, l⟩
      · rfl
      · obtain ⟨ad, e, _⟩ := hr.2.2 (by simp)
        cases e
    subst h0
    clear hr
    have hz : ∀ W, (binOp .eql 42 (.slice none 0 c) (.slice none 0 0)).run Try.prog W = .ok (.bool true) W := fun W => Lib.run_eql_slice_nil W 42 101 none 0 c 0 0 Try.underlying42
    go_enter Try.func89, Try.ntmps89
    go_wp2
    go_ret
    exact ⟨_, rfl, Kd.R_nil _ _ _ _ _, Below.refl _ _⟩
  | some ad =>
    have HR := Lib.hid hr
    obtain ⟨n, hn⟩ : ∃ n, n = l.length := ⟨_, rfl⟩
    have HN := Lib.hid hn
    rw [← hn] at hc hl ⊢
    clear hr hn
    have hz : ∀ W, (binOp .eql 42 (.slice (some ad) n c) (.slice none 0 0)).run Try.prog W = .ok (.bool false) W := fun W => Lib.run_eql_slice_nil W 42 101 (some ad) n c 0 0 Try.underlying42
    go_enter Try.func89, Try.ntmps89
    go_wp2_with (first | ((with_reducible refine q72 (b := .append) (xs := #[.tmp 5, .tmp 6]) rfl ?_); at_builtin; refine Kd.R_append_rows k101 (w0 := w) w.heap.size rfl (.tmp 5) (.tmp 6) 42 101 (.agg #[.string ⟨#[]⟩, .int .i64 0]) 24 rfl Try.underlying42 iOn_ rfl (by decide) (by omega) (.slice (some ⟨w.heap.size, 0, none⟩) 0 0) [] l _ _ _ (fun _ => True) (fun _ => False) rfl rfl (R_voidN k101 101 w.heap.size w _ trivial (Nat.le_refl _)) (HN.out ▸ Kd.C_alloc HR.out _) (fun _ _ h => h) (fun _ h => h.elim) (fun _ _ => trivial) (q60 (Below.refl _ _) _) (q60 (Below.refl _ _) _).size (by simpa using hl) ?_; intro v2 w2 hR2 hB2 hg1 hg2; clear hg1 hg2))
    go_ret
    exact ⟨_, rfl, hR2, hB2⟩
set_option maxHeartbeats 2000000 in
set_option maxRecDepth 100000 in
theorem cl_cond (w : World) (A : Option Addr) (c : Nat) (l : List (S90)) (hr : Kd.C k90 w A l.length l) (hc : l.length ≤ c) (hl : l.length * 40 ≤ 140737488355328) :
    Calls Try.prog 65 #[.slice A l.length c] w fun e w' => ∃ v, e = .returned v ∧ Kd.R k90 90 w' w.heap.size (fun _ => True) v l ∧ Below w.heap.size w w' := by
  cases A with
  | none =>
    have h0 : l = [] := by
      rcases l with _ | ⟨a, l⟩
      · rfl
      · obtain ⟨ad, e, _⟩ := hr.2.2 (by simp)
        cases e
    subst h0
    clear hr
    have hz : ∀ W, (binOp .eql 43 (.slice none 0 c) (.slice none 0 0)).run Try.prog W = .ok (.bool true) W := fun W => Lib.run_eql_slice_nil W 43 90 none 0 c 0 0 Try.underlying43
    go_enter Try.func65, Try.ntmps65
    go_wp2
    go_ret
    exact ⟨_, rfl, Kd.R_nil _ _ _ _ _, Below.refl _ _⟩
  | some ad =>
    have HR := Lib.hid hr
    obtain ⟨n, hn⟩ : ∃ n, n = l.length := ⟨_, rfl⟩
    have HN := Lib.hid hn
    rw [← hn] at hc hl ⊢
    clear hr hn
    have hz : ∀ W, (binOp .eql 43 (.slice (some ad) n c) (.slice none 0 0)).run Try.prog W = .ok (.bool false) W := fun W => Lib.run_eql_slice_nil W 43 90 (some ad) n c 0 0 Try.underlying43
    go_enter Try.func65, Try.ntmps65
    go_wp2_with (first | ((with_reducible refine q72 (b := .append) (xs := #[.tmp 5, .tmp 6]) rfl ?_); at_builtin; refine Kd.R_append_rows k90 (w0 := w) w.heap.size rfl (.tmp 5) (.tmp 6) 43 90 (.agg #[.string ⟨#[]⟩, .string ⟨#[]⟩, .int .i64 0]) 40 rfl Try.underlying43 iCond_ rfl (by decide) (by omega) (.slice (some ⟨w.heap.size, 0, none⟩) 0 0) [] l _ _ _ (fun _ => True) (fun _ => False) rfl rfl (R_voidN k90 90 w.heap.size w _ trivial (Nat.le_refl _)) (HN.out ▸ Kd.C_alloc HR.out _) (fun _ _ h => h) (fun _ h => h.elim) (fun _ _ => trivial) (q60 (Below.refl _ _) _) (q60 (Below.refl _ _) _).size (by simpa using hl) ?_; intro v2 w2 hR2 hB2 hg1 hg2; clear hg1 hg2))
    go_ret
    exact ⟨_, rfl, hR2, hB2⟩
set_option maxHeartbeats 2000000 in
set_option maxRecDepth 100000 in
theorem cl_sentry (w : World) (A : Option Addr) (c : Nat) (l : List (List Value)) (hr : Kd.C (kRaw 2) w A l.length l) (hc : l.length ≤ c) (hl : l.length * 48 ≤ 140737488355328) :
    Calls Try.prog 88 #[.slice A l.length c] w fun e w' => ∃ v, e = .returned v ∧ Kd.R (kRaw 2) 45 w' w.heap.size (fun _ => True) v l ∧ Below w.heap.size w w' := by
  cases A with
  | none =>
    have h0 : l = [] := by
      rcases l with _ | ⟨a, l⟩
      · rfl
      · obtain ⟨ad, e, _⟩ := hr.2.2 (by simp)
        cases e
    subst h0
    clear hr
    have hz : ∀ W, (binOp .eql 39 (.slice none 0 c) (.slice none 0 0)).run Try.prog W = .ok (.bool true) W := fun W => Lib.run_eql_slice_nil W 39 45 none 0 c 0 0 Try.underlying39
    go_enter Try.func88, Try.ntmps88
    go_wp2
    go_ret
    exact ⟨_, rfl, Kd.R_nil _ _ _ _ _, Below.refl _ _⟩
  | some ad =>
    have HR := Lib.hid hr
    obtain ⟨n, hn⟩ : ∃ n, n = l.length := ⟨_, rfl⟩
    have HN := Lib.hid hn
    rw [← hn] at hc hl ⊢
    clear hr hn
    have hz : ∀ W, (binOp .eql 39 (.slice (some ad) n c) (.slice none 0 0)).run Try.prog W = .ok (.bool false) W := fun W => Lib.run_eql_slice_nil W 39 45 (some ad) n c 0 0 Try.underlying39
    go_enter Try.func88, Try.ntmps88
    go_wp2_with (first | ((with_reducible refine q72 (b := .append) (xs := #[.tmp 5, .tmp 6]) rfl ?_); at_builtin; refine Kd.R_append_rows (kRaw 2) (w0 := w) w.heap.size rfl (.tmp 5) (.tmp 6) 39 45 (.agg #[.slice none 0 0, .slice none 0 0]) 48 rfl Try.underlying39 iSent_ rfl (by decide) (by omega) (.slice (some ⟨w.heap.size, 0, none⟩) 0 0) [] l _ _ _ (fun _ => True) (fun _ => False) rfl rfl (R_voidN (kRaw 2) 45 w.heap.size w _ trivial (Nat.le_refl _)) (HN.out ▸ Kd.C_alloc HR.out _) (fun _ _ h => h) (fun _ h => h.elim) (fun _ _ => trivial) (q60 (Below.refl _ _) _) (q60 (Below.refl _ _) _).size (by simpa using hl) ?_; intro v2 w2 hR2 hB2 hg1 hg2; clear hg1 hg2))
    go_ret
    exact ⟨_, rfl, hR2, hB2⟩
set_option maxHeartbeats 2000000 in
set_option maxRecDepth 100000 in
theorem cl_item (w : World) (A : Option Addr) (c : Nat) (l : List (List Value)) (hr : Kd.C (kRaw 7) w A l.length l) (hc : l.length ≤ c) (hl : l.length * 104 ≤ 140737488355328) :
    Calls Try.prog 62 #[.slice A l.length c] w fun e w' => ∃ v, e = .returned v ∧ Kd.R (kRaw 7) 41 w' w.heap.size (fun _ => True) v l ∧ Below w.heap.size w w' := by
  cases A with
  | none =>
    have h0 : l = [] := by
      rcases l with _ | ⟨a, l⟩
      · rfl
      · obtain ⟨ad, e, _⟩ := hr.2.2 (by simp)
        cases e
    subst h0
    clear hr
    have hz : ∀ W, (binOp .eql 23 (.slice none 0 c) (.slice none 0 0)).run Try.prog W = .ok (.bool true) W := fun W => Lib.run_eql_slice_nil W 23 41 none 0 c 0 0 Try.underlying23
    go_enter Try.func62, Try.ntmps62
    go_wp2
    go_ret
    exact ⟨_, rfl, Kd.R_nil _ _ _ _ _, Below.refl _ _⟩
  | some ad =>
    have HR := Lib.hid hr
    obtain ⟨n, hn⟩ : ∃ n, n = l.length := ⟨_, rfl⟩
    have HN := Lib.hid hn
    rw [← hn] at hc hl ⊢
    clear hr hn
    have hz : ∀ W, (binOp .eql 23 (.slice (some ad) n c) (.slice none 0 0)).run Try.prog W = .ok (.bool false) W := fun W => Lib.run_eql_slice_nil W 23 41 (some ad) n c 0 0 Try.underlying23
    go_enter Try.func62, Try.ntmps62
    go_wp2_with (first | ((with_reducible refine q72 (b := .append) (xs := #[.tmp 5, .tmp 6]) rfl ?_); at_builtin; refine Kd.R_append_rows (kRaw 7) (w0 := w) w.heap.size rfl (.tmp 5) (.tmp 6) 23 41 (.agg #[.string ⟨#[]⟩, .int .i64 0, .string ⟨#[]⟩, .bool false, .int .i64 0, .slice none 0 0, .slice none 0 0]) 104 rfl Try.underlying23 iItem_ rfl (by decide) (by omega) (.slice (some ⟨w.heap.size, 0, none⟩) 0 0) [] l _ _ _ (fun _ => True) (fun _ => False) rfl rfl (R_voidN (kRaw 7) 41 w.heap.size w _ trivial (Nat.le_refl _)) (HN.out ▸ Kd.C_alloc HR.out _) (fun _ _ h => h) (fun _ h => h.elim) (fun _ _ => trivial) (q60 (Below.refl _ _) _) (q60 (Below.refl _ _) _).size (by simpa using hl) ?_; intro v2 w2 hR2 hB2 hg1 hg2; clear hg1 hg2))
    go_ret
    exact ⟨_, rfl, hR2, hB2⟩
set_option maxHeartbeats 2000000 in
set_option maxRecDepth 100000 in
theorem growS_call (w : World) (n : Nat) (hl : n * 48 ≤ 140737488355328) :
 Calls Try.prog 97 #[.slice none 0 0, .int .i64 n] w fun e w' => ∃ v, e = .returned v ∧ Kd.R (kRaw 2) 45 w' w.heap.size (fun _ => True) v [] ∧ Below w.heap.size w w' := by
 have h1 : ¬ (n : Int) < 0 := by omega
 rcases Nat.eq_zero_or_pos n with rfl | h0
 ·go_enter Try.func97, Try.ntmps97
  go_wp2
  go_ret
  exact ⟨_, rfl, Kd.R_nil _ _ _ _ _, Below.refl _ _⟩
 have h2 : (n : Int) > 0 := by omega
 go_enter Try.func97, Try.ntmps97
 go_wp2_with (first | ((with_reducible refine q72 (b := .append) (xs := #[.tmp 20, .tmp 21]) rfl ?_); at_builtin; refine Kd.R_append_zeros (kRaw 2) (w0 := w) w.heap.size rfl (.tmp 20) (.tmp 21) 39 3 45 (.agg #[.slice none 0 0, .slice none 0 0]) 48 rfl Try.underlying39 Try.underlying3 iSent_ rfl (by decide) (by omega) (.slice none 0 0) [] [.slice none 0 0, .slice none 0 0] n (fun _ => True) rfl rfl ⟨rfl, rfl, by decide⟩ (fun _ _ => trivial) (Kd.R_nil _ _ _ _ _) (by omega) (Below.refl _ _) (Nat.le_refl _) (by simpa using hl) ?_; intro v1 w1 hR1 hB1 hg1 hg2; clear hg1 hg2; obtain ⟨A1, c1, rfl⟩ := Kd.R_slice hR1; have hRT := Kd.R_take hR1 (Nat.zero_le _)))
 go_ret
 exact ⟨_, rfl, by simpa using hRT, hB1⟩
def totS (f : Nat → Nat) : Nat → Nat
 | 0 => 0
 | i + 1 => totS f i + f i
def catS (bs : Nat → List (List Value)) : Nat → List (List Value)
 | 0 => []
 | i + 1 => catS bs i ++ bs i
theorem catS_length (bs : Nat → List (List Value)) (i : Nat) : (catS bs i).length = totS (fun k => (bs k).length) i := by
 induction i with
 | zero => rfl
 | succ i ih => simp only [catS, totS, List.length_append, ih]
theorem totS_le (f : Nat → Nat) {i j : Nat} (h : i ≤ j) : totS f i ≤ totS f j := by
  induction j with
  | zero => obtain rfl : i = 0 := by omega
            exact Nat.le_refl _
  | succ j ih =>
    rcases Nat.lt_or_ge j i with h' | h'
    · obtain rfl : i = j + 1 := by omega
      exact Nat.le_refl _
    · have := ih h'
      simp only [totS]
      omega
set_option maxHeartbeats 4000000 in
set_option maxRecDepth 100000 in
theorem concatS_call (w : World) (rw_ : Addr) (m : Nat) (A : Nat → Option Addr) (c : Nat → Nat) (bs : Nat → List (List Value))
 (hcell : ∀ i, i < m → w.cell? (rw_.add i) = some (.slice (A i) (bs i).length (c i))) (hC : ∀ i, i < m → Kd.C (kRaw 2) w (A i) (bs i).length (bs i)) (hm : m ≤ 1000) (hl : totS (fun k => (bs k).length) m ≤ 1000000) :
 Calls Try.prog 90 #[.slice (some rw_) m m] w fun e w' => ∃ v, e = .returned v ∧ Kd.R (kRaw 2) 45 w' w.heap.size (fun _ => True) v (catS bs m) ∧ Below w.heap.size w w' := by
 have HC := Lib.hid hC
 have HCell := Lib.hid hcell
 clear hC hcell
 go_enter Try.func90, Try.ntmps90
 go_wp2
 go_loopg [3, 11] m (fun gg s3 s11 wr => ∃ i : Nat, s3 = .int .i64 (totS (fun k => (bs k).length) i : Nat) ∧ s11 = .int .i64 i ∧ i ≤ m ∧ m - i ≤ gg ∧ wr = w)
 case atStart => exact ⟨0, rfl, rfl, Nat.zero_le _, by omega, rfl⟩
 case round =>
  obtain ⟨i, rfl, rfl, him, hig, rfl⟩ := hrel
  obtain ⟨w0_, rfl⟩ : ∃ w0_, w0_ = wr := ⟨_, rfl⟩
  by_cases hlt : i < m
  case pos =>
   have hltz : (i : Int) < (m : Int) := by omega
   have hx0 := HCell.out i hlt
   have hle := totS_le (fun k => (bs k).length) (show i + 1 ≤ m by omega)
   have hsum : totS (fun k => (bs k).length) (i + 1) = totS (fun k => (bs k).length) i + (bs i).length := rfl
   obtain ⟨n, hn⟩ : ∃ n, n = (bs i).length := ⟨_, rfl⟩
   obtain ⟨t, ht⟩ : ∃ t, t = totS (fun k => (bs k).length) i := ⟨_, rfl⟩
   rw [← hn] at hx0 hsum
   rw [← ht] at hsum ⊢
   have HS := Lib.hid hsum
   have htn : t + n ≤ 1000000 := by omega
   have hneg : ¬ (t : Int) + (n : Int) < 0 := by omega
   have hw : wrap64 ((t : Int) + (n : Int)) = (t : Int) + (n : Int) := by unfold wrap64; omega
   clear hn ht hle hsum
   go_wp2
   go_roundg (m - (i + 1))
   case measure => omega
   case rel => exact ⟨i + 1, by rw [HS.out]; go_num, by go_num, by omega, by omega, rfl⟩
  have hltz : ¬ (i : Int) < (m : Int) := by omega
  obtain rfl : m = i := by omega
  obtain ⟨t, ht⟩ : ∃ t, t = totS (fun k => (bs k).length) m := ⟨_, rfl⟩
  rw [← ht] at hl ⊢
  have HT := Lib.hid ht
  clear ht
  go_wp2_with fail
  refine (growS_call w0_ t (by omega)).mono ?_
  rintro e w1 ⟨v1, rfl, hR1, hB1⟩
  have HR1 := Lib.hid hR1
  have HB1 := Lib.hid hB1
  clear hR1 hB1
  go_wp2
  go_loopg [6, 27] m (fun gg s6 s27 wq => ∃ i : Nat, s27 = .int .i64 i ∧ i ≤ m ∧ m - i ≤ gg ∧ Hid (Kd.R (kRaw 2) 45 wq w0_.heap.size (fun _ => True) s6 (catS bs i) ∧ Below w0_.heap.size w0_ wq))
  case atStart => exact ⟨0, rfl, Nat.zero_le _, by omega, Lib.hid ⟨HR1.out, HB1.out⟩⟩
  case round =>
   obtain ⟨i, rfl, hin, hjg, Y⟩ := hrel
   obtain ⟨wz, rfl⟩ : ∃ wz, wz = wr := ⟨_, rfl⟩
   obtain ⟨hR, hB⟩ := Y.out
   obtain ⟨Av, cv, rfl⟩ := Kd.R_slice hR
   by_cases hlk : i < m
   case neg =>
    have hltj : ¬ (i : Int) < (m : Int) := by omega
    obtain rfl : m = i := by omega
    have HR := Lib.hid hR
    have HB := Lib.hid hB
    clear hR hB Y
    go_wp2
    go_ret
    exact ⟨_, rfl, HR.out, HB.out⟩
   have hltj : (i : Int) < (m : Int) := by omega
   have hx0 := q76 hB (HCell.out i hlk)
   have hle := totS_le (fun k => (bs k).length) (show i + 1 ≤ m by omega)
   have hsum : totS (fun k => (bs k).length) (i + 1) = totS (fun k => (bs k).length) i + (bs i).length := rfl
   have hcl := catS_length bs i
   have hCi := Kd.C_below (HC.out i hlk) hB
   obtain ⟨n, hn⟩ : ∃ n, n = (bs i).length := ⟨_, rfl⟩
   obtain ⟨lv, hlv⟩ : ∃ lv, lv = (catS bs i).length := ⟨_, rfl⟩
   rw [← hn] at hx0 hsum hCi
   have hfit : ((catS bs i).length + n) * 48 ≤ 140737488355328 := by have := HT.out; omega
   rw [← hlv] at hR ⊢
   have HR := Lib.hid hR
   have HB := Lib.hid hB
   have HCI := Lib.hid hCi
   have HFIT := Lib.hid hfit
   clear hR hB Y hn hle hsum hcl hlv hCi hfit
   go_wp2_with (first | ((with_reducible refine q72 (b := .append) (xs := #[.tmp 31, .tmp 32]) rfl ?_); at_builtin; refine Kd.R_append_rows (kRaw 2) (w0 := w0_) w0_.heap.size rfl (.tmp 31) (.tmp 32) 39 45 (.agg #[.slice none 0 0, .slice none 0 0]) 48 rfl Try.underlying39 iSent_ rfl (by decide) (by omega) (.slice Av lv cv) (catS bs i) (bs i) _ _ _ (fun _ => True) (fun _ => False) rfl rfl HR.out HCI.out (fun _ _ h => h) (fun _ h => h.elim) (fun _ _ => trivial) HB.out HB.out.size HFIT.out ?_; intro v2 w2 hR2 hB2 hg1 hg2; clear hg1 hg2; have HR2 := Lib.hid hR2; have HB2 := Lib.hid hB2; clear hR2 hB2))
   go_roundg (m - (i + 1))
   case measure => omega
   case rel => exact ⟨i + 1, by go_num, by omega, by omega, Lib.hid ⟨HR2.out, HB2.out⟩⟩
theorem raw_C {α : Type} {d : Kd α} {w : World} {A : Option Addr} {n : Nat} {rows : List (List Value)} {xs : List α} (h : Kd.C (kRaw d.sz) w A n rows) (hl : xs.length = n) (hK : ∀ (j : Nat) (p : α), xs[j]? = some p → ∃ cs, rows[j]? = some cs ∧ d.K w p cs) : Kd.C d w A n xs := by
 obtain ⟨h1, h2, h3⟩ := h
 refine ⟨hl, h2, fun hp => ?_⟩
 obtain ⟨ad, e, hc⟩ := h3 hp
 refine ⟨ad, e, fun j p hj => ?_⟩
 obtain ⟨cs, h4, h5⟩ := hK j p hj
 obtain ⟨c, h6, ⟨rfl, -⟩, h7⟩ := hc j cs h4
 exact ⟨c, h6, h5, h7⟩
set_option maxHeartbeats 4000000 in
set_option maxRecDepth 100000 in
theorem sentries_call (x : S41) (A5 : Option Addr) (c5 : Nat) (A6 : Option Addr) (c6 : Nat) (w : World) (h5 : Kd.C k45 w A5 x.f5.length x.f5) (h6 : Kd.C k45 w A6 x.f6.length x.f6) (hl : x.f5.length + x.f6.length ≤ 1000) :
 Calls Try.prog 64 #[.agg #[.string x.f0, .int .i64 x.f1, .string x.f2, .bool x.f3, .int .i64 x.f4, .slice A5 x.f5.length c5, .slice A6 x.f6.length c6]] w fun e w' => ∃ A c, e = .returned (.slice A (x.f5 ++ x.f6).length c) ∧ (x.f5 ++ x.f6).length ≤ c ∧ Kd.C k45 w' A (x.f5 ++ x.f6).length (x.f5 ++ x.f6) ∧ (∀ ad, A = some ad → w.heap.size ≤ ad.block) ∧ Below w.heap.size w w' := by
 have hu41 := Try.underlying41
 obtain ⟨r5, hr5, hC5, hK5⟩ := C_raw h5
 obtain ⟨r6, hr6, hC6, hK6⟩ := C_raw h6
 obtain ⟨W2, hW2⟩ : ∃ W2, W2 = (w.alloc (.cells #[.string x.f0, .int .i64 x.f1, .string x.f2, .bool x.f3, .int .i64 x.f4, .slice A5 x.f5.length c5, .slice A6 x.f6.length c6] 41)).alloc (.cells #[.slice A5 x.f5.length c5, .slice A6 x.f6.length c6] 39) := ⟨_, rfl⟩
 have hb2 : Below w.heap.size w W2 := by rw [hW2]; exact q60 (q60 (Below.refl _ _) _) _
 have hg2 : W2.heap[w.heap.size + 1]? = some (.cells #[.slice A5 x.f5.length c5, .slice A6 x.f6.length c6] 39 (0, 0)) := by
  rw [hW2, show w.heap.size + 1 = (w.alloc (.cells #[.string x.f0, .int .i64 x.f1, .string x.f2, .bool x.f3, .int .i64 x.f4, .slice A5 x.f5.length c5, .slice A6 x.f6.length c6] 41)).heap.size by simp]
  exact heap_alloc_new _ _
 have hcat : catS (fun i => if i = 0 then r5 else r6) 2 = r5 ++ r6 := by simp [catS]
 have htot : totS (fun k => ((fun i => if i = 0 then r5 else r6) k).length) 2 ≤ 1000000 := by simp [totS]; omega
 have hcc := concatS_call W2 ⟨w.heap.size + 1, 0, none⟩ 2 (fun i => if i = 0 then A5 else A6) (fun i => if i = 0 then c5 else c6) (fun i => if i = 0 then r5 else r6) (by
  intro i hi
  have : i = 0 ∨ i = 1 := by omega
  rcases this with rfl | rfl
  ·show W2.cell? ⟨w.heap.size + 1, 0, none⟩ = some (.slice A5 r5.length c5)
   rw [hr5]; exact (q66 hg2 0).trans rfl
  ·show W2.cell? ⟨w.heap.size + 1, 1, none⟩ = some (.slice A6 r6.length c6)
   rw [hr6]; exact (q66 hg2 1).trans rfl) (by
  intro i hi
  have : i = 0 ∨ i = 1 := by omega
  rcases this with rfl | rfl
  ·show Kd.C (kRaw 2) W2 A5 r5.length r5
   rw [hr5]; exact Kd.C_below hC5 hb2
  ·show Kd.C (kRaw 2) W2 A6 r6.length r6
   rw [hr6]; exact Kd.C_below hC6 hb2) (by omega) htot
 rw [hcat] at hcc
 have HFIN : Hid (∀ (e : Ending) (w' : World) (v : Value), e = .returned v → Kd.R (kRaw 2) 45 w' W2.heap.size (fun _ => True) v (r5 ++ r6) → Below W2.heap.size W2 w' → ∃ A c, e = .returned (.slice A (x.f5 ++ x.f6).length c) ∧ (x.f5 ++ x.f6).length ≤ c ∧ Kd.C k45 w' A (x.f5 ++ x.f6).length (x.f5 ++ x.f6) ∧ (∀ ad, A = some ad → w.heap.size ≤ ad.block) ∧ Below w.heap.size w w') := Lib.hid (by
  intro e w' v he hR hb
  obtain ⟨A, c, rfl⟩ := Kd.R_slice hR
  have hlen : (r5 ++ r6).length = (x.f5 ++ x.f6).length := by rw [List.length_append, List.length_append, hr5, hr6]
  have hrd := Kd.R_reads' hR
  have hbw := q63 hb2 hb2.size hb
  rw [hlen] at he hrd
  refine ⟨A, c, he, hrd.2.1, raw_C hrd.2.2 rfl ?_, fun ad e => ?_, hbw⟩
  ·intro j p hj
   rw [List.getElem?_append] at hj
   rw [List.getElem?_append, hr5]
   split at hj
   ·rename_i hlt
    rw [if_pos hlt]
    obtain ⟨cs, h1, h2⟩ := hK5 j p hj
    exact ⟨cs, h1, (k45).K_below hbw h2⟩
   ·rename_i hlt
    rw [if_neg hlt]
    obtain ⟨cs, h1, h2⟩ := hK6 (j - x.f5.length) p hj
    exact ⟨cs, h1, (k45).K_below hbw h2⟩
  ·subst e
   have := Kd.R_base hR ad.block (by simp [Value.ownBlock])
   exact Nat.le_trans hb2.size this)
 have HW2 := Lib.hid hW2
 obtain ⟨n5, hn5⟩ : ∃ n5, n5 = x.f5.length := ⟨_, rfl⟩
 obtain ⟨n6, hn6⟩ : ∃ n6, n6 = x.f6.length := ⟨_, rfl⟩
 rw [← hn5, ← hn6] at HW2 ⊢
 clear h5 h6 hl hr5 hC5 hK5 hr6 hC6 hK6 hW2 hb2 hg2 hcat htot hn5 hn6
 go_enter Try.func64, Try.ntmps64
 go_wp2_with fail
 rw [← HW2.out]
 refine hcc.mono ?_
 rintro e w' ⟨v, rfl, hR, hb⟩
 have HF := Lib.hid (HFIN.out _ w' v rfl hR hb)
 clear hcc hR hb
 go_wp2
 go_ret
 exact HF.out
def parI (l : List (S41)) (i : Nat) : Int := fidx (q45.p (q84 l (i : Int)).f2) l
theorem Mm.at {c : Mc} {w0 w : World} (h : Mm c w0) (hb : Below w0.heap.size w0 w) : Kd.C Kd.string w c.A0 c.fs.length c.fs ∧ Kd.C k41 w c.A1 c.l.length c.l := ⟨Kd.C_below h.1 hb, Kd.C_below h.2.2.1 hb⟩
set_option maxHeartbeats 4000000 in
set_option maxRecDepth 100000 in
theorem parent_any (c : Mc) (w0 w : World) (g : Nat) (i : Nat) (hG : Mg c w g) (hm : Mm c w0) (hb : Below w0.heap.size w0 w) (hi : i < c.l.length) :
 Calls Try.prog 27 #[.pointer (some ⟨g, 0, none⟩), .int .i64 i] w fun e w' => e = .returned (.int .i64 (parI c.l i)) ∧ Below w.heap.size w w' := by
 have hu25 := Try.underlying25
 have hu58 := Try.underlying58
 have hu41 := Try.underlying41
 have hml := hm.2.2.2.2.1
 obtain ⟨hC0, hC1⟩ := hm.at hb
 obtain ⟨vr, vc, vu, hg⟩ := hG
 have hcz0 : w.cell? ⟨g, 0, none⟩ = some (.slice c.A0 c.fs.length c.c0) := (q66 hg 0).trans rfl
 have hcz1 : w.cell? ⟨g, 1, none⟩ = some (.slice c.A1 c.l.length c.c1) := (q66 hg 1).trans rfl
 obtain ⟨ad, A5, c5, A6, c6, e, x0, x1, x2, x3, x4, x5, x6, -⟩ := at_T41 hC1 (i : Int) (by omega) (by omega)
 simp only [Int.toNat_natCast] at x2
 have hP : ∀ W, Below w.heap.size w W → Calls Try.prog 45 #[.agg #[.slice c.A0 c.fs.length c.c0, .slice c.A1 c.l.length c.c1], .string (q84 c.l (i : Int)).f2] W fun e w' => e = .returned (.int .i64 (parI c.l i)) ∧ Below W.heap.size W w' := fun W hbw =>
  q45.calls c.A0 c.c0 c.fs c.A1 c.c1 c.l (q84 c.l (i : Int)).f2 (parI c.l i) W (Kd.C_below hC0 hbw) hm.2.1 (Kd.C_below hC1 hbw) hm.2.2.2.1 rfl
 rw [e] at hcz1 hP
 obtain ⟨n, hn⟩ : ∃ n, n = c.l.length := ⟨_, rfl⟩
 rw [← hn] at hcz1 hP hi hml
 obtain ⟨nf, hnf⟩ : ∃ nf, nf = c.fs.length := ⟨_, rfl⟩
 rw [← hnf] at hcz0 hP
 obtain ⟨R, hR⟩ : ∃ R, R = parI c.l i := ⟨_, rfl⟩
 rw [← hR] at hP ⊢
 obtain ⟨s, hs⟩ : ∃ s, s = (q84 c.l (i : Int)).f2 := ⟨_, rfl⟩
 rw [← hs] at hP x2
 have HP := Lib.hid hP
 have hlt : (i : Int) < (n : Int) := by omega
 clear hm hb hC0 hC1 hg e x0 x1 x3 x4 x5 x6 hn hnf hR hs hP
 go_enter Try.func27, Try.ntmps27
 go_wp2
 have hS : (w.cell? ⟨g, 0, none⟩ = some (.slice c.A0 nf c.c0) ∧ w.cell? ⟨g, 1, none⟩ = some (.slice (some ad) n c.c1) ∧ w.cell? ⟨(ad.add (i * 7)).block, (ad.add (i * 7)).off + 2, none⟩ = some (.string s)) ∧ Below w.heap.size w w.drew := ⟨⟨hcz0, hcz1, x2⟩, q61 (Below.refl _ _)⟩
 refine st_ (fun w' => (w'.cell? ⟨g, 0, none⟩ = some (.slice c.A0 nf c.c0) ∧ w'.cell? ⟨g, 1, none⟩ = some (.slice (some ad) n c.c1) ∧ w'.cell? ⟨(ad.add (i * 7)).block, (ad.add (i * 7)).off + 2, none⟩ = some (.string s)) ∧ Below w.heap.size w w') 15 hS (fun hHeld => ?_)
 clear hS hcz0 hcz1 x2
 refine pu_ 0 (some 5) ?_
 refine pu_ 1 (some 6) ?_
 refine pu_ 2 (some 7) ?_
 refine tk_ 3 (some 8) hHeld ?_ (hy := by rintro w' ⟨⟨s0, s1, s2⟩, -⟩; go_simp; with_reducible rfl)
 refine pu_ 4 (some 9) ?_
 refine pu_ 5 (some 10) ?_
 refine pu_ 6 (some 11) ?_
 refine pu_ 7 (some 12) ?_
 refine tk_ 8 (some 13) hHeld ?_ (hy := by rintro w' ⟨⟨s0, s1, s2⟩, -⟩; go_simp; with_reducible rfl)
 refine pu_ 9 (some 14) ?_
 refine pu_ 10 (some 15) ?_
 refine pu_ 11 (some 16) ?_
 refine tk_ 12 (some 17) hHeld ?_ (hy := by rintro w' ⟨⟨s0, s1, s2⟩, -⟩; go_simp; with_reducible rfl)
 refine ca_ 13 (some 18) Try.func45 #[.agg #[.slice c.A0 nf c.c0, .slice (some ad) n c.c1], .string s] ?_
 refine (HP.out _ hHeld.2).mono ?_
 rintro e w' ⟨rfl, hbw⟩
 refine ⟨_, rfl, ⟨⟨q76 hbw hHeld.1.1, q76 hbw hHeld.1.2.1, q76 hbw hHeld.1.2.2⟩, q75 hbw hHeld.2⟩, fun hHeld2 => ⟨_, rfl, nz_ (some 18) ?_⟩⟩
 refine pu_ 14 (some 4) ?_
 refine dn_ ?_
 go_wp2
 go_ret
 exact ⟨rfl, hHeld2.2⟩
def onsN (ss : List (S45)) : Nat := (ss.map (fun s => s.f0.length)).sum
def marksN (l : List (S41)) (i : Nat) : Nat := 4 * l.length + ((l.take i).map (fun x => onsN (x.f5 ++ x.f6))).sum
def sentsN (l : List (S41)) (i : Nat) : Nat := ((l.take i).map (fun x => (x.f5 ++ x.f6).length)).sum
theorem take_sum {α : Type} (f : α → Nat) (l : List α) (i : Nat) (hi : i < l.length) : ((l.take (i + 1)).map f).sum = ((l.take i).map f).sum + f l[i] := by
 rw [List.take_succ_eq_append_getElem hi, List.map_append, List.sum_append]
 simp
theorem take_sum_le {α : Type} (f : α → Nat) (k : Nat) (l : List α) (h : ∀ x ∈ l, f x ≤ k) (i : Nat) : ((l.take i).map f).sum ≤ k * i := by
  induction i with
  | zero => simp
  | succ i ih =>
    by_cases hi : i < l.length
    · rw [take_sum f l i hi]
      have := h l[i] (List.getElem_mem hi)
      rw [Nat.mul_succ]
      omega
    · have e : l.take (i + 1) = l.take i := by rw [List.take_of_length_le (by omega), List.take_of_length_le (by omega)]
      rw [e, Nat.mul_succ]
      omega
theorem onsN_take (ss : List (S45)) (q : Nat) (hq : q < ss.length) : onsN (ss.take (q + 1)) = onsN (ss.take q) + ss[q].f0.length := take_sum _ ss q hq
theorem marksN_succ (l : List (S41)) (i : Nat) (hi : i < l.length) : marksN l (i + 1) = marksN l i + onsN (l[i].f5 ++ l[i].f6) := by unfold marksN; rw [take_sum _ l i hi]; omega
theorem sentsN_succ (l : List (S41)) (i : Nat) (hi : i < l.length) : sentsN l (i + 1) = sentsN l i + (l[i].f5 ++ l[i].f6).length := take_sum _ l i hi
section
variable {l : List (S41)} (hw : ∀ x ∈ l, (x.f5 ++ x.f6).length ≤ 6 ∧ ∀ s ∈ x.f5 ++ x.f6, s.f0.length ≤ 3 ∧ s.f1.length ≤ 2)
include hw
theorem onsN_le (x : S41) (hx : x ∈ l) (q : Nat) : onsN ((x.f5 ++ x.f6).take q) ≤ 18 := by
 have h := hw x hx
 have h1 := take_sum_le (fun s : S45 => s.f0.length) 3 (x.f5 ++ x.f6) (fun s hs => (h.2 s hs).1) (min q 6)
 have e : (x.f5 ++ x.f6).take q = (x.f5 ++ x.f6).take (min q 6) := by
  rcases Nat.le_total q 6 with h' | h'
  ·rw [Nat.min_eq_left h']
  ·rw [Nat.min_eq_right h', List.take_of_length_le (by omega), List.take_of_length_le (by omega)]
 show ((((x.f5 ++ x.f6).take q).map (fun s => s.f0.length)).sum) ≤ 18
 rw [e]
 omega
theorem marksN_le (hl : l.length ≤ 1000) (i : Nat) (hi : i ≤ l.length) : marksN l i ≤ 22000 := by
 have h1 := take_sum_le (fun x : S41 => onsN (x.f5 ++ x.f6)) 18 l (fun x hx => by
  have := onsN_le hw x hx (x.f5 ++ x.f6).length
  rwa [List.take_length] at this) i
 unfold marksN
 omega
theorem sentsN_le (hl : l.length ≤ 1000) (i : Nat) (hi : i ≤ l.length) : sentsN l i ≤ 6000 := by
 have h1 := take_sum_le (fun x : S41 => (x.f5 ++ x.f6).length) 6 l (fun x hx => (hw x hx).1) i
 unfold sentsN
 omega
end
set_option maxHeartbeats 8000000 in
set_option maxRecDepth 100000 in
theorem mark_any (c : Mc) (w0 w : World) (g : Nat) (i : Nat) (hG : Mg c w g) (hm : Mm c w0) (hb : Below w0.heap.size w0 w) (hi : i ≤ c.l.length) :
 Calls Try.prog 25 #[.pointer (some ⟨g, 0, none⟩), .int .i64 i] w fun e w' => e = .returned (.int .i64 (marksN c.l i : Nat)) ∧ Below w.heap.size w w' := by
 have hu25 := Try.underlying25
 have hu58 := Try.underlying58
 have hu41 := Try.underlying41
 have hu45 := Try.underlying45
 have hml := hm.2.2.2.2.1
 have hcc := hm.2.2.2.1
 have hw := hm.2.2.2.2.2.2
 have hCC := (hm.at hb).2
 obtain ⟨vr, vc, vu, hg⟩ := hG
 have hcz1 : w.cell? ⟨g, 1, none⟩ = some (.slice c.A1 c.l.length c.c1) := (q66 hg 1).trans rfl
 obtain ⟨l, hl⟩ : ∃ l, l = c.l := ⟨_, rfl⟩
 rw [← hl] at hml hcc hw hCC hcz1 hi ⊢
 obtain ⟨A1, hA1⟩ : ∃ A1, A1 = c.A1 := ⟨_, rfl⟩
 rw [← hA1] at hCC hcz1
 obtain ⟨i0, hi0, hz0, hz1, hz2⟩ := info_parts iItem_
 have k1 := cut_to (P := Try.prog) 23 41 .i64 Try.underlying23 hi0 A1 l.length c.c1 (i : Int) (by omega) (by omega) hcc
 rw [Int.toNat_natCast] at k1
 obtain ⟨n, hn⟩ : ∃ n, n = l.length := ⟨_, rfl⟩
 have HN := Lib.hid hn
 have HC := Lib.hid hCC
 have HW := Lib.hid hw
 rw [← hn] at hcz1 k1 hi hml
 have HM0 : Hid (4 * (n : Int) = ((marksN l 0 : Nat) : Int)) := Lib.hid (by unfold marksN; simp; omega)
 have hzi : (i : Int) ≤ (n : Int) := by omega
 clear hm hb hg hCC hw hl hi0 hz0 hz1 hz2 hn hcc hA1
 go_enter Try.func25, Try.ntmps25
 go_wp2
 go_loopg [5, 25] i (fun gg s5 s25 wr => ∃ j : Nat, s25 = .int .i64 j ∧ s5 = .int .i64 (marksN l j : Nat) ∧ j ≤ i ∧ i - j ≤ gg ∧ Hid (Below w.heap.size w wr))
 case atStart => exact ⟨0, rfl, by rw [← HM0.out], Nat.zero_le _, by omega, Lib.hid (Below.refl _ _)⟩
 case round =>
  obtain ⟨j, rfl, rfl, hji, hjg, Y⟩ := hrel
  obtain ⟨wO, rfl⟩ : ∃ wO, wO = wr := ⟨_, rfl⟩
  by_cases hlt : j < i
  case neg =>
   obtain rfl : j = i := by omega
   have hltz : ¬ (j : Int) < (j : Int) := by omega
   obtain ⟨mj, hmj⟩ : ∃ mj, mj = marksN l j := ⟨_, rfl⟩
   have HMJ := Lib.hid hmj
   rw [← hmj]
   clear hmj
   go_wp2
   go_ret
   exact ⟨by rw [← HMJ.out]; rfl, Y.out⟩
  have hjl : j < l.length := by have := HN.out; omega
  have hltz : (j : Int) < (i : Int) := by omega
  obtain ⟨ad, A5, c5, A6, c6, e, x0, x1, x2, x3, x4, x5, x6, l5, g5, l6, g6⟩ := at_T41 (Kd.C_below HC.out Y.out) (j : Int) (by omega) (by omega)
  simp only [Int.toNat_natCast] at x0 x1 x2 x3 x4 x5 x6
  obtain ⟨x, hx⟩ : ∃ x, x = q84 l (j : Int) := ⟨_, rfl⟩
  have hxl : x = l[j] := by rw [hx]; simp [q84, List.getD_eq_getElem?_getD, List.getElem?_eq_getElem hjl]
  rw [← hx] at x0 x1 x2 x3 x4 x5 x6 g5 g6
  have hwx := HW.out x (by rw [hxl]; exact List.getElem_mem hjl)
  have hms : marksN l (j + 1) = marksN l j + onsN (x.f5 ++ x.f6) := by rw [hxl]; exact marksN_succ l j hjl
  have hmj := marksN_le HW.out (by have := HN.out; omega) j (by omega)
  have hon := onsN_le HW.out x (by rw [hxl]; exact List.getElem_mem hjl)
  have hll : x.f5.length + x.f6.length ≤ 1000 := by have := hwx.1; rw [List.length_append] at this; omega
  obtain ⟨W2, hW2⟩ : ∃ W2, W2 = wO.alloc (.cells #[.string x.f0, .int .i64 x.f1, .string x.f2, .bool x.f3, .int .i64 x.f4, .slice A5 x.f5.length c5, .slice A6 x.f6.length c6] 41) := ⟨_, rfl⟩
  have hb2 : Below wO.heap.size wO W2 := by rw [hW2]; exact q60 (Below.refl _ _) _
  have hse := sentries_call x A5 c5 A6 c6 W2 (Kd.C_below g5 hb2) (Kd.C_below g6 hb2) hll
  cases e
  obtain ⟨ss, hss⟩ : ∃ ss, ss = x.f5 ++ x.f6 := ⟨_, rfl⟩
  have hm6 := hwx.1
  rw [← hss] at hse hms hon hm6
  obtain ⟨m, hm⟩ : ∃ m, m = ss.length := ⟨_, rfl⟩
  rw [← hm] at hm6
  rw [← hm] at hse
  obtain ⟨mj, hmjj⟩ : ∃ mj, mj = marksN l j := ⟨_, rfl⟩
  rw [← hmjj] at hms hmj ⊢
  obtain ⟨n5, hn5⟩ : ∃ n5, n5 = x.f5.length := ⟨_, rfl⟩
  obtain ⟨n6, hn6⟩ : ∃ n6, n6 = x.f6.length := ⟨_, rfl⟩
  rw [← hn5] at x5 hW2 hse
  rw [← hn6] at x6 hW2 hse
  have HW2 := Lib.hid hW2
  have HM := Lib.hid hm
  have HMS := Lib.hid hms
  have HON := Lib.hid hon
  have HB2 := Lib.hid (q63 Y.out Y.out.size hb2)
  clear Y hx hxl hwx hll hW2 hb2 hss hm hmjj hn5 hn6 l5 l6 g5 g6 hms hon
  go_wp2_with fail
  rw [← HW2.out]
  refine hse.mono ?_
  rintro e w3 ⟨A7, c7, rfl, hc7, hC7, -, hb3⟩
  have HC7 := Lib.hid hC7
  have HB3 := Lib.hid (q63 HB2.out HB2.out.size hb3)
  clear hse hC7 hb3 x0 x1 x2 x3 x4 x5 x6
  go_wp2
  go_loopg [5, 32] m (fun gg s5 s32 wq => ∃ q : Nat, s32 = .int .i64 q ∧ s5 = .int .i64 ((mj + onsN (ss.take q) : Nat) : Int) ∧ q ≤ m ∧ m - q ≤ gg ∧ Hid (Below w3.heap.size w3 wq))
  case atStart => exact ⟨0, rfl, by simp [onsN], Nat.zero_le _, by omega, Lib.hid (Below.refl _ _)⟩
  case round =>
   obtain ⟨q, rfl, rfl, hqm, hqg, Z⟩ := hrel
   obtain ⟨wq, rfl⟩ : ∃ wq, wq = wr := ⟨_, rfl⟩
   by_cases hlq : q < m
   case neg =>
    obtain rfl : q = m := by omega
    have hlz : ¬ (q : Int) < (q : Int) := by omega
    have HE : Hid (mj + onsN (ss.take q) = marksN l (j + 1)) := Lib.hid (by rw [HMS.out, List.take_of_length_le (by have := HM.out; omega)])
    have HBZ := Lib.hid (q63 HB3.out HB3.out.size Z.out)
    rw [HE.out]
    go_wp2
    go_roundg (i - (j + 1))
    case measure => omega
    case rel => exact ⟨j + 1, by go_num, rfl, by omega, Nat.le_refl _, HBZ⟩
   have hlz : (q : Int) < (m : Int) := by omega
   have hqs : q < ss.length := by have := HM.out; omega
   obtain ⟨ad2, A8, c8, A9, c9, e2, y0, y1, -⟩ := at_T45 (Kd.C_below HC7.out Z.out) (q : Int) (by omega) (by omega)
   simp only [Int.toNat_natCast] at y0 y1
   have hsq : q85 ss (q : Int) = ss[q] := by simp [q85, List.getD_eq_getElem?_getD, List.getElem?_eq_getElem hqs]
   rw [hsq] at y0 y1
   have hts := onsN_take ss q hqs
   have ho1 := HON.out q
   have ho2 := HON.out (q + 1)
   obtain ⟨nq, hnq⟩ : ∃ nq, nq = ss[q].f0.length := ⟨_, rfl⟩
   obtain ⟨nr, hnr⟩ : ∃ nr, nr = ss[q].f1.length := ⟨_, rfl⟩
   rw [← hnq] at y0 hts
   rw [← hnr] at y1
   obtain ⟨t, ht⟩ : ∃ t, t = mj + onsN (ss.take q) := ⟨_, rfl⟩
   have HT : Hid (mj + onsN (ss.take (q + 1)) = t + nq) := Lib.hid (by rw [hts, ht]; omega)
   have ht1 : t + nq ≤ 30000 := by rw [ht]; omega
   rw [← ht]
   cases e2
   have HZ := Lib.hid (q60 Z.out (.cells #[.slice A8 nq c8, .slice A9 nr c9] 45))
   clear Z hsq hts hnq hnr ht
   go_wp2
   go_roundg (m - (q + 1))
   case measure => omega
   case rel => exact ⟨q + 1, by go_num, by rw [HT.out]; go_num, by omega, Nat.le_refl _, HZ⟩
set_option maxHeartbeats 8000000 in
set_option maxRecDepth 100000 in
theorem sent_any (c : Mc) (w0 w : World) (g : Nat) (i : Nat) (hG : Mg c w g) (hm : Mm c w0) (hb : Below w0.heap.size w0 w) (hi : i ≤ c.l.length) :
 Calls Try.prog 26 #[.pointer (some ⟨g, 0, none⟩), .int .i64 i] w fun e w' => e = .returned (.int .i64 (c.la + 6 * (c.l.length : Int) + (sentsN c.l i : Nat))) ∧ Below w.heap.size w w' := by
 have hu25 := Try.underlying25
 have hu32 := Try.underlying32
 have hu58 := Try.underlying58
 have hu41 := Try.underlying41
 have hml := hm.2.2.2.2.1
 have hcc := hm.2.2.2.1
 obtain ⟨hla, hw⟩ := hm.2.2.2.2.2
 have hCC := (hm.at hb).2
 obtain ⟨vr, vc, vu, hg⟩ := hG
 have hcz1 : w.cell? ⟨g, 1, none⟩ = some (.slice c.A1 c.l.length c.c1) := (q66 hg 1).trans rfl
 have hcz3 : w.cell? ⟨g, 3, none⟩ = some (.int .i64 c.la) := (q66 hg 3).trans rfl
 obtain ⟨l, hl⟩ : ∃ l, l = c.l := ⟨_, rfl⟩
 rw [← hl] at hml hcc hw hCC hcz1 hi ⊢
 obtain ⟨A1, hA1⟩ : ∃ A1, A1 = c.A1 := ⟨_, rfl⟩
 rw [← hA1] at hCC hcz1
 obtain ⟨la, hla'⟩ : ∃ la, la = c.la := ⟨_, rfl⟩
 rw [← hla'] at hla hcz3 ⊢
 obtain ⟨i0, hi0, hz0, hz1, hz2⟩ := info_parts iItem_
 have k1 := cut_to (P := Try.prog) 23 41 .i64 Try.underlying23 hi0 A1 l.length c.c1 (i : Int) (by omega) (by omega) hcc
 rw [Int.toNat_natCast] at k1
 obtain ⟨n, hn⟩ : ∃ n, n = l.length := ⟨_, rfl⟩
 have HN := Lib.hid hn
 have HC := Lib.hid hCC
 have HW := Lib.hid hw
 rw [← hn] at hcz1 k1 hi hml ⊢
 have hzi : (i : Int) ≤ (n : Int) := by omega
 clear hm hb hg hCC hw hl hi0 hz0 hz1 hz2 hn hcc hA1 hla'
 go_enter Try.func26, Try.ntmps26
 go_wp2
 have hS : w.cell? ⟨g, 1, none⟩ = some (.slice A1 n c.c1) ∧ w.cell? ⟨g, 3, none⟩ = some (.int .i64 la) := ⟨hcz1, hcz3⟩
 refine st_ (fun w' => w'.cell? ⟨g, 1, none⟩ = some (.slice A1 n c.c1) ∧ w'.cell? ⟨g, 3, none⟩ = some (.int .i64 la)) 14 hS (fun hHeld => ?_)
 refine pu_ 0 (some 8) ?_
 refine pu_ 1 (some 9) ?_
 refine pu_ 2 (some 10) ?_
 refine pu_ 3 (some 11) ?_
 refine tk_ 4 (some 12) hHeld ?_ (hy := by rintro w' ⟨s0, s1⟩; go_simp; with_reducible rfl)
 refine pu_ 5 (some 13) ?_
 refine pu_ 6 (some 14) ?_
 refine pu_ 7 (some 15) ?_
 refine pu_ 8 (some 16) ?_
 refine tk_ 9 (some 17) hHeld ?_ (hy := by rintro w' ⟨s0, s1⟩; go_simp; with_reducible rfl)
 refine pu_ 10 (some 18) ?_
 refine pu_ 11 (some 19) ?_
 refine pu_ 12 (some 20) ?_
 refine pu_ 13 (some 5) ?_
 refine dn_ ?_
 have HBD := Lib.hid (q61 (Below.refl w.heap.size w))
 obtain ⟨hcz1, hcz3⟩ := hHeld
 generalize w.drew = wD at HBD hcz1 hcz3 ⊢
 go_wp2
 have HL0 : Hid (wrap64 (la + wrap64 (6 * (n : Int))) = la + 6 * (n : Int) + ((sentsN l 0 : Nat) : Int)) := Lib.hid (by unfold sentsN wrap64; simp; omega)
 go_loopg [5, 29] i (fun gg s5 s29 wr => ∃ j : Nat, s29 = .int .i64 j ∧ s5 = .int .i64 (la + 6 * (n : Int) + ((sentsN l j : Nat) : Int)) ∧ j ≤ i ∧ i - j ≤ gg ∧ Hid (Below w.heap.size w wr))
 case atStart => exact ⟨0, rfl, by rw [HL0.out], Nat.zero_le _, by omega, HBD⟩
 case round =>
  obtain ⟨j, rfl, rfl, hji, hjg, Y⟩ := hrel
  obtain ⟨wO, rfl⟩ : ∃ wO, wO = wr := ⟨_, rfl⟩
  by_cases hlt : j < i
  case neg =>
   obtain rfl : j = i := by omega
   have hltz : ¬ (j : Int) < (j : Int) := by omega
   obtain ⟨mj, hmj⟩ : ∃ mj : Int, mj = la + 6 * (n : Int) + ((sentsN l j : Nat) : Int) := ⟨_, rfl⟩
   have HMJ := Lib.hid hmj
   rw [← hmj]
   clear hmj
   go_wp2
   go_ret
   exact ⟨by rw [← HMJ.out]; rfl, Y.out⟩
  have hjl : j < l.length := by have := HN.out; omega
  have hltz : (j : Int) < (i : Int) := by omega
  obtain ⟨ad, A5, c5, A6, c6, e, x0, x1, x2, x3, x4, x5, x6, l5, g5, l6, g6⟩ := at_T41 (Kd.C_below HC.out Y.out) (j : Int) (by omega) (by omega)
  simp only [Int.toNat_natCast] at x0 x1 x2 x3 x4 x5 x6
  obtain ⟨x, hx⟩ : ∃ x, x = q84 l (j : Int) := ⟨_, rfl⟩
  have hxl : x = l[j] := by rw [hx]; simp [q84, List.getD_eq_getElem?_getD, List.getElem?_eq_getElem hjl]
  rw [← hx] at x0 x1 x2 x3 x4 x5 x6 g5 g6
  have hwx := HW.out x (by rw [hxl]; exact List.getElem_mem hjl)
  have hms : sentsN l (j + 1) = sentsN l j + (x.f5 ++ x.f6).length := by rw [hxl]; exact sentsN_succ l j hjl
  have hmj := sentsN_le HW.out (by have := HN.out; omega) j (by omega)
  have hll : x.f5.length + x.f6.length ≤ 1000 := by have := hwx.1; rw [List.length_append] at this; omega
  obtain ⟨W2, hW2⟩ : ∃ W2, W2 = wO.alloc (.cells #[.string x.f0, .int .i64 x.f1, .string x.f2, .bool x.f3, .int .i64 x.f4, .slice A5 x.f5.length c5, .slice A6 x.f6.length c6] 41) := ⟨_, rfl⟩
  have hb2 : Below wO.heap.size wO W2 := by rw [hW2]; exact q60 (Below.refl _ _) _
  have hse := sentries_call x A5 c5 A6 c6 W2 (Kd.C_below g5 hb2) (Kd.C_below g6 hb2) hll
  cases e
  have hm6 := hwx.1
  obtain ⟨ss, hss⟩ : ∃ ss, ss = x.f5 ++ x.f6 := ⟨_, rfl⟩
  rw [← hss] at hse hms hm6
  obtain ⟨m, hm⟩ : ∃ m, m = ss.length := ⟨_, rfl⟩
  rw [← hm] at hm6 hse hms
  obtain ⟨mj, hmjj⟩ : ∃ mj : Int, mj = la + 6 * (n : Int) + ((sentsN l j : Nat) : Int) := ⟨_, rfl⟩
  have HMS : Hid (la + 6 * (n : Int) + ((sentsN l (j + 1) : Nat) : Int) = mj + (m : Int)) := Lib.hid (by rw [hms, hmjj]; omega)
  have hb0 : 0 ≤ mj + (m : Int) ∧ mj + (m : Int) ≤ 200000 := by rw [hmjj]; omega
  rw [← hmjj]
  obtain ⟨n5, hn5⟩ : ∃ n5, n5 = x.f5.length := ⟨_, rfl⟩
  obtain ⟨n6, hn6⟩ : ∃ n6, n6 = x.f6.length := ⟨_, rfl⟩
  rw [← hn5] at x5 hW2 hse
  rw [← hn6] at x6 hW2 hse
  have HW2 := Lib.hid hW2
  have HB2 := Lib.hid (q63 Y.out Y.out.size hb2)
  clear Y hx hxl hwx hll hW2 hb2 hss hm hmjj hn5 hn6 l5 l6 g5 g6 hms hmj
  go_wp2_with fail
  rw [← HW2.out]
  refine hse.mono ?_
  rintro e w3 ⟨A7, c7, rfl, -, -, -, hb3⟩
  have HB3 := Lib.hid (q63 HB2.out HB2.out.size hb3)
  clear hse hb3 x0 x1 x2 x3 x4 x5 x6
  have hwr : wrap64 (mj + (m : Int)) = mj + (m : Int) := by unfold wrap64; omega
  go_wp2
  go_roundg (i - (j + 1))
  case measure => omega
  case rel => exact ⟨j + 1, by go_num, by rw [HMS.out], by omega, Nat.le_refl _, HB3⟩
def flagF (i s : Int) : Int := 4 * i + s - 1
theorem flag_call (i s : Int) (w : World) (hi : 0 ≤ i ∧ i ≤ 1000) (hs : 0 ≤ s ∧ s ≤ 10) : Calls Try.prog 23 #[.int .i64 i, .int .i64 s] w fun e w' => e = .returned (.int .i64 (flagF i s)) ∧ Below w.heap.size w w' :=
 (q54.calls i s (flagF i s) w (by unfold q54.f flagF wrap64; congr 1; omega)).mono fun e w' h => ⟨h.1, h.2.below⟩
theorem up_call (f : Int) (w : World) : Calls Try.prog 67 #[.int .i64 f] w fun e w' => e = .returned (.agg #[.int .i64 f, .bool false]) ∧ Below w.heap.size w w' := q56.calls f f false w rfl
theorem down_call (f : Int) (w : World) : Calls Try.prog 73 #[.int .i64 f] w fun e w' => e = .returned (.agg #[.int .i64 f, .bool true]) ∧ Below w.heap.size w w' := q53.calls f f true w rfl
theorem ints1_row (W : World) (n : Int) : Kd.C (Kd.int .i64) (W.alloc (.cells #[.int .i64 n] 3)) (some ⟨W.heap.size, 0, none⟩) 1 [n] := by
 have h : Kd.R (Kd.int .i64) 3 (W.alloc (.cells #[.int .i64 n] 3)) W.heap.size (fun _ => True) (.slice (some ⟨W.heap.size, 0, none⟩) 1 1) [n] := Kd.R_of_own (by simpa [encs] using World.ownsRow_lit (base := W.heap.size) (e := 3) (size := 1) W #[.int .i64 n] 1 (Nat.le_refl _) (by decide) (by simp)) (fun _ _ => trivial)
 exact (Kd.R_reads' h).2.2
theorem puts1_call (n : Int) (W : World) : Calls Try.prog 66 #[.slice (some ⟨W.heap.size, 0, none⟩) 1 1] (W.alloc (.cells #[.int .i64 n] 3)) fun e w' => ∃ A c, e = .returned (.slice A 1 c) ∧ Kd.R k111 111 w' (W.heap.size + 1) (fun _ => True) (.slice A 1 c) [⟨n, true⟩] ∧ Below W.heap.size W w' := by
 refine (q48.calls 2 (some ⟨W.heap.size, 0, none⟩) 1 [n] [⟨n, true⟩] (W.alloc (.cells #[.int .i64 n] 3)) (ints1_row W n) (Nat.le_refl _) (by simp [q48.f, q48.l0, rd, wrap64])).mono ?_
 rintro e w' ⟨v, rfl, hR, hb⟩
 obtain ⟨A, c, rfl⟩ := Kd.R_slice hR
 have hb0 := q60 (Below.refl W.heap.size W) (.cells #[.int .i64 n] 3)
 exact ⟨A, c, rfl, by simpa using hR, q63 hb0 hb0.size hb⟩
def litCells : List (S93) → List Value
 | [] => []
 | x :: l => .int .i64 x.f0 :: .bool x.f1 :: litCells l
theorem litCells_len (ls : List (S93)) : (litCells ls).length = ls.length * 2 := by
 induction ls with
 | nil => rfl
 | cons x l ih => simp only [litCells, List.length_cons, ih]; omega
theorem lits_reps (W : World) (base : Nat) (ok : Nat → Prop) (ls : List (S93)) : Reps (Kd.M k93 W base ok) 2 ls (litCells ls) := by
 induction ls with
 | nil => exact Reps.none _ _
 | cons x l ih => exact Reps.c2 (k93_mkM _ _ _ x) ih
theorem lits_row (W : World) (ls : List (S93)) (hn : ls.length ≤ 1000) : Kd.R k93 93 (W.alloc (.cells (litCells ls).toArray 93)) W.heap.size (fun _ => True) (.slice (some ⟨W.heap.size, 0, none⟩) ls.length ls.length) ls := by
 refine ⟨fun _ _ => trivial, litCells ls, ?_, lits_reps _ _ _ ls⟩
 have h2 := World.ownsRow_lit (base := W.heap.size) (e := 93) (size := 2) W (litCells ls).toArray ls.length (Nat.le_refl _) (by simp [maxLen]; omega) (by simp [litCells_len])
 show World.ownsRow _ _ _ 2 _ _ _
 simpa using h2
theorem Mr.rule {c : Mc} {w0 w : World} {g : Nat} {vr : Value} {rs : List (S72)} (hM : Mr c w0 w g vr rs) (st : Int) {A2 : Option Addr} {c2 n2 b2 : Nat} {th : List (S111)} {W : World} {A3 : Option Addr} {c3 n3 b3 : Nat} {ls : List (S93)}
 (hb : Below w.heap.size w W) (h2 : Kd.R k111 111 W b2 (fun _ => True) (.slice A2 n2 c2) th) (hb2 : w.heap.size ≤ b2) (h3 : Kd.R k93 93 W b3 (fun _ => True) (.slice A3 n3 c3) ls) (hb3 : w.heap.size ≤ b3) (hn2 : n2 = th.length) (hn3 : n3 = ls.length) (hlim : rs.length ≤ 100000) :
 Calls Try.prog 69 #[.pointer (some ⟨g, 0, none⟩), .int .i64 st, .slice A2 n2 c2, .slice A3 n3 c3] W (RulePost c w0 w g vr (rs ++ [⟨st, ls, [], th⟩])) := by
 subst hn2 hn3
 have hlt := hM.lt
 have ho : ∀ k, vr.ownBlock = some k → k < w.heap.size := fun k e => Kd.R_lt hM.2.2.2 k e
 refine (rule_any c w0 W g vr rs st A2 c2 th A3 c3 ls (hM.below hb) (Kd.R_lower (Kd.R_mono (Kd.R_bound h2) (fun k hk e => by have := ho k e.symm; have := hk.2.1; omega)) (by omega)) (Kd.R_lower (Kd.R_mono (Kd.R_bound h3) (fun k hk e => by have := ho k e.symm; have := hk.2.1; omega)) (by omega)) hlim).mono ?_
 rintro e w' ⟨rfl, vr', h4, h5⟩
 exact ⟨rfl, vr', h4, (Go_.below Go_.refl hb).then_ h5⟩
def fifthL (c : Mc) (i : Nat) : List (S72) := if (q84 c.l (i : Int)).f1 = 1 then [⟨5, [⟨flagF i 2, false⟩, ⟨passF c.la i 0, true⟩, ⟨passF c.la i 5, true⟩], [], [⟨passF c.la i 3, true⟩]⟩] else []
set_option maxHeartbeats 8000000 in
set_option maxRecDepth 100000 in
theorem fifth_any (c : Mc) (w0 w : World) (g : Nat) (vr : Value) (rs : List (S72)) (i : Nat) (hM : Mr c w0 w g vr rs) (hm : Mm c w0) (hi : i < c.l.length) (hlim : rs.length ≤ 100000) :
 Calls Try.prog 32 #[.pointer (some ⟨g, 0, none⟩), .int .i64 i] w (RulePost c w0 w g vr (rs ++ fifthL c i)) := by
 have hu25 := Try.underlying25
 have hu58 := Try.underlying58
 have hu41 := Try.underlying41
 have hml := hm.2.2.2.2.1
 have hla := hm.2.2.2.2.2.1
 have hcz1 : w.cell? ⟨g, 1, none⟩ = some (.slice c.A1 c.l.length c.c1) := (q66 hM.2.2.1 1).trans rfl
 obtain ⟨ad, A5, c5, A6, c6, e, x0, x1, -⟩ := at_T41 (hm.at hM.1).2 (i : Int) (by omega) (by omega)
 simp only [Int.toNat_natCast] at x1
 rw [e] at hcz1
 obtain ⟨n, hn⟩ : ∃ n, n = c.l.length := ⟨_, rfl⟩
 rw [← hn] at hcz1 hi hml
 have hlt : (i : Int) < (n : Int) := by omega
 have hi3 : 0 ≤ (i : Int) ∧ (i : Int) ≤ 1000 := by omega
 obtain ⟨R, hR⟩ : ∃ R, R = fifthL c i := ⟨_, rfl⟩
 rw [← hR]
 unfold fifthL at hR
 obtain ⟨kd, hk⟩ : ∃ kd, kd = (q84 c.l (i : Int)).f1 := ⟨_, rfl⟩
 rw [← hk] at x1 hR
 have HM := Lib.hid hM
 have HR := Lib.hid hR
 clear hM hm e x0 hn hR hk
 by_cases hk1 : kd = 1
 case neg =>
  have hkb : (kd == 1) = false := beq_eq_false_iff_ne.mpr hk1
  have HN : Hid (R = []) := Lib.hid (by rw [HR.out, if_neg hk1])
  go_enter Try.func32, Try.ntmps32
  go_wp2
  refine bodyPost_end (results_none rfl _ _ _) rfl ?_
  rw [HN.out, List.append_nil]
  exact ⟨rfl, vr, HM.out, Go_.refl⟩
 have HP : Hid (R = [⟨5, [⟨flagF i 2, false⟩, ⟨passF c.la i 0, true⟩, ⟨passF c.la i 5, true⟩], [], [⟨passF c.la i 3, true⟩]⟩]) := Lib.hid (by rw [HR.out, if_pos hk1])
 subst hk1
 have hp := pass_any c w g i 3 HM.out.mg hla hi3 (by decide)
 go_enter Try.func32, Try.ntmps32
 go_wp2_with fail
 refine hp.mono ?_
 rintro e w1 ⟨rfl, rfl⟩
 clear hp x1 hcz1
 go_wp2_with fail
 refine (puts1_call (passF c.la i 3) w1).mono ?_
 rintro e w2 ⟨A2, c2, rfl, hR2, hb2⟩
 have HR2 := Lib.hid hR2
 have HB2 := Lib.hid hb2
 clear hR2 hb2
 go_wp2_with fail
 refine (flag_call i 2 w2 hi3 (by decide)).mono ?_
 rintro e w3 ⟨rfl, hb⟩
 have HR2 := Lib.hid (Kd.R_below HR2.out hb)
 have HB2 := Lib.hid (q63 HB2.out HB2.out.size hb)
 clear hb
 go_wp2_with fail
 refine (up_call (flagF i 2) w3).mono ?_
 rintro e w4 ⟨rfl, hb⟩
 have HR2 := Lib.hid (Kd.R_below HR2.out hb)
 have HB2 := Lib.hid (q63 HB2.out HB2.out.size hb)
 clear hb
 have hp := pass_any c w4 g i 0 (HM.out.below HB2.out).mg hla hi3 (by decide)
 go_wp2_with fail
 refine hp.mono ?_
 rintro e w5 ⟨rfl, rfl⟩
 clear hp
 go_wp2_with fail
 refine (down_call (passF c.la i 0) w5).mono ?_
 rintro e w6 ⟨rfl, hb⟩
 have HR2 := Lib.hid (Kd.R_below HR2.out hb)
 have HB2 := Lib.hid (q63 HB2.out HB2.out.size hb)
 clear hb
 have hp := pass_any c w6 g i 5 (HM.out.below HB2.out).mg hla hi3 (by decide)
 go_wp2_with fail
 refine hp.mono ?_
 rintro e w7 ⟨rfl, rfl⟩
 clear hp
 go_wp2_with fail
 refine (down_call (passF c.la i 5) w7).mono ?_
 rintro e w8 ⟨rfl, hb⟩
 have HR2 := Lib.hid (Kd.R_below HR2.out hb)
 have HB2 := Lib.hid (q63 HB2.out HB2.out.size hb)
 clear hb
 have hlit := lits_row w8 [⟨flagF i 2, false⟩, ⟨passF c.la i 0, true⟩, ⟨passF c.la i 5, true⟩] (by simp)
 have hb8 := q60 HB2.out (.cells (litCells [⟨flagF i 2, false⟩, ⟨passF c.la i 0, true⟩, ⟨passF c.la i 5, true⟩]).toArray 93)
 have hru := HM.out.rule 5 hb8 (Kd.R_alloc HR2.out _) (Nat.le_succ _) hlit HB2.out.size rfl rfl hlim
 go_wp2_with fail
 refine hru.mono ?_
 rintro e w9 ⟨rfl, vr', h1, h2⟩
 have HF := Lib.hid (And.intro h1 h2)
 clear hlit hb8 hru h1 h2
 go_wp2
 refine bodyPost_end (results_none rfl _ _ _) rfl ?_
 rw [HP.out]
 exact ⟨rfl, vr', HF.out.1, HF.out.2⟩
def upF (up : List Bool) (j : Int) : Bool := if j < (up.length : Int) then rdOf false up j else false
set_option maxHeartbeats 4000000 in
set_option maxRecDepth 100000 in
theorem is_any (w : World) (p6 p3 : Addr) (i st : Int) (A : Option Addr) (c n : Nat) (up : List Bool) (hi : 0 ≤ i ∧ i ≤ 1000) (hs : 1 ≤ st ∧ st ≤ 4) (h6 : w.cell? p6 = some (.int .i64 i)) (h3 : w.cell? p3 = some (.slice A n c)) (hn : n = up.length) (hr : Kd.C Kd.bool w A up.length up) :
 Calls Try.prog 48 #[.int .i64 st, .pointer (some p6), .pointer (some p3)] w fun e w' => e = .returned (.bool (upF up (flagF i st))) ∧ Below w.heap.size w w' := by
 have hge : 0 ≤ flagF i st := by unfold flagF; omega
 obtain ⟨j, hj⟩ : ∃ j, j = flagF i st := ⟨_, rfl⟩
 have HJ := Lib.hid hj
 by_cases hlt : j < (up.length : Int)
 case pos =>
  have hu : upF up j = rdOf false up j := if_pos hlt
  obtain ⟨ad, rfl, hx⟩ := Kd.at_bool hr j (by rw [hj]; exact hge) hlt
  rw [← hj]
  rw [hu]
  generalize rdOf false up j = b at hx ⊢
  have hjz : 0 ≤ j := by rw [hj]; exact hge
  rw [← hn] at hlt
  have hld := decide_eq_true hlt
  clear hr hn hu hj hge
  go_enter Try.func48, Try.ntmps48
  go_wp2
  have hS : (((w.drew).cell? p6 = some (.int .i64 i)) ∧ ((w.drew).cell? p3 = some (.slice (some ad) n c)) ∧ ((w.drew).cell? (ad.add j.toNat) = some (.bool b))) ∧ Below w.heap.size w w.drew := ⟨⟨h6, h3, hx⟩, q61 (Below.refl _ _)⟩
  refine sD_ [] (fun w' => ((w'.cell? p6 = some (.int .i64 i)) ∧ (w'.cell? p3 = some (.slice (some ad) n c)) ∧ (w'.cell? (ad.add j.toNat) = some (.bool b))) ∧ Below w.heap.size w w') 15 hS (fun hHeld => ?_)
  clear hS
  obtain ⟨wD, hwD⟩ : ∃ wD, wD = w.drew := ⟨_, rfl⟩
  rw [← hwD] at hHeld ⊢
  clear hwD
  refine tk_ 0 (some 5) hHeld ?_ (hy := by rintro w' ⟨⟨s0, s1, s2⟩, -⟩; go_simp; with_reducible rfl)
  refine pu_ 1 (some 6) ?_
  refine tk_ 3 (some 8) hHeld ?_ (hy := by rintro w' ⟨⟨s0, s1, s2⟩, -⟩; go_simp; with_reducible rfl)
  refine pu_ 4 (some 9) ?_
  refine ca_ 2 (some 7) Try.func23 #[.int .i64 i, .int .i64 st] ?_
  refine (flag_call i st wD (by omega) (by omega)).mono ?_
  rintro e d1_ ⟨rfl, hb⟩
  refine ⟨_, rfl, ⟨⟨q76 hb hHeld.1.1, q76 hb hHeld.1.2.1, q76 hb hHeld.1.2.2⟩, q75 hb hHeld.2⟩, fun hHeld => ⟨_, rfl, nz_ (some 7) ?_⟩⟩
  clear hb
  rw [show flagF i st = j from HJ.out.symm]
  refine pu_ 5 (some 10) ?_
  refine pu_ 6 (some 11) ?_
  refine tk_ 7 (some 12) hHeld ?_ (hy := by rintro w' ⟨⟨s0, s1, s2⟩, -⟩; go_simp; with_reducible rfl)
  refine tk_ 8 (some 13) hHeld ?_ (hy := by rintro w' ⟨⟨s0, s1, s2⟩, -⟩; go_simp; with_reducible rfl)
  refine pu_ 9 (some 14) ?_
  refine ca_ 10 (some 15) Try.func23 #[.int .i64 i, .int .i64 st] ?_
  refine (flag_call i st d1_ (by omega) (by omega)).mono ?_
  rintro e d2_ ⟨rfl, hb⟩
  refine ⟨_, rfl, ⟨⟨q76 hb hHeld.1.1, q76 hb hHeld.1.2.1, q76 hb hHeld.1.2.2⟩, q75 hb hHeld.2⟩, fun hHeld => ⟨_, rfl, nz_ (some 15) ?_⟩⟩
  clear hb
  rw [show flagF i st = j from HJ.out.symm]
  refine pu_ 11 (some 16) ?_
  refine tk_ 12 (some 17) hHeld ?_ (hy := by rintro w' ⟨⟨s0, s1, s2⟩, -⟩; go_simp; with_reducible rfl)
  refine pu_ 13 (some 18) ?_
  refine pu_ 14 (some 4) ?_
  refine dn_ ?_
  have HF := Lib.hid hHeld.2
  clear hHeld
  go_wp2
  go_ret
  exact ⟨rfl, HF.out⟩
 case neg =>
  have hu : upF up j = false := if_neg hlt
  rw [← hj, hu]
  rw [← hn] at hlt
  have hld := decide_eq_false hlt
  clear hr hn hu hj hge
  go_enter Try.func48, Try.ntmps48
  go_wp2
  have hS : (((w.drew).cell? p6 = some (.int .i64 i)) ∧ ((w.drew).cell? p3 = some (.slice A n c))) ∧ Below w.heap.size w w.drew := ⟨⟨h6, h3⟩, q61 (Below.refl _ _)⟩
  refine sD_ [] (fun w' => ((w'.cell? p6 = some (.int .i64 i)) ∧ (w'.cell? p3 = some (.slice A n c))) ∧ Below w.heap.size w w') 15 hS (fun hHeld => ?_)
  clear hS
  obtain ⟨wD, hwD⟩ : ∃ wD, wD = w.drew := ⟨_, rfl⟩
  rw [← hwD] at hHeld ⊢
  clear hwD
  refine tk_ 0 (some 5) hHeld ?_ (hy := by rintro w' ⟨⟨s0, s1⟩, -⟩; go_simp; with_reducible rfl)
  refine pu_ 1 (some 6) ?_
  refine tk_ 3 (some 8) hHeld ?_ (hy := by rintro w' ⟨⟨s0, s1⟩, -⟩; go_simp; with_reducible rfl)
  refine pu_ 4 (some 9) ?_
  refine ca_ 2 (some 7) Try.func23 #[.int .i64 i, .int .i64 st] ?_
  refine (flag_call i st wD (by omega) (by omega)).mono ?_
  rintro e d3_ ⟨rfl, hb⟩
  refine ⟨_, rfl, ⟨⟨q76 hb hHeld.1.1, q76 hb hHeld.1.2⟩, q75 hb hHeld.2⟩, fun hHeld => ⟨_, rfl, nz_ (some 7) ?_⟩⟩
  clear hb
  rw [show flagF i st = j from HJ.out.symm]
  refine pu_ 5 (some 10) ?_
  refine pu_ 6 (some 11) ?_
  refine sk_ 7 (some 12) ?_
  refine sk_ 8 (some 13) ?_
  refine sk_ 9 (some 14) ?_
  refine sk_ 10 (some 15) ?_
  refine sk_ 11 (some 16) ?_
  refine sk_ 12 (some 17) ?_
  refine pu_ 13 (some 18) ?_
  refine pu_ 14 (some 4) ?_
  refine dn_ ?_
  have HF := Lib.hid hHeld.2
  clear hHeld
  go_wp2
  go_ret
  exact ⟨rfl, HF.out⟩
def stL (k : Nat) : Int := if k = 0 then 1 else if k = 1 then 2 else if k = 2 then 4 else 3
def stK (up : List Bool) (i : Nat) : Nat → Int
 | 0 => 0
 | k + 1 => if upF up (flagF i (stL k)) = true then stL k else stK up i k
def stOf (up : List Bool) (i : Nat) : Int := stK up i 4
def statesP (up : List Bool) (n : Nat) : List Int := (List.range n).map (fun i => stOf up i)
theorem statesP_succ (up : List Bool) (n : Nat) : statesP up (n + 1) = statesP up n ++ [stOf up n] := by simp [statesP, List.range_succ]
def StatesPost (w : World) (n : Nat) (up : List Bool) (e : Ending) (w' : World) : Prop := ∃ A c, e = .returned (.slice A n c) ∧ Kd.R (Kd.int .i64) 3 w' w.heap.size (fun _ => True) (.slice A n c) (statesP up n) ∧ Below w.heap.size w w'
set_option maxHeartbeats 8000000 in
set_option maxRecDepth 100000 in
theorem States_any (w : World) (v0 : Value) (A1 : Option Addr) (c1 n : Nat) (A : Option Addr) (u c : Nat) (up : List Bool) (hn : n ≤ 1000) (hu : u = up.length) (hr : Kd.C Kd.bool w A up.length up) :
 Calls Try.prog 15 #[.agg #[v0, .slice A1 n c1], .slice A u c] w (StatesPost w n up) := by
 have hu25 := Try.underlying25
 obtain ⟨wB, hwB⟩ : ∃ wB, wB = (w.alloc (.cells #[v0, .slice A1 n c1] 25)).alloc (.cells #[.slice A u c] 47) := ⟨_, rfl⟩
 have hbB : Below w.heap.size w wB := by rw [hwB]; exact q60 (q60 (Below.refl _ _) _) _
 have hg1 : wB.heap[w.heap.size]? = some (.cells #[v0, .slice A1 n c1] 25 (0, 0)) := by rw [hwB]; exact q64 (heap_alloc_new _ _) _
 have hg2 : wB.heap[w.heap.size + 1]? = some (.cells #[.slice A u c] 47 (0, 0)) := by
  rw [hwB, show w.heap.size + 1 = (w.alloc (.cells #[v0, .slice A1 n c1] 25)).heap.size by simp]
  exact heap_alloc_new _ _
 obtain ⟨b, hb⟩ : ∃ b, b = w.heap.size := ⟨_, rfl⟩
 obtain ⟨b2, hb2⟩ : ∃ b2, b2 = w.heap.size + 1 := ⟨_, rfl⟩
 rw [← hb] at hg1
 rw [← hb2] at hg2
 have hm1 : wB.cell? ⟨b, 1, none⟩ = some (.slice A1 n c1) := (q66 hg1 1).trans rfl
 have hm3 : wB.cell? ⟨b2, 0, none⟩ = some (.slice A u c) := (q66 hg2 0).trans rfl
 have HM3 := Lib.hid hm3
 have HWB := Lib.hid hwB
 have HBB := Lib.hid hbB
 have HB := Lib.hid hb
 have HB2 := Lib.hid (show b2 = b + 1 by rw [hb2, hb])
 have HR := Lib.hid (Kd.C_below hr hbB)
 have HU := Lib.hid hu
 clear hwB hbB hg1 hg2 hb hb2 hr hm3 hu
 go_enter Try.func15, Try.ntmps15
 go_upto_region 2 with (fail)
 rw [← HWB.out, ← show b = _ from HB.out, ← show b2 = _ from HB2.out]
 go_wp2_with fail
 go_loopg [5, 14] n (fun gg s5 s14 wr => ∃ (i : Nat) (A5 : Option Addr) (c5 : Nat), s14 = .int .i64 i ∧ s5 = .slice A5 i c5 ∧ i ≤ n ∧ n - i ≤ gg ∧ Hid (Below wB.heap.size wB wr) ∧ Hid (Kd.R (Kd.int .i64) 3 wr wB.heap.size (fun _ => True) (.slice A5 i c5) (statesP up i)))
 case atStart => exact ⟨0, none, 0, rfl, rfl, Nat.zero_le _, by omega, Lib.hid (Below.refl _ _), Lib.hid (Kd.R_nil _ _ _ _ _)⟩
 case round =>
  obtain ⟨i, A5, c5, rfl, rfl, hin, hig, Y, HS⟩ := hrel
  obtain ⟨wO, rfl⟩ : ∃ wO, wO = wr := ⟨_, rfl⟩
  by_cases hlt : i < n
  case neg =>
   obtain rfl : n = i := by omega
   have hlz : ¬ (n : Int) < (n : Int) := by omega
   go_wp2
   go_ret
   exact ⟨A5, c5, rfl, Kd.R_lower HS.out HBB.out.size, q63 HBB.out HBB.out.size Y.out⟩
  have hlz : (i : Int) < (n : Int) := by omega
  have hi1 : (0 : Int) ≤ (i : Int) ∧ (i : Int) ≤ 1000 := by omega
  obtain ⟨w6, hw6⟩ : ∃ w6, w6 = wO.alloc (.cells #[.int .i64 i] 3) := ⟨_, rfl⟩
  have hb6 : Below wO.heap.size wO w6 := by rw [hw6]; exact q60 (Below.refl _ _) _
  have hg6 : w6.heap[wO.heap.size]? = some (.cells #[.int .i64 i] 3 (0, 0)) := by rw [hw6]; exact heap_alloc_new _ _
  obtain ⟨o6, ho6⟩ : ∃ o6, o6 = wO.heap.size := ⟨_, rfl⟩
  rw [← ho6] at hg6
  have hc6 : w6.cell? ⟨o6, 0, none⟩ = some (.int .i64 i) := (q66 hg6 0).trans rfl
  obtain ⟨w7, hw7⟩ : ∃ w7, w7 = w6.alloc (.cells #[.int .i64 1, .int .i64 2, .int .i64 4, .int .i64 3] 3) := ⟨_, rfl⟩
  have hb7 : Below w6.heap.size w6 w7 := by rw [hw7]; exact q60 (Below.refl _ _) _
  have hg7 : w7.heap[w6.heap.size]? = some (.cells #[.int .i64 1, .int .i64 2, .int .i64 4, .int .i64 3] 3 (0, 0)) := by rw [hw7]; exact heap_alloc_new _ _
  obtain ⟨o7, ho7⟩ : ∃ o7, o7 = w6.heap.size := ⟨_, rfl⟩
  rw [← ho7] at hg7
  have hx7 : ∀ k, k < 4 → w7.cell? ⟨o7, k, none⟩ = some (.int .i64 (stL k)) := fun k hk => by
   rw [q66 hg7 k]
   have : k = 0 ∨ k = 1 ∨ k = 2 ∨ k = 3 := by omega
   rcases this with rfl | rfl | rfl | rfl <;> rfl
  have HW6 := Lib.hid hw6
  have HW7 := Lib.hid hw7
  have HO6 := Lib.hid ho6
  have HO7 := Lib.hid ho7
  have HX7 := Lib.hid hx7
  have HC6 := Lib.hid (q76 hb7 hc6)
  have HM7 := Lib.hid (q76 hb7 (q76 hb6 (q76 Y.out HM3.out)))
  have HR7 := Lib.hid (Kd.C_below (Kd.C_below (Kd.C_below HR.out Y.out) hb6) hb7)
  have Y7 := Lib.hid (q63 Y.out Y.out.size (q63 hb6 hb6.size hb7))
  have HS7 := Lib.hid (Kd.R_below (Kd.R_below HS.out hb6) hb7)
  clear hw6 hb6 hg6 ho6 hc6 hw7 hb7 hg7 ho7 hx7 HS Y
  go_upto_region 5 with (fail)
  rw [← HW6.out, ← HO6.out]
  go_wp2_with fail
  rw [← HW7.out, ← HO7.out]
  clear HW6 HW7 HO6 HO7 hm1
  go_loopg [8, 20] 4 (fun gg s8 s20 wr => ∃ k : Nat, s20 = .int .i64 k ∧ s8 = .int .i64 (stK up i k) ∧ k ≤ 4 ∧ 4 - k ≤ gg ∧ Hid (Below w7.heap.size w7 wr))
  case atStart => exact ⟨0, rfl, rfl, Nat.zero_le _, by omega, Lib.hid (Below.refl _ _)⟩
  case round =>
   obtain ⟨k, rfl, rfl, hk4, hkg, Z⟩ := hrel
   obtain ⟨wI, rfl⟩ : ∃ wI, wI = wr := ⟨_, rfl⟩
   by_cases hlk : k < 4
   case neg =>
    obtain rfl : k = 4 := by omega
    have hst : stK up i 4 = stOf up i := rfl
    rw [hst]
    obtain ⟨sv, hsv⟩ : ∃ sv, sv = stOf up i := ⟨_, rfl⟩
    rw [← hsv]
    have HSV := Lib.hid hsv
    have HSI := Lib.hid (Kd.R_below HS7.out Z.out)
    have YI := Lib.hid (q63 Y7.out Y7.out.size Z.out)
    have HLI : Hid (((statesP up i).length + 1) * 8 ≤ 140737488355328) := Lib.hid (by simp [statesP]; omega)
    clear hst hsv
    go_wp2_with (first | ((with_reducible refine q72 (b := .append) (xs := #[.tmp 29, .tmp 31]) rfl ?_); at_builtin; refine Kd.R_append (Kd.int .i64) (w0 := wB) wB.heap.size rfl (.tmp 29) (.tmp 31) 27 3 (.int .i64 0) 8 rfl Try.underlying27 info3 rfl (by decide) (by omega) (.slice A5 i c5) (statesP up i) sv [.int .i64 sv] (fun _ => True) (fun _ => False) rfl rfl rfl (fun _ hk => hk.elim) (fun _ _ => trivial) HSI.out YI.out YI.out.size HLI.out ?_; intro v9 w9 hR9 hB9 hg9 hat9; rw [HSV.out, ← statesP_succ] at hR9; obtain ⟨A9, c9, rfl⟩ := Kd.R_slice hR9; rw [show (statesP up (i + 1)).length = i + 1 by simp [statesP]] at hR9 ⊢; have HR9 := Lib.hid hR9; have HB9 := Lib.hid hB9; clear hR9 hB9 hg9 hat9))
    go_roundg (n - (i + 1))
    case measure => omega
    case rel => exact ⟨i + 1, A9, c9, by go_num, rfl, by omega, Nat.le_refl _, HB9, HR9⟩
   have hlz2 : (k : Int) < 4 := by omega
   have hx := q76 Z.out (HX7.out k hlk)
   have hsl : 1 ≤ stL k ∧ stL k ≤ 4 := by unfold stL; (repeat' split) <;> omega
   obtain ⟨st, hst⟩ : ∃ st, st = stL k := ⟨_, rfl⟩
   rw [← hst] at hx hsl
   have hcall := is_any wI ⟨o6, 0, none⟩ ⟨b2, 0, none⟩ i st A c u up hi1 hsl (q76 Z.out HC6.out) (q76 Z.out HM7.out) HU.out (Kd.C_below HR7.out Z.out)
   obtain ⟨bb, hbb⟩ : ∃ bb, bb = upF up (flagF i st) := ⟨_, rfl⟩
   rw [← hbb] at hcall
   have HST := Lib.hid hst
   have HBV := Lib.hid hbb
   clear hst hbb
   go_wp2_with fail
   refine hcall.mono ?_
   rintro e wK ⟨rfl, hbK⟩
   have ZK := Lib.hid (q63 Z.out Z.out.size hbK)
   clear hcall hbK hx Z
   cases bb
   ·have HE : Hid (stK up i (k + 1) = stK up i k) := Lib.hid (by show (if upF up (flagF i (stL k)) = true then _ else _) = _; rw [← HST.out, ← HBV.out]; rfl)
    go_wp2
    go_roundg (4 - (k + 1))
    case measure => omega
    case rel => exact ⟨k + 1, by go_num, by rw [HE.out], by omega, Nat.le_refl _, ZK⟩
   ·have HE : Hid (stK up i (k + 1) = st) := Lib.hid (by show (if upF up (flagF i (stL k)) = true then _ else _) = _; rw [← HST.out, ← HBV.out]; rfl)
    go_wp2
    go_roundg (4 - (k + 1))
    case measure => omega
    case rel => exact ⟨k + 1, by go_num, by rw [HE.out], by omega, Nat.le_refl _, ZK⟩
end Go.Proofs.Yteddgedacjdjgaa.Pm
end
section
namespace Go.Proofs.Yteddgedacjdjgaa.OpenKd
open Go Go.RowKit Go.ChangeShapes Go.WideShapes Go.Deep Go.Proofs.YteddgedacjdjgaaW.PrintWords
set_option linter.unusedVariables false
set_option linter.unusedSectionVars false
section
variable {H : Type} {enc : TypeId × Value → H} {P : Program} {w : World} {α β : Type}
theorem weights_mem_all {e : TypeId} : ∀ {ds : List (DataW H)} {d : DataW H}, d ∈ ds → ∀ n ∈ d.weights P e, n ∈ DataW.weightsAll P e ds
  | [], _, h, _, _ => by simp at h
  | x :: ds, d, h, n, hn => by
    rcases List.mem_cons.1 h with rfl | h
    · simp [DataW.weightsAll, hn]
    · simp [DataW.weightsAll, weights_mem_all h n hn]
def Light (P : Program) (t : TypeId) (d : DataW H) : Prop := ∀ n ∈ d.weights P t, n ≤ reachBytes
structure Opens (enc : TypeId × Value → H) (P : Program) (w : World) (t : TypeId) (d : Kd α) (good : α → Prop) : Prop where
 cells : P.cellsOf t = d.sz
 go : ∀ (fuel : Nat) (cs : List Value) (x : DataW H × List MemPlace), DataW.trod enc P w 0 (fun _ => true) true fuel t cs = some x → Light P t x.1 → ∃ a, d.K w a cs ∧ good a
theorem opens_int {t : TypeId} {k : IntKind} (hu : P.underlying t = some (.int k)) (hc : P.cellsOf t = 1) : Opens enc P w t (Kd.int k) (fun n => (Lit.int k n).wf = true) :=
 ⟨hc, fun fuel cs x h _ => by
  obtain ⟨n, rfl, _, hw⟩ := DataW.trod_int hu h
  exact ⟨n, rfl, hw⟩⟩
theorem opens_bool {t : TypeId} (hu : P.underlying t = some .bool) (hc : P.cellsOf t = 1) : Opens enc P w t Kd.bool (fun _ => True) :=
 ⟨hc, fun fuel cs x h _ => by
  obtain ⟨n, rfl, _⟩ := DataW.trod_bool hu h
  exact ⟨n, rfl, trivial⟩⟩
theorem opens_string {t : TypeId} (hu : P.underlying t = some .string) (hc : P.cellsOf t = 1) : Opens enc P w t Kd.string (fun s => s.size ≤ 140737488351232) :=
 ⟨hc, fun fuel cs x h hl => by
  obtain ⟨s, rfl, rfl, _⟩ := DataW.trod_string hu h
  refine ⟨s, rfl, ?_⟩
  have := hl s.data.toList.length (by simp [DataW.weights])
  simpa [reachBytes] using this⟩
theorem opens_slice {t e : TypeId} {d : Kd α} {good : α → Prop} (hu : P.underlying t = some (.slice e)) (hc : P.cellsOf t = 1) (h : Opens enc P w e d good) : Opens enc P w t (Kd.slice e d) (fun xs => xs.length * P.bytesOf e ≤ 140737488351232 ∧ ∀ x ∈ xs, good x) :=
  ⟨hc, fun fuel cs x hx hl => by
    rcases open_slice hu hx with ⟨rfl, rfl⟩ | ⟨a, len, cap, m, n, D, Pl, rfl, hb, hlc, hcm, hm, rfl, hel⟩
    · exact ⟨[], ⟨none, 0, rfl, Nat.le_refl _, ⟨rfl, by simp, fun h => by simp at h⟩⟩, by simp, by simp⟩
    · have hle : len ≤ m := by rw [hm]; split <;> omega
      have hmem : ∀ i, i < m → D i ∈ (List.range len).map D ∨ D i ∈ (List.range (m - len)).map fun j => D (len + j) := by
        intro i hi
        by_cases h1 : i < len
        · exact .inl (List.mem_map.2 ⟨i, List.mem_range.2 h1, rfl⟩)
        · exact .inr (List.mem_map.2 ⟨i - len, List.mem_range.2 (by omega), by congr 1; omega⟩)
      have hlight : ∀ i, i < m → Light P e (D i) := by
        intro i hi q hq
        refine hl q ?_
        simp only [DataW.weights, hu]
        rcases hmem i hi with h1 | h1
        · exact List.mem_cons_of_mem _ (List.mem_append_left _ (weights_mem_all h1 q hq))
        · exact List.mem_cons_of_mem _ (List.mem_append_right _ (weights_mem_all h1 q hq))
      have hall : ∀ i, i < len → ∃ x : α, good x ∧ ∃ c, c.length = d.sz ∧ d.K w x c ∧ ∀ j u, c[j]? = some u → w.cell? (a.add (i * d.sz + j)) = some u := by
        intro i hi
        obtain ⟨cs', hcs, htr⟩ := hel i (by omega)
        obtain ⟨y, hK, hg⟩ := h.go n cs' _ htr (hlight i (by omega))
        obtain ⟨_, hcl, hcc⟩ := World.cells?_some hcs
        refine ⟨y, hg, cs', by rw [hcl, h.cells], hK, fun j u hj => ?_⟩
        have hjl : j < P.cellsOf e := by rw [← hcl]; exact (List.getElem?_eq_some_iff.1 hj).1
        have := hcc j hjl
        rw [hj, Deep.add_add, h.cells] at this
        exact this
      have hlist : ∃ xs : List α, xs.length = len ∧ ∀ i (x : α), xs[i]? = some x → good x ∧ ∃ c, c.length = d.sz ∧ d.K w x c ∧ ∀ j u, c[j]? = some u → w.cell? (a.add (i * d.sz + j)) = some u := by
        clear hmem hlight hle hlc hl hel hx hm
        induction len with
        | zero => exact ⟨[], rfl, fun i x h => by simp at h⟩
        | succ len ih =>
          obtain ⟨xs, hxl, hxs⟩ := ih (fun i hi => hall i (by omega))
          obtain ⟨y, hy⟩ := hall len (by omega)
          refine ⟨xs ++ [y], by simp [hxl], fun i x hi => ?_⟩
          by_cases h1 : i < xs.length
          · rw [List.getElem?_append_left h1] at hi
            exact hxs i x hi
          · rw [List.getElem?_append_right (by omega)] at hi
            have h2 : i = xs.length := by
              have := (List.getElem?_eq_some_iff.1 hi).1
              simp at this
              omega
            subst h2
            simp at hi
            subst hi
            rw [hxl]
            exact hy
      obtain ⟨xs, hxl, hxs⟩ := hlist
      subst hxl
      refine ⟨xs, ⟨some a, cap, rfl, hlc, rfl, by have := hcm; unfold maxLen at this; omega, fun _ => ⟨a, rfl, fun j p hj => (hxs j p hj).2⟩⟩, ?_, fun x hx => ?_⟩
      · have hw := hl ((((List.range xs.length).map D).length + ((List.range (m - xs.length)).map fun j => D (xs.length + j)).length) * P.bytesOf e) (by simp [DataW.weights, hu])
        simp only [List.length_map, List.length_range] at hw
        have h2 : xs.length * P.bytesOf e ≤ (xs.length + (m - xs.length)) * P.bytesOf e := Nat.mul_le_mul_right _ (by omega)
        unfold reachBytes at hw
        omega
      · obtain ⟨i, hi, rfl⟩ := List.getElem_of_mem hx
        exact (hxs i _ (List.getElem?_eq_getElem hi)).1⟩
structure OpensF (enc : TypeId × Value → H) (P : Program) (w : World) (fs : List Field) (o : Nat) (d : Kd α) (good : α → Prop) : Prop where
 go : ∀ (n : Nat) (cs : List Value) (xs : List (DataW H × List MemPlace)), (∀ (i : Nat) (f : Field), fs[i]? = some f → DataW.trod enc P w 0 (fun _ => true) true n f.type ((cs.drop f.offset).take (P.cellsOf f.type)) = xs[i]?) →
  xs.length = fs.length → cs.length = o + d.sz → (∀ q ∈ DataW.weightsEach P (fs.map (·.type)) (xs.map (·.1)), q ≤ reachBytes) → ∃ a, d.K w a (cs.drop o) ∧ good a
theorem opens_last {f : Field} {o : Nat} {d : Kd α} {good : α → Prop} (ho : f.offset = o) (h : Opens enc P w f.type d good) : OpensF enc P w [f] o d good :=
  ⟨fun n cs xs hx hxl hcl hw => by
    match xs, hxl with
    | [x], _ =>
      have h0 := hx 0 f rfl
      rw [ho, h.cells, List.take_of_length_le (by rw [List.length_drop]; omega)] at h0
      exact h.go n _ x (by simpa using h0) (fun q hq => hw q (by simp [DataW.weightsEach, hq]))⟩
theorem opens_cons {f : Field} {fs : List Field} {o o2 : Nat} {a : Kd α} {b : Kd β} {ga : α → Prop} {gb : β → Prop} (ho : f.offset = o) (h : Opens enc P w f.type a ga) (ho2 : o2 = o + a.sz) (h2 : OpensF enc P w fs o2 b gb) :
    OpensF enc P w (f :: fs) o (Kd.pair a b) (fun p => ga p.1 ∧ gb p.2) :=
  ⟨fun n cs xs hx hxl hcl hw => by
    match xs, hxl with
    | x :: xs, hxl =>
      have h0 := hx 0 f rfl
      rw [ho, h.cells] at h0
      have hcl' : cs.length = o + (a.sz + b.sz) := hcl
      obtain ⟨x1, hK1, hg1⟩ := h.go n _ x (by simpa using h0) (fun q hq => hw q (by simp [DataW.weightsEach, hq]))
      obtain ⟨x2, hK2, hg2⟩ := h2.go n cs xs (fun i f' hf => by simpa using hx (i + 1) f' (by simpa using hf)) (by simpa using hxl) (by omega) (fun q hq => hw q (by
        simp only [List.map_cons, DataW.weightsEach]
        exact List.mem_append_right _ hq))
      refine ⟨(x1, x2), ⟨(cs.drop o).take a.sz, cs.drop o2, ?_, hK1, hK2⟩, hg1, hg2⟩
      have h3 := List.take_append_drop a.sz (cs.drop o)
      rw [List.drop_drop] at h3
      rw [ho2]
      exact h3.symm⟩
theorem opens_struct {t : TypeId} {fs : Array Field} {d : Kd α} {good : α → Prop} (hu : P.underlying t = some (.struct fs)) (hc : P.cellsOf t = d.sz) (h : OpensF enc P w fs.toList 0 d good) {f : β → α} (g : α → β) (hg : ∀ a, f (g a) = a) :
 Opens enc P w t (Kd.iso d f) (fun y => good (f y)) :=
 ⟨hc, fun fuel cs x hx hl => by
  obtain ⟨xs, n, _, rfl, hcl, hxl, hxs⟩ := DataW.trod_struct hu hx
  obtain ⟨a, hK, hga⟩ := h.go n cs xs (fun i f' hf => hxs i f' (by rw [← Array.getElem?_toList]; exact hf)) (by simpa using hxl) (by rw [hcl, hc]; omega) (fun q hq => hl q (by simpa [DataW.weights, hu] using hq))
  refine ⟨g a, ?_, by rw [hg]; exact hga⟩
  show d.K w (f (g a)) cs
  rw [hg]
  simpa using hK⟩
end
end Go.Proofs.Yteddgedacjdjgaa.OpenKd
end
section
namespace Go.Proofs.Yteddgedacjdjgaa.Pm
open Go.RowKit Go.Proofs.YteddgedacjdjgaaW.PrintWords Go.Proofs.YteddgedacjdjgaaW.PrintLast Go.Proofs.YteddgedacjdjgaaW.PrintMore
attribute [local go_sem] max2_int min2_int max_two min_two max_three min_three max_four min_four   -- for this text's walks alone
set_option linter.unusedVariables false
set_option linter.unusedSimpArgs false
open OpenKd
def goodSentry (x : S45) : Prop := x.f0.length ≤ 140737488351232 ∧ x.f1.length ≤ 140737488351232
def goodItem (x : S41) : Prop := x.f0.size ≤ 140737488351232 ∧ x.f2.size ≤ 140737488351232 ∧ x.f5.length ≤ 140737488351232 ∧ x.f6.length ≤ 140737488351232 ∧ (∀ s ∈ x.f5, goodSentry s) ∧ ∀ s ∈ x.f6, goodSentry s
theorem Opens.imp {H : Type} {enc : TypeId × Value → H} {P : Program} {w : World} {t : TypeId} {α : Type} {d : Kd α} {g g' : α → Prop} (h : Opens enc P w t d g) (hg : ∀ x, g x → g' x) : Opens enc P w t d g' :=
 ⟨h.cells, fun n cs x hx hl => let ⟨a, hK, ha⟩ := h.go n cs x hx hl; ⟨a, hK, hg a ha⟩⟩
section
variable {H : Type} {enc : TypeId × Value → H} {w : World}
set_option maxRecDepth 100000 in
theorem opens_on : Opens enc Try.prog w 101 k101 (fun _ => True) :=
 Opens.imp (opens_struct Try.underlying101 (by kernel_rfl) (opens_cons rfl (opens_string Try.underlying9 (by kernel_rfl)) rfl (opens_last rfl (opens_int Try.underlying3 (by kernel_rfl)))) (fun a => ⟨a.1, a.2⟩) (fun _ => rfl)) (fun _ _ => trivial)
set_option maxRecDepth 100000 in
theorem opens_cond : Opens enc Try.prog w 90 k90 (fun _ => True) :=
 Opens.imp (opens_struct Try.underlying90 (by kernel_rfl) (opens_cons rfl (opens_string Try.underlying9 (by kernel_rfl)) rfl (opens_cons rfl (opens_string Try.underlying9 (by kernel_rfl)) rfl (opens_last rfl (opens_int Try.underlying3 (by kernel_rfl))))) (fun a => ⟨a.1, a.2.1, a.2.2⟩) (fun _ => rfl)) (fun _ _ => trivial)
set_option maxRecDepth 100000 in
theorem opens_ons : Opens enc Try.prog w 42 (Kd.slice 101 k101) (fun xs => xs.length ≤ 140737488351232) :=
 Opens.imp (opens_slice Try.underlying42 (by kernel_rfl) opens_on) (fun xs h => by have := h.1; rw [show Try.prog.bytesOf 101 = 24 by kernel_rfl] at this; omega)
set_option maxRecDepth 100000 in
theorem opens_conds : Opens enc Try.prog w 43 (Kd.slice 90 k90) (fun xs => xs.length ≤ 140737488351232) :=
 Opens.imp (opens_slice Try.underlying43 (by kernel_rfl) opens_cond) (fun xs h => by have := h.1; rw [show Try.prog.bytesOf 90 = 40 by kernel_rfl] at this; omega)
set_option maxRecDepth 100000 in
theorem opens_sentry : Opens enc Try.prog w 45 k45 goodSentry :=
 Opens.imp (opens_struct Try.underlying45 (by kernel_rfl) (opens_cons rfl opens_ons rfl (opens_last rfl opens_conds)) (fun a => ⟨a.1, a.2⟩) (fun _ => rfl)) (fun _ h => h)
set_option maxRecDepth 100000 in
theorem opens_sentries : Opens enc Try.prog w 39 (Kd.slice 45 k45) (fun xs => xs.length ≤ 140737488351232 ∧ ∀ s ∈ xs, goodSentry s) :=
 Opens.imp (opens_slice Try.underlying39 (by kernel_rfl) opens_sentry) (fun xs h => ⟨by have := h.1; rw [show Try.prog.bytesOf 45 = 48 by kernel_rfl] at this; omega, h.2⟩)
set_option maxRecDepth 100000 in
theorem opens_item : Opens enc Try.prog w 41 k41 goodItem :=
 Opens.imp (opens_struct Try.underlying41 (by kernel_rfl) (opens_cons rfl (opens_string Try.underlying9 (by kernel_rfl)) rfl (opens_cons rfl (opens_int Try.underlying3 (by kernel_rfl)) rfl (opens_cons rfl (opens_string Try.underlying9 (by kernel_rfl)) rfl (opens_cons rfl (opens_bool Try.underlying4 (by kernel_rfl)) rfl (opens_cons rfl (opens_int Try.underlying3 (by kernel_rfl)) rfl (opens_cons rfl opens_sentries rfl (opens_last rfl opens_sentries)))))))
  (fun a => ⟨a.1, a.2.1, a.2.2.1, a.2.2.2.1, a.2.2.2.2.1, a.2.2.2.2.2.1, a.2.2.2.2.2.2⟩) (fun _ => rfl)) (fun x h => ⟨h.1, h.2.2.1, h.2.2.2.2.2.1.1, h.2.2.2.2.2.2.1, h.2.2.2.2.2.1.2, h.2.2.2.2.2.2.2⟩)
set_option maxRecDepth 100000 in
theorem opens_items : Opens enc Try.prog w 23 (Kd.slice 41 k41) (fun xs => xs.length ≤ 140737488351232 ∧ ∀ x ∈ xs, goodItem x) :=
 Opens.imp (opens_slice Try.underlying23 (by kernel_rfl) opens_item) (fun xs h => ⟨by have := h.1; rw [show Try.prog.bytesOf 41 = 104 by kernel_rfl] at this; omega, h.2⟩)
set_option maxRecDepth 100000 in
theorem opens_files : Opens enc Try.prog w 22 (Kd.slice 9 Kd.string) (fun xs => xs.length ≤ 140737488351232) :=
 Opens.imp (opens_slice Try.underlying22 (by kernel_rfl) (opens_string Try.underlying9 (by kernel_rfl))) (fun xs h => by have := h.1; rw [show Try.prog.bytesOf 9 = 16 by kernel_rfl] at this; omega)
set_option maxRecDepth 100000 in
theorem opens_model : Opens enc Try.prog w 25 (Kd.iso (Kd.pair (Kd.slice 9 Kd.string) (Kd.slice 41 k41)) (fun (p : List ByteArray × List (S41)) => p)) (fun p => p.1.length ≤ 140737488351232 ∧ p.2.length ≤ 140737488351232 ∧ ∀ x ∈ p.2, goodItem x) :=
 opens_struct Try.underlying25 (by kernel_rfl) (opens_cons rfl opens_files rfl (opens_last rfl opens_items)) (fun a => a) (fun _ => rfl)
set_option maxRecDepth 100000 in
theorem open_model {b0 : Nat} {v : Value} {d : DataW H} {p : List MemPlace} (hv : Value.okWide Try.prog w .any b0 25 v) (h : DataW.Trod enc Try.prog w 0 (fun _ => true) true 25 v d p) (hl : Light Try.prog 25 d) :
 ∃ A0 c0 fs A1 c1 l, v = .agg #[.slice A0 fs.length c0, .slice A1 l.length c1] ∧ Kd.C Kd.string w A0 fs.length fs ∧ fs.length ≤ c0 ∧ Kd.C k41 w A1 l.length l ∧ l.length ≤ c1 ∧ fs.length ≤ 140737488351232 ∧ l.length ≤ 140737488351232 ∧ ∀ x ∈ l, goodItem x := by
 obtain ⟨cs, rfl, hsz⟩ := Go.WideShapes.okWide_struct Try.underlying25 hv
 obtain ⟨fuel, hf⟩ := h
 obtain ⟨⟨fs, l⟩, hK, h1, h2, h3⟩ := opens_model.go fuel _ _ hf hl
 obtain ⟨z0, z1, hz, ⟨A0, c0, rfl, q1, q2⟩, ⟨A1, c1, rfl, q3, q4⟩⟩ := hK
 have hz' : cs = #[.slice A0 fs.length c0, .slice A1 l.length c1] := by
  have : cs.toList = [.slice A0 fs.length c0, .slice A1 l.length c1] := by simpa [Value.cells] using hz
  rw [← Array.toArray_toList (xs := cs), this]
 exact ⟨A0, c0, fs, A1, c1, l, by rw [hz'], q2, q1, q4, q3, h1, h2, h3⟩
set_option maxRecDepth 100000 in
theorem light_of {ts : List TypeId} {ds : List (DataW H)} (h : (DataW.weightsEach Try.prog ts ds).all (· ≤ reachBytes) = true) {j : Nat} {t : TypeId} {d : DataW H} (ht : ts[j]? = some t) (hd : ds[j]? = some d) : Light Try.prog t d := by
 intro n hn
 have := List.all_eq_true.1 h n (DataW.weights_mem_each ht hd n hn)
 simpa using this
end
end Go.Proofs.Yteddgedacjdjgaa.Pm
end
section
namespace Go.Proofs.Yteddgedacjdjgaa.Pm
open Go.RowKit Go.Proofs.YteddgedacjdjgaaW.PrintWords Go.Proofs.YteddgedacjdjgaaW.PrintLast Go.Proofs.YteddgedacjdjgaaW.PrintMore
attribute [local go_sem] max2_int min2_int max_two min_two max_three min_three max_four min_four   -- for this text's walks alone
set_option linter.unusedVariables false
set_option linter.unusedSimpArgs false
theorem rd_s (l : List (S45)) (i : Nat) (h : i < l.length) : q85 l (i : Int) = l[i] := by simp [q85, List.getD_eq_getElem?_getD, List.getElem?_eq_getElem h]
theorem hv_add {a b c : Int} (h1 : 0 ≤ a) (h2 : a ≤ 1152921504606846976) (h3 : 0 ≤ b) (h4 : b ≤ 140737488351232) (h5 : 0 ≤ c) (h6 : c ≤ 140737488351232) : wrap64 (wrap64 (a + b) + c) = a + b + c := by
 unfold wrap64; omega
theorem hv_sum {y a b c d : Int} (h1 : 0 ≤ y) (h2 : y < 400) (a1 : 0 ≤ a) (a2 : a ≤ 140737488351232) (b1 : 0 ≤ b) (b2 : b ≤ 140737488351232) (c1 : 0 ≤ c) (c2 : c ≤ 140737488351232) (d1 : 0 ≤ d) (d2 : d ≤ 140737488351232) : wrap64 (wrap64 (wrap64 (wrap64 (y + a) + b) + wrap64 (c / 50)) + wrap64 (d / 50)) = y + a + b + c / 50 + d / 50 ∧ 0 ≤ c / 50 ∧ c / 50 ≤ 140737488351232 ∧ 0 ≤ d / 50 ∧ d / 50 ≤ 140737488351232 := by
 have e1 : 0 ≤ c / 50 ∧ c / 50 ≤ 140737488351232 := by omega
 have e2 : 0 ≤ d / 50 ∧ d / 50 ≤ 140737488351232 := by omega
 refine ⟨?_, e1.1, e1.2, e2.1, e2.2⟩
 revert e1 e2
 generalize c / 50 = c
 generalize d / 50 = d
 intro e1 e2
 rw [show wrap64 c = c by unfold wrap64; omega, show wrap64 d = d by unfold wrap64; omega, hv_add (a := y) h1 (by omega) a1 a2 b1 b2, hv_add (a := y + a + b) (by omega) (by omega) e1.1 e1.2 e2.1 e2.2]
theorem ev_hv2 (fs : List ByteArray) (l : List (S41)) (N0 : Int) (h0 : 0 ≤ N0) (x : S41) (hx : goodItem x) (i : Nat) (hi : i < l.length) (hl : l.length ≤ 140737488351232)
    (hR : ∀ y : Int, N0 ≤ y → y ≤ 1152921504606846976 → ∃ b, Ev (fun k => q20.l0 k y (((i + 1 : Nat)) : Int) fs l) b ∧ (b = false → N0 < 400)) (d : Nat) : ∀ (j : Nat) (y : Int), j + d = x.f6.length → N0 ≤ y → y ≤ 1152921504606846976 → ∃ b, Ev (fun k => q20.l2 k y (i : Int) (j : Int) fs l x.f0 x.f1 x.f2 x.f3 x.f4 x.f5 x.f6) b ∧ (b = false → N0 < 400) := by
  obtain ⟨_, _, _, g6, _, hs6⟩ := hx
  induction d with
  | zero =>
    intro j y hj h1 h2
    obtain ⟨b, hb, hc⟩ := hR y h1 h2
    refine ⟨b, Ev.step (f := fun k => q20.l0 k y (((i + 1 : Nat)) : Int) fs l) (fun k => ?_) hb, hc⟩
    simp only [q20.l2]
    rw [if_neg (by omega), wrap_lt (n := (l.length : Int)) (by omega) (by omega) (by omega)]
    rfl
  | succ d ih =>
    intro j y hj h1 h2
    by_cases hc : y < 400
    case neg =>
      obtain ⟨b, hb, hc'⟩ := hR y h1 h2
      refine ⟨b, Ev.step (f := fun k => q20.l0 k y (((i + 1 : Nat)) : Int) fs l) (fun k => ?_) hb, hc'⟩
      simp only [q20.l2]
      rw [if_pos (by omega), if_neg hc, wrap_lt (n := (l.length : Int)) (by omega) (by omega) (by omega)]
      rfl
    have hjl : j < x.f6.length := by omega
    obtain ⟨ga, gb⟩ := hs6 x.f6[j] (List.getElem_mem hjl)
    obtain ⟨b, hb, hc'⟩ := ih (j + 1) (y + (x.f6[j]).f0.length + (x.f6[j]).f1.length) (by omega) (by omega) (by omega)
    refine ⟨b, Ev.step (f := fun k => q20.l2 k (y + (x.f6[j]).f0.length + (x.f6[j]).f1.length) (i : Int) (((j + 1 : Nat)) : Int) fs l x.f0 x.f1 x.f2 x.f3 x.f4 x.f5 x.f6) (fun k => ?_) hb, hc'⟩
    simp only [q20.l2]
    rw [if_pos (by omega), if_pos hc, if_pos (by omega), rd_s _ _ hjl, hv_add (by omega) (by omega) (by omega) (by omega) (by omega) (by omega), wrap_lt (n := (x.f6.length : Int)) (by omega) (by omega) (by omega)]
    rfl
theorem ev_hv1 (fs : List ByteArray) (l : List (S41)) (N0 : Int) (h0 : 0 ≤ N0) (x : S41) (hx : goodItem x) (i : Nat) (hi : i < l.length) (hl : l.length ≤ 140737488351232)
    (hR : ∀ y : Int, N0 ≤ y → y ≤ 1152921504606846976 → ∃ b, Ev (fun k => q20.l0 k y (((i + 1 : Nat)) : Int) fs l) b ∧ (b = false → N0 < 400)) (d : Nat) : ∀ (j : Nat) (y : Int), j + d = x.f5.length → N0 ≤ y → y ≤ 1152921504606846976 → ∃ b, Ev (fun k => q20.l1 k y (i : Int) (j : Int) fs l x.f0 x.f1 x.f2 x.f3 x.f4 x.f5 x.f6) b ∧ (b = false → N0 < 400) := by
  have hx0 := hx
  obtain ⟨_, _, g5, _, hs5, _⟩ := hx
  have hnext : ∀ y : Int, N0 ≤ y → y ≤ 1152921504606846976 → ∃ b, Ev (fun k => q20.j3 k y (i : Int) fs l x.f0 x.f1 x.f2 x.f3 x.f4 x.f5 x.f6) b ∧ (b = false → N0 < 400) := by
    intro y h1 h2
    obtain ⟨b, hb, hc⟩ := ev_hv2 fs l N0 h0 x hx0 i hi hl hR x.f6.length 0 y (by omega) h1 h2
    exact ⟨b, Ev.step (fun k => by simp only [q20.j3]; rfl) hb, hc⟩
  induction d with
  | zero =>
    intro j y hj h1 h2
    obtain ⟨b, hb, hc⟩ := hnext y h1 h2
    refine ⟨b, Ev.step (fun k => ?_) hb, hc⟩
    simp only [q20.l1]
    rw [if_neg (by omega)]
  | succ d ih =>
    intro j y hj h1 h2
    by_cases hc : y < 400
    case neg =>
      obtain ⟨b, hb, hc'⟩ := hnext y h1 h2
      refine ⟨b, Ev.step (fun k => ?_) hb, hc'⟩
      simp only [q20.l1]
      rw [if_pos (by omega), if_neg hc]
    have hjl : j < x.f5.length := by omega
    obtain ⟨ga, gb⟩ := hs5 x.f5[j] (List.getElem_mem hjl)
    obtain ⟨b, hb, hc'⟩ := ih (j + 1) (y + (x.f5[j]).f0.length + (x.f5[j]).f1.length) (by omega) (by omega) (by omega)
    refine ⟨b, Ev.step (f := fun k => q20.l1 k (y + (x.f5[j]).f0.length + (x.f5[j]).f1.length) (i : Int) (((j + 1 : Nat)) : Int) fs l x.f0 x.f1 x.f2 x.f3 x.f4 x.f5 x.f6) (fun k => ?_) hb, hc'⟩
    simp only [q20.l1]
    rw [if_pos (by omega), if_pos hc, if_pos (by omega), rd_s _ _ hjl, hv_add (by omega) (by omega) (by omega) (by omega) (by omega) (by omega), wrap_lt (n := (x.f5.length : Int)) (by omega) (by omega) (by omega)]
    rfl
theorem ev_hv0 (fs : List ByteArray) (l : List (S41)) (hg : ∀ x ∈ l, goodItem x) (hl : l.length ≤ 140737488351232) (N0 : Int) (h0 : 0 ≤ N0) (d : Nat) : ∀ (i : Nat) (y : Int), i + d = l.length → N0 ≤ y → y ≤ 1152921504606846976 → ∃ b, Ev (fun k => q20.l0 k y (i : Int) fs l) b ∧ (b = false → N0 < 400) := by
  have hend : ∀ (i : Nat) (y : Int), N0 ≤ y → ∃ b, Ev (fun k => q20.j1 k y (i : Int) false fs l) b ∧ (b = false → N0 < 400) := by
    intro i y h1
    refine ⟨decide (y ≥ 400), Ev.step (f := fun _ => some (decide (y ≥ 400))) (fun k => by simp [q20.j1]) (Ev.now _), fun h => ?_⟩
    have := of_decide_eq_false h
    omega
  induction d with
  | zero =>
    intro i y hi h1 h2
    obtain ⟨b, hb, hc⟩ := hend i y h1
    refine ⟨b, Ev.step (fun k => ?_) hb, hc⟩
    simp only [q20.l0]
    rw [if_neg (by omega)]
  | succ d ih =>
    intro i y hi h1 h2
    by_cases hc : y < 400
    case neg =>
      obtain ⟨b, hb, hc'⟩ := hend i y h1
      refine ⟨b, Ev.step (fun k => ?_) hb, hc'⟩
      simp only [q20.l0]
      rw [if_pos (by omega), decide_eq_false hc]
    have hil : i < l.length := by omega
    have hrd : q84 l (i : Int) = l[i] := by simp [q84, List.getD_eq_getElem?_getD, List.getElem?_eq_getElem hil]
    obtain ⟨x, hx⟩ : ∃ x, x = l[i] := ⟨_, rfl⟩
    have hgx : goodItem x := by rw [hx]; exact hg _ (List.getElem_mem hil)
    have hgx0 := hgx
    obtain ⟨g0, g2, g5, g6, _, _⟩ := hgx
    obtain ⟨z, hz⟩ : ∃ z : Int, z = y + x.f5.length + x.f6.length + (x.f0.size : Int) / 50 + (x.f2.size : Int) / 50 := ⟨_, rfl⟩
    obtain ⟨hsum, q1, q2, q3, q4⟩ := hv_sum (y := y) (a := (x.f5.length : Int)) (b := (x.f6.length : Int)) (c := (x.f0.size : Int)) (d := (x.f2.size : Int)) (by omega) hc (by omega) (by omega) (by omega) (by omega) (by omega) (by omega) (by omega) (by omega)
    rw [← hz] at hsum
    have hzb : N0 ≤ z ∧ z ≤ 1152921504606846976 := by
      clear hsum
      revert hz q1 q2 q3 q4
      generalize (x.f0.size : Int) / 50 = c
      generalize (x.f2.size : Int) / 50 = d
      intro hz q1 q2 q3 q4
      omega
    clear hz q1 q2 q3 q4
    obtain ⟨b, hb, hc'⟩ := ev_hv1 fs l N0 h0 x hgx0 i hil hl (fun y' h1' h2' => ih (i + 1) y' (by omega) h1' h2') x.f5.length 0 z (by omega) hzb.1 hzb.2
    have hb' : Ev (fun k => q20.l1 k z (i : Int) 0 fs l x.f0 x.f1 x.f2 x.f3 x.f4 x.f5 x.f6) b := hb
    refine ⟨b, Ev.step (f := fun k => q20.j1 k y (i : Int) true fs l) (fun k => ?_) (Ev.step (fun k => ?_) hb'), hc'⟩
    · simp only [q20.l0]
      rw [if_pos (by omega), decide_eq_true hc]
    · simp only [q20.j1]
      rw [if_pos trivial, if_pos (by omega), if_pos (by omega), hrd, ← hx, hsum]
theorem ev_heavy (fs : List ByteArray) (l : List (S41)) (hf : fs.length ≤ 140737488351232) (hl : l.length ≤ 140737488351232) (hg : ∀ x ∈ l, goodItem x) : ∃ b, Ev (fun k => q20.f k fs l) b ∧ (b = false → fs.length + l.length < 400) := by
 unfold q20.f
 rw [show wrap64 ((fs.length : Int) + (l.length : Int)) = (fs.length : Int) + (l.length : Int) by unfold wrap64; omega]
 obtain ⟨b, hb, hc⟩ := ev_hv0 fs l hg hl ((fs.length : Int) + (l.length : Int)) (by omega) l.length 0 _ (by omega) (Int.le_refl _) (by omega)
 exact ⟨b, hb, fun h => by have := hc h; omega⟩
def q26.f (a0 : Int) : Option (Bool) := if a0 ≥ 97 then (if a0 ≤ 122 then (some true) else (if a0 ≥ 65 then (if a0 ≤ 90 then (some true) else (some (a0 == 95))) else (some (a0 == 95)))) else (if a0 ≥ 65 then (if a0 ≤ 90 then (some true) else (some (a0 == 95))) else (some (a0 == 95)))
def q28.f (a0 : Int) : Option (Bool) := (q26.f a0).bind fun t101 => (if t101 = true then (some true) else (if a0 ≥ 48 then (if a0 ≤ 57 then (some true) else (if a0 = 45 then (some true) else (some (a0 == 46)))) else (if a0 = 45 then (some true) else (some (a0 == 46)))))
mutual
def q38.j0 : Nat → ByteArray → Bool → Option (Bool)
 | 0, _, _ => none
 | k + 1, x0, x17 => if x17 = true then (some false) else (q38.l0 k x0 0)
def q38.l0 : Nat → ByteArray → Int → Option (Bool)
 | 0, _, _ => none
 | k + 1, x0, x3 => if x3 < (x0.size : Int) then (if 0 ≤ x3 then ((q28.f (bt x0 x3)).bind fun t103 => (if t103 = true then (q38.l0 k x0 (wrap64 (x3 + 1))) else (some false))) else (none)) else (some true)
end
def q38.f (k : Nat) (a0 : ByteArray) : Option (Bool) := if (a0.size : Int) < 1 then (q38.j0 k a0 true) else (if (a0.size : Int) > 12 then (q38.j0 k a0 true) else (if 0 < (a0.size : Int) then ((q26.f (bt a0 0)).bind fun t102 => (q38.j0 k a0 (!t102))) else (none)))
theorem q38.mono_l : ∀ k, (∀ y0 y1, LeO (q38.j0 k y0 y1) (q38.j0 (k + 1) y0 y1)) ∧ (∀ y0 y1, LeO (q38.l0 k y0 y1) (q38.l0 (k + 1) y0 y1))
 | 0 => ⟨fun _ _ r h => by simp [q38.j0] at h, fun _ _ r h => by simp [q38.l0] at h⟩
 | k + 1 => by
  obtain ⟨ih0, ih1⟩ := q38.mono_l k
  refine ⟨?_, ?_⟩
  intro y0 y1
  unfold q38.j0
  rotate_left
  intro y0 y1
  unfold q38.l0
  rotate_left
  all_goals repeat' first
   | (with_reducible exact ih0 _ _)
   | (with_reducible exact ih1 _ _)
   | (with_reducible exact LeO.refl _)
   | (with_reducible exact LeO.none _)
   | (with_reducible refine LeO.ite ?_ ?_)
   | (with_reducible refine LeO.bind ?_ (fun _ => ?_))
   | exact ih0 _ _
   | exact ih1 _ _
   | exact LeO.none _
   | refine LeO.ite ?_ ?_
   | refine LeO.bind ?_ (fun _ => ?_)
theorem q38.mono : ∀ a0 k, LeO (q38.f k a0) (q38.f (k + 1) a0) := by
 intro a0 k
 obtain ⟨ih0, ih1⟩ := q38.mono_l k
 unfold q38.f
 repeat' first
  | (with_reducible exact ih0 _ _)
  | (with_reducible exact ih1 _ _)
  | (with_reducible exact LeO.refl _)
  | (with_reducible exact LeO.none _)
  | (with_reducible refine LeO.ite ?_ ?_)
  | (with_reducible refine LeO.bind ?_ (fun _ => ?_))
  | exact ih0 _ _
  | exact ih1 _ _
  | exact LeO.none _
  | refine LeO.ite ?_ ?_
  | refine LeO.bind ?_ (fun _ => ?_)
end Go.Proofs.Yteddgedacjdjgaa.Pm
end
