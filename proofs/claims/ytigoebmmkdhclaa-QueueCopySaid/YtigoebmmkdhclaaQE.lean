import Derived.Test.YtigoebmmkdhclaaQD
namespace Go.Proofs.Ytigoebmmkdhclaa.Pq
open Go.RowKit Go.Proofs.YtigoebmmkdhclaaW.PrintWords Go.Proofs.YtigoebmmkdhclaaW.PrintLast Go.Proofs.YtigoebmmkdhclaaW.PrintMore
open QHeap
set_option linter.unusedVariables false
set_option linter.unusedSimpArgs false

/-- What a loop of down carries. -/
def DownRel (w0 w : World) (P : Nat → Prop) (gq : Nat) (v : Value) (xs : List S48) (n i : Nat) (ys : List S48) (wr : World) : Prop :=
  (i = 0 ∨ i < n) ∧ n ≤ ys.length ∧ ys.length ≤ 1000 ∧ DownInv ys i n ∧ ys.Perm xs ∧ (∀ k, n ≤ k → QHeap.g ys k = QHeap.g xs k) ∧ QAt w0 wr (fun k => P k ∨ w.heap.size ≤ k) gq v ys ∧ Below w0.heap.size w0 wr ∧ Kept w wr P

def DownEnd (w0 w : World) (P : Nat → Prop) (gq : Nat) (v : Value) (xs : List S48) (n : Nat) (e : Ending) (w' : World) : Prop := ∃ b : Bool, e = .returned (.bool b) ∧
  ∃ ys, QAt w0 w' (fun k => P k ∨ w.heap.size ≤ k) gq v ys ∧ ys.Perm xs ∧ HeapN ys n ∧ (∀ k, n ≤ k → QHeap.g ys k = QHeap.g xs k) ∧ Below w0.heap.size w0 w' ∧ Kept w w' P

set_option maxHeartbeats 4000000 in
set_option maxRecDepth 100000 in
theorem down_any (w0 w : World) (P : Nat → Prop) (gq : Nat) (v : Value) (xs : List S48) (n : Nat) (hB : Below w0.heap.size w0 w) (hP : ∀ k, P k → k ≠ gq) (hq : QAt w0 w P gq v xs) (hn : n ≤ xs.length) (hu : DownInv xs 0 n) (hl : xs.length ≤ 1000) :
    Calls Try.prog 24 #[.iface 46 (.pointer (some ⟨gq, 0, none⟩)), .int .i64 0, .int .i64 n] w (DownEnd w0 w P gq v xs n) := by
  have mL := fun (W : World) (h : W.cell? ⟨gq, 0, none⟩ = some v) => m_less h
  have mS := fun (W : World) (h : W.cell? ⟨gq, 0, none⟩ = some v) => m_swap h
  have hgq := blk_lt hq.blk
  go_enter Try.func24, Try.ntmps24
  go_wp2
  go_loopg [7] (n + 1) (fun gg s7 wr => ∃ (i : Nat) (ys : List S48), s7 = .int .i64 i ∧ n - i < gg ∧ Aside (DownRel w0 w P gq v xs n i ys wr))
  case atStart => exact ⟨0, xs, rfl, by omega, .inl rfl, hn, hl, hu, List.Perm.refl _, fun _ _ => rfl, hq.mono (fun _ h => .inl h), hB, Kept.refl _ _⟩
  case round =>
    obtain ⟨i, ys, rfl, hig, A⟩ := hrel
    obtain ⟨hi0, hny, hyl, _⟩ := A.out
    have hrow := A.out.2.2.2.2.2.2.1
    have hc := hrow.cell
    have A' := Lib.hid (show DownRel w0 w P gq v xs n i ys wr from A)
    clear A
    have HR := Lib.hid hrow
    clear hrow
    have b0 : (0 : Int) ≤ i := by omega
    have b2 : (i : Int) ≤ 1000 := by omega
    have b3 : (n : Int) ≤ 1000 := by omega
    -- where the loop ends
    have fin : ∀ (W : World), Below wr.heap.size wr W → HeapN ys n → ∃ ys, QAt w0 W (fun k => P k ∨ w.heap.size ≤ k) gq v ys ∧ ys.Perm xs ∧ HeapN ys n ∧ (∀ k, n ≤ k → QHeap.g ys k = QHeap.g xs k) ∧ Below w0.heap.size w0 W ∧ Kept w W P := by
      intro W hb hh
      obtain ⟨_, _, _, _, hperm, hkeep, hqr, hBr, hKr⟩ := A'.out
      exact ⟨ys, hqr.below hb, hperm, hh, hkeep, below_then hBr hBr.size hb, hKr.below hb⟩
    -- a swap with the lesser child
    have nxt : ∀ (W W2 : World) (j : Nat), Below wr.heap.size wr W → Child ys i j n → lt (QHeap.g ys j) (QHeap.g ys i) = true → Kd.R k48 48 W2 w0.heap.size (fun k => (P k ∨ w.heap.size ≤ k) ∨ W.heap.size ≤ k) v (swap ys i j) → Below w0.heap.size w0 W2 → Kept W W2 (fun k => P k ∨ w.heap.size ≤ k) → DownRel w0 w P gq v xs n j (swap ys i j) W2 := by
      intro W W2 j hb hch hlt hr2 hB2 hK2
      obtain ⟨_, _, _, hdi, hperm, hkeep, hqr, hBr, hKr⟩ := A'.out
      have hq1 := hqr.below hb
      have hsz : w.heap.size ≤ W.heap.size := Nat.le_trans hKr.1 hb.size
      obtain ⟨c1, c2, c3, c4⟩ := id hch
      refine ⟨.inr c3, by rw [swap_length]; exact hny, by rw [swap_length]; exact hyl, down_step ys i j n hdi hch hny hlt, (swap_perm ys _ _ (by omega) (by omega)).trans hperm, fun k hk => ?_, ⟨hq1.ge, ?_, Kd.R_mono hr2 (fun k hk => hk.elim id (fun h => .inr (Nat.le_trans hsz h)))⟩, hB2, (hKr.below hb).then_ hK2 (fun k hk => hk)⟩
      · rw [down_keeps ys i j k (by omega) (by omega) (by omega) (by omega)]
        exact hkeep k hk
      · exact (hK2.2 gq (blk_lt hq1.blk) (fun h => h.elim (fun h => hP gq h rfl) (fun h => by omega))).trans hq1.blk
    have FIN := Lib.hid fin
    have NXT := Lib.hid nxt
    clear fin nxt
    have hlw := fun (W : World) (hb : Below wr.heap.size wr W) (a b : Int) (h0 : 0 ≤ a) (h1 : a < ys.length) (k0 : 0 ≤ b) (k1 : b < ys.length) => less_any (HR.out.below hb).row a b h0 h1 k0 k1
    have hsw := fun (W : World) (hb : Below wr.heap.size wr W) (a b : Int) (h0 : 0 ≤ a) (h1 : a < ys.length) (k0 : 0 ≤ b) (k1 : b < ys.length) => swap_any (below_then A'.out.2.2.2.2.2.2.2.1 A'.out.2.2.2.2.2.2.2.1.size hb) (HR.out.below hb).row a b h0 h1 k0 k1
    have LW := Lib.hid hlw
    have SW := Lib.hid hsw
    clear hlw hsw
    by_cases h1 : 2 * i + 1 < n
    · have h1' : (2 * (i : Int) + 1) < n := by omega
      have step : ∀ (j : Nat), Child ys i j n → True := fun _ _ => trivial
      by_cases h2 : 2 * i + 2 < n
      · have h2' : (2 * (i : Int) + 1 + 1) < n := by omega
        have l1 := LW.out wr (Below.refl _ _) (2 * (i : Int) + 1 + 1) (2 * (i : Int) + 1) (by omega) (by omega) (by omega) (by omega)
        rw [show (2 * (i : Int) + 1 + 1).toNat = 2 * i + 2 by omega, show (2 * (i : Int) + 1).toNat = 2 * i + 1 by omega] at l1
        cases hb1 : lt (QHeap.g ys (2 * i + 2)) (QHeap.g ys (2 * i + 1)) with
        | true =>
          have CH := Lib.hid (child_right ys i n h2 hb1)
          rw [hb1] at l1
          clear hb1
          go_wp2_with fail
          refine l1.mono ?_
          rintro e w1 ⟨rfl, hbw1⟩
          have hc1 := (HR.out.below hbw1).cell
          have l2 := LW.out w1 hbw1 (2 * (i : Int) + 1 + 1) (i : Int) (by omega) (by omega) (by omega) (by omega)
          rw [show (2 * (i : Int) + 1 + 1).toNat = 2 * i + 2 by omega, show (i : Int).toNat = i by omega] at l2
          cases hb2 : lt (QHeap.g ys (2 * i + 2)) (QHeap.g ys i) with
          | false =>
            have H2 := Lib.hid hb2
            rw [hb2] at l2
            clear hb2
            go_wp2_with fail
            refine l2.mono ?_
            rintro e w2 ⟨rfl, hbw2⟩
            go_wp2
            go_ret
            unfold DownEnd
            exact ⟨_, rfl, FIN.out w2 (below_then hbw1 hbw1.size hbw2) (down_done ys i _ n A'.out.2.2.2.1 CH.out H2.out)⟩
          | true =>
            have H2 := Lib.hid hb2
            rw [hb2] at l2
            clear hb2
            go_wp2_with fail
            refine l2.mono ?_
            rintro e w2 ⟨rfl, hbw2⟩
            have hbw := below_then hbw1 hbw1.size hbw2
            have hc2 := (HR.out.below hbw).cell
            have l3 := SW.out w2 hbw (i : Int) (2 * (i : Int) + 1 + 1) (by omega) (by omega) (by omega) (by omega)
            rw [show (2 * (i : Int) + 1 + 1).toNat = 2 * i + 2 by omega, show (i : Int).toNat = i by omega] at l3
            go_wp2_with fail
            refine l3.mono ?_
            rintro e w3 ⟨rfl, hr3, hB3, hK3⟩
            go_wp2
            go_roundg (n - (2 * i + 2) + 1)
            case measure => omega
            case rel => exact ⟨2 * i + 2, _, by go_num, by omega, NXT.out w2 w3 _ hbw CH.out H2.out hr3 hB3 hK3⟩
        | false =>
          have CH := Lib.hid (child_left ys i n h1 (fun h => by rw [hb1] at h; exact absurd h.2 (by simp)))
          rw [hb1] at l1
          clear hb1
          go_wp2_with fail
          refine l1.mono ?_
          rintro e w1 ⟨rfl, hbw1⟩
          have hc1 := (HR.out.below hbw1).cell
          have l2 := LW.out w1 hbw1 (2 * (i : Int) + 1) (i : Int) (by omega) (by omega) (by omega) (by omega)
          rw [show (2 * (i : Int) + 1).toNat = 2 * i + 1 by omega, show (i : Int).toNat = i by omega] at l2
          cases hb2 : lt (QHeap.g ys (2 * i + 1)) (QHeap.g ys i) with
          | false =>
            have H2 := Lib.hid hb2
            rw [hb2] at l2
            clear hb2
            go_wp2_with fail
            refine l2.mono ?_
            rintro e w2 ⟨rfl, hbw2⟩
            go_wp2
            go_ret
            unfold DownEnd
            exact ⟨_, rfl, FIN.out w2 (below_then hbw1 hbw1.size hbw2) (down_done ys i _ n A'.out.2.2.2.1 CH.out H2.out)⟩
          | true =>
            have H2 := Lib.hid hb2
            rw [hb2] at l2
            clear hb2
            go_wp2_with fail
            refine l2.mono ?_
            rintro e w2 ⟨rfl, hbw2⟩
            have hbw := below_then hbw1 hbw1.size hbw2
            have hc2 := (HR.out.below hbw).cell
            have l3 := SW.out w2 hbw (i : Int) (2 * (i : Int) + 1) (by omega) (by omega) (by omega) (by omega)
            rw [show (2 * (i : Int) + 1).toNat = 2 * i + 1 by omega, show (i : Int).toNat = i by omega] at l3
            go_wp2_with fail
            refine l3.mono ?_
            rintro e w3 ⟨rfl, hr3, hB3, hK3⟩
            go_wp2
            go_roundg (n - (2 * i + 1) + 1)
            case measure => omega
            case rel => exact ⟨2 * i + 1, _, by go_num, by omega, NXT.out w2 w3 _ hbw CH.out H2.out hr3 hB3 hK3⟩
      · have h2' : ¬ (2 * (i : Int) + 1 + 1) < n := by omega
        have CH := Lib.hid (child_left ys i n h1 (fun h => h2 h.1))
        have l2 := LW.out wr (Below.refl _ _) (2 * (i : Int) + 1) (i : Int) (by omega) (by omega) (by omega) (by omega)
        rw [show (2 * (i : Int) + 1).toNat = 2 * i + 1 by omega, show (i : Int).toNat = i by omega] at l2
        cases hb2 : lt (QHeap.g ys (2 * i + 1)) (QHeap.g ys i) with
        | false =>
          have H2 := Lib.hid hb2
          rw [hb2] at l2
          clear hb2
          go_wp2_with fail
          refine l2.mono ?_
          rintro e w2 ⟨rfl, hbw2⟩
          go_wp2
          go_ret
          unfold DownEnd
          exact ⟨_, rfl, FIN.out w2 hbw2 (down_done ys i _ n A'.out.2.2.2.1 CH.out H2.out)⟩
        | true =>
          have H2 := Lib.hid hb2
          rw [hb2] at l2
          clear hb2
          go_wp2_with fail
          refine l2.mono ?_
          rintro e w2 ⟨rfl, hbw2⟩
          have hbw := hbw2
          have hc2 := (HR.out.below hbw).cell
          have l3 := SW.out w2 hbw (i : Int) (2 * (i : Int) + 1) (by omega) (by omega) (by omega) (by omega)
          rw [show (2 * (i : Int) + 1).toNat = 2 * i + 1 by omega, show (i : Int).toNat = i by omega] at l3
          go_wp2_with fail
          refine l3.mono ?_
          rintro e w3 ⟨rfl, hr3, hB3, hK3⟩
          go_wp2
          go_roundg (n - (2 * i + 1) + 1)
          case measure => omega
          case rel => exact ⟨2 * i + 1, _, by go_num, by omega, NXT.out w2 w3 _ hbw CH.out H2.out hr3 hB3 hK3⟩
    · have h1' : ¬ (2 * (i : Int) + 1) < n := by omega
      have hd : decide (2 * (i : Int) + 1 ≥ n) = true := by simp; omega
      go_wp2
      go_ret
      unfold DownEnd
      exact ⟨_, rfl, FIN.out wr (Below.refl _ _) (down_none ys i n A'.out.2.2.2.1 (by omega))⟩
end Go.Proofs.Ytigoebmmkdhclaa.Pq
