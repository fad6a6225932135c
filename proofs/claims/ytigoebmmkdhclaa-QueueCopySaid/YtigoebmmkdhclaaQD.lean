import Derived.Test.YtigoebmmkdhclaaQC
namespace Go.Proofs.Ytigoebmmkdhclaa.Pq
open Go.RowKit Go.Proofs.YtigoebmmkdhclaaW.PrintWords Go.Proofs.YtigoebmmkdhclaaW.PrintLast Go.Proofs.YtigoebmmkdhclaaW.PrintMore
open QHeap
set_option linter.unusedVariables false
set_option linter.unusedSimpArgs false

set_option maxHeartbeats 1000000 in
set_option maxRecDepth 100000 in
theorem up_any (w0 w : World) (P : Nat → Prop) (gq : Nat) (v : Value) (xs : List S48) (j : Nat) (hB : Below w0.heap.size w0 w) (hP : ∀ k, P k → k ≠ gq) (hq : QAt w0 w P gq v xs) (hj : j < xs.length) (hu : UpInv xs j) (hl : xs.length ≤ 1000) :
    Calls Try.prog 23 #[.iface 46 (.pointer (some ⟨gq, 0, none⟩)), .int .i64 j] w fun e w' => e = .returned (.tuple #[]) ∧
      ∃ ys, QAt w0 w' (fun k => P k ∨ w.heap.size ≤ k) gq v ys ∧ ys.Perm xs ∧ Heap ys ∧ Below w0.heap.size w0 w' ∧ Kept w w' P := by
  have mL := fun (W : World) (h : W.cell? ⟨gq, 0, none⟩ = some v) => m_less h
  have mS := fun (W : World) (h : W.cell? ⟨gq, 0, none⟩ = some v) => m_swap h
  go_enter Try.func23, Try.ntmps23
  go_wp2
  go_loopg [1] j (fun gg s1 wr => ∃ (i : Nat) (ys : List S48), s1 = .int .i64 i ∧ i ≤ gg ∧ Aside (i < ys.length ∧ ys.length ≤ 1000 ∧ UpInv ys i ∧ ys.Perm xs ∧ QAt w0 wr (fun k => P k ∨ w.heap.size ≤ k) gq v ys ∧ Below w0.heap.size w0 wr ∧ Kept w wr P))
  case atStart => exact ⟨j, xs, rfl, Nat.le_refl _, hj, hl, hu, List.Perm.refl _, hq.mono (fun _ h => .inl h), hB, Kept.refl _ _⟩
  case round =>
    obtain ⟨i, ys, rfl, hig, A⟩ := hrel
    obtain ⟨hi, hyl, hui, hperm, hqr, hBr, hKr⟩ := A.out
    clear A
    have hc := hqr.cell
    have A := Lib.hid (And.intro hui (And.intro hperm (And.intro hqr (And.intro hBr hKr))))
    clear hui hperm hqr hBr hKr
    by_cases h0 : i = 0
    · subst h0
      go_wp2
      go_end0
      obtain ⟨hui, hperm, hqr, hBr, hKr⟩ := A.out
      exact ⟨rfl, ys, hqr, hperm, up_done ys 0 hui (.inl rfl), hBr, hKr⟩
    · have hpos : 0 < i := by omega
      have b1 : (1 : Int) ≤ i := by omega
      have b2 : (i : Int) ≤ 1000 := by omega
      have hne : ((((i : Int) - 1) / 2) == (i : Int)) = false := by simp; omega
      have hless := less_any A.out.2.2.1.row (i : Int) (((i : Int) - 1) / 2) (by omega) (by omega) (by omega) (by omega)
      rw [show ((i : Int)).toNat = i by omega, show (((i : Int) - 1) / 2).toNat = (i - 1) / 2 by omega] at hless
      cases hb : lt (QHeap.g ys i) (QHeap.g ys ((i - 1) / 2)) with
      | false =>
        rw [hb] at hless
        have HB := Lib.hid hb
        clear hb
        go_wp2_with (go_at_call 42; refine hless.mono ?_; rintro e w1 ⟨rfl, hb1⟩)
        go_end0
        obtain ⟨hui, hperm, hqr, hBr, hKr⟩ := A.out
        exact ⟨rfl, ys, hqr.below hb1, hperm, up_done ys i hui (.inr HB.out), below_then hBr hBr.size hb1, hKr.below hb1⟩
      | true =>
        rw [hb] at hless
        have HB := Lib.hid hb
        clear hb
        go_wp2_with (first
          | (go_at_call 42; refine hless.mono ?_; rintro e w1 ⟨rfl, hb1⟩; (have hc1 := (A.out.2.2.1.below hb1).cell))
          | (go_at_call 43; refine (swap_any (below_then A.out.2.2.2.1 A.out.2.2.2.1.size hb1) (A.out.2.2.1.below hb1).row (((i : Int) - 1) / 2) (i : Int) (by omega) (by omega) (by omega) (by omega)).mono ?_; rintro e w2 ⟨rfl, hr2, hB2, hK2⟩))
        go_roundg ((i - 1) / 2)
        case measure => omega
        case rel =>
          obtain ⟨hui, hperm, hqr, hBr, hKr⟩ := A.out
          rw [show ((i : Int)).toNat = i by omega, show (((i : Int) - 1) / 2).toNat = (i - 1) / 2 by omega] at hr2
          have hq1 := hqr.below hb1
          have hsz : w.heap.size ≤ w1.heap.size := Nat.le_trans hKr.1 hb1.size
          refine ⟨(i - 1) / 2, swap ys ((i - 1) / 2) i, by congr 1; omega, Nat.le_refl _, ?_⟩
          refine ⟨by rw [swap_length]; omega, by rw [swap_length]; exact hyl, up_step ys i hui hi hpos HB.out, (swap_perm ys _ _ (by omega) hi).trans hperm, ⟨hq1.ge, ?_, Kd.R_mono hr2 (fun k hk => hk.elim id (fun h => .inr (Nat.le_trans hsz h)))⟩, hB2, (hKr.below hb1).then_ hK2 (fun k hk => hk)⟩
          exact (hK2.2 gq (blk_lt hq1.blk) (fun h => h.elim (fun h => hP gq h rfl) (fun h => by have := blk_lt hq.blk; omega))).trans hq1.blk
end Go.Proofs.Ytigoebmmkdhclaa.Pq
