import Derived.Test.YtigoebmmkdhclaaQB
namespace Go.Proofs.Ytigoebmmkdhclaa.Pq
open Go.RowKit Go.Proofs.YtigoebmmkdhclaaW.PrintWords Go.Proofs.YtigoebmmkdhclaaW.PrintLast Go.Proofs.YtigoebmmkdhclaaW.PrintMore
open QHeap
set_option linter.unusedVariables false
set_option linter.unusedSimpArgs false

theorem rd_g (xs : List S48) (i : Int) : rd_T48 xs i = QHeap.g xs i.toNat := rfl
theorem or_eq (x y : Int) : cmp_Or_int.f 3 [x, y] = some (if x = 0 then y else x) := by
  by_cases hx : x = 0
  · subst hx
    by_cases hy : y = 0
    · subst hy; simp [cmp_Or_int.f, cmp_Or_int.l0, rd, wrap64]
    · simp [cmp_Or_int.f, cmp_Or_int.l0, rd, wrap64, hy]
  · simp [cmp_Or_int.f, cmp_Or_int.l0, rd, wrap64, hx]
theorem less_eq (xs : List S48) (i j : Int) (h0 : 0 ≤ i) (h1 : i < xs.length) (k0 : 0 ≤ j) (k1 : j < xs.length) : queue_entries_Less.f 3 xs i j = some (lt (QHeap.g xs i.toNat) (QHeap.g xs j.toNat)) := by
  unfold queue_entries_Less.f
  rw [if_pos h0, if_pos h1, if_pos k0, if_pos k1, cmp_eq, Option.bind_some, cmp_eq, Option.bind_some, or_eq, Option.bind_some, rd_g, rd_g]
  generalize QHeap.g xs i.toNat = a
  generalize QHeap.g xs j.toNat = b
  obtain ⟨a0, a1⟩ := a
  obtain ⟨b0, b1⟩ := b
  simp only [lt, Option.some.injEq, decide_eq_decide]
  rcases Int.lt_trichotomy a0 b0 with h | h | h
  · simp [h]
  · subst h
    rcases Int.lt_trichotomy a1 b1 with h | h | h
    · simp [h]
    · subst h; simp
    · have h' : ¬ a1 < b1 := by omega
      simp [h, h']
  · have h' : ¬ a0 < b0 := by omega
    have h2 : ¬ a0 = b0 := by omega
    simp [h, h', h2]
theorem less_any {w : World} {base : Nat} {P : Nat → Prop} {v : Value} {xs : List S48} (hR : Kd.R k48 48 w base P v xs) (i j : Int) (h0 : 0 ≤ i) (h1 : i < xs.length) (k0 : 0 ≤ j) (k1 : j < xs.length) :
    Calls Try.prog 42 #[v, .int .i64 i, .int .i64 j] w fun e w' => e = .returned (.bool (lt (QHeap.g xs i.toNat) (QHeap.g xs j.toNat))) ∧ Below w.heap.size w w' := by
  obtain ⟨A, c, rfl, hc, hr⟩ := Kd.R_reads hR
  exact queue_entries_Less.calls 3 A c xs i j _ w hr hc (less_eq xs i j h0 h1 k0 k1)
theorem len_any {w : World} {base : Nat} {P : Nat → Prop} {v : Value} {xs : List S48} (hR : Kd.R k48 48 w base P v xs) :
    Calls Try.prog 41 #[v] w fun e w' => e = .returned (.int .i64 xs.length) ∧ Below w.heap.size w w' := by
  obtain ⟨A, c, rfl, hc, hr⟩ := Kd.R_reads hR
  exact (queue_entries_Len.calls A c xs _ w hr hc rfl).mono fun e w' ⟨h1, h2⟩ => ⟨h1, h2.below⟩
theorem swap_any {w0 w : World} {P : Nat → Prop} {v : Value} {xs : List S48} (hB : Below w0.heap.size w0 w) (hR : Kd.R k48 48 w w0.heap.size P v xs) (i j : Int) (h0 : 0 ≤ i) (h1 : i < xs.length) (k0 : 0 ≤ j) (k1 : j < xs.length) :
    Calls Try.prog 43 #[v, .int .i64 i, .int .i64 j] w fun e w' => e = .returned (.tuple #[]) ∧ Kd.R k48 48 w' w0.heap.size (fun k_ => P k_ ∨ w.heap.size ≤ k_) v (swap xs i.toNat j.toNat) ∧ Below w0.heap.size w0 w' ∧ Kept w w' P :=
  queue_entries_Swap.calls P v xs i j _ w0 w hB hR (by unfold queue_entries_Swap.f; rw [if_pos k0, if_pos k1, if_pos h0, if_pos h1]; rfl)

/-- A queue at block g: its row's slice v holds xs; P: where the row may lie. -/
structure QAt (w0 w : World) (P : Nat → Prop) (g : Nat) (v : Value) (xs : List S48) : Prop where
  ge : w0.heap.size ≤ g
  blk : w.heap[g]? = some (.cells #[v] 44 (0, 0))
  row : Kd.R k48 48 w w0.heap.size P v xs
theorem QAt.cell {w0 w : World} {P : Nat → Prop} {g : Nat} {v : Value} {xs : List S48} (h : QAt w0 w P g v xs) : w.cell? ⟨g, 0, none⟩ = some v := by simp [World.cell?, h.blk]
theorem QAt.below {w0 w w' : World} {P : Nat → Prop} {g : Nat} {v : Value} {xs : List S48} (h : QAt w0 w P g v xs) (hb : Below w.heap.size w w') : QAt w0 w' P g v xs :=
  ⟨h.ge, (hb.block g (blk_lt h.blk)).trans h.blk, Kd.R_below h.row hb⟩
theorem QAt.mono {w0 w : World} {P P' : Nat → Prop} {g : Nat} {v : Value} {xs : List S48} (h : QAt w0 w P g v xs) (hp : ∀ k, P k → P' k) : QAt w0 w P' g v xs := ⟨h.ge, h.blk, Kd.R_mono h.row hp⟩
/-- The row is none of the queue's own block, and lies in what there is. -/
theorem QAt.tight {w0 w : World} {P : Nat → Prop} {g : Nat} {v : Value} {xs : List S48} (h : QAt w0 w P g v xs) : QAt w0 w (fun k => P k ∧ k ≠ g ∧ k < w.heap.size) g v xs :=
  ⟨h.ge, h.blk, Kd.R_mono (Kd.R_bound (Kd.R_types h.row h.blk (by intro q hq; simp [k48, Kd.iso, Kd.pair, Kd.int, Kd.scalar] at hq; omega))) fun k hk => ⟨hk.1.1, hk.1.2, hk.2.2.1⟩⟩
theorem QAt.kept {w0 w w' : World} {P S : Nat → Prop} {g : Nat} {v : Value} {xs : List S48} (h : QAt w0 w P g v xs) (hk : Kept w w' S) (h1 : ∀ k, P k → ¬ S k) (h2 : ¬ S g) : QAt w0 w' P g v xs :=
  ⟨h.ge, (hk.2 g (blk_lt h.blk) h2).trans h.blk, Kd.R_kept h.row hk h1⟩
end Go.Proofs.Ytigoebmmkdhclaa.Pq
