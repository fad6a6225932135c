import Derived.Test.YtigoebmmkdhclaaQE
import Derived.Deep.DrawnRows
import Derived.Deep.RegionLaw
namespace Go.Proofs.Ytigoebmmkdhclaa.Pq
open Go.RowKit Go.Proofs.YtigoebmmkdhclaaW.PrintWords Go.Proofs.YtigoebmmkdhclaaW.PrintLast Go.Proofs.YtigoebmmkdhclaaW.PrintMore
open QHeap
set_option linter.unusedVariables false
set_option linter.unusedSimpArgs false
attribute [local go_sem ↓] Go.wp_at_zero Go.wp_at_succ

theorem q_info48 : (Try.prog.info? 48).map (fun i => (i.zero, i.size, i.bytes)) = some (some (.agg #[.int .i64 0, .int .i64 0]), 2, 16) := by kernel_rfl

set_option maxHeartbeats 2000000 in
set_option maxRecDepth 100000 in
theorem epush_any (w0 w : World) (P : Nat → Prop) (gq : Nat) (v : Value) (xs : List S48) (x : S48) (hB : Below w0.heap.size w0 w) (hP : ∀ k, P k → k ≠ gq) (hq : QAt w0 w P gq v xs) (hl : xs.length ≤ 1000) :
    Calls Try.prog 48 #[.pointer (some ⟨gq, 0, none⟩), .iface 48 (.agg #[.int .i64 x.f0, .int .i64 x.f1])] w fun e w' => e = .returned (.tuple #[]) ∧
      ∃ v', QAt w0 w' (fun k => P k ∨ w.heap.size ≤ k) gq v' (xs ++ [x]) ∧ Below w0.heap.size w0 w' ∧ Kept w w' (fun k => P k ∨ k = gq) := by
  have hta : ∀ (v : Value) (W : World), (Instr.typeAssert (.iface 48 v) 20 48 true).run Try.prog W = .ok (.tuple #[v, .bool true]) W := fun v W => by rfl
  have hc := hq.cell
  have hf : w.frozen? ⟨gq, 0, none⟩ = false := by simp [World.frozen?, hq.blk]
  have hgq := blk_lt hq.blk
  have hu48 := Try.underlying48
  go_enter Try.func48, Try.ntmps48
  go_wp2_with fail
  have hq1 := hq.below (below_alloc (Below.refl _ w) (.cells #[.int .i64 x.f0, .int .i64 x.f1] 48))
  have hB1 := below_alloc hB (.cells #[.int .i64 x.f0, .int .i64 x.f1] 48)
  have hs1 : (w.alloc (.cells #[.int .i64 x.f0, .int .i64 x.f1] 48)).heap.size = w.heap.size + 1 := by simp
  have hb0 : (w.alloc (.cells #[.int .i64 x.f0, .int .i64 x.f1] 48)).cell? ⟨w.heap.size, 0, none⟩ = some (.int .i64 x.f0) := by simp
  have hb1 : (w.alloc (.cells #[.int .i64 x.f0, .int .i64 x.f1] 48)).cell? ⟨w.heap.size, 1, none⟩ = some (.int .i64 x.f1) := by simp
  have hkeep1 : Kept w (w.alloc (.cells #[.int .i64 x.f0, .int .i64 x.f1] 48)) (fun k => P k ∨ k = gq) := Kept.alloc (Kept.refl _ _) _
  clear hc hf
  generalize (w.alloc (.cells #[.int .i64 x.f0, .int .i64 x.f1] 48)) = W1 at hq1 hB1 hs1 hb0 hb1 hkeep1 ⊢
  have hc := hq1.cell
  have hf : W1.frozen? ⟨gq, 0, none⟩ = false := by simp [World.frozen?, hq1.blk]
  have hgo : some gq ≠ v.ownBlock := Kd.R_away hq1.row (fun k hk => hP k hk)
  have hgq1 : gq < W1.heap.size := by omega
  have hle1 : w.heap.size ≤ W1.heap.size := by omega
  have hba : w0.heap.size ≤ W1.heap.size := Nat.le_trans hB.size hle1
  have hB0 : w.heap.size < W1.heap.size := by omega
  have hbo : some w.heap.size ≠ v.ownBlock := fun e => by have := Kd.R_lt hq.row _ e.symm; omega
  clear hs1
  have hln : (xs.length + 1) * 16 ≤ 140737488355328 := by omega
  have hR1 := Kd.R_drew (Kd.R_mono hq1.row (fun _ h => .inl h) : Kd.R k48 48 W1 w0.heap.size (fun k => P k ∨ w.heap.size ≤ k) v xs)
  have hfr : ∀ k, W1.drew.heap.size ≤ k → P k ∨ w.heap.size ≤ k := fun k hk => .inr (Nat.le_trans hle1 hk)
  have hfar : ∀ w1, W1.drew.grownBy w1 v.ownBlock → w1.cell? ⟨gq, 0, none⟩ = some v ∧ w1.frozen? ⟨gq, 0, none⟩ = false ∧ w1.cell? ⟨w.heap.size, 0, none⟩ = some (.int .i64 x.f0) ∧ w1.cell? ⟨w.heap.size, 1, none⟩ = some (.int .i64 x.f1) := fun w1 hg =>
    ⟨(World.cell?_of_block (a := ⟨gq, 0, none⟩) (hg.block gq hgq1 hgo)).trans hc, (World.frozen?_of_block (a := ⟨gq, 0, none⟩) (hg.block gq hgq1 hgo)).trans hf, (World.cell?_of_block (a := ⟨w.heap.size, 0, none⟩) (hg.block _ hB0 hbo)).trans hb0, (World.cell?_of_block (a := ⟨w.heap.size, 1, none⟩) (hg.block _ hB0 hbo)).trans hb1⟩
  go_region_law
    ((refine Kd.R_append_step k48 (W := W1.drew) w0.heap.size rfl (.tmp 15) (.tmp 17) 42 48 (.agg #[.int .i64 0, .int .i64 0]) 16 (by rfl) Try.underlying42 q_info48 rfl (by decide) (by decide) v xs x [.int .i64 x.f0, .int .i64 x.f1] (fun k => P k ∨ w.heap.size ≤ k) (fun _ => False) (by rfl) (by rfl) (k48_mkM _ _ _ x) (fun _ h => h.elim) hfr hR1 (below_drew hB1) hba hln ?_; intro v1 w1 hR2 hB2 hG1 hat1; obtain ⟨hc3, hf3, hb30, hb31⟩ := hfar w1 hG1; obtain ⟨gg, cc, ev, _⟩ := Kd.R_form hR2 (by simp); subst ev))
  all_goals (try go_wp2)
  all_goals go_end0
  all_goals
    have el : xs.length + 1 = (xs ++ [x]).length := by simp
    rw [el]
    have hg1 : w1.heap[gq]? = some (.cells #[v] 44 (0, 0)) := (hG1.block gq hgq1 hgo).trans hq1.blk
    refine ⟨rfl, _, ⟨hq.ge, ?_, Kd.R_set hR2 hg1 (by intro q hq; simp [k48, Kd.iso, Kd.pair, Kd.int, Kd.scalar] at hq; omega) 0 _⟩, Below.setCell hB2 (p := ⟨gq, 0, none⟩) hq.ge _, Kept.setCell (Kept.of_grown hG1 (Kept.drew hkeep1) (fun k hk => .inl (.inl (hq.row.1 k hk)))) (.inl (.inr rfl)) _⟩
    simp [World.setCell, Array.getElem?_modify, hg1]

/-- heap.Push. -/
theorem hpush_any (w0 w : World) (P : Nat → Prop) (gq : Nat) (v : Value) (xs : List S48) (x : S48) (hB : Below w0.heap.size w0 w) (hP : ∀ k, P k → k ≠ gq) (hq : QAt w0 w P gq v xs) (hl : xs.length < 1000) (hh : Heap xs) :
    Calls Try.prog 20 #[.iface 46 (.pointer (some ⟨gq, 0, none⟩)), .iface 48 (.agg #[.int .i64 x.f0, .int .i64 x.f1])] w fun e w' => e = .returned (.tuple #[]) ∧
      ∃ v' ys, QAt w0 w' (fun k => P k ∨ w.heap.size ≤ k) gq v' ys ∧ ys.Perm (xs ++ [x]) ∧ Heap ys ∧ Below w0.heap.size w0 w' ∧ Kept w w' (fun k => P k ∨ k = gq) := by
  have hgq := blk_lt hq.blk
  have mP := fun (W : World) => m_push ⟨gq, 0, none⟩ W
  have h1 := epush_any w0 w P gq v xs x hB hP hq (by omega)
  have HH := Lib.hid hh
  clear hh
  have hlen : (xs.length : Int) + 1 ≤ 1000 := by omega
  go_enter Try.func20, Try.ntmps20
  go_wp2_with fail
  go_at_call 48
  refine h1.mono ?_
  rintro e w1 ⟨rfl, v1, hq1, hB1, hK1⟩
  have hc := hq1.cell
  have mL := m_len hc
  have h2 := len_any hq1.row
  rw [List.length_append, List.length_singleton] at h2
  go_wp2_with fail
  refine h2.mono ?_
  rintro e w2 ⟨rfl, hb2⟩
  have hq2 := hq1.below hb2
  have h3 := up_any w0 w2 (fun k => P k ∨ w.heap.size ≤ k) gq v1 (xs ++ [x]) xs.length (below_then hB1 hB1.size hb2) (fun k hk => hk.elim (hP k) (fun h => by omega)) hq2 (by simp) (up_start xs x HH.out) (by simp; omega)
  go_wp2_with fail
  refine h3.mono ?_
  rintro e w3 ⟨rfl, ys, hq3, hperm, hheap, hB3, hK3⟩
  go_wp2
  go_end0
  refine ⟨rfl, v1, ys, hq3.mono (fun k hk => hk.elim id (fun h => .inr ?_)), hperm, hheap, hB3, (hK1.below hb2).then_ hK3 (fun k hk => hk.elim (fun h => .inl (.inl h)) .inr)⟩
  exact Nat.le_trans (hK1.below hb2).1 h
end Go.Proofs.Ytigoebmmkdhclaa.Pq
