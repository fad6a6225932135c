/- The law QueuePlays: for every input the call answers true, and the input reads as it did. No condition. (Walks and laws of several texts, merged, and what is not used struck, by a program.) -/
import Derived.Deep.DrawnRows
import Derived.Deep.RegionLaw
import Derived.Test.YtigoebmmkdhclaaMQueuePlays0
import Derived.WalkSpells
import Derived.Deep.Slices
import Derived.Lib.SmallJoins
import Derived.SizedLaws
import Derived.StillTailTactics
import Derived.Lib.Hide
import Derived.Deep.Cut
import Derived.Below
import Derived.ChangeOld
import Derived.OpenShut
import Derived.ProofKit
import Derived.ShutString
import Derived.Test.YtigoebmmkdhclaaRows
import Derived.WalkKit
section
namespace Go.Proofs.Ytigoebmmkdhclaa.Pq
open Go.RowKit Go.Proofs.YtigoebmmkdhclaaW.PrintWords Go.Proofs.YtigoebmmkdhclaaW.PrintLast Go.Proofs.YtigoebmmkdhclaaW.PrintMore
open QHeap
set_option linter.unusedVariables false
set_option linter.unusedSimpArgs false
attribute [local go_sem ↓] Go.wp_at_zero Go.wp_at_succ
theorem q_info48 : (Try.prog.info? 48).map (fun i => (i.zero, i.size, i.bytes)) = some (some (.agg #[.int .i64 0, .int .i64 0]), 2, 16) := by kernel_rfl
set_option maxHeartbeats 2000000 in
set_option maxRecDepth 100000 in
theorem epush_any (w0 w : World) (P : Nat → Prop) (gq : Nat) (v : Value) (xs : List S48) (x : S48) (hB : Below w0.heap.size w0 w) (hP : ∀ k, P k → k ≠ gq) (hq : QAt w0 w P gq v xs) (hl : xs.length ≤ 1000) :
    Calls Try.prog 48 #[.pointer (some ⟨gq, 0, none⟩), .iface 48 (.agg #[.int .i64 x.f0, .int .i64 x.f1])] w fun e w' => e = .returned (.tuple #[]) ∧
      ∃ v', QAt w0 w' (fun k => P k ∨ w.heap.size ≤ k) gq v' (xs ++ [x]) ∧ Below w0.heap.size w0 w' ∧ Kept w w' (fun k => P k ∨ k = gq) := by
  have hta : ∀ (v : Value) (W : World), (Instr.typeAssert (.iface 48 v) 20 48 true).run Try.prog W = .ok (.tuple #[v, .bool true]) W := fun v W => by rfl
  have hc := hq.cell
  have hf : w.frozen? ⟨gq, 0, none⟩ = false := by simp [World.frozen?, hq.blk]
  have hgq := blk_lt hq.blk
  have hu48 := Try.underlying48
  go_enter Try.func48, Try.ntmps48
  go_wp2_with fail
  have hq1 := hq.below (below_alloc (Below.refl _ w) (.cells #[.int .i64 x.f0, .int .i64 x.f1] 48))
  have hB1 := below_alloc hB (.cells #[.int .i64 x.f0, .int .i64 x.f1] 48)
  have hs1 : (w.alloc (.cells #[.int .i64 x.f0, .int .i64 x.f1] 48)).heap.size = w.heap.size + 1 := by simp
  have hb0 : (w.alloc (.cells #[.int .i64 x.f0, .int .i64 x.f1] 48)).cell? ⟨w.heap.size, 0, none⟩ = some (.int .i64 x.f0) := by simp
  have hb1 : (w.alloc (.cells #[.int .i64 x.f0, .int .i64 x.f1] 48)).cell? ⟨w.heap.size, 1, none⟩ = some (.int .i64 x.f1) := by simp
  have hkeep1 : Kept w (w.alloc (.cells #[.int .i64 x.f0, .int .i64 x.f1] 48)) (fun k => P k ∨ k = gq) := Kept.alloc (Kept.refl _ _) _
  clear hc hf
  generalize (w.alloc (.cells #[.int .i64 x.f0, .int .i64 x.f1] 48)) = W1 at hq1 hB1 hs1 hb0 hb1 hkeep1 ⊢
  have hc := hq1.cell
  have hf : W1.frozen? ⟨gq, 0, none⟩ = false := by simp [World.frozen?, hq1.blk]
  have hgo : some gq ≠ v.ownBlock := Kd.R_away hq1.row (fun k hk => hP k hk)
  have hgq1 : gq < W1.heap.size := by omega
  have hle1 : w.heap.size ≤ W1.heap.size := by omega
  have hba : w0.heap.size ≤ W1.heap.size := Nat.le_trans hB.size hle1
  have hB0 : w.heap.size < W1.heap.size := by omega
  have hbo : some w.heap.size ≠ v.ownBlock := fun e => by have := Kd.R_lt hq.row _ e.symm; omega
  clear hs1
  have hln : (xs.length + 1) * 16 ≤ 140737488355328 := by omega
  have hR1 := Kd.R_drew (Kd.R_mono hq1.row (fun _ h => .inl h) : Kd.R k48 48 W1 w0.heap.size (fun k => P k ∨ w.heap.size ≤ k) v xs)
  have hfr : ∀ k, W1.drew.heap.size ≤ k → P k ∨ w.heap.size ≤ k := fun k hk => .inr (Nat.le_trans hle1 hk)
  have hfar : ∀ w1, W1.drew.grownBy w1 v.ownBlock → w1.cell? ⟨gq, 0, none⟩ = some v ∧ w1.frozen? ⟨gq, 0, none⟩ = false ∧ w1.cell? ⟨w.heap.size, 0, none⟩ = some (.int .i64 x.f0) ∧ w1.cell? ⟨w.heap.size, 1, none⟩ = some (.int .i64 x.f1) := fun w1 hg =>
    ⟨(World.cell?_of_block (a := ⟨gq, 0, none⟩) (hg.block gq hgq1 hgo)).trans hc, (World.frozen?_of_block (a := ⟨gq, 0, none⟩) (hg.block gq hgq1 hgo)).trans hf, (World.cell?_of_block (a := ⟨w.heap.size, 0, none⟩) (hg.block _ hB0 hbo)).trans hb0, (World.cell?_of_block (a := ⟨w.heap.size, 1, none⟩) (hg.block _ hB0 hbo)).trans hb1⟩
  go_region_law
    ((refine Kd.R_append_step k48 (W := W1.drew) w0.heap.size rfl (.tmp 15) (.tmp 17) 42 48 (.agg #[.int .i64 0, .int .i64 0]) 16 (by rfl) Try.underlying42 q_info48 rfl (by decide) (by decide) v xs x [.int .i64 x.f0, .int .i64 x.f1] (fun k => P k ∨ w.heap.size ≤ k) (fun _ => False) (by rfl) (by rfl) (k48_mkM _ _ _ x) (fun _ h => h.elim) hfr hR1 (below_drew hB1) hba hln ?_; intro v1 w1 hR2 hB2 hG1 hat1; obtain ⟨hc3, hf3, hb30, hb31⟩ := hfar w1 hG1; obtain ⟨gg, cc, ev, _⟩ := Kd.R_form hR2 (by simp); subst ev))
  all_goals (try go_wp2)
  all_goals go_end0
  all_goals
    have el : xs.length + 1 = (xs ++ [x]).length := by simp
    rw [el]
    have hg1 : w1.heap[gq]? = some (.cells #[v] 44 (0, 0)) := (hG1.block gq hgq1 hgo).trans hq1.blk
    refine ⟨rfl, _, ⟨hq.ge, ?_, Kd.R_set hR2 hg1 (by intro q hq; simp [k48, Kd.iso, Kd.pair, Kd.int, Kd.scalar] at hq; omega) 0 _⟩, Below.setCell hB2 (p := ⟨gq, 0, none⟩) hq.ge _, Kept.setCell (Kept.of_grown hG1 (Kept.drew hkeep1) (fun k hk => .inl (.inl (hq.row.1 k hk)))) (.inl (.inr rfl)) _⟩
    simp [World.setCell, Array.getElem?_modify, hg1]
/-- heap.Push. -/
theorem hpush_any (w0 w : World) (P : Nat → Prop) (gq : Nat) (v : Value) (xs : List S48) (x : S48) (hB : Below w0.heap.size w0 w) (hP : ∀ k, P k → k ≠ gq) (hq : QAt w0 w P gq v xs) (hl : xs.length < 1000) (hh : Heap xs) :
    Calls Try.prog 20 #[.iface 46 (.pointer (some ⟨gq, 0, none⟩)), .iface 48 (.agg #[.int .i64 x.f0, .int .i64 x.f1])] w fun e w' => e = .returned (.tuple #[]) ∧
      ∃ v' ys, QAt w0 w' (fun k => P k ∨ w.heap.size ≤ k) gq v' ys ∧ ys.Perm (xs ++ [x]) ∧ Heap ys ∧ Below w0.heap.size w0 w' ∧ Kept w w' (fun k => P k ∨ k = gq) := by
  have hgq := blk_lt hq.blk
  have mP := fun (W : World) => m_push ⟨gq, 0, none⟩ W
  have h1 := epush_any w0 w P gq v xs x hB hP hq (by omega)
  have HH := Lib.hid hh
  clear hh
  have hlen : (xs.length : Int) + 1 ≤ 1000 := by omega
  go_enter Try.func20, Try.ntmps20
  go_wp2_with fail
  go_at_call 48
  refine h1.mono ?_
  rintro e w1 ⟨rfl, v1, hq1, hB1, hK1⟩
  have hc := hq1.cell
  have mL := m_len hc
  have h2 := len_any hq1.row
  rw [List.length_append, List.length_singleton] at h2
  go_wp2_with fail
  refine h2.mono ?_
  rintro e w2 ⟨rfl, hb2⟩
  have hq2 := hq1.below hb2
  have h3 := up_any w0 w2 (fun k => P k ∨ w.heap.size ≤ k) gq v1 (xs ++ [x]) xs.length (below_then hB1 hB1.size hb2) (fun k hk => hk.elim (hP k) (fun h => by omega)) hq2 (by simp) (up_start xs x HH.out) (by simp; omega)
  go_wp2_with fail
  refine h3.mono ?_
  rintro e w3 ⟨rfl, ys, hq3, hperm, hheap, hB3, hK3⟩
  go_wp2
  go_end0
  refine ⟨rfl, v1, ys, hq3.mono (fun k hk => hk.elim id (fun h => .inr ?_)), hperm, hheap, hB3, (hK1.below hb2).then_ hK3 (fun k hk => hk.elim (fun h => .inl (.inl h)) .inr)⟩
  exact Nat.le_trans (hK1.below hb2).1 h
end Go.Proofs.Ytigoebmmkdhclaa.Pq
end
section
namespace Go.Proofs.Ytigoebmmkdhclaa.Pq
open Go.RowKit Go.Proofs.YtigoebmmkdhclaaW.PrintWords Go.Proofs.YtigoebmmkdhclaaW.PrintLast Go.Proofs.YtigoebmmkdhclaaW.PrintMore
open QHeap
set_option linter.unusedVariables false
set_option linter.unusedSimpArgs false
def EPop (w0 w : World) (P : Nat → Prop) (gq : Nat) (xs : List S48) (e : Ending) (w' : World) : Prop :=
  (∃ u, e = .returned u) ∧ ∃ v', QAt w0 w' P gq v' (xs.take (xs.length - 1)) ∧ Below w0.heap.size w0 w' ∧ Kept w w' (fun k => k = gq)
set_option maxHeartbeats 2000000 in
set_option maxRecDepth 100000 in
theorem epop_any (w0 w : World) (P : Nat → Prop) (gq : Nat) (v : Value) (xs : List S48) (hB : Below w0.heap.size w0 w) (hP : ∀ k, P k → k ≠ gq) (hq : QAt w0 w P gq v xs) (hp : 0 < xs.length) (hl : xs.length ≤ 1000) :
    Calls Try.prog 47 #[.pointer (some ⟨gq, 0, none⟩)] w (EPop w0 w P gq xs) := by
  have hgq := blk_lt hq.blk
  obtain ⟨g, cap, rfl, hg1, hg2, _⟩ := Kd.R_form hq.row hp
  have hcap := (Kd.R_reads' hq.row).2.1
  have hne : g ≠ gq := hP g (hq.row.1 g rfl)
  obtain ⟨n, hn⟩ : ∃ n, xs.length = n + 1 := ⟨xs.length - 1, by omega⟩
  obtain ⟨ce, hcl, hM, hcc, hfr⟩ := Kd.R_elem hq.row z48 (n : Int) (by omega) (by omega)
  obtain rfl := k48_openM hM
  have hx0 : w.cell? ⟨g, n * 2, none⟩ = some (.int .i64 (rd_T48 xs n).f0) := hcc 0 _ rfl
  have hx1 : w.cell? ⟨g, n * 2 + 1, none⟩ = some (.int .i64 (rd_T48 xs n).f1) := hcc 1 _ rfl
  clear hcl hM hcc hfr
  have hc := hq.cell
  have hf : w.frozen? ⟨gq, 0, none⟩ = false := by simp [World.frozen?, hq.blk]
  have hR := Kd.R_take (m := n) hq.row (by omega)
  have H : Hid (QAt w0 w P gq (.slice (some ⟨g, 0, none⟩) xs.length cap) xs ∧ Below w0.heap.size w0 w ∧ Kd.R k48 48 w w0.heap.size P (.slice (some ⟨g, 0, none⟩) n cap) (xs.take n)) := Lib.hid ⟨hq, hB, hR⟩
  clear hq hB hR hP
  have HN := Lib.hid hn
  rw [hn] at hc hcap hp hl
  clear hn
  have hn1 : (n : Int) ≤ 1000 := by omega
  have hn2 : (n : Int) ≤ cap := by omega
  have hn3 : n ≤ cap := by omega
  go_enter Try.func47, Try.ntmps47
  go_wp2
  go_ret
  obtain ⟨hq, hB, hR⟩ := H.out
  have en : xs.length - 1 = n := by have := HN.out; omega
  unfold EPop
  rw [en]
  refine ⟨⟨_, rfl⟩, _, ⟨hq.ge, ?_, Kd.R_alloc (Kd.R_set hR hq.blk (by intro q hq; simp [k48, Kd.iso, Kd.pair, Kd.int, Kd.scalar] at hq; omega) 0 _) _⟩, below_alloc (Below.setCell hB (p := ⟨gq, 0, none⟩) hq.ge _) _, Kept.alloc (Kept.setCell (p := ⟨gq, 0, none⟩) (Kept.refl w (fun k => k = gq)) (.inl rfl) _) _⟩
  have hlt : gq < (w.setCell ⟨gq, 0, none⟩ (.slice (some ⟨g, 0, none⟩) n cap)).heap.size := by simpa [World.setCell] using hgq
  rw [(below_alloc (Below.refl _ _) _).block gq hlt]
  simp [World.setCell, Array.getElem?_modify, hq.blk]
theorem take_perm (xs : List S48) (n : Nat) (hn : xs.length = n + 1) : (QHeap.g xs n :: xs.take n).Perm xs := by
  have e : xs = xs.take n ++ [QHeap.g xs n] := by
    have h1 := List.take_append_drop n xs
    have h2 : xs.drop n = [QHeap.g xs n] := by
      rw [List.drop_eq_getElem_cons (by omega), List.drop_of_length_le (by omega)]
      simp [QHeap.g, List.getD_eq_getElem?_getD, List.getElem?_eq_getElem (show n < xs.length by omega)]
    rw [← h2]; exact h1.symm
  have h3 : (QHeap.g xs n :: xs.take n).Perm (xs.take n ++ [QHeap.g xs n]) := (List.perm_append_singleton _ _).symm
  exact h3.trans (by rw [← e])
theorem g_take (xs : List S48) (n k : Nat) (h : k < n) : QHeap.g (xs.take n) k = QHeap.g xs k := by
  simp [QHeap.g, List.getD_eq_getElem?_getD, List.getElem?_take, h]
theorem pop_start (xs : List S48) (n : Nat) (hn : xs.length = n + 1) (h : Heap xs) : DownInv (swap xs 0 n) 0 n := by
  refine ⟨fun k k0 k1 k2 => ?_, fun k k0 k1 k2 k3 => by omega⟩
  rw [g_swap xs 0 n _ (by omega) (by omega), g_swap xs 0 n _ (by omega) (by omega), if_neg (by omega), if_neg (by omega), if_neg (by omega), if_neg (by omega)]
  exact h k k0 (by omega)
theorem pop_end (xs ys L : List S48) (n : Nat) (a : S48) (hn : xs.length = n + 1) (hr : Rep xs (a :: L)) (hp : ys.Perm (swap xs 0 n)) (hh : HeapN ys n) (hk : ∀ k, n ≤ k → QHeap.g ys k = QHeap.g (swap xs 0 n) k) : Rep (ys.take n) L := by
  have hpx : ys.Perm xs := hp.trans (swap_perm xs 0 n (by omega) (by omega))
  have hly : ys.length = n + 1 := by rw [hpx.length_eq, hn]
  obtain ⟨L', e⟩ := hr.head (by omega)
  have ea : a = QHeap.g xs 0 := (List.cons.inj e).1
  have eg : QHeap.g ys n = a := by rw [hk n (Nat.le_refl _), g_swap xs 0 n n (by omega) (by omega), if_pos rfl, ea]
  refine hr.pop ?_ ?_
  · rw [← eg]
    exact (take_perm ys n hly).trans hpx
  · intro k k0 k1
    have k1' : k < n := by have : (ys.take n).length = n := by simp; omega
                           omega
    rw [g_take _ _ _ (by omega), g_take _ _ _ k1']
    exact hh k k0 k1'
def HPop (w0 w : World) (P : Nat → Prop) (gq : Nat) (L : List S48) (e : Ending) (w' : World) : Prop :=
  (∃ u, e = .returned u) ∧ ∃ v' ys, QAt w0 w' (fun k => P k ∨ w.heap.size ≤ k) gq v' ys ∧ Rep ys L ∧ Below w0.heap.size w0 w' ∧ Kept w w' (fun k => P k ∨ k = gq)
set_option maxHeartbeats 2000000 in
set_option maxRecDepth 100000 in
/-- heap.Pop. -/
theorem hpop_any (w0 w : World) (P : Nat → Prop) (gq : Nat) (v : Value) (xs L : List S48) (a : S48) (hB : Below w0.heap.size w0 w) (hP : ∀ k, P k → k ≠ gq) (hq : QAt w0 w P gq v xs) (hl : xs.length ≤ 1000) (hr : Rep xs (a :: L)) :
    Calls Try.prog 21 #[.iface 46 (.pointer (some ⟨gq, 0, none⟩))] w (HPop w0 w P gq L) := by
  have hgq := blk_lt hq.blk
  obtain ⟨n, hn⟩ : ∃ n, xs.length = n + 1 := ⟨L.length, by have := hr.length; simpa using this⟩
  have h1 := len_any hq.row
  have hc := hq.cell
  have mL := fun (W : World) (h : W.cell? ⟨gq, 0, none⟩ = some v) => m_len h
  have mS := fun (W : World) (h : W.cell? ⟨gq, 0, none⟩ = some v) => m_swap h
  have mP := fun (W : World) => m_pop ⟨gq, 0, none⟩ W
  have H : Hid (QAt w0 w P gq v xs ∧ Below w0.heap.size w0 w ∧ Rep xs (a :: L)) := Lib.hid ⟨hq, hB, hr⟩
  clear hq hB hr
  have HN := Lib.hid hn
  rw [hn] at h1 hl
  clear hn
  go_enter Try.func21, Try.ntmps21
  go_wp2_with fail
  go_at_call 41
  refine h1.mono ?_
  rintro e w1 ⟨rfl, hb1⟩
  have hc1 := (H.out.1.below hb1).cell
  have h2 := swap_any (below_then H.out.2.1 H.out.2.1.size hb1) (H.out.1.below hb1).row 0 (n : Int) (by omega) (by have := HN.out; omega) (by omega) (by have := HN.out; omega)
  rw [show ((0 : Int)).toNat = 0 by omega, show ((n : Int)).toNat = n by omega] at h2
  go_wp2_with fail
  go_at_call 43
  refine h2.mono ?_
  rintro e w2 ⟨rfl, hr2, hB2, hK2⟩
  have hsz : w.heap.size ≤ w1.heap.size := hb1.size
  have hq2 : QAt w0 w2 (fun k => P k ∨ w1.heap.size ≤ k) gq v (swap xs 0 n) := ⟨H.out.1.ge, (hK2.2 gq (blk_lt (H.out.1.below hb1).blk) (fun h => hP gq h rfl)).trans (H.out.1.below hb1).blk, hr2⟩
  have h3 := down_any w0 w2 (fun k => P k ∨ w1.heap.size ≤ k) gq v (swap xs 0 n) n hB2 (fun k hk => hk.elim (hP k) (fun h => by omega)) hq2 (by rw [swap_length]; have := HN.out; omega) (pop_start xs n HN.out H.out.2.2.heap) (by rw [swap_length]; have := HN.out; omega)
  have hc2 := hq2.cell
  have H2 := Lib.hid (And.intro hq2 (And.intro hB2 hK2))
  clear hq2 hB2 hK2 hr2
  go_wp2_with fail
  go_at_call 24
  refine h3.mono ?_
  unfold DownEnd
  rintro e w3 ⟨b, rfl, ys, hq3, hperm, hheap, hkeep, hB3, hK3⟩
  have hly : ys.length = n + 1 := by rw [hperm.length_eq, swap_length]; exact HN.out
  have h4 := epop_any w0 w3 _ gq v ys hB3 (fun k hk => hk.elim (fun h => h.elim (hP k) (fun h => by omega)) (fun h => by have := H2.out.2.2.1; omega)) hq3 (by omega) (by omega)
  have HL := Lib.hid hly
  clear hly
  have H3 := Lib.hid (And.intro hq3 (And.intro hperm (And.intro hheap (And.intro hkeep (And.intro hB3 hK3)))))
  clear hq3 hperm hheap hkeep hB3 hK3
  go_wp2_with fail
  go_at_call 47
  refine h4.mono ?_
  unfold EPop
  rintro e w4 ⟨⟨u, rfl⟩, v4, hq4, hB4, hK4⟩
  go_wp2
  go_ret
  unfold HPop
  obtain ⟨hq3, hperm, hheap, hkeep, hB3, hK3⟩ := H3.out
  have en : ys.length - 1 = n := by have := HL.out; omega
  rw [en] at hq4
  have s12 : w1.heap.size ≤ w2.heap.size := H2.out.2.2.1
  refine ⟨⟨_, rfl⟩, v4, ys.take n, hq4.mono (fun k hk => ?_), pop_end xs ys L n a HN.out H.out.2.2 hperm hheap hkeep, hB4, ?_⟩
  · rcases hk with (h | h) | h
    · exact .inl h
    · exact .inr (by omega)
    · exact .inr (by omega)
  · refine ((((Kept.of_below hb1 _).then_ H2.out.2.2 (fun k hk => .inl (.inl hk))).then_ hK3 (fun k hk => ?_)).then_ hK4 (fun k hk => .inl (.inr hk)))
    rcases hk with h | h
    · exact .inl (.inl h)
    · exact .inr (by omega)
end Go.Proofs.Ytigoebmmkdhclaa.Pq
end
section
namespace Go.Proofs.Ytigoebmmkdhclaa.Pq
open Go.RowKit Go.Proofs.YtigoebmmkdhclaaW.PrintWords Go.Proofs.YtigoebmmkdhclaaW.PrintLast Go.Proofs.YtigoebmmkdhclaaW.PrintMore
open QHeap
set_option linter.unusedVariables false
set_option linter.unusedSimpArgs false
/-- A queue at block g that stands for the sorted row L. -/
def Qu (w0 w : World) (P : Nat → Prop) (g : Nat) (L : List S48) : Prop := ∃ v xs, QAt w0 w P g v xs ∧ Rep xs L
theorem Qu.below {w0 w w' : World} {P : Nat → Prop} {g : Nat} {L : List S48} (h : Qu w0 w P g L) (hb : Below w.heap.size w w') : Qu w0 w' P g L := by
  obtain ⟨v, xs, hq, hr⟩ := h; exact ⟨v, xs, hq.below hb, hr⟩
theorem Qu.mono {w0 w : World} {P P' : Nat → Prop} {g : Nat} {L : List S48} (h : Qu w0 w P g L) (hp : ∀ k, P k → P' k) : Qu w0 w P' g L := by
  obtain ⟨v, xs, hq, hr⟩ := h; exact ⟨v, xs, hq.mono hp, hr⟩
theorem Qu.tight {w0 w : World} {P : Nat → Prop} {g : Nat} {L : List S48} (h : Qu w0 w P g L) : Qu w0 w (fun k => P k ∧ k ≠ g ∧ k < w.heap.size) g L := by
  obtain ⟨v, xs, hq, hr⟩ := h; exact ⟨v, xs, hq.tight, hr⟩
theorem Qu.kept {w0 w w' : World} {P S : Nat → Prop} {g : Nat} {L : List S48} (h : Qu w0 w P g L) (hk : Kept w w' S) (h1 : ∀ k, P k → ¬ S k) (h2 : ¬ S g) : Qu w0 w' P g L := by
  obtain ⟨v, xs, hq, hr⟩ := h; exact ⟨v, xs, hq.kept hk h1 h2, hr⟩
def QPost (w0 w : World) (P : Nat → Prop) (g : Nat) (v : Value) (L : List S48) (e : Ending) (w' : World) : Prop :=
  e = .returned v ∧ Qu w0 w' (fun k => P k ∨ w.heap.size ≤ k) g L ∧ Below w0.heap.size w0 w' ∧ Kept w w' (fun k => P k ∨ k = g)
set_option maxHeartbeats 2000000 in
set_option maxRecDepth 100000 in
theorem push_room (w0 w : World) (P : Nat → Prop) (gq : Nat) (L : List S48) (d x : Int) (hB : Below w0.heap.size w0 w) (hP : ∀ k, P k → k ≠ gq) (hq : Qu w0 w P gq L) (hl : L.length < 100) :
    Calls Try.prog 11 #[.pointer (some ⟨gq, 0, none⟩), .int .i64 d, .int .i64 x] w (QPost w0 w P gq (.bool true) (ins ⟨d, x⟩ L)) := by
  obtain ⟨v, xs, hq, hr⟩ := hq
  have hgq := blk_lt hq.blk
  have hlx := hr.length
  have hc := hq.cell
  obtain ⟨A, c, rfl⟩ := Kd.R_slice hq.row
  have h1 := hpush_any w0 w P gq _ xs ⟨d, x⟩ hB hP hq (by omega) hr.heap
  have hR := Lib.hid hr
  clear hr
  have hl2 : (xs.length : Int) < 100 := by omega
  have hl3 : decide ((xs.length : Int) ≥ 100) = false := by simp; omega
  have HX := Lib.hid hlx
  clear hlx
  go_enter Try.func11, Try.ntmps11
  go_wp2_with fail
  go_at_call 20
  refine h1.mono ?_
  rintro e w1 ⟨rfl, v', ys, hq1, hperm, hh, hB1, hK1⟩
  go_wp2
  go_ret
  exact ⟨rfl, ⟨v', ys, hq1, hR.out.push hperm hh⟩, hB1, hK1⟩
set_option maxHeartbeats 2000000 in
set_option maxRecDepth 100000 in
theorem push_full (w0 w : World) (P : Nat → Prop) (gq : Nat) (L : List S48) (d x : Int) (hB : Below w0.heap.size w0 w) (hq : Qu w0 w P gq L) (hl : 100 ≤ L.length) :
    Calls Try.prog 11 #[.pointer (some ⟨gq, 0, none⟩), .int .i64 d, .int .i64 x] w (QPost w0 w P gq (.bool false) L) := by
  have hq0 := Lib.hid hq
  obtain ⟨v, xs, hq, hr⟩ := hq
  have hgq := blk_lt hq.blk
  have hlx := hr.length
  have hc := hq.cell
  obtain ⟨A, c, rfl⟩ := Kd.R_slice hq.row
  have hl3 : decide ((xs.length : Int) ≥ 100) = true := by simp; omega
  have HX := Lib.hid hlx
  clear hlx hr hq
  go_enter Try.func11, Try.ntmps11
  go_wp2
  go_ret
  exact ⟨rfl, hq0.out.mono (fun k h => .inl h), hB, Kept.refl _ _⟩
theorem push_any (w0 w : World) (P : Nat → Prop) (gq : Nat) (L : List S48) (d x : Int) (hB : Below w0.heap.size w0 w) (hP : ∀ k, P k → k ≠ gq) (hq : Qu w0 w P gq L) :
    Calls Try.prog 11 #[.pointer (some ⟨gq, 0, none⟩), .int .i64 d, .int .i64 x] w (QPost w0 w P gq (.bool (decide (L.length < 100))) (if L.length < 100 then ins ⟨d, x⟩ L else L)) := by
  by_cases h : L.length < 100
  · rw [if_pos h, decide_eq_true h]; exact push_room w0 w P gq L d x hB hP hq h
  · rw [if_neg h, decide_eq_false h]; exact push_full w0 w P gq L d x hB hq (by omega)
theorem qlen_any (w0 w : World) (P : Nat → Prop) (gq : Nat) (L : List S48) (hq : Qu w0 w P gq L) : Calls Try.prog 14 #[.pointer (some ⟨gq, 0, none⟩)] w fun e w' => e = .returned (.int .i64 L.length) ∧ w = w' := by
  obtain ⟨v, xs, hq, hr⟩ := hq
  have hlx := hr.length
  have hc := hq.cell
  obtain ⟨A, c, rfl⟩ := Kd.R_slice hq.row
  rw [← hlx]
  clear hlx hr hq
  go_enter Try.func14, Try.ntmps14
  go_wp2
  go_ret
  exact ⟨rfl, rfl⟩
theorem peek_none (w0 w : World) (P : Nat → Prop) (gq : Nat) (hq : Qu w0 w P gq []) : Calls Try.prog 15 #[.pointer (some ⟨gq, 0, none⟩)] w fun e w' => e = .returned (.tuple #[.int .i64 0, .int .i64 0, .bool false]) ∧ w = w' := by
  have h := qlen_any w0 w P gq [] hq
  rw [show (([] : List S48).length : Int) = 0 by rfl] at h
  go_enter Try.func15, Try.ntmps15
  go_wp2_with (go_at_call 14; refine h.mono ?_; rintro e w' ⟨rfl, rfl⟩)
  go_ret3
  exact ⟨rfl, rfl⟩
set_option maxHeartbeats 2000000 in
theorem peek_some (w0 w : World) (P : Nat → Prop) (gq : Nat) (a : S48) (L : List S48) (hq : Qu w0 w P gq (a :: L)) : Calls Try.prog 15 #[.pointer (some ⟨gq, 0, none⟩)] w fun e w' => e = .returned (.tuple #[.int .i64 a.f0, .int .i64 a.f1, .bool true]) ∧ Drawn0 w w' := by
  have h := qlen_any w0 w P gq _ hq
  obtain ⟨v, xs, hq, hr⟩ := hq
  have hlx := hr.length
  rw [List.length_cons] at hlx
  obtain ⟨L', e⟩ := hr.head (by omega)
  obtain ⟨rfl, _⟩ := List.cons.inj e
  clear e
  have hc := hq.cell
  obtain ⟨g, cap, rfl, hg1, hg2, _⟩ := Kd.R_form hq.row (by omega)
  obtain ⟨ce, hcl, hM, hcc, hfr⟩ := Kd.R_elem hq.row z48 (0 : Int) (by omega) (by omega)
  obtain rfl := k48_openM hM
  have hx0 : w.cell? ⟨g, 0, none⟩ = some (.int .i64 (QHeap.g xs 0).f0) := hcc 0 _ rfl
  have hx1 : w.cell? ⟨g, 1, none⟩ = some (.int .i64 (QHeap.g xs 0).f1) := hcc 1 _ rfl
  have hn0 : (0 : Int) < xs.length := by omega
  have hn1 : (((QHeap.g xs 0 :: L).length : Int) == 0) = false := by simp; omega
  clear hcl hM hcc hfr hlx hr hq
  go_enter Try.func15, Try.ntmps15
  go_wp2_with (go_at_call 14; refine h.mono ?_; rintro e w' ⟨rfl, rfl⟩)
  go_quiet (fail)
  go_wp2
  go_ret3
  exact ⟨rfl, ⟨⟨_, rfl⟩⟩⟩
end Go.Proofs.Ytigoebmmkdhclaa.Pq
end
section
namespace Go.Proofs.Ytigoebmmkdhclaa.Pq
open Go.RowKit Go.Proofs.YtigoebmmkdhclaaW.PrintWords Go.Proofs.YtigoebmmkdhclaaW.PrintLast Go.Proofs.YtigoebmmkdhclaaW.PrintMore
open QHeap
set_option linter.unusedVariables false
set_option linter.unusedSimpArgs false
def QNew (w0 w : World) (e : Ending) (w' : World) : Prop := ∃ g, e = .returned (.pointer (some ⟨g, 0, none⟩)) ∧ w.heap.size ≤ g ∧ Qu w0 w' (fun k => w.heap.size ≤ k ∧ k ≠ g) g [] ∧ Below w.heap.size w w' ∧ Below w0.heap.size w0 w'
theorem new_any (w0 w : World) (hB : Below w0.heap.size w0 w) : Calls Try.prog 10 #[] w (QNew w0 w) := by
  have hs := hB.size
  have hB0 := Lib.hid hB
  clear hB
  go_enter Try.func10, Try.ntmps10
  go_wp2
  go_ret
  refine ⟨w.heap.size, rfl, Nat.le_refl _, ⟨.slice none 0 0, [], ⟨hs, heap_alloc_new w _, Kd.R_nil _ _ _ _ _⟩, Rep.nil⟩, below_alloc (Below.refl _ _) _, below_alloc hB0.out _⟩
theorem pop_none (w0 w : World) (P : Nat → Prop) (gq : Nat) (hq : Qu w0 w P gq []) : Calls Try.prog 12 #[.pointer (some ⟨gq, 0, none⟩)] w fun e w' => e = .returned (.tuple #[.int .i64 0, .int .i64 0, .bool false]) ∧ w = w' := by
  have h := peek_none w0 w P gq hq
  clear hq
  go_enter Try.func12, Try.ntmps12
  go_wp2_with (go_at_call 15; refine h.mono ?_; rintro e w' ⟨rfl, rfl⟩)
  go_ret3
  exact ⟨rfl, rfl⟩
set_option maxHeartbeats 2000000 in
theorem pop_some (w0 w : World) (P : Nat → Prop) (gq : Nat) (a : S48) (L : List S48) (hB : Below w0.heap.size w0 w) (hP : ∀ k, P k → k ≠ gq) (hq : Qu w0 w P gq (a :: L)) (hl : L.length < 1000) : Calls Try.prog 12 #[.pointer (some ⟨gq, 0, none⟩)] w (QPost w0 w P gq (.tuple #[.int .i64 a.f0, .int .i64 a.f1, .bool true]) L) := by
  have h := peek_some w0 w P gq a L hq
  have hB0 := Lib.hid hB
  clear hB
  have HQ := Lib.hid hq
  clear hq
  go_enter Try.func12, Try.ntmps12
  go_wp2_with fail
  go_at_call 15
  refine h.mono ?_
  rintro e w1 ⟨rfl, ⟨n, rfl⟩⟩
  have hb1 : Below w.heap.size w (w.drewN n) := pw_below_drewN (Below.refl _ _) _
  have hq1 := HQ.out.below hb1
  obtain ⟨v, xs, hq2, hr⟩ := hq1
  have hlx := hr.length
  rw [List.length_cons] at hlx
  have h2 := hpop_any w0 (w.drewN n) P gq v xs L a (below_then hB0.out hB0.out.size hb1) hP hq2 (by omega) hr
  clear hlx hq2 hr
  go_wp2_with fail
  go_at_call 21
  refine h2.mono ?_
  unfold HPop
  rintro e w2 ⟨⟨u, rfl⟩, v', ys, hq3, hr3, hB3, hK3⟩
  go_wp2
  go_ret3
  exact ⟨rfl, ⟨v', ys, hq3, hr3⟩, hB3, (Kept.of_below hb1 _).then_ hK3 (fun k hk => .inl hk)⟩
end Go.Proofs.Ytigoebmmkdhclaa.Pq
end
section
namespace Go.Proofs.Ytigoebmmkdhclaa.Pq
open Go.RowKit Go.Proofs.YtigoebmmkdhclaaW.PrintWords Go.Proofs.YtigoebmmkdhclaaW.PrintLast Go.Proofs.YtigoebmmkdhclaaW.PrintMore
open QHeap
set_option linter.unusedVariables false
set_option linter.unusedSimpArgs false
theorem R_empty {α : Type} (d : Kd α) (e base : Nat) (w : World) (ok : Nat → Prop) (hok : ok w.heap.size) (hb : base ≤ w.heap.size) : d.R e (w.alloc (.cells #[] e)) base ok (.slice (some ⟨w.heap.size, 0, none⟩) 0 0) [] := by
  refine ⟨fun k hk => ?_, [], ?_, ⟨by simp, fun j p hj => by simp at hj⟩⟩
  · have : w.heap.size = k := by simpa [Value.ownBlock] using hk
    subst this
    exact hok
  · have h2 := World.ownsRow_lit (base := base) (e := e) (size := d.sz) w #[] 0 hb (by simp [maxLen]) (by simp)
    simpa using h2
set_option maxHeartbeats 2000000 in
theorem clone_any (w : World) (A : Option Addr) (c : Nat) (xs : List S48) (hr : k48.C w A xs.length xs) (hc : xs.length ≤ c) (hl : xs.length ≤ 1000) :
    Calls Try.prog 22 #[.slice A xs.length c] w fun e w' => ∃ v, e = .returned v ∧ Kd.R k48 48 w' w.heap.size (fun _ => True) v xs ∧ Below w.heap.size w w' := by
  have q42 : ∀ (w : World) (a : Option Addr) (n c n' c' : Nat), (binOp .eql 42 (.slice a n c) (.slice none n' c')).run Try.prog w = .ok (.bool a.isNone) w := fun w a n c n' c' => Lib.run_eql_slice_nil w _ _ a n c n' c' Try.underlying42
  cases A with
  | none =>
    have h0 : xs.length = 0 := by
      rcases Nat.eq_zero_or_pos xs.length with h0 | h0
      · exact h0
      · obtain ⟨ad, h, _⟩ := hr.2.2 h0
        cases h
    obtain rfl := List.eq_nil_of_length_eq_zero h0
    clear hr hc hl h0
    go_enter Try.func22, Try.ntmps22
    go_wp2
    go_ret
    exact ⟨_, rfl, Kd.R_nil _ _ _ _ _, Below.refl _ _⟩
  | some ad =>
    have HR := Lib.hid hr
    clear hr
    go_enter Try.func22, Try.ntmps22
    go_wp2_with (at_builtin; refine Kd.R_append_rows k48 (w0 := w) w.heap.size rfl (.tmp 5) (.tmp 6) 42 48 (.agg #[.int .i64 0, .int .i64 0]) 16 rfl Try.underlying42 q_info48 rfl (by decide) (by omega) (.slice (some ⟨w.heap.size, 0, none⟩) 0 0) [] xs _ _ _ (fun _ => True) (fun _ => False) rfl rfl ?aO ?aR (fun _ _ h => h) (fun _ h => h.elim) ?aF ?aB ?aS ?aL ?_; (case aO => exact R_empty _ _ _ _ _ trivial (Nat.le_refl _)); (case aR => exact Kd.C_alloc HR.out _); (case aF => exact fun _ _ => trivial); (case aB => exact below_alloc (Below.refl _ _) _); (case aS => simp); (case aL => simp; omega); intro v1 w1 hR1 hB1 hG1 _; have HX := Lib.hid (And.intro hR1 hB1); clear hR1 hB1 hG1)
    go_ret
    exact ⟨_, rfl, by simpa using HX.out.1, HX.out.2⟩
end Go.Proofs.Ytigoebmmkdhclaa.Pq
end
section
namespace Go.Proofs.Ytigoebmmkdhclaa.Pq
open Go.RowKit Go.Proofs.YtigoebmmkdhclaaW.PrintWords Go.Proofs.YtigoebmmkdhclaaW.PrintLast Go.Proofs.YtigoebmmkdhclaaW.PrintMore
open QHeap
set_option linter.unusedVariables false
set_option linter.unusedSimpArgs false
def QCopy (w0 w : World) (L : List S48) (e : Ending) (w' : World) : Prop := ∃ g, e = .returned (.pointer (some ⟨g, 0, none⟩)) ∧ w.heap.size ≤ g ∧ Qu w0 w' (fun k => w.heap.size ≤ k ∧ k ≠ g) g L ∧ Below w.heap.size w w' ∧ Below w0.heap.size w0 w'
set_option maxHeartbeats 2000000 in
theorem copy_any (w0 w : World) (P : Nat → Prop) (gq : Nat) (L : List S48) (hB : Below w0.heap.size w0 w) (hq : Qu w0 w P gq L) (hl : L.length ≤ 1000) :
    Calls Try.prog 19 #[.pointer (some ⟨gq, 0, none⟩)] w (QCopy w0 w L) := by
  have hB0 := Lib.hid hB
  clear hB
  obtain ⟨v, xs, hq, hr⟩ := hq
  have hlx := hr.length
  have hc := hq.cell
  obtain ⟨A, c, rfl, hlc, hC⟩ := Kd.R_reads hq.row
  have h := clone_any w A c xs hC hlc (by omega)
  have HR := Lib.hid hr
  clear hlx hr hq hC
  go_enter Try.func19, Try.ntmps19
  go_wp2_with fail
  go_at_call 22
  refine h.mono ?_
  rintro e w1 ⟨v1, rfl, hR1, hB1⟩
  obtain ⟨A1, c1, rfl, _⟩ := Kd.R_reads hR1
  have H1 := Lib.hid (And.intro hR1 hB1)
  clear hR1 hB1
  go_wp2
  go_ret
  obtain ⟨hR1, hB1⟩ := H1.out
  have hs := hB1.size
  have hs0 := hB0.out.size
  have hB2 := below_alloc hB1 (.cells #[.slice A1 xs.length c1] 44)
  refine ⟨w1.heap.size, rfl, hs, ⟨_, xs, ⟨by omega, heap_alloc_new w1 _, ?_⟩, HR.out⟩, hB2, below_then hB0.out hs0 hB2⟩
  exact Kd.R_mono (Kd.R_bound (Kd.R_lower (Kd.R_alloc (Kd.R_mono (Kd.R_bound hR1) (fun k hk => hk.2)) _) hs0)) (fun k hk => ⟨by have := hk.1.1; omega, by have := hk.1.2.1; omega⟩)
end Go.Proofs.Ytigoebmmkdhclaa.Pq
end
section
namespace Go.Proofs.Ytigoebmmkdhclaa.Pq
open Go.RowKit Go.Proofs.YtigoebmmkdhclaaW.PrintWords Go.Proofs.YtigoebmmkdhclaaW.PrintLast Go.Proofs.YtigoebmmkdhclaaW.PrintMore
open QHeap
set_option linter.unusedVariables false
set_option linter.unusedSimpArgs false
/-- One queue, all else aside. -/
def One (w0 w : World) (g : Nat) (L : List S48) : Prop := Below w0.heap.size w0 w ∧ Qu w0 w (fun k => k ≠ g) g L
theorem One.below {w0 w w' : World} {g : Nat} {L : List S48} (h : One w0 w g L) (hb : Below w.heap.size w w') : One w0 w' g L := ⟨below_then h.1 h.1.size hb, h.2.below hb⟩
theorem one_new (w0 w : World) (hB : Below w0.heap.size w0 w) : Calls Try.prog 10 #[] w fun e w' => ∃ g, e = .returned (.pointer (some ⟨g, 0, none⟩)) ∧ One w0 w' g [] :=
  (new_any w0 w hB).mono fun e w' ⟨g, he, _, hq, _, hB'⟩ => ⟨g, he, hB', hq.mono (fun k hk => hk.2)⟩
theorem one_room (w0 w : World) (g : Nat) (L : List S48) (d x : Int) (h : One w0 w g L) (hl : L.length < 100) : Calls Try.prog 11 #[.pointer (some ⟨g, 0, none⟩), .int .i64 d, .int .i64 x] w fun e w' => e = .returned (.bool true) ∧ One w0 w' g (ins ⟨d, x⟩ L) :=
  (push_room w0 w _ g L d x h.1 (fun k hk => hk) h.2 hl).mono fun e w' ⟨he, hq, hB, _⟩ => ⟨he, hB, hq.tight.mono (fun k hk => hk.2.1)⟩
theorem one_len (w0 w : World) (g : Nat) (L : List S48) (h : One w0 w g L) : Calls Try.prog 14 #[.pointer (some ⟨g, 0, none⟩)] w fun e w' => e = .returned (.int .i64 L.length) ∧ w = w' := qlen_any w0 w _ g L h.2
theorem one_pop (w0 w : World) (g : Nat) (a : S48) (L : List S48) (h : One w0 w g (a :: L)) (hl : L.length < 1000) : Calls Try.prog 12 #[.pointer (some ⟨g, 0, none⟩)] w fun e w' => e = .returned (.tuple #[.int .i64 a.f0, .int .i64 a.f1, .bool true]) ∧ One w0 w' g L :=
  (pop_some w0 w _ g a L h.1 (fun k hk => hk) h.2 hl).mono fun e w' ⟨he, hq, hB, _⟩ => ⟨he, hB, hq.tight.mono (fun k hk => hk.2.1)⟩
set_option maxHeartbeats 4000000 in
theorem known_any (w0 w : World) (hB : Below w0.heap.size w0 w) : Calls Try.prog 13 #[] w fun e w' => e = .returned (.bool true) ∧ Below w0.heap.size w0 w' := by
  have h1 := one_new w0 w hB
  clear hB
  go_enter Try.func13, Try.ntmps13
  go_wp2_with fail
  go_at_call 10
  refine h1.mono ?_
  rintro e w1 ⟨g, rfl, q1⟩
  have h2 := one_room w0 w1 g [] 5 1 q1 (by simp)
  have X1 := Lib.hid q1
  clear q1
  go_wp2_with fail
  go_at_call 11
  refine h2.mono ?_
  rintro e w2 ⟨rfl, q2⟩
  have h3 := one_room w0 w2 g _ 3 9 q2 (by decide)
  have X2 := Lib.hid q2
  clear q2
  go_wp2_with fail
  go_at_call 11
  refine h3.mono ?_
  rintro e w3 ⟨rfl, q3⟩
  have h4 := one_len w0 w3 g _ q3
  rw [show ((ins (⟨3, 9⟩ : S48) (ins ⟨5, 1⟩ [])).length : Int) = 2 by decide] at h4
  have e3 : ins (⟨3, 9⟩ : S48) (ins ⟨5, 1⟩ []) = [⟨3, 9⟩, ⟨5, 1⟩] := by simp [ins, le]
  rw [e3] at q3
  clear e3
  have h5 := one_pop w0 w3 g _ _ q3 (by simp)
  have X3 := Lib.hid q3
  clear q3
  go_wp2_with fail
  go_at_call 14
  refine h4.mono ?_
  rintro e w4 ⟨rfl, rfl⟩
  go_wp2_with fail
  go_at_call 12
  refine h5.mono ?_
  rintro e w5 ⟨rfl, q5⟩
  have h6 := one_len w0 w5 g _ q5
  rw [show (([⟨5, 1⟩] : List S48).length : Int) = 1 by decide] at h6
  have X5 := Lib.hid q5
  clear q5
  go_wp2_with fail
  go_at_call 14
  refine h6.mono ?_
  rintro e w6 ⟨rfl, rfl⟩
  go_wp2
  go_ret
  exact ⟨rfl, X5.out.1⟩
end Go.Proofs.Ytigoebmmkdhclaa.Pq
end
section
namespace Go.Proofs.Ytigoebmmkdhclaa.Pq
open Go.RowKit Go.Proofs.YtigoebmmkdhclaaW.PrintWords Go.Proofs.YtigoebmmkdhclaaW.PrintLast Go.Proofs.YtigoebmmkdhclaaW.PrintMore
open QHeap
set_option linter.unusedVariables false
set_option linter.unusedSimpArgs false
theorem at_int {w : World} {A : Option Addr} {n : Nat} {l : List Int} (h : Kd.C (Kd.int .i64) w A n l) (i : Nat) (hi : i < n) : ∃ ad, A = some ad ∧ w.cell? (ad.add i) = some (.int .i64 (l.getD i 0)) := by
  obtain ⟨ad, c, e, _, hK, hc⟩ := Kd.C_get h (0 : Int) (i : Int) (by omega) (by omega)
  obtain rfl : c = [.int .i64 (l.getD i 0)] := hK
  refine ⟨ad, e, ?_⟩
  have := hc 0 _ rfl
  simpa [Kd.int, Kd.scalar] using this
def nth (L : List S48) (i : Nat) : S48 := L.getD i z48
end Go.Proofs.Ytigoebmmkdhclaa.Pq
end
section
namespace Go.Proofs.Ytigoebmmkdhclaa.OpenKd
open Go Go.RowKit Go.ChangeShapes Go.WideShapes Go.Deep Go.Proofs.YtigoebmmkdhclaaW.PrintWords
set_option linter.unusedVariables false
set_option linter.unusedSectionVars false
section
variable {H : Type} {enc : TypeId × Value → H} {P : Program} {w : World} {α β : Type}
theorem weights_mem_all {e : TypeId} : ∀ {ds : List (DataW H)} {d : DataW H}, d ∈ ds → ∀ n ∈ d.weights P e, n ∈ DataW.weightsAll P e ds
  | [], _, h, _, _ => by simp at h
  | x :: ds, d, h, n, hn => by
    rcases List.mem_cons.1 h with rfl | h
    · simp [DataW.weightsAll, hn]
    · simp [DataW.weightsAll, weights_mem_all h n hn]
def Light (P : Program) (t : TypeId) (d : DataW H) : Prop := ∀ n ∈ d.weights P t, n ≤ reachBytes
/-- Whatever is read at type t is of the kind d, and good. -/
structure Opens (enc : TypeId × Value → H) (P : Program) (w : World) (t : TypeId) (d : Kd α) (good : α → Prop) : Prop where
  cells : P.cellsOf t = d.sz
  go : ∀ (fuel : Nat) (cs : List Value) (x : DataW H × List MemPlace), DataW.trod enc P w 0 (fun _ => true) true fuel t cs = some x → Light P t x.1 → ∃ a, d.K w a cs ∧ good a
theorem opens_int {t : TypeId} {k : IntKind} (hu : P.underlying t = some (.int k)) (hc : P.cellsOf t = 1) : Opens enc P w t (Kd.int k) (fun n => (Lit.int k n).wf = true) :=
  ⟨hc, fun fuel cs x h _ => by
    obtain ⟨n, rfl, _, hw⟩ := DataW.trod_int hu h
    exact ⟨n, rfl, hw⟩⟩
theorem opens_slice {t e : TypeId} {d : Kd α} {good : α → Prop} (hu : P.underlying t = some (.slice e)) (hc : P.cellsOf t = 1) (h : Opens enc P w e d good) : Opens enc P w t (Kd.slice e d) (fun xs => xs.length * P.bytesOf e ≤ 140737488351232 ∧ ∀ x ∈ xs, good x) :=
  ⟨hc, fun fuel cs x hx hl => by
    rcases open_slice hu hx with ⟨rfl, rfl⟩ | ⟨a, len, cap, m, n, D, Pl, rfl, hb, hlc, hcm, hm, rfl, hel⟩
    · exact ⟨[], ⟨none, 0, rfl, Nat.le_refl _, ⟨rfl, by simp, fun h => by simp at h⟩⟩, by simp, by simp⟩
    · have hle : len ≤ m := by rw [hm]; split <;> omega
      have hmem : ∀ i, i < m → D i ∈ (List.range len).map D ∨ D i ∈ (List.range (m - len)).map fun j => D (len + j) := by
        intro i hi
        by_cases h1 : i < len
        · exact .inl (List.mem_map.2 ⟨i, List.mem_range.2 h1, rfl⟩)
        · exact .inr (List.mem_map.2 ⟨i - len, List.mem_range.2 (by omega), by congr 1; omega⟩)
      have hlight : ∀ i, i < m → Light P e (D i) := by
        intro i hi q hq
        refine hl q ?_
        simp only [DataW.weights, hu]
        rcases hmem i hi with h1 | h1
        · exact List.mem_cons_of_mem _ (List.mem_append_left _ (weights_mem_all h1 q hq))
        · exact List.mem_cons_of_mem _ (List.mem_append_right _ (weights_mem_all h1 q hq))
      have hall : ∀ i, i < len → ∃ x : α, good x ∧ ∃ c, c.length = d.sz ∧ d.K w x c ∧ ∀ j u, c[j]? = some u → w.cell? (a.add (i * d.sz + j)) = some u := by
        intro i hi
        obtain ⟨cs', hcs, htr⟩ := hel i (by omega)
        obtain ⟨y, hK, hg⟩ := h.go n cs' _ htr (hlight i (by omega))
        obtain ⟨_, hcl, hcc⟩ := World.cells?_some hcs
        refine ⟨y, hg, cs', by rw [hcl, h.cells], hK, fun j u hj => ?_⟩
        have hjl : j < P.cellsOf e := by rw [← hcl]; exact (List.getElem?_eq_some_iff.1 hj).1
        have := hcc j hjl
        rw [hj, Deep.add_add, h.cells] at this
        exact this
      have hlist : ∃ xs : List α, xs.length = len ∧ ∀ i (x : α), xs[i]? = some x → good x ∧ ∃ c, c.length = d.sz ∧ d.K w x c ∧ ∀ j u, c[j]? = some u → w.cell? (a.add (i * d.sz + j)) = some u := by
        clear hmem hlight hle hlc hl hel hx hm
        induction len with
        | zero => exact ⟨[], rfl, fun i x h => by simp at h⟩
        | succ len ih =>
          obtain ⟨xs, hxl, hxs⟩ := ih (fun i hi => hall i (by omega))
          obtain ⟨y, hy⟩ := hall len (by omega)
          refine ⟨xs ++ [y], by simp [hxl], fun i x hi => ?_⟩
          by_cases h1 : i < xs.length
          · rw [List.getElem?_append_left h1] at hi
            exact hxs i x hi
          · rw [List.getElem?_append_right (by omega)] at hi
            have h2 : i = xs.length := by
              have := (List.getElem?_eq_some_iff.1 hi).1
              simp at this
              omega
            subst h2
            simp at hi
            subst hi
            rw [hxl]
            exact hy
      obtain ⟨xs, hxl, hxs⟩ := hlist
      subst hxl
      refine ⟨xs, ⟨some a, cap, rfl, hlc, rfl, by have := hcm; unfold maxLen at this; omega, fun _ => ⟨a, rfl, fun j p hj => (hxs j p hj).2⟩⟩, ?_, fun x hx => ?_⟩
      · have hw := hl ((((List.range xs.length).map D).length + ((List.range (m - xs.length)).map fun j => D (xs.length + j)).length) * P.bytesOf e) (by simp [DataW.weights, hu])
        simp only [List.length_map, List.length_range] at hw
        have h2 : xs.length * P.bytesOf e ≤ (xs.length + (m - xs.length)) * P.bytesOf e := Nat.mul_le_mul_right _ (by omega)
        unfold reachBytes at hw
        omega
      · obtain ⟨i, hi, rfl⟩ := List.getElem_of_mem hx
        exact (hxs i _ (List.getElem?_eq_getElem hi)).1⟩
/-- Fields in line, from cell o on. -/
structure OpensF (enc : TypeId × Value → H) (P : Program) (w : World) (fs : List Field) (o : Nat) (d : Kd α) (good : α → Prop) : Prop where
  go : ∀ (n : Nat) (cs : List Value) (xs : List (DataW H × List MemPlace)), (∀ (i : Nat) (f : Field), fs[i]? = some f → DataW.trod enc P w 0 (fun _ => true) true n f.type ((cs.drop f.offset).take (P.cellsOf f.type)) = xs[i]?) →
    xs.length = fs.length → cs.length = o + d.sz → (∀ q ∈ DataW.weightsEach P (fs.map (·.type)) (xs.map (·.1)), q ≤ reachBytes) → ∃ a, d.K w a (cs.drop o) ∧ good a
theorem opens_last {f : Field} {o : Nat} {d : Kd α} {good : α → Prop} (ho : f.offset = o) (h : Opens enc P w f.type d good) : OpensF enc P w [f] o d good :=
  ⟨fun n cs xs hx hxl hcl hw => by
    match xs, hxl with
    | [x], _ =>
      have h0 := hx 0 f rfl
      rw [ho, h.cells, List.take_of_length_le (by rw [List.length_drop]; omega)] at h0
      exact h.go n _ x (by simpa using h0) (fun q hq => hw q (by simp [DataW.weightsEach, hq]))⟩
theorem opens_cons {f : Field} {fs : List Field} {o o2 : Nat} {a : Kd α} {b : Kd β} {ga : α → Prop} {gb : β → Prop} (ho : f.offset = o) (h : Opens enc P w f.type a ga) (ho2 : o2 = o + a.sz) (h2 : OpensF enc P w fs o2 b gb) :
    OpensF enc P w (f :: fs) o (Kd.pair a b) (fun p => ga p.1 ∧ gb p.2) :=
  ⟨fun n cs xs hx hxl hcl hw => by
    match xs, hxl with
    | x :: xs, hxl =>
      have h0 := hx 0 f rfl
      rw [ho, h.cells] at h0
      have hcl' : cs.length = o + (a.sz + b.sz) := hcl
      obtain ⟨x1, hK1, hg1⟩ := h.go n _ x (by simpa using h0) (fun q hq => hw q (by simp [DataW.weightsEach, hq]))
      obtain ⟨x2, hK2, hg2⟩ := h2.go n cs xs (fun i f' hf => by simpa using hx (i + 1) f' (by simpa using hf)) (by simpa using hxl) (by omega) (fun q hq => hw q (by
        simp only [List.map_cons, DataW.weightsEach]
        exact List.mem_append_right _ hq))
      refine ⟨(x1, x2), ⟨(cs.drop o).take a.sz, cs.drop o2, ?_, hK1, hK2⟩, hg1, hg2⟩
      have h3 := List.take_append_drop a.sz (cs.drop o)
      rw [List.drop_drop] at h3
      rw [ho2]
      exact h3.symm⟩
theorem opens_struct {t : TypeId} {fs : Array Field} {d : Kd α} {good : α → Prop} (hu : P.underlying t = some (.struct fs)) (hc : P.cellsOf t = d.sz) (h : OpensF enc P w fs.toList 0 d good) {f : β → α} (g : α → β) (hg : ∀ a, f (g a) = a) :
    Opens enc P w t (Kd.iso d f) (fun y => good (f y)) :=
  ⟨hc, fun fuel cs x hx hl => by
    obtain ⟨xs, n, _, rfl, hcl, hxl, hxs⟩ := DataW.trod_struct hu hx
    obtain ⟨a, hK, hga⟩ := h.go n cs xs (fun i f' hf => hxs i f' (by rw [← Array.getElem?_toList]; exact hf)) (by simpa using hxl) (by rw [hcl, hc]; omega) (fun q hq => hl q (by simpa [DataW.weights, hu] using hq))
    refine ⟨g a, ?_, by rw [hg]; exact hga⟩
    show d.K w (f (g a)) cs
    rw [hg]
    simpa using hK⟩
/-- A slice that came in. -/
theorem opens_arg_slice {t e : TypeId} {d : Kd α} {good : List α → Prop} {n : Nat} {c : Value} {x : DataW H × List MemPlace} (h : Opens enc P w t (Kd.slice e d) good) (hx : DataW.trod enc P w 0 (fun _ => true) true n t [c] = some x) (hl : Light P t x.1) :
    ∃ A k xs, c = .slice A xs.length k ∧ xs.length ≤ k ∧ d.C w A xs.length xs ∧ good xs := by
  obtain ⟨xs, ⟨A, k, hc, hle, hC⟩, hg⟩ := h.go n _ x hx hl
  exact ⟨A, k, xs, by simpa using hc, hle, hC, hg⟩
end
end Go.Proofs.Ytigoebmmkdhclaa.OpenKd
end
section
namespace Go.Proofs.Ytigoebmmkdhclaa.Pq
open Go.RowKit Go.Proofs.YtigoebmmkdhclaaW.PrintWords Go.Proofs.YtigoebmmkdhclaaW.PrintLast Go.Proofs.YtigoebmmkdhclaaW.PrintMore
open QHeap OpenKd
set_option linter.unusedVariables false
set_option linter.unusedSimpArgs false
/-- An act: its kind, due, what. -/
structure Act3 where
  f0 : Int
  f1 : Int
  f2 : Int
def zAct : Act3 := ⟨0, 0, 0⟩
def kAct : Kd Act3 := Kd.iso (Kd.pair (Kd.int .i64) (Kd.pair (Kd.int .i64) (Kd.int .i64))) (fun x => (x.f0, x.f1, x.f2))
theorem kAct_open {w : World} {x : Act3} {cs : List Value} (h : kAct.K w x cs) : cs = [.int .i64 x.f0, .int .i64 x.f1, .int .i64 x.f2] := by
  obtain ⟨_, _, rfl, rfl, ⟨_, _, rfl, rfl, rfl⟩⟩ := h
  exact rfl
theorem at_act {w : World} {A : Option Addr} {n : Nat} {xs : List Act3} (h : Kd.C kAct w A n xs) (i : Nat) (h1 : i < n) : ∃ ad, A = some ad ∧ w.cell? (ad.add (i * 3)) = some (.int .i64 (xs.getD i zAct).f0) ∧ w.cell? ⟨(ad.add (i * 3)).block, (ad.add (i * 3)).off + 1, none⟩ = some (.int .i64 (xs.getD i zAct).f1) ∧ w.cell? ⟨(ad.add (i * 3)).block, (ad.add (i * 3)).off + 2, none⟩ = some (.int .i64 (xs.getD i zAct).f2) := by
  obtain ⟨ad, c, e, _, hK, hc0⟩ := Kd.C_get h zAct (i : Int) (by omega) (by omega)
  have hc : ∀ j u, c[j]? = some u → w.cell? (ad.add (i * 3 + j)) = some u := hc0
  obtain rfl := kAct_open hK
  exact ⟨ad, e, hc 0 _ rfl, by rw [← add_field _ _ 1 (by omega)]; exact hc 1 _ rfl, by rw [← add_field _ _ 2 (by omega)]; exact hc 2 _ rfl⟩
theorem opens_act {H : Type} {enc : TypeId × Value → H} {w : World} : Opens enc Try.prog w 38 kAct (fun y => (Lit.int .i64 y.f0).wf = true ∧ (Lit.int .i64 y.f1).wf = true ∧ (Lit.int .i64 y.f2).wf = true) :=
  opens_struct Try.underlying38 (by kernel_rfl) (opens_cons rfl (opens_int Try.underlying3 (by kernel_rfl)) rfl (opens_cons rfl (opens_int Try.underlying3 (by kernel_rfl)) rfl (opens_last rfl (opens_int Try.underlying3 (by kernel_rfl))))) (fun a => ⟨a.1, a.2.1, a.2.2⟩) (fun _ => rfl)
theorem opens_acts {H : Type} {enc : TypeId × Value → H} {w : World} : Opens enc Try.prog w 32 (Kd.slice 38 kAct) (fun xs => xs.length * Try.prog.bytesOf 38 ≤ 140737488351232 ∧ ∀ y ∈ xs, (Lit.int .i64 y.f0).wf = true ∧ (Lit.int .i64 y.f1).wf = true ∧ (Lit.int .i64 y.f2).wf = true) := opens_slice Try.underlying32 (by kernel_rfl) opens_act
end Go.Proofs.Ytigoebmmkdhclaa.Pq
end
section
namespace Go.Proofs.Ytigoebmmkdhclaa.Pq
open Go.RowKit Go.Proofs.YtigoebmmkdhclaaW.PrintWords Go.Proofs.YtigoebmmkdhclaaW.PrintLast Go.Proofs.YtigoebmmkdhclaaW.PrintMore
open QHeap OpenKd
set_option linter.unusedVariables false
set_option linter.unusedSimpArgs false
theorem keepc {w1 w' : World} {a : Addr} {v : Value} (hb : Below w1.heap.size w1 w') (hc : w1.cell? a = some v) : w'.cell? a = some v := (hb.cell (World.block_lt_of_cell? _ _ hc)).trans hc
theorem keepb {w w1 w' : World} (hb : Below w1.heap.size w1 w') (hB : Below w.heap.size w w1) : Below w.heap.size w w' := below_then hB hB.size hb
def bits (n m : Nat) : Array Bool := ((List.range n).map (fun i => m.testBit i)).toArray
section
variable {P : Program} {md : Region.Mode} {ops : Array Oper} {Q : Exit → Act → World → Prop} {S : World → Prop} {ds : List Nat}
theorem st_ {id : Nat} {a : Act} {w : World} (S : World → Prop) (n : Nat) (hS : S w.drew) (h : S w.drew → wpAnyLast P .any ops Q S [] n (bits n 0) a w.drew)
    (hm : P.follows .mixedOrders = true := by kernel_rfl) (hn : ops.size = n := by exact rfl) (hl : Array.replicate n false = bits n 0 := by kernel_rfl) : (Code.region id ops true).wp P Q a w :=
  start_ (bits n 0) hm hn hl hS h
theorem pu_ {n m fuel : Nat} {oi : Oper} {v : Value} {a a' : Act} {w : World} (i : Nat) (N : Option Tmp) (h : wpAnyLast P md ops Q S ds fuel (bits n (m ||| 1 <<< i)) a' w)
    (hi : ops[i]? = some oi := by exact rfl) (hN : oi.dst = N := by exact rfl) (hc : anyB md ops (bits n m) (bits n (m ||| 1 <<< i)) i = true := by kernel_rfl)
    (hw : Region.wanted oi (yielded ops a.tmps) = true := by exact rfl) (hy : ∀ w', (execOp a.eval oi).run P w' = .ok (.value v) w' := by (intro w'; go_simp; with_reducible rfl))
    (ha : a.put N v = a' := by (simp only [Act.put, List.setIfInBounds_toArray, List.set_cons_zero, List.set_cons_succ, i64_w, i32_w]; rfl))
    (hQ : ∀ c a w, Q (.panic c) (a.put oi.dst v) w → Q (.panic c) a w := by exact fun _ _ _ h => h) : wpAnyLast P md ops Q S ds (fuel + 1) (bits n m) a w :=
  pure_ _ hi hN hc hQ (Or.inl ⟨hw, hy⟩) ha h
theorem tk_ {n m fuel : Nat} {oi : Oper} {v : Value} {a a' : Act} {w : World} (i : Nat) (N : Option Tmp) (hS : S w) (h : wpAnyLast P md ops Q S ds fuel (bits n (m ||| 1 <<< i)) a' w)
    (hi : ops[i]? = some oi := by exact rfl) (hN : oi.dst = N := by exact rfl) (hc : takeB md ops ds (bits n m) (bits n (m ||| 1 <<< i)) i = true := by kernel_rfl)
    (hw : Region.wanted oi (yielded ops a.tmps) = true := by exact rfl) (hy : ∀ w', S w' → (execOp a.eval oi).run P w' = .ok (.value v) w')
    (ha : a.put N v = a' := by (simp only [Act.put, List.setIfInBounds_toArray, List.set_cons_zero, List.set_cons_succ, i64_w, i32_w]; rfl))
    (hQ : ∀ c a w, Q (.panic c) (a.put oi.dst v) w → Q (.panic c) a w := by exact fun _ _ _ h => h) : wpAnyLast P md ops Q S ds (fuel + 1) (bits n m) a w :=
  take_ _ hi hN hc hQ (Or.inl ⟨hw, hy⟩) hS ha h
/-- A call that alone may come up: its contract gives the answer v and a world in which S holds. -/
theorem ca_ {n m fuel : Nat} {oi : Oper} {a : Act} {w : World} {f : FuncId} {fn : Func} {os : Array Operand} {ts : Array TypeId} (i : Nat) (N : Option Tmp) (hf : P.funcs[f]? = some fn) (args : Array Value)
    (h : Calls P f args w fun e w' => ∃ v, e = .returned v ∧ S w' ∧ (S w' → ∃ a', a.put N v = a' ∧ wpAnyLast P md ops Q S ds fuel (bits n (m ||| 1 <<< i)) a' w'))
    (hi : ops[i]? = some oi := by exact rfl) (hN : oi.dst = N := by exact rfl) (hc : readyB md ops (bits n m) (bits n (m ||| 1 <<< i)) i = true := by kernel_rfl) (hd : i ∉ ds := by decide)
    (hop : oi.op = .call { callee := .value (.func f), args := os, argTypes := ts } := by exact rfl) (hargs : os.map a.eval = args := by ((try simp only [List.map_toArray, List.map_cons, List.map_nil]); first | done | rfl))
    (hw : Region.wanted oi (yielded ops a.tmps) = true := by exact rfl)
    (hname : (fn.name == "runtime.NumGoroutine") = false := by kernel_rfl) (hb : fn.body.isSome = true := by exact rfl) : wpAnyLast P md ops Q S ds (fuel + 1) (bits n m) a w :=
  one_ _ hi hN hc hd fun K hK => goes_ hf hname hb args hw hN hop hargs (h.mono fun e w' hh => by
    obtain ⟨v, rfl, hS, hW⟩ := hh
    refine ⟨v, rfl, hK.out _ _ hS fun hs => ?_⟩
    obtain ⟨a', rfl, h'⟩ := hW hs
    exact h')
theorem dn_ {n m : Nat} {a : Act} {w : World} {k : Nat} (h : Q .normal a w) (hr : (Region.ready md ops (bits n m) == []) = true := by kernel_rfl) : wpAnyLast P md ops Q S ds k (bits n m) a w := done_ hr h
end
section
variable {P : Program} {md : Region.Mode} {ops : Array Oper} {Q : Exit → Act → World → Prop} {S : World → Prop} {ds : List Nat}
theorem on_ {n m fuel : Nat} {oi : Oper} {a : Act} {w : World} (i : Nat) (N : Option Tmp)
    (h : ∀ K : Act → World → Prop, Shut (∀ a' w', S w' → (S w' → wpAnyLast P md ops Q S ds fuel (bits n (m ||| 1 <<< i)) a' w') → K a' w') → if Region.wanted oi (yielded ops a.tmps) = true then Oper.wp P oi a w K Q else K (a.put N undef) w)
    (hi : ops[i]? = some oi := by exact rfl) (hN : oi.dst = N := by exact rfl) (hc : readyB md ops (bits n m) (bits n (m ||| 1 <<< i)) i = true := by kernel_rfl) (hd : i ∉ ds := by decide) : wpAnyLast P md ops Q S ds (fuel + 1) (bits n m) a w :=
  one_ _ hi hN hc hd h
end
section
variable {P : Program} {md : Region.Mode} {ops : Array Oper} {Q : Exit → Act → World → Prop} {S : World → Prop} {ds : List Nat}
theorem nz_ {fuel : Nat} {l : Array Bool} {a a' : Act} {v : Value} {w : World} (N : Option Tmp) (h : wpAnyLast P md ops Q S ds fuel l a' w)
    (ha : a.put N v = a' := by (simp only [Act.put, List.setIfInBounds_toArray, List.set_cons_zero, List.set_cons_succ, i64_w, i32_w]; rfl)) : wpAnyLast P md ops Q S ds fuel l (a.put N v) w := by
  subst ha
  exact h
end
theorem C_take {α : Type} {d : Kd α} {w : World} {A : Option Addr} {n : Nat} {xs : List α} (h : Kd.C d w A n xs) (m : Nat) (hm : m ≤ n) : Kd.C d w A m (xs.take m) := by
  obtain ⟨h1, h2, h3⟩ := h
  refine ⟨by rw [List.length_take]; omega, by omega, fun hp => ?_⟩
  obtain ⟨ad, e, hc⟩ := h3 (by omega)
  refine ⟨ad, e, fun j p hj => hc j p ?_⟩
  rw [List.getElem?_take] at hj
  split at hj
  · exact hj
  · cases hj
end Go.Proofs.Ytigoebmmkdhclaa.Pq
end
section
namespace Go.Proofs.Ytigoebmmkdhclaa.Pq
open Go.RowKit Go.Proofs.YtigoebmmkdhclaaW.PrintWords Go.Proofs.YtigoebmmkdhclaaW.PrintLast Go.Proofs.YtigoebmmkdhclaaW.PrintMore
open QHeap OpenKd
set_option linter.unusedVariables false
set_option linter.unusedSimpArgs false
/-- How many of a row come first. -/
def cnt (x : S48) : List S48 → Nat
  | [] => 0
  | y :: L => if le y x then cnt x L + 1 else 0
theorem cnt_le (x : S48) (L : List S48) : cnt x L ≤ L.length := by
  induction L with
  | nil => exact Nat.le_refl _
  | cons y L ih =>
    simp only [cnt]
    split
    · rw [List.length_cons]; omega
    · omega
theorem ins_cut (x : S48) (L : List S48) : ins x L = L.take (cnt x L) ++ x :: L.drop (cnt x L) := by
  induction L with
  | nil => rfl
  | cons y L ih =>
    simp only [ins, cnt]
    split
    · rw [ih, List.take_succ_cons, List.drop_succ_cons, List.cons_append]
    · rfl
theorem cnt_lt (x : S48) (L : List S48) : ∀ j, j < cnt x L → le (nth L j) x := by
  induction L with
  | nil => intro j hj; simp [cnt] at hj
  | cons y L ih =>
    intro j hj
    simp only [cnt] at hj
    split at hj
    · rename_i h
      cases j with
      | zero => exact h
      | succ j => exact ih j (by omega)
    · omega
theorem cnt_ge (x : S48) (L : List S48) : cnt x L < L.length → ¬ le (nth L (cnt x L)) x := by
  induction L with
  | nil => intro h; simp at h
  | cons y L ih =>
    intro h
    simp only [cnt] at h ⊢
    split
    · rename_i hy
      rw [if_pos hy, List.length_cons] at h
      exact ih (by omega)
    · assumption
abbrev E2 := Int × Int
def kP : Kd E2 := Kd.pair (Kd.int .i64) (Kd.int .i64)
def pr (y : S48) : E2 := (y.f0, y.f1)
def prs (L : List S48) : List E2 := L.map pr
theorem prs_length (L : List S48) : (prs L).length = L.length := List.length_map _
/-- The document's queue at block gx stands for L; its row lies in B. -/
def Xq (w : World) (gx : Nat) (B : Nat → Prop) (L : List S48) : Prop :=
  ∃ A c, w.heap[gx]? = some (.cells #[.slice A L.length c] 36 (0, 0)) ∧ Kd.C kP w A L.length (prs L) ∧ L.length ≤ c ∧ ∀ ad, A = some ad → B ad.block ∧ ad.block < w.heap.size
theorem C_block {w w' : World} {A : Option Addr} {n : Nat} {xs : List E2} (h : Kd.C kP w A n xs) (hb : ∀ ad, A = some ad → w'.heap[ad.block]? = w.heap[ad.block]?) : Kd.C kP w' A n xs := by
  obtain ⟨h1, h2, h3⟩ := h
  refine ⟨h1, h2, fun hp => ?_⟩
  obtain ⟨ad, rfl, hc⟩ := h3 hp
  refine ⟨ad, rfl, fun j p hj => ?_⟩
  obtain ⟨c, hl, hK, hcc⟩ := hc j p hj
  refine ⟨c, hl, ?_, fun i u hu => ?_⟩
  · obtain ⟨_, _, rfl, rfl, rfl⟩ := hK
    exact ⟨_, _, rfl, rfl, rfl⟩
  · have := hcc i u hu
    have hblk : (ad.add (j * kP.sz + i)).block = ad.block := by unfold Addr.add; split <;> rfl
    unfold World.cell? at this ⊢
    rw [hblk] at this ⊢
    rw [hb ad rfl]
    exact this
theorem Xq.kept {w w' : World} {gx : Nat} {B S : Nat → Prop} {L : List S48} (h : Xq w gx B L) (hk : Kept w w' S) (h1 : ¬ S gx) (h2 : ∀ k, B k → ¬ S k) : Xq w' gx B L := by
  obtain ⟨A, c, hg, hC, hl, hB⟩ := h
  refine ⟨A, c, (hk.2 gx (blk_lt hg) h1).trans hg, C_block hC (fun ad e => hk.2 _ (hB ad e).2 (h2 _ (hB ad e).1)), hl, fun ad e => ⟨(hB ad e).1, Nat.lt_of_lt_of_le (hB ad e).2 hk.1⟩⟩
theorem Xq.mono {w : World} {gx : Nat} {B B' : Nat → Prop} {L : List S48} (h : Xq w gx B L) (hb : ∀ k, B k → B' k) : Xq w gx B' L := by
  obtain ⟨A, c, hg, hC, hl, hB⟩ := h
  exact ⟨A, c, hg, hC, hl, fun ad e => ⟨hb _ (hB ad e).1, (hB ad e).2⟩⟩
theorem Xq.cell {w : World} {gx : Nat} {B : Nat → Prop} {L : List S48} (h : Xq w gx B L) : ∃ A c, w.cell? ⟨gx, 0, none⟩ = some (.slice A L.length c) ∧ Kd.C kP w A L.length (prs L) ∧ L.length ≤ c := by
  obtain ⟨A, c, hg, hC, hl, hB⟩ := h
  exact ⟨A, c, (blk_cell hg 0).trans rfl, hC, hl⟩
theorem at_pr {w : World} {A : Option Addr} {n : Nat} {L : List S48} (h : Kd.C kP w A n (prs L)) (i : Nat) (hi : i < n) : ∃ ad, A = some ad ∧ w.cell? (ad.add (i * 2)) = some (.int .i64 (nth L i).f0) ∧ w.cell? ⟨(ad.add (i * 2)).block, (ad.add (i * 2)).off + 1, none⟩ = some (.int .i64 (nth L i).f1) := by
  have hl := h.1
  rw [prs_length] at hl
  obtain ⟨ad, c, e, _, hK, hc⟩ := Kd.C_get h (0, 0) (i : Int) (by omega) (by omega)
  obtain ⟨_, _, rfl, rfl, rfl⟩ := hK
  have e2 : (prs L).getD i (0, 0) = pr (nth L i) := by
    unfold prs nth
    rw [List.getD_eq_getElem?_getD, List.getElem?_map, List.getElem?_eq_getElem (by omega), List.getD_eq_getElem?_getD, List.getElem?_eq_getElem (by omega)]
    rfl
  simp only [Int.toNat_natCast, e2] at hc
  refine ⟨ad, e, hc 0 _ rfl, ?_⟩
  have := hc 1 _ rfl
  have e3 : ad.add (i * kP.sz + 1) = ⟨(ad.add (i * 2)).block, (ad.add (i * 2)).off + 1, none⟩ := by
    show ad.add (i * 2 + 1) = _
    unfold Addr.add
    split
    · omega
    · split
      · rename_i h1 h2
        simp [h2]
      · simp; omega
  rw [e3] at this
  exact this
set_option maxHeartbeats 2000000 in
theorem xpeek_none (w : World) (gx : Nat) (B : Nat → Prop) (h : Xq w gx B []) : Calls Try.prog 18 #[.pointer (some ⟨gx, 0, none⟩)] w fun e w' => e = .returned (.tuple #[.int .i64 0, .int .i64 0, .bool false]) ∧ w = w' := by
  obtain ⟨A, c, hc, -, -⟩ := h.cell
  simp only [List.length_nil] at hc
  clear h
  go_enter Try.func18, Try.ntmps18
  go_wp2
  go_ret3
  exact ⟨rfl, rfl⟩
set_option maxHeartbeats 2000000 in
theorem xpeek_some (w : World) (gx : Nat) (B : Nat → Prop) (a : S48) (L : List S48) (h : Xq w gx B (a :: L)) : Calls Try.prog 18 #[.pointer (some ⟨gx, 0, none⟩)] w fun e w' => e = .returned (.tuple #[.int .i64 a.f0, .int .i64 a.f1, .bool true]) ∧ Drawn0 w w' := by
  obtain ⟨A, c, hc, hC, -⟩ := h.cell
  obtain ⟨ad, rfl, hx0, hx1⟩ := at_pr hC 0 (by rw [List.length_cons]; omega)
  have hn0 : (0 : Int) < (a :: L).length := by rw [List.length_cons]; omega
  have hn1 : (((a :: L).length : Int) == 0) = false := by rw [List.length_cons]; simp; omega
  simp only [Nat.zero_mul] at hx0 hx1
  have hx0 : w.cell? (ad.add 0) = some (.int .i64 a.f0) := hx0
  have hx1 : w.cell? ⟨(ad.add 0).block, (ad.add 0).off + 1, none⟩ = some (.int .i64 a.f1) := hx1
  have e0 : ad.add 0 = ad := by unfold Addr.add; rfl
  rw [e0] at hx0 hx1
  obtain ⟨n, hn⟩ : ∃ n, n = (a :: L).length := ⟨_, rfl⟩
  rw [← hn] at hc hn0 hn1
  clear h hC hn e0
  go_enter Try.func18, Try.ntmps18
  go_wp2
  go_quiet (fail)
  go_wp2
  go_ret3
  exact ⟨rfl, ⟨⟨_, rfl⟩⟩⟩
theorem C_drop {α : Type} {d : Kd α} {w : World} {ad : Addr} {n : Nat} {xs : List α} (h : Kd.C d w (some ad) n xs) (k : Nat) (hk : k ≤ n) : Kd.C d w (some (ad.add (k * d.sz))) (n - k) (xs.drop k) := by
  obtain ⟨h1, h2, h3⟩ := h
  refine ⟨by rw [List.length_drop]; omega, by omega, fun hp => ?_⟩
  obtain ⟨ad', e, hc⟩ := h3 (by omega)
  cases e
  refine ⟨_, rfl, fun j p hj => ?_⟩
  rw [List.getElem?_drop] at hj
  obtain ⟨c, hl, hK, hcc⟩ := hc (k + j) p hj
  refine ⟨c, hl, hK, fun i u hu => ?_⟩
  have e2 : (ad.add (k * d.sz)).add (j * d.sz + i) = ad.add ((k + j) * d.sz + i) := by
    have e3 : (k + j) * d.sz + i = k * d.sz + (j * d.sz + i) := by rw [Nat.add_mul]; omega
    rw [e3]
    generalize k * d.sz = x
    generalize j * d.sz + i = y
    unfold Addr.add
    by_cases hx : x = 0 <;> by_cases hy : y = 0 <;> simp [hx, hy] <;> omega
  rw [e2]
  exact hcc i u hu
theorem Xq.lt {w : World} {gx : Nat} {B : Nat → Prop} {L : List S48} (h : Xq w gx B L) : gx < w.heap.size := by
  obtain ⟨A, c, hg, _⟩ := h
  exact blk_lt hg
theorem xq_set {w : World} {gx : Nat} {B : Nat → Prop} {L : List S48} {cs : Array Value} (hg : w.heap[gx]? = some (.cells cs 36 (0, 0))) (hs : cs.size = 1) {A : Option Addr} {c : Nat} (hC : Kd.C kP w A L.length (prs L)) (hl : L.length ≤ c) (hB : ∀ ad, A = some ad → B ad.block ∧ ad.block < w.heap.size ∧ ad.block ≠ gx) : Xq (w.setCell ⟨gx, 0, none⟩ (.slice A L.length c)) gx B L := by
  have hfar : ∀ k, k ≠ gx → (w.setCell ⟨gx, 0, none⟩ (.slice A L.length c)).heap[k]? = w.heap[k]? := fun k hk => Below.heap_setCell w ⟨gx, 0, none⟩ _ k hk
  refine ⟨A, c, ?_, C_block hC (fun ad e => hfar _ (hB ad e).2.2), hl, fun ad e => ⟨(hB ad e).1, ?_⟩⟩
  · have e : cs.setIfInBounds 0 (.slice A L.length c) = #[.slice A L.length c] := by
      cases cs with
      | mk l =>
        cases l with
        | nil => simp at hs
        | cons x l =>
          cases l with
          | nil => rfl
          | cons y l => simp at hs
    have := blk_put (w := w) (g := gx) (t := 36) hg 0 (.slice A L.length c) e
    exact this
  · have := (hB ad e).2.1
    simpa using this
set_option maxHeartbeats 2000000 in
theorem xpop_none (w : World) (gx : Nat) (B : Nat → Prop) (h : Xq w gx B []) : Calls Try.prog 17 #[.pointer (some ⟨gx, 0, none⟩)] w fun e w' => e = .returned (.tuple #[.int .i64 0, .int .i64 0, .bool false]) ∧ w = w' := by
  have hp := xpeek_none w gx B h
  clear h
  go_enter Try.func17, Try.ntmps17
  go_wp2_with (go_at_call 18; refine hp.mono ?_; rintro e w' ⟨rfl, rfl⟩)
  go_ret3
  exact ⟨rfl, rfl⟩
set_option maxHeartbeats 2000000 in
theorem xpop_some (w0 w : World) (gx : Nat) (B : Nat → Prop) (a : S48) (L : List S48) (h : Xq w gx B (a :: L)) (hB : Below w0.heap.size w0 w) (hg0 : w0.heap.size ≤ gx) (hBg : ∀ k, B k → k ≠ gx) : Calls Try.prog 17 #[.pointer (some ⟨gx, 0, none⟩)] w fun e w' => e = .returned (.tuple #[.int .i64 a.f0, .int .i64 a.f1, .bool true]) ∧ Xq w' gx B L ∧ Below w0.heap.size w0 w' ∧ Kept w w' (fun k => k = gx) := by
  have hp := xpeek_some w gx B a L h
  obtain ⟨A, c, hg, hC, hl, hBB⟩ := h
  obtain ⟨ad, rfl, -, -⟩ := at_pr hC 0 (by rw [List.length_cons]; omega)
  have hc := (blk_cell hg 0).trans rfl
  have hfz := blk_frozen hg 0
  rw [List.length_cons] at hl
  obtain ⟨n, hn⟩ : ∃ n, n = L.length := ⟨_, rfl⟩
  have hc : w.cell? ⟨gx, 0, none⟩ = some (.slice (some ad) (n + 1) c) := by rw [hn]; exact hc
  have hC1 : Kd.C kP w (some (ad.add 2)) n (prs L) := by
    have := C_drop hC 1 (by rw [List.length_cons]; omega)
    rw [List.length_cons, Nat.add_sub_cancel, ← hn] at this
    exact this
  have hl1 : n + 1 ≤ c := by omega
  have hg' : w.heap[gx]? = some (.cells #[.slice (some ad) (n + 1) c] 36 (0, 0)) := by rw [hn]; exact hg
  have HG := Lib.hid hg'
  have HC1 := Lib.hid hC1
  have HBB := Lib.hid hBB
  have HN := Lib.hid hn
  have HB := Lib.hid hB
  have HBG := Lib.hid hBg
  have hn1 : (1 : Int) ≤ (n : Int) + 1 := by omega
  have hlc : (n : Int) + 1 ≤ (c : Int) := by omega
  clear hg hC hl hBB hC1 hg' hn hB hBg
  go_enter Try.func17, Try.ntmps17
  go_wp2_with (go_at_call 18; refine hp.mono ?_; rintro e w' ⟨rfl, ⟨nd, rfl⟩⟩)
  case inr h1 =>
    go_ret3
    refine ⟨rfl, ?_, ?_, ?_⟩
    · refine xq_set (w := w.drewN nd) HG.out rfl ?_ (by have := HN.out; omega) ?_
      · have e : ad.add 2 = ⟨ad.block, ad.off + 2, none⟩ := by unfold Addr.add; rw [if_neg (by decide)]
        rw [← e, ← HN.out]
        exact Kd.C_drewN HC1.out nd
      · intro ad' e
        cases e
        exact ⟨(HBB.out ad rfl).1, (HBB.out ad rfl).2, HBG.out _ (HBB.out ad rfl).1⟩
    · exact (pw_below_drewN HB.out nd).setCell hg0 _
    · exact (Kept.drewN (Kept.refl w (fun k => k = gx)) nd).setCell (p := ⟨gx, 0, none⟩) (.inl rfl) _
  case inl h1 =>
    go_ret3
    refine ⟨rfl, ?_, ?_, ?_⟩
    · have hL : L = [] := List.length_eq_zero_iff.1 (by have := HN.out; omega)
      subst hL
      refine xq_set (w := w.drewN nd) HG.out rfl ⟨rfl, by decide, fun h => by simp at h⟩ (by simp) ?_
      intro ad' e
      cases e
      exact ⟨(HBB.out ad rfl).1, (HBB.out ad rfl).2, HBG.out _ (HBB.out ad rfl).1⟩
    · exact (pw_below_drewN HB.out nd).setCell hg0 _
    · exact (Kept.drewN (Kept.refl w (fun k => k = gx)) nd).setCell (p := ⟨gx, 0, none⟩) (.inl rfl) _
end Go.Proofs.Ytigoebmmkdhclaa.Pq
end
section
namespace Go.Proofs.Ytigoebmmkdhclaa.Pq
open Go.RowKit Go.Proofs.YtigoebmmkdhclaaW.PrintWords Go.Proofs.YtigoebmmkdhclaaW.PrintLast Go.Proofs.YtigoebmmkdhclaaW.PrintMore
open QHeap OpenKd
set_option linter.unusedVariables false
set_option linter.unusedSimpArgs false
section
variable {P : Program} {md : Region.Mode} {ops : Array Oper} {Q : Exit → Act → World → Prop} {S : World → Prop} {ds : List Nat}
theorem tw_ {n m fuel : Nat} {oi oj : Oper} {a : Act} {w : World} (i j : Nat) (Ni Nj : Option Tmp)
    (h1 : ∀ K : Act → World → Prop, Shut (∀ a' w', S w' → (S w' → wpAnyLast P md ops Q S ds fuel (bits n (m ||| 1 <<< i)) a' w') → K a' w') → if Region.wanted oi (yielded ops a.tmps) = true then Oper.wp P oi a w K Q else K (a.put Ni undef) w)
    (h2 : ∀ K : Act → World → Prop, Shut (∀ a' w', S w' → (S w' → wpAnyLast P md ops Q S ds fuel (bits n (m ||| 1 <<< j)) a' w') → K a' w') → if Region.wanted oj (yielded ops a.tmps) = true then Oper.wp P oj a w K Q else K (a.put Nj undef) w)
    (hi : ops[i]? = some oi := by exact rfl) (hj : ops[j]? = some oj := by exact rfl) (hNi : oi.dst = Ni := by exact rfl) (hNj : oj.dst = Nj := by exact rfl)
    (hc : (Region.ready md ops (bits n m) == [i, j] && (bits n m).setIfInBounds i true == bits n (m ||| 1 <<< i) && (bits n m).setIfInBounds j true == bits n (m ||| 1 <<< j)) = true := by kernel_rfl) (hdi : i ∉ ds := by decide) (hdj : j ∉ ds := by decide) : wpAnyLast P md ops Q S ds (fuel + 1) (bits n m) a w :=
  two_ _ _ hi hj hNi hNj hc hdi hdj h1 h2
theorem sd_ {id : Nat} {a : Act} {w : World} (ds : List Nat) (S : World → Prop) (n : Nat) (hS : S w.drew) (h : S w.drew → wpAnyLast P .any ops Q S ds n (bits n 0) a w.drew)
    (hm : P.follows .mixedOrders = true := by kernel_rfl) (hn : ops.size = n := by exact rfl) (hl : Array.replicate n false = bits n 0 := by kernel_rfl) : (Code.region id ops true).wp P Q a w :=
  start_ (bits n 0) hm hn hl hS h
theorem la_ {n m fuel : Nat} {oi : Oper} {a : Act} {w : World} (i : Nat) (N : Option Tmp)
    (h : ∀ K : Act → World → Prop, Shut (∀ a' w', wpAnyLast P md ops Q S ds fuel (bits n (m ||| 1 <<< i)) a' w' → K a' w') → if Region.wanted oi (yielded ops a.tmps) = true then Oper.wp P oi a w K Q else K (a.put N undef) w)
    (hi : ops[i]? = some oi := by exact rfl) (hN : oi.dst = N := by exact rfl) (hc : readyB md ops (bits n m) (bits n (m ||| 1 <<< i)) i = true := by kernel_rfl) (hd : i ∈ ds := by decide) : wpAnyLast P md ops Q S ds (fuel + 1) (bits n m) a w :=
  last_ _ hi hN hc hd h
end
theorem C_cut {w : World} {A : Option Addr} {n : Nat} {xs : List E2} (h : Kd.C kP w A n xs) (q : Nat) (hq : q ≤ n) (c : Nat) (hc : n ≤ c) : Kd.C kP w (if c = q then A else Option.map (fun x => x.add (q * 2)) A) (n - q) (xs.drop q) := by
  by_cases hz : n = q
  · refine ⟨by have := h.1; rw [List.length_drop]; omega, by have := h.2.1; omega, fun hp => by omega⟩
  · obtain ⟨ad, rfl, _⟩ := h.2.2 (by omega)
    rw [if_neg (by omega)]
    exact C_drop h q hq
theorem info50 : (Try.prog.info? 50).map (fun i => (i.zero, i.size, i.bytes)) = some (some (.agg #[.int .i64 0, .int .i64 0]), 2, 16) := by kernel_rfl
set_option maxHeartbeats 2000000 in
theorem xpush_full (w : World) (gx : Nat) (B : Nat → Prop) (L : List S48) (d x : Int) (h : Xq w gx B L) (hl : 100 ≤ L.length) : Calls Try.prog 16 #[.pointer (some ⟨gx, 0, none⟩), .int .i64 d, .int .i64 x] w fun e w' => e = .returned (.bool false) ∧ w = w' := by
  obtain ⟨A, c, hc, -, -⟩ := h.cell
  have hl3 : decide ((L.length : Int) ≥ 100) = true := by simp; omega
  clear h
  go_enter Try.func16, Try.ntmps16
  go_wp2
  go_ret
  exact ⟨rfl, rfl⟩
/-- What is known behind the row's first part and the new element's row. -/
def PF (wD : World) (gx : Nat) (A : Option Addr) (n c : Nat) (Lk : List E2) (d x : Int) (s : Value × Value × Value) (w' : World) : Prop :=
  w'.cell? ⟨gx, 0, none⟩ = some (.slice A n c) ∧ Below wD.heap.size wD w' ∧ Kd.R kP 50 w' wD.heap.size (fun _ => True) s.2.1 Lk ∧ ∃ b, s.2.2 = .slice (some ⟨b, 0, none⟩) 1 1 ∧ Kd.C kP w' (some ⟨b, 0, none⟩) 1 [(d, x)]
theorem one_reads (W : World) (b : Nat) (hb : b = W.heap.size) (d x : Int) : Kd.C kP (W.alloc (.cells #[.int .i64 d, .int .i64 x] 50)) (some ⟨b, 0, none⟩) 1 [(d, x)] := by
  subst hb
  refine ⟨rfl, by decide, fun _ => ⟨_, rfl, fun j p hj => ?_⟩⟩
  cases j with
  | succ j => simp at hj
  | zero =>
    cases hj
    refine ⟨[.int .i64 d, .int .i64 x], rfl, ⟨_, _, rfl, rfl, rfl⟩, fun i u hu => ?_⟩
    rw [add_plain]
    cases i with
    | zero => cases hu; simp
    | succ i =>
      cases i with
      | zero => cases hu; simp
      | succ i => simp at hu
set_option maxHeartbeats 8000000 in
set_option maxRecDepth 100000 in
theorem xpush_room (w0 w : World) (gx : Nat) (B : Nat → Prop) (L : List S48) (d x : Int) (h : Xq w gx B L) (hB : Below w0.heap.size w0 w) (hg0 : w0.heap.size ≤ gx) (hl : L.length < 100) : Calls Try.prog 16 #[.pointer (some ⟨gx, 0, none⟩), .int .i64 d, .int .i64 x] w fun e w' => e = .returned (.bool true) ∧ Xq w' gx (fun k => w.heap.size ≤ k) (ins ⟨d, x⟩ L) ∧ Below w0.heap.size w0 w' ∧ Kept w w' (fun k => k = gx) := by
  have hlt := h.lt
  obtain ⟨A, c, hg, hC, hlc, -⟩ := h
  obtain ⟨n, hn⟩ : ∃ n, n = L.length := ⟨_, rfl⟩
  have hc : w.cell? ⟨gx, 0, none⟩ = some (.slice A n c) := by rw [hn]; exact (blk_cell hg 0).trans rfl
  rw [← hn] at hg hC hlc hl
  have HG := Lib.hid hg
  have HC := Lib.hid hC
  have HN := Lib.hid hn
  have HB := Lib.hid hB
  obtain ⟨q, hq⟩ : ∃ q, q = cnt ⟨d, x⟩ L := ⟨_, rfl⟩
  have hqn : q ≤ n := by rw [hq, hn]; exact cnt_le _ _
  have HQ := Lib.hid hq
  have hl3 : decide ((n : Int) ≥ 100) = false := by simp; omega
  have hl4 : ¬ (n : Int) ≥ 100 := by omega
  clear hg hC hn hB hq
  have HCell := Lib.hid hc
  have hqc : q ≤ c := by omega
  go_enter Try.func16, Try.ntmps16
  go_wp2
  go_loopg [7] n (fun gg s7 wr => ∃ (k : Nat), s7 = .int .i64 k ∧ k ≤ q ∧ n - k ≤ gg ∧ wr = w)
  case atStart => exact ⟨0, rfl, Nat.zero_le _, by omega, rfl⟩
  case round =>
    obtain ⟨k, rfl, hkq, hkg, rfl⟩ := hrel
    by_cases hkq' : k < q
    case pos =>
      have hk : k < n := by omega
      have hkz : (k : Int) < (n : Int) := by omega
      obtain ⟨ad, e, hx0, hx1⟩ := at_pr HC.out k hk
      cases e
      have hle := cnt_lt ⟨d, x⟩ L k (by rw [← HQ.out]; exact hkq')
      unfold le at hle
      dsimp only at hle
      revert hx0 hx1 hle
      generalize (nth L k).f0 = a
      generalize (nth L k).f1 = b
      intro hx0 hx1 hle
      by_cases ha : a < d
      · clear hle
        go_wp2
        go_roundg (n - (k + 1))
        case measure => omega
        case rel => exact ⟨k + 1, by go_num, by omega, by omega, rfl⟩
      · obtain ⟨rfl, hb⟩ : a = d ∧ b ≤ x := by omega
        clear hle
        go_wp2
        go_roundg (n - (k + 1))
        case measure => omega
        case rel => exact ⟨k + 1, by go_num, by omega, by omega, rfl⟩
    obtain rfl : q = k := by omega
    have hcs : n = q ∨ ∃ ad, A = some ad ∧ q < n ∧ ∃ a b, wr.cell? (ad.add (q * 2)) = some (.int .i64 a) ∧ wr.cell? ⟨(ad.add (q * 2)).block, (ad.add (q * 2)).off + 1, none⟩ = some (.int .i64 b) ∧ ¬ a < d ∧ (a = d → ¬ b ≤ x) := by
      rcases Nat.lt_or_ge q n with hqn' | hqn'
      · right
        obtain ⟨ad, e, hx0, hx1⟩ := at_pr HC.out q hqn'
        have := cnt_ge ⟨d, x⟩ L (by rw [← HQ.out, ← HN.out]; exact hqn')
        rw [← HQ.out] at this
        unfold le at this
        dsimp only at this
        exact ⟨ad, e, hqn', _, _, hx0, hx1, fun h => this (.inl h), fun h1 h2 => this (.inr ⟨h1, h2⟩)⟩
      · left; omega
    rcases hcs with hnq | ⟨ad, rfl, hqn', a, b, hx0, hx1, ha, hab⟩
    · have hkz : ¬ (q : Int) < (n : Int) := by omega
      clear hnq
      go_wp2
      refine sd_ [23] (fun w' => w'.cell? ⟨gx, 0, none⟩ = some (.slice A n c)) 24 HCell.out (fun hHeld => ?_)
      refine pu_ 0 (some 59) ?_
      refine pu_ 2 (some 61) ?_
      refine pu_ 3 (some 62) ?_
      refine pu_ 4 (some 63) ?_
      refine tk_ 5 (some 64) hHeld ?_ (hy := by rintro w' s0; go_simp; with_reducible rfl)
      refine pu_ 6 (some 65) ?_
      refine pu_ 7 (some 66) ?_
      refine pu_ 9 (some 68) ?_
      refine pu_ 10 (some 69) ?_
      refine pu_ 11 (some 70) ?_
      refine pu_ 14 (some 73) ?_
      refine pu_ 15 (some 74) ?_
      refine pu_ 16 (some 75) ?_
      refine tk_ 17 (some 76) hHeld ?_ (hy := by rintro w' s0; go_simp; with_reducible rfl)
      refine pu_ 18 (some 77) ?_
      refine pu_ 19 (some 78) ?_
      have hbD : Below wr.heap.size wr wr.drew := below_drew1 (Below.refl _ _)
      generalize wr.drew = wD at hHeld hbD ⊢
      have HCD := Lib.hid hHeld
      have HBD := Lib.hid hbD
      have HCT := Lib.hid (C_take (Kd.C_below HC.out hbD) q hqn)
      have HCX := Lib.hid (Kd.C_below HC.out hbD)
      clear hHeld hbD
      refine join_ (σ := Value × Value × Value) 5 (bits 24 1040383) (fun s_ => [(60, s_.1), (67, s_.2.1), (71, s_.2.2)]) (PF wD gx A n c ((prs L).take q) d x) ?_ ?_
      rotate_left
      · intro hCont
        refine tw_ 1 12 (some 60) (some 71) (fun K hK => ?_) (fun K hK => ?_)
        · go_simp
          refine hK.out _ _ (keepc (below_alloc (Below.refl _ _) _) HCD.out) (fun hS_ => ?_)
          clear hK K
          refine tw_ 8 12 (some 67) (some 71) (fun K hK => ?_) (fun K hK => ?_)
          · refine Kd.R_append_rows_step kP (w0 := wD) wD.heap.size (by rfl) (.tmp 60) (.tmp 66) 34 50 (.agg #[.int .i64 0, .int .i64 0]) 16 rfl Try.underlying34 info50 rfl (by decide) (by omega) (.slice (some ⟨wD.heap.size, 0, none⟩) 0 0) [] ((prs L).take q) _ _ _ (fun _ => True) (fun _ => False) rfl rfl (R_empty kP 50 _ wD _ trivial (Nat.le_refl _)) (Kd.C_alloc HCT.out _) (fun _ _ h => h) (fun _ h => h.elim) (fun _ _ => trivial) (below_alloc (Below.refl _ _) _) (by simp <;> omega) (by simp only [List.length_nil]; omega) ?_
            intro v2 w2 hR2 hB2 hg2 hat2
            clear hg2 hat2
            rw [List.nil_append] at hR2
            refine hK.out _ _ (keepc hB2 HCD.out) (fun hS_ => ?_)
            clear hK K
            refine nz_ (some 67) ?_
            refine on_ 12 (some 71) (fun K hK => ?_)
            go_simp
            refine hK.out _ _ (keepc (below_alloc (Below.refl _ _) _) (keepc hB2 HCD.out)) (fun hS_ => ?_)
            clear hK K
            exact norm_ (by simp only [putAll, Act.put, List.setIfInBounds_toArray, List.set_cons_zero, List.set_cons_succ]) (hCont ((.slice (some ⟨wD.heap.size, 0, none⟩) 0 0), v2, (.slice (some ⟨w2.heap.size, 0, none⟩) 1 1)) _ ⟨keepc (below_alloc (Below.refl _ _) _) (keepc hB2 HCD.out), below_alloc hB2 _, Kd.R_alloc hR2 _, ⟨_, rfl, one_reads _ _ rfl _ _⟩⟩)
          · go_simp
            refine hK.out _ _ (keepc (below_alloc (Below.refl _ _) _) (keepc (below_alloc (Below.refl _ _) _) HCD.out)) (fun hS_ => ?_)
            clear hK K
            refine on_ 8 (some 67) (fun K hK => ?_)
            refine Kd.R_append_rows_step kP (w0 := wD) wD.heap.size (by rfl) (.tmp 60) (.tmp 66) 34 50 (.agg #[.int .i64 0, .int .i64 0]) 16 rfl Try.underlying34 info50 rfl (by decide) (by omega) (.slice (some ⟨wD.heap.size, 0, none⟩) 0 0) [] ((prs L).take q) _ _ _ (fun _ => True) (fun _ => False) rfl rfl (Kd.R_alloc (R_empty kP 50 _ wD _ trivial (Nat.le_refl _)) _) (Kd.C_alloc (Kd.C_alloc HCT.out _) _) (fun _ _ h => h) (fun _ h => h.elim) (fun _ _ => trivial) (below_alloc (below_alloc (Below.refl _ _) _) _) (by simp <;> omega) (by simp only [List.length_nil]; omega) ?_
            intro v2 w2 hR2 hB2 hg2 hat2
            rw [List.nil_append] at hR2
            refine hK.out _ _ (keepc hB2 HCD.out) (fun hS_ => ?_)
            clear hK K
            refine nz_ (some 67) ?_
            exact norm_ (by simp only [putAll, Act.put, List.setIfInBounds_toArray, List.set_cons_zero, List.set_cons_succ]) (hCont ((.slice (some ⟨wD.heap.size, 0, none⟩) 0 0), v2, (.slice (some ⟨wD.heap.size + 1, 0, none⟩) 1 1)) _ ⟨keepc hB2 HCD.out, hB2, hR2, ⟨_, rfl, C_block (one_reads (wD.alloc (.cells #[] 50)) (wD.heap.size + 1) (by simp) d x) (fun ad' e_ => by cases e_; exact hg2.block _ (by simp) (by simp [Value.ownBlock]))⟩⟩)
        · go_simp
          refine hK.out _ _ (keepc (below_alloc (Below.refl _ _) _) HCD.out) (fun hS_ => ?_)
          clear hK K
          refine on_ 1 (some 60) (fun K hK => ?_)
          go_simp
          refine hK.out _ _ (keepc (below_alloc (Below.refl _ _) _) (keepc (below_alloc (Below.refl _ _) _) HCD.out)) (fun hS_ => ?_)
          clear hK K
          obtain ⟨WL, hWL⟩ : ∃ WL, WL = wD.alloc (.cells #[.int .i64 d, .int .i64 x] 50) := ⟨_, rfl⟩
          have hsz : WL.heap.size = wD.heap.size + 1 := by rw [hWL]; simp
          have hbl : Below wD.heap.size wD WL := by rw [hWL]; exact below_alloc (Below.refl _ _) _
          have hone : Kd.C kP WL (some ⟨wD.heap.size, 0, none⟩) 1 [(d, x)] := by rw [hWL]; exact one_reads wD _ rfl d x
          rw [← hsz, ← hWL]
          refine on_ 8 (some 67) (fun K hK => ?_)
          refine Kd.R_append_rows_step kP (w0 := wD) wD.heap.size (by rfl) (.tmp 60) (.tmp 66) 34 50 (.agg #[.int .i64 0, .int .i64 0]) 16 rfl Try.underlying34 info50 rfl (by decide) (by omega) (.slice (some ⟨WL.heap.size, 0, none⟩) 0 0) [] ((prs L).take q) _ _ _ (fun _ => True) (fun _ => False) rfl rfl (R_empty kP 50 _ WL _ trivial (by omega)) (Kd.C_alloc (Kd.C_below HCT.out hbl) _) (fun _ _ h => h) (fun _ h => h.elim) (fun _ _ => trivial) (hbl.alloc (by omega) _) (by simp <;> omega) (by simp only [List.length_nil]; omega) ?_
          intro v2 w2 hR2 hB2 hg2 hat2
          rw [List.nil_append] at hR2
          refine hK.out _ _ (keepc hB2 HCD.out) (fun hS_ => ?_)
          clear hK K
          refine nz_ (some 67) ?_
          exact norm_ (by simp only [putAll, Act.put, List.setIfInBounds_toArray, List.set_cons_zero, List.set_cons_succ]) (hCont ((.slice (some ⟨WL.heap.size, 0, none⟩) 0 0), v2, (.slice (some ⟨wD.heap.size, 0, none⟩) 1 1)) _ ⟨keepc hB2 HCD.out, hB2, hR2, ⟨_, rfl, C_block (Kd.C_alloc hone _) (fun ad' e_ => by cases e_; exact hg2.block _ (by simp; omega) (by simp [Value.ownBlock]; omega))⟩⟩)
      rintro ⟨v1, v2, v12⟩ w14 ⟨hcl, hb14, hR14, b14, hv12, hC14⟩
      dsimp only at hR14 hv12
      subst hv12
      refine norm_ (a' := ?_) ?_ ?_
      rotate_left
      · simp only [putAll, Act.put, List.setIfInBounds_toArray, List.set_cons_zero, List.set_cons_succ]
        rfl
      refine on_ 13 (some 72) (fun K hK => ?_)
      refine Kd.R_append_rows_step kP (w0 := wD) wD.heap.size (by rfl) (.tmp 67) (.tmp 71) 34 50 (.agg #[.int .i64 0, .int .i64 0]) 16 rfl Try.underlying34 info50 rfl (by decide) (by omega) v2 ((prs L).take q) [(d, x)] _ _ _ (fun _ => True) (fun _ => False) rfl rfl hR14 hC14 (fun _ _ h => h) (fun _ h => h.elim) (fun _ _ => trivial) hb14 hb14.size (by rw [List.length_take, prs_length]; omega) ?_
      intro v3 w15 hR15 hB15 hg1 hg2
      clear hg1 hg2
      refine hK.out _ _ (keepc hB15 HCD.out) (fun hS_ => ?_)
      clear hK K
      refine nz_ (some 72) ?_
      refine on_ 20 (some 79) (fun K hK => ?_)
      refine Kd.R_append_rows_step kP (w0 := wD) wD.heap.size (by rfl) (.tmp 72) (.tmp 78) 34 50 (.agg #[.int .i64 0, .int .i64 0]) 16 rfl Try.underlying34 info50 rfl (by decide) (by omega) v3 (((prs L).take q) ++ [(d, x)]) ((prs L).drop q) _ _ _ (fun _ => True) (fun _ => False) rfl rfl hR15 (Kd.C_below (C_cut HCX.out q hqn c hlc) hB15) (fun _ _ h => h) (fun _ h => h.elim) (fun _ _ => trivial) hB15 hB15.size (by rw [List.length_append, List.length_take, prs_length, List.length_singleton]; omega) ?_
      intro v4 w16 hR16 hB16 hg1 hg2
      clear hg1 hg2
      have hb4 := Kd.R_base hR16
      have hl4 := Kd.R_lt hR16
      obtain ⟨A4, c4, rfl, hlc4, hC4⟩ := Kd.R_reads hR16
      have e4 : ((prs L).take q ++ [(d, x)] ++ (prs L).drop q) = prs (ins ⟨d, x⟩ L) := by rw [ins_cut, ← HQ.out]; unfold prs; rw [List.map_append, List.map_cons, List.map_take, List.map_drop, List.append_assoc]; rfl
      rw [e4] at hC4 hlc4 hb4 hl4 ⊢
      rw [prs_length] at hC4 hlc4 hb4 hl4 ⊢
      clear hR16 e4
      refine hK.out _ _ (keepc hB16 HCD.out) (fun hS_ => ?_)
      clear hK K
      refine nz_ (some 79) ?_
      refine pu_ 21 (some 80) ?_
      refine pu_ 22 (some 81) ?_
      have hbw := keepb hB16 HBD.out
      have hg16 := blk_below HG.out hbw
      have hcz := (blk_cell hg16 0).trans rfl
      have hfz := blk_frozen hg16 0
      obtain ⟨n4, hn4⟩ : ∃ n4, n4 = (ins ⟨d, x⟩ L).length := ⟨_, rfl⟩
      rw [← hn4] at hC4 hlc4 hb4 hl4 ⊢
      have HN4 := Lib.hid hn4
      clear hn4
      refine la_ 23 none (fun K hK => ?_)
      go_simp
      refine hK.out _ _ ?_
      clear hK K
      refine dn_ ?_
      go_wp2
      all_goals
        go_ret
        refine ⟨rfl, ?_, (keepb hbw HB.out).setCell hg0 _, (Kept.of_below hbw (fun k => k = gx)).setCell (p := ⟨gx, 0, none⟩) (.inl rfl) _⟩
        rw [HN4.out] at hC4 hlc4 ⊢
        refine xq_set hg16 rfl hC4 hlc4 (fun ad' e_ => ?_)
        subst e_
        have h1_ := hb4 ad'.block (by simp [Value.ownBlock])
        have h2_ := hl4 ad'.block (by simp [Value.ownBlock])
        have h3_ := HBD.out.size
        exact ⟨by omega, h2_, by omega⟩
    have hkz : (q : Int) < (n : Int) := by omega
    by_cases hd : a = d
    · have hb := hab hd
      have hd' := hd.symm
      subst hd'
      clear hab
      go_wp2
      clear hx0 hx1
      generalize hA_ : (some ad : Option Addr) = A at HCell HC HG hc ⊢
      clear hA_
      refine sd_ [23] (fun w' => w'.cell? ⟨gx, 0, none⟩ = some (.slice A n c)) 24 HCell.out (fun hHeld => ?_)
      refine pu_ 0 (some 59) ?_
      refine pu_ 2 (some 61) ?_
      refine pu_ 3 (some 62) ?_
      refine pu_ 4 (some 63) ?_
      refine tk_ 5 (some 64) hHeld ?_ (hy := by rintro w' s0; go_simp; with_reducible rfl)
      refine pu_ 6 (some 65) ?_
      refine pu_ 7 (some 66) ?_
      refine pu_ 9 (some 68) ?_
      refine pu_ 10 (some 69) ?_
      refine pu_ 11 (some 70) ?_
      refine pu_ 14 (some 73) ?_
      refine pu_ 15 (some 74) ?_
      refine pu_ 16 (some 75) ?_
      refine tk_ 17 (some 76) hHeld ?_ (hy := by rintro w' s0; go_simp; with_reducible rfl)
      refine pu_ 18 (some 77) ?_
      refine pu_ 19 (some 78) ?_
      have hbD : Below wr.heap.size wr wr.drew := below_drew1 (Below.refl _ _)
      generalize wr.drew = wD at hHeld hbD ⊢
      have HCD := Lib.hid hHeld
      have HBD := Lib.hid hbD
      have HCT := Lib.hid (C_take (Kd.C_below HC.out hbD) q hqn)
      have HCX := Lib.hid (Kd.C_below HC.out hbD)
      clear hHeld hbD
      refine join_ (σ := Value × Value × Value) 5 (bits 24 1040383) (fun s_ => [(60, s_.1), (67, s_.2.1), (71, s_.2.2)]) (PF wD gx A n c ((prs L).take q) d x) ?_ ?_
      rotate_left
      · intro hCont
        refine tw_ 1 12 (some 60) (some 71) (fun K hK => ?_) (fun K hK => ?_)
        · go_simp
          refine hK.out _ _ (keepc (below_alloc (Below.refl _ _) _) HCD.out) (fun hS_ => ?_)
          clear hK K
          refine tw_ 8 12 (some 67) (some 71) (fun K hK => ?_) (fun K hK => ?_)
          · refine Kd.R_append_rows_step kP (w0 := wD) wD.heap.size (by rfl) (.tmp 60) (.tmp 66) 34 50 (.agg #[.int .i64 0, .int .i64 0]) 16 rfl Try.underlying34 info50 rfl (by decide) (by omega) (.slice (some ⟨wD.heap.size, 0, none⟩) 0 0) [] ((prs L).take q) _ _ _ (fun _ => True) (fun _ => False) rfl rfl (R_empty kP 50 _ wD _ trivial (Nat.le_refl _)) (Kd.C_alloc HCT.out _) (fun _ _ h => h) (fun _ h => h.elim) (fun _ _ => trivial) (below_alloc (Below.refl _ _) _) (by simp <;> omega) (by simp only [List.length_nil]; omega) ?_
            intro v2 w2 hR2 hB2 hg2 hat2
            clear hg2 hat2
            rw [List.nil_append] at hR2
            refine hK.out _ _ (keepc hB2 HCD.out) (fun hS_ => ?_)
            clear hK K
            refine nz_ (some 67) ?_
            refine on_ 12 (some 71) (fun K hK => ?_)
            go_simp
            refine hK.out _ _ (keepc (below_alloc (Below.refl _ _) _) (keepc hB2 HCD.out)) (fun hS_ => ?_)
            clear hK K
            exact norm_ (by simp only [putAll, Act.put, List.setIfInBounds_toArray, List.set_cons_zero, List.set_cons_succ]) (hCont ((.slice (some ⟨wD.heap.size, 0, none⟩) 0 0), v2, (.slice (some ⟨w2.heap.size, 0, none⟩) 1 1)) _ ⟨keepc (below_alloc (Below.refl _ _) _) (keepc hB2 HCD.out), below_alloc hB2 _, Kd.R_alloc hR2 _, ⟨_, rfl, one_reads _ _ rfl _ _⟩⟩)
          · go_simp
            refine hK.out _ _ (keepc (below_alloc (Below.refl _ _) _) (keepc (below_alloc (Below.refl _ _) _) HCD.out)) (fun hS_ => ?_)
            clear hK K
            refine on_ 8 (some 67) (fun K hK => ?_)
            refine Kd.R_append_rows_step kP (w0 := wD) wD.heap.size (by rfl) (.tmp 60) (.tmp 66) 34 50 (.agg #[.int .i64 0, .int .i64 0]) 16 rfl Try.underlying34 info50 rfl (by decide) (by omega) (.slice (some ⟨wD.heap.size, 0, none⟩) 0 0) [] ((prs L).take q) _ _ _ (fun _ => True) (fun _ => False) rfl rfl (Kd.R_alloc (R_empty kP 50 _ wD _ trivial (Nat.le_refl _)) _) (Kd.C_alloc (Kd.C_alloc HCT.out _) _) (fun _ _ h => h) (fun _ h => h.elim) (fun _ _ => trivial) (below_alloc (below_alloc (Below.refl _ _) _) _) (by simp <;> omega) (by simp only [List.length_nil]; omega) ?_
            intro v2 w2 hR2 hB2 hg2 hat2
            rw [List.nil_append] at hR2
            refine hK.out _ _ (keepc hB2 HCD.out) (fun hS_ => ?_)
            clear hK K
            refine nz_ (some 67) ?_
            exact norm_ (by simp only [putAll, Act.put, List.setIfInBounds_toArray, List.set_cons_zero, List.set_cons_succ]) (hCont ((.slice (some ⟨wD.heap.size, 0, none⟩) 0 0), v2, (.slice (some ⟨wD.heap.size + 1, 0, none⟩) 1 1)) _ ⟨keepc hB2 HCD.out, hB2, hR2, ⟨_, rfl, C_block (one_reads (wD.alloc (.cells #[] 50)) (wD.heap.size + 1) (by simp) d x) (fun ad' e_ => by cases e_; exact hg2.block _ (by simp) (by simp [Value.ownBlock]))⟩⟩)
        · go_simp
          refine hK.out _ _ (keepc (below_alloc (Below.refl _ _) _) HCD.out) (fun hS_ => ?_)
          clear hK K
          refine on_ 1 (some 60) (fun K hK => ?_)
          go_simp
          refine hK.out _ _ (keepc (below_alloc (Below.refl _ _) _) (keepc (below_alloc (Below.refl _ _) _) HCD.out)) (fun hS_ => ?_)
          clear hK K
          obtain ⟨WL, hWL⟩ : ∃ WL, WL = wD.alloc (.cells #[.int .i64 d, .int .i64 x] 50) := ⟨_, rfl⟩
          have hsz : WL.heap.size = wD.heap.size + 1 := by rw [hWL]; simp
          have hbl : Below wD.heap.size wD WL := by rw [hWL]; exact below_alloc (Below.refl _ _) _
          have hone : Kd.C kP WL (some ⟨wD.heap.size, 0, none⟩) 1 [(d, x)] := by rw [hWL]; exact one_reads wD _ rfl d x
          rw [← hsz, ← hWL]
          refine on_ 8 (some 67) (fun K hK => ?_)
          refine Kd.R_append_rows_step kP (w0 := wD) wD.heap.size (by rfl) (.tmp 60) (.tmp 66) 34 50 (.agg #[.int .i64 0, .int .i64 0]) 16 rfl Try.underlying34 info50 rfl (by decide) (by omega) (.slice (some ⟨WL.heap.size, 0, none⟩) 0 0) [] ((prs L).take q) _ _ _ (fun _ => True) (fun _ => False) rfl rfl (R_empty kP 50 _ WL _ trivial (by omega)) (Kd.C_alloc (Kd.C_below HCT.out hbl) _) (fun _ _ h => h) (fun _ h => h.elim) (fun _ _ => trivial) (hbl.alloc (by omega) _) (by simp <;> omega) (by simp only [List.length_nil]; omega) ?_
          intro v2 w2 hR2 hB2 hg2 hat2
          rw [List.nil_append] at hR2
          refine hK.out _ _ (keepc hB2 HCD.out) (fun hS_ => ?_)
          clear hK K
          refine nz_ (some 67) ?_
          exact norm_ (by simp only [putAll, Act.put, List.setIfInBounds_toArray, List.set_cons_zero, List.set_cons_succ]) (hCont ((.slice (some ⟨WL.heap.size, 0, none⟩) 0 0), v2, (.slice (some ⟨wD.heap.size, 0, none⟩) 1 1)) _ ⟨keepc hB2 HCD.out, hB2, hR2, ⟨_, rfl, C_block (Kd.C_alloc hone _) (fun ad' e_ => by cases e_; exact hg2.block _ (by simp; omega) (by simp [Value.ownBlock]; omega))⟩⟩)
      rintro ⟨v1, v2, v12⟩ w14 ⟨hcl, hb14, hR14, b14, hv12, hC14⟩
      dsimp only at hR14 hv12
      subst hv12
      refine norm_ (a' := ?_) ?_ ?_
      rotate_left
      · simp only [putAll, Act.put, List.setIfInBounds_toArray, List.set_cons_zero, List.set_cons_succ]
        rfl
      refine on_ 13 (some 72) (fun K hK => ?_)
      refine Kd.R_append_rows_step kP (w0 := wD) wD.heap.size (by rfl) (.tmp 67) (.tmp 71) 34 50 (.agg #[.int .i64 0, .int .i64 0]) 16 rfl Try.underlying34 info50 rfl (by decide) (by omega) v2 ((prs L).take q) [(d, x)] _ _ _ (fun _ => True) (fun _ => False) rfl rfl hR14 hC14 (fun _ _ h => h) (fun _ h => h.elim) (fun _ _ => trivial) hb14 hb14.size (by rw [List.length_take, prs_length]; omega) ?_
      intro v3 w15 hR15 hB15 hg1 hg2
      clear hg1 hg2
      refine hK.out _ _ (keepc hB15 HCD.out) (fun hS_ => ?_)
      clear hK K
      refine nz_ (some 72) ?_
      refine on_ 20 (some 79) (fun K hK => ?_)
      refine Kd.R_append_rows_step kP (w0 := wD) wD.heap.size (by rfl) (.tmp 72) (.tmp 78) 34 50 (.agg #[.int .i64 0, .int .i64 0]) 16 rfl Try.underlying34 info50 rfl (by decide) (by omega) v3 (((prs L).take q) ++ [(d, x)]) ((prs L).drop q) _ _ _ (fun _ => True) (fun _ => False) rfl rfl hR15 (Kd.C_below (C_cut HCX.out q hqn c hlc) hB15) (fun _ _ h => h) (fun _ h => h.elim) (fun _ _ => trivial) hB15 hB15.size (by rw [List.length_append, List.length_take, prs_length, List.length_singleton]; omega) ?_
      intro v4 w16 hR16 hB16 hg1 hg2
      clear hg1 hg2
      have hb4 := Kd.R_base hR16
      have hl4 := Kd.R_lt hR16
      obtain ⟨A4, c4, rfl, hlc4, hC4⟩ := Kd.R_reads hR16
      have e4 : ((prs L).take q ++ [(d, x)] ++ (prs L).drop q) = prs (ins ⟨d, x⟩ L) := by rw [ins_cut, ← HQ.out]; unfold prs; rw [List.map_append, List.map_cons, List.map_take, List.map_drop, List.append_assoc]; rfl
      rw [e4] at hC4 hlc4 hb4 hl4 ⊢
      rw [prs_length] at hC4 hlc4 hb4 hl4 ⊢
      clear hR16 e4
      refine hK.out _ _ (keepc hB16 HCD.out) (fun hS_ => ?_)
      clear hK K
      refine nz_ (some 79) ?_
      refine pu_ 21 (some 80) ?_
      refine pu_ 22 (some 81) ?_
      have hbw := keepb hB16 HBD.out
      have hg16 := blk_below HG.out hbw
      have hcz := (blk_cell hg16 0).trans rfl
      have hfz := blk_frozen hg16 0
      obtain ⟨n4, hn4⟩ : ∃ n4, n4 = (ins ⟨d, x⟩ L).length := ⟨_, rfl⟩
      rw [← hn4] at hC4 hlc4 hb4 hl4 ⊢
      have HN4 := Lib.hid hn4
      clear hn4
      refine la_ 23 none (fun K hK => ?_)
      go_simp
      refine hK.out _ _ ?_
      clear hK K
      refine dn_ ?_
      go_wp2
      all_goals
        go_ret
        refine ⟨rfl, ?_, (keepb hbw HB.out).setCell hg0 _, (Kept.of_below hbw (fun k => k = gx)).setCell (p := ⟨gx, 0, none⟩) (.inl rfl) _⟩
        rw [HN4.out] at hC4 hlc4 ⊢
        refine xq_set hg16 rfl hC4 hlc4 (fun ad' e_ => ?_)
        subst e_
        have h1_ := hb4 ad'.block (by simp [Value.ownBlock])
        have h2_ := hl4 ad'.block (by simp [Value.ownBlock])
        have h3_ := HBD.out.size
        exact ⟨by omega, h2_, by omega⟩
    · clear hab
      go_wp2
      clear hx0 hx1
      generalize hA_ : (some ad : Option Addr) = A at HCell HC HG hc ⊢
      clear hA_
      refine sd_ [23] (fun w' => w'.cell? ⟨gx, 0, none⟩ = some (.slice A n c)) 24 HCell.out (fun hHeld => ?_)
      refine pu_ 0 (some 59) ?_
      refine pu_ 2 (some 61) ?_
      refine pu_ 3 (some 62) ?_
      refine pu_ 4 (some 63) ?_
      refine tk_ 5 (some 64) hHeld ?_ (hy := by rintro w' s0; go_simp; with_reducible rfl)
      refine pu_ 6 (some 65) ?_
      refine pu_ 7 (some 66) ?_
      refine pu_ 9 (some 68) ?_
      refine pu_ 10 (some 69) ?_
      refine pu_ 11 (some 70) ?_
      refine pu_ 14 (some 73) ?_
      refine pu_ 15 (some 74) ?_
      refine pu_ 16 (some 75) ?_
      refine tk_ 17 (some 76) hHeld ?_ (hy := by rintro w' s0; go_simp; with_reducible rfl)
      refine pu_ 18 (some 77) ?_
      refine pu_ 19 (some 78) ?_
      have hbD : Below wr.heap.size wr wr.drew := below_drew1 (Below.refl _ _)
      generalize wr.drew = wD at hHeld hbD ⊢
      have HCD := Lib.hid hHeld
      have HBD := Lib.hid hbD
      have HCT := Lib.hid (C_take (Kd.C_below HC.out hbD) q hqn)
      have HCX := Lib.hid (Kd.C_below HC.out hbD)
      clear hHeld hbD
      refine join_ (σ := Value × Value × Value) 5 (bits 24 1040383) (fun s_ => [(60, s_.1), (67, s_.2.1), (71, s_.2.2)]) (PF wD gx A n c ((prs L).take q) d x) ?_ ?_
      rotate_left
      · intro hCont
        refine tw_ 1 12 (some 60) (some 71) (fun K hK => ?_) (fun K hK => ?_)
        · go_simp
          refine hK.out _ _ (keepc (below_alloc (Below.refl _ _) _) HCD.out) (fun hS_ => ?_)
          clear hK K
          refine tw_ 8 12 (some 67) (some 71) (fun K hK => ?_) (fun K hK => ?_)
          · refine Kd.R_append_rows_step kP (w0 := wD) wD.heap.size (by rfl) (.tmp 60) (.tmp 66) 34 50 (.agg #[.int .i64 0, .int .i64 0]) 16 rfl Try.underlying34 info50 rfl (by decide) (by omega) (.slice (some ⟨wD.heap.size, 0, none⟩) 0 0) [] ((prs L).take q) _ _ _ (fun _ => True) (fun _ => False) rfl rfl (R_empty kP 50 _ wD _ trivial (Nat.le_refl _)) (Kd.C_alloc HCT.out _) (fun _ _ h => h) (fun _ h => h.elim) (fun _ _ => trivial) (below_alloc (Below.refl _ _) _) (by simp <;> omega) (by simp only [List.length_nil]; omega) ?_
            intro v2 w2 hR2 hB2 hg2 hat2
            clear hg2 hat2
            rw [List.nil_append] at hR2
            refine hK.out _ _ (keepc hB2 HCD.out) (fun hS_ => ?_)
            clear hK K
            refine nz_ (some 67) ?_
            refine on_ 12 (some 71) (fun K hK => ?_)
            go_simp
            refine hK.out _ _ (keepc (below_alloc (Below.refl _ _) _) (keepc hB2 HCD.out)) (fun hS_ => ?_)
            clear hK K
            exact norm_ (by simp only [putAll, Act.put, List.setIfInBounds_toArray, List.set_cons_zero, List.set_cons_succ]) (hCont ((.slice (some ⟨wD.heap.size, 0, none⟩) 0 0), v2, (.slice (some ⟨w2.heap.size, 0, none⟩) 1 1)) _ ⟨keepc (below_alloc (Below.refl _ _) _) (keepc hB2 HCD.out), below_alloc hB2 _, Kd.R_alloc hR2 _, ⟨_, rfl, one_reads _ _ rfl _ _⟩⟩)
          · go_simp
            refine hK.out _ _ (keepc (below_alloc (Below.refl _ _) _) (keepc (below_alloc (Below.refl _ _) _) HCD.out)) (fun hS_ => ?_)
            clear hK K
            refine on_ 8 (some 67) (fun K hK => ?_)
            refine Kd.R_append_rows_step kP (w0 := wD) wD.heap.size (by rfl) (.tmp 60) (.tmp 66) 34 50 (.agg #[.int .i64 0, .int .i64 0]) 16 rfl Try.underlying34 info50 rfl (by decide) (by omega) (.slice (some ⟨wD.heap.size, 0, none⟩) 0 0) [] ((prs L).take q) _ _ _ (fun _ => True) (fun _ => False) rfl rfl (Kd.R_alloc (R_empty kP 50 _ wD _ trivial (Nat.le_refl _)) _) (Kd.C_alloc (Kd.C_alloc HCT.out _) _) (fun _ _ h => h) (fun _ h => h.elim) (fun _ _ => trivial) (below_alloc (below_alloc (Below.refl _ _) _) _) (by simp <;> omega) (by simp only [List.length_nil]; omega) ?_
            intro v2 w2 hR2 hB2 hg2 hat2
            rw [List.nil_append] at hR2
            refine hK.out _ _ (keepc hB2 HCD.out) (fun hS_ => ?_)
            clear hK K
            refine nz_ (some 67) ?_
            exact norm_ (by simp only [putAll, Act.put, List.setIfInBounds_toArray, List.set_cons_zero, List.set_cons_succ]) (hCont ((.slice (some ⟨wD.heap.size, 0, none⟩) 0 0), v2, (.slice (some ⟨wD.heap.size + 1, 0, none⟩) 1 1)) _ ⟨keepc hB2 HCD.out, hB2, hR2, ⟨_, rfl, C_block (one_reads (wD.alloc (.cells #[] 50)) (wD.heap.size + 1) (by simp) d x) (fun ad' e_ => by cases e_; exact hg2.block _ (by simp) (by simp [Value.ownBlock]))⟩⟩)
        · go_simp
          refine hK.out _ _ (keepc (below_alloc (Below.refl _ _) _) HCD.out) (fun hS_ => ?_)
          clear hK K
          refine on_ 1 (some 60) (fun K hK => ?_)
          go_simp
          refine hK.out _ _ (keepc (below_alloc (Below.refl _ _) _) (keepc (below_alloc (Below.refl _ _) _) HCD.out)) (fun hS_ => ?_)
          clear hK K
          obtain ⟨WL, hWL⟩ : ∃ WL, WL = wD.alloc (.cells #[.int .i64 d, .int .i64 x] 50) := ⟨_, rfl⟩
          have hsz : WL.heap.size = wD.heap.size + 1 := by rw [hWL]; simp
          have hbl : Below wD.heap.size wD WL := by rw [hWL]; exact below_alloc (Below.refl _ _) _
          have hone : Kd.C kP WL (some ⟨wD.heap.size, 0, none⟩) 1 [(d, x)] := by rw [hWL]; exact one_reads wD _ rfl d x
          rw [← hsz, ← hWL]
          refine on_ 8 (some 67) (fun K hK => ?_)
          refine Kd.R_append_rows_step kP (w0 := wD) wD.heap.size (by rfl) (.tmp 60) (.tmp 66) 34 50 (.agg #[.int .i64 0, .int .i64 0]) 16 rfl Try.underlying34 info50 rfl (by decide) (by omega) (.slice (some ⟨WL.heap.size, 0, none⟩) 0 0) [] ((prs L).take q) _ _ _ (fun _ => True) (fun _ => False) rfl rfl (R_empty kP 50 _ WL _ trivial (by omega)) (Kd.C_alloc (Kd.C_below HCT.out hbl) _) (fun _ _ h => h) (fun _ h => h.elim) (fun _ _ => trivial) (hbl.alloc (by omega) _) (by simp <;> omega) (by simp only [List.length_nil]; omega) ?_
          intro v2 w2 hR2 hB2 hg2 hat2
          rw [List.nil_append] at hR2
          refine hK.out _ _ (keepc hB2 HCD.out) (fun hS_ => ?_)
          clear hK K
          refine nz_ (some 67) ?_
          exact norm_ (by simp only [putAll, Act.put, List.setIfInBounds_toArray, List.set_cons_zero, List.set_cons_succ]) (hCont ((.slice (some ⟨WL.heap.size, 0, none⟩) 0 0), v2, (.slice (some ⟨wD.heap.size, 0, none⟩) 1 1)) _ ⟨keepc hB2 HCD.out, hB2, hR2, ⟨_, rfl, C_block (Kd.C_alloc hone _) (fun ad' e_ => by cases e_; exact hg2.block _ (by simp; omega) (by simp [Value.ownBlock]; omega))⟩⟩)
      rintro ⟨v1, v2, v12⟩ w14 ⟨hcl, hb14, hR14, b14, hv12, hC14⟩
      dsimp only at hR14 hv12
      subst hv12
      refine norm_ (a' := ?_) ?_ ?_
      rotate_left
      · simp only [putAll, Act.put, List.setIfInBounds_toArray, List.set_cons_zero, List.set_cons_succ]
        rfl
      refine on_ 13 (some 72) (fun K hK => ?_)
      refine Kd.R_append_rows_step kP (w0 := wD) wD.heap.size (by rfl) (.tmp 67) (.tmp 71) 34 50 (.agg #[.int .i64 0, .int .i64 0]) 16 rfl Try.underlying34 info50 rfl (by decide) (by omega) v2 ((prs L).take q) [(d, x)] _ _ _ (fun _ => True) (fun _ => False) rfl rfl hR14 hC14 (fun _ _ h => h) (fun _ h => h.elim) (fun _ _ => trivial) hb14 hb14.size (by rw [List.length_take, prs_length]; omega) ?_
      intro v3 w15 hR15 hB15 hg1 hg2
      clear hg1 hg2
      refine hK.out _ _ (keepc hB15 HCD.out) (fun hS_ => ?_)
      clear hK K
      refine nz_ (some 72) ?_
      refine on_ 20 (some 79) (fun K hK => ?_)
      refine Kd.R_append_rows_step kP (w0 := wD) wD.heap.size (by rfl) (.tmp 72) (.tmp 78) 34 50 (.agg #[.int .i64 0, .int .i64 0]) 16 rfl Try.underlying34 info50 rfl (by decide) (by omega) v3 (((prs L).take q) ++ [(d, x)]) ((prs L).drop q) _ _ _ (fun _ => True) (fun _ => False) rfl rfl hR15 (Kd.C_below (C_cut HCX.out q hqn c hlc) hB15) (fun _ _ h => h) (fun _ h => h.elim) (fun _ _ => trivial) hB15 hB15.size (by rw [List.length_append, List.length_take, prs_length, List.length_singleton]; omega) ?_
      intro v4 w16 hR16 hB16 hg1 hg2
      clear hg1 hg2
      have hb4 := Kd.R_base hR16
      have hl4 := Kd.R_lt hR16
      obtain ⟨A4, c4, rfl, hlc4, hC4⟩ := Kd.R_reads hR16
      have e4 : ((prs L).take q ++ [(d, x)] ++ (prs L).drop q) = prs (ins ⟨d, x⟩ L) := by rw [ins_cut, ← HQ.out]; unfold prs; rw [List.map_append, List.map_cons, List.map_take, List.map_drop, List.append_assoc]; rfl
      rw [e4] at hC4 hlc4 hb4 hl4 ⊢
      rw [prs_length] at hC4 hlc4 hb4 hl4 ⊢
      clear hR16 e4
      refine hK.out _ _ (keepc hB16 HCD.out) (fun hS_ => ?_)
      clear hK K
      refine nz_ (some 79) ?_
      refine pu_ 21 (some 80) ?_
      refine pu_ 22 (some 81) ?_
      have hbw := keepb hB16 HBD.out
      have hg16 := blk_below HG.out hbw
      have hcz := (blk_cell hg16 0).trans rfl
      have hfz := blk_frozen hg16 0
      obtain ⟨n4, hn4⟩ : ∃ n4, n4 = (ins ⟨d, x⟩ L).length := ⟨_, rfl⟩
      rw [← hn4] at hC4 hlc4 hb4 hl4 ⊢
      have HN4 := Lib.hid hn4
      clear hn4
      refine la_ 23 none (fun K hK => ?_)
      go_simp
      refine hK.out _ _ ?_
      clear hK K
      refine dn_ ?_
      go_wp2
      all_goals
        go_ret
        refine ⟨rfl, ?_, (keepb hbw HB.out).setCell hg0 _, (Kept.of_below hbw (fun k => k = gx)).setCell (p := ⟨gx, 0, none⟩) (.inl rfl) _⟩
        rw [HN4.out] at hC4 hlc4 ⊢
        refine xq_set hg16 rfl hC4 hlc4 (fun ad' e_ => ?_)
        subst e_
        have h1_ := hb4 ad'.block (by simp [Value.ownBlock])
        have h2_ := hl4 ad'.block (by simp [Value.ownBlock])
        have h3_ := HBD.out.size
        exact ⟨by omega, h2_, by omega⟩
end Go.Proofs.Ytigoebmmkdhclaa.Pq
end
section
namespace Go.Proofs.Ytigoebmmkdhclaa.Pq
open Go.RowKit Go.Proofs.YtigoebmmkdhclaaW.PrintWords Go.Proofs.YtigoebmmkdhclaaW.PrintLast Go.Proofs.YtigoebmmkdhclaaW.PrintMore
open QHeap OpenKd
set_option linter.unusedVariables false
set_option linter.unusedSimpArgs false
theorem Xq.tight {w : World} {gx : Nat} {B : Nat → Prop} {L : List S48} (h : Xq w gx B L) : Xq w gx (fun k => B k ∧ k < w.heap.size) L := by
  obtain ⟨A, c, hg, hC, hl, hB⟩ := h
  exact ⟨A, c, hg, hC, hl, fun ad e => ⟨⟨(hB ad e).1, (hB ad e).2⟩, (hB ad e).2⟩⟩
theorem Qu.lt {w0 w : World} {P : Nat → Prop} {g : Nat} {L : List S48} (h : Qu w0 w P g L) : g < w.heap.size := by
  obtain ⟨v, xs, hq, hr⟩ := h
  exact blk_lt hq.blk
/-- The queue at g stands for Lq, the document's at gx for Lx; neither lies in the other. -/
def Both (w0 w : World) (gx g : Nat) (Lq Lx : List S48) : Prop :=
  ∃ P B : Nat → Prop, Qu w0 w P g Lq ∧ Xq w gx B Lx ∧ (∀ k, P k → k ≠ g) ∧ (∀ k, P k → k ≠ gx) ∧ g ≠ gx ∧ (∀ k, B k → ¬ P k) ∧ (∀ k, B k → k ≠ g) ∧ (∀ k, B k → k ≠ gx) ∧ Below w0.heap.size w0 w ∧ w0.heap.size ≤ gx
section
variable {w0 w : World} {gx g : Nat} {Lq Lx : List S48}
theorem Both.of_q (h : Both w0 w gx g Lq Lx) {P : Nat → Prop} (hP : ∀ k, P k → k ≠ g) (hPx : ∀ k, P k → k ≠ gx) {B : Nat → Prop} (hx : Xq w gx B Lx) (hBP : ∀ k, B k → ¬ P k) (hBg : ∀ k, B k → k ≠ g) (hBx : ∀ k, B k → k ≠ gx) (hne : g ≠ gx) (hg0 : w0.heap.size ≤ gx) {L' : List S48} {v : Value} {e : Ending} {w' : World} (hgl : g < w.heap.size) (hp : QPost w0 w P g v L' e w') : e = .returned v ∧ Both w0 w' gx g L' Lx := by
  obtain ⟨he, hq, hb, hk⟩ := hp
  refine ⟨he, _, _, hq, hx.tight.kept hk (fun h => h.elim (fun h => hPx _ h rfl) (fun h => hne h.symm)) (fun k hb h => h.elim (fun h => hBP k hb.1 h) (fun h => hBg k hb.1 h)), ?_, ?_, hne, ?_, fun k hb => hBg k hb.1, fun k hb => hBx k hb.1, hb, hg0⟩
  · rintro k (h | h)
    · exact hP k h
    · omega
  · have := hx.lt
    rintro k (h | h)
    · exact hPx k h
    · omega
  · rintro k hb (h | h)
    · exact hBP k hb.1 h
    · omega
theorem both_push (h : Both w0 w gx g Lq Lx) (d x : Int) : Calls Try.prog 11 #[.pointer (some ⟨g, 0, none⟩), .int .i64 d, .int .i64 x] w fun e w' => e = .returned (.bool (decide (Lq.length < 100))) ∧ Both w0 w' gx g (if Lq.length < 100 then ins ⟨d, x⟩ Lq else Lq) Lx := by
  have h0 := h
  obtain ⟨P, B, hq, hx, h1, h2, h3, h4, h5, h6, hb, hg⟩ := h
  exact (push_any w0 w P g Lq d x hb h1 hq).mono fun e w' hp => h0.of_q h1 h2 hx h4 h5 h6 h3 hg hq.lt hp
theorem both_pop {a : S48} (h : Both w0 w gx g (a :: Lq) Lx) (hl : Lq.length < 1000) : Calls Try.prog 12 #[.pointer (some ⟨g, 0, none⟩)] w fun e w' => e = .returned (.tuple #[.int .i64 a.f0, .int .i64 a.f1, .bool true]) ∧ Both w0 w' gx g Lq Lx := by
  have h0 := h
  obtain ⟨P, B, hq, hx, h1, h2, h3, h4, h5, h6, hb, hg⟩ := h
  exact (pop_some w0 w P g a Lq hb h1 hq hl).mono fun e w' hp => h0.of_q h1 h2 hx h4 h5 h6 h3 hg hq.lt hp
theorem Both.below {w' : World} (h : Both w0 w gx g Lq Lx) (hb' : Below w.heap.size w w') : Both w0 w' gx g Lq Lx := by
  obtain ⟨P, B, hq, hx, h1, h2, h3, h4, h5, h6, hb, hg⟩ := h
  exact ⟨P, B, hq.below hb', hx.kept (Kept.of_below hb' (fun _ => False)) (fun h => h) (fun _ _ h => h), h1, h2, h3, h4, h5, h6, below_then hb hb.size hb', hg⟩
theorem both_pop_none (h : Both w0 w gx g [] Lx) : Calls Try.prog 12 #[.pointer (some ⟨g, 0, none⟩)] w fun e w' => e = .returned (.tuple #[.int .i64 0, .int .i64 0, .bool false]) ∧ Both w0 w' gx g [] Lx := by
  have h0 := h
  obtain ⟨P, B, hq, _⟩ := h
  exact (pop_none w0 w P g hq).mono fun e w' hp => ⟨hp.1, hp.2 ▸ h0⟩
theorem both_peek {a : S48} (h : Both w0 w gx g (a :: Lq) Lx) : Calls Try.prog 15 #[.pointer (some ⟨g, 0, none⟩)] w fun e w' => e = .returned (.tuple #[.int .i64 a.f0, .int .i64 a.f1, .bool true]) ∧ Both w0 w' gx g (a :: Lq) Lx := by
  have h0 := h
  obtain ⟨P, B, hq, _⟩ := h
  exact (peek_some w0 w P g a Lq hq).mono fun e w' hp => ⟨hp.1, h0.below hp.2.below⟩
theorem both_peek_none (h : Both w0 w gx g [] Lx) : Calls Try.prog 15 #[.pointer (some ⟨g, 0, none⟩)] w fun e w' => e = .returned (.tuple #[.int .i64 0, .int .i64 0, .bool false]) ∧ Both w0 w' gx g [] Lx := by
  have h0 := h
  obtain ⟨P, B, hq, _⟩ := h
  exact (peek_none w0 w P g hq).mono fun e w' hp => ⟨hp.1, hp.2 ▸ h0⟩
theorem both_len (h : Both w0 w gx g Lq Lx) : Calls Try.prog 14 #[.pointer (some ⟨g, 0, none⟩)] w fun e w' => e = .returned (.int .i64 Lq.length) ∧ w = w' := by
  obtain ⟨P, B, hq, _⟩ := h
  exact qlen_any w0 w P g Lq hq
theorem Both.of_x {Lx' : List S48} {w' : World} {B' : Nat → Prop} (h : Both w0 w gx g Lq Lx) (hx' : Xq w' gx B' Lx') (hB' : ∀ k, B' k → w.heap.size ≤ k ∨ ∃ P B : Nat → Prop, False) (hb' : Below w0.heap.size w0 w') (hk : Kept w w' (fun k => k = gx)) : Both w0 w' gx g Lq Lx' := by
  obtain ⟨P, B, hq, hx, h1, h2, h3, h4, h5, h6, hb, hg⟩ := h
  have hB2 : ∀ k, B' k → w.heap.size ≤ k := fun k hk => (hB' k hk).elim id (fun ⟨_, _, h⟩ => h.elim)
  refine ⟨_, _, hq.tight.kept hk (fun k h e => h2 k h.1 e) (fun e => h3 e), hx', fun k h => h1 k h.1, fun k h => h2 k h.1, h3, fun k hb h => ?_, fun k hb => ?_, fun k hb => ?_, hb', hg⟩
  · have := hB2 k hb; have := h.2.2; omega
  · have := hB2 k hb; have := hq.lt; omega
  · have := hB2 k hb; have := hx.lt; omega
theorem both_xpush_room (h : Both w0 w gx g Lq Lx) (d x : Int) (hl : Lx.length < 100) : Calls Try.prog 16 #[.pointer (some ⟨gx, 0, none⟩), .int .i64 d, .int .i64 x] w fun e w' => e = .returned (.bool true) ∧ Both w0 w' gx g Lq (ins ⟨d, x⟩ Lx) := by
  have h0 := h
  obtain ⟨P, B, hq, hx, h1, h2, h3, h4, h5, h6, hb, hg⟩ := h
  exact (xpush_room w0 w gx B Lx d x hx hb hg hl).mono fun e w' hp => ⟨hp.1, h0.of_x hp.2.1 (fun k hk => .inl hk) hp.2.2.1 hp.2.2.2⟩
theorem both_xpush (h : Both w0 w gx g Lq Lx) (d x : Int) : Calls Try.prog 16 #[.pointer (some ⟨gx, 0, none⟩), .int .i64 d, .int .i64 x] w fun e w' => e = .returned (.bool (decide (Lx.length < 100))) ∧ Both w0 w' gx g Lq (if Lx.length < 100 then ins ⟨d, x⟩ Lx else Lx) := by
  by_cases hl : Lx.length < 100
  · rw [if_pos hl, decide_eq_true hl]; exact both_xpush_room h d x hl
  · rw [if_neg hl, decide_eq_false hl]
    have h0 := h
    obtain ⟨P, B, hq, hx, _⟩ := h
    exact (xpush_full w gx B Lx d x hx (by omega)).mono fun e w' hp => ⟨hp.1, hp.2 ▸ h0⟩
theorem both_xpop {a : S48} (h : Both w0 w gx g Lq (a :: Lx)) : Calls Try.prog 17 #[.pointer (some ⟨gx, 0, none⟩)] w fun e w' => e = .returned (.tuple #[.int .i64 a.f0, .int .i64 a.f1, .bool true]) ∧ Both w0 w' gx g Lq Lx := by
  obtain ⟨P, B, hq, hx, h1, h2, h3, h4, h5, h6, hb, hg⟩ := h
  refine (xpop_some w0 w gx B a Lx hx hb hg h6).mono fun e w' hp => ⟨hp.1, P, B, hq.kept hp.2.2.2 h2 h3, hp.2.1, h1, h2, h3, h4, h5, h6, hp.2.2.1, hg⟩
theorem both_xpop_none (h : Both w0 w gx g Lq []) : Calls Try.prog 17 #[.pointer (some ⟨gx, 0, none⟩)] w fun e w' => e = .returned (.tuple #[.int .i64 0, .int .i64 0, .bool false]) ∧ Both w0 w' gx g Lq [] := by
  have h0 := h
  obtain ⟨P, B, hq, hx, _⟩ := h
  exact (xpop_none w gx B hx).mono fun e w' hp => ⟨hp.1, hp.2 ▸ h0⟩
theorem both_xpeek {a : S48} (h : Both w0 w gx g Lq (a :: Lx)) : Calls Try.prog 18 #[.pointer (some ⟨gx, 0, none⟩)] w fun e w' => e = .returned (.tuple #[.int .i64 a.f0, .int .i64 a.f1, .bool true]) ∧ Both w0 w' gx g Lq (a :: Lx) := by
  have h0 := h
  obtain ⟨P, B, hq, hx, _⟩ := h
  exact (xpeek_some w gx B a Lx hx).mono fun e w' hp => ⟨hp.1, h0.below hp.2.below⟩
theorem both_xpeek_none (h : Both w0 w gx g Lq []) : Calls Try.prog 18 #[.pointer (some ⟨gx, 0, none⟩)] w fun e w' => e = .returned (.tuple #[.int .i64 0, .int .i64 0, .bool false]) ∧ Both w0 w' gx g Lq [] := by
  have h0 := h
  obtain ⟨P, B, hq, hx, _⟩ := h
  exact (xpeek_none w gx B hx).mono fun e w' hp => ⟨hp.1, hp.2 ▸ h0⟩
/-- A copy, the old one pushed to: the copy is the queue from then on. -/
theorem both_copy (h : Both w0 w gx g Lq Lx) (hl : Lq.length ≤ 1000) : Calls Try.prog 19 #[.pointer (some ⟨g, 0, none⟩)] w fun e w' => ∃ g', e = .returned (.pointer (some ⟨g', 0, none⟩)) ∧ Calls Try.prog 11 #[.pointer (some ⟨g, 0, none⟩), .int .i64 1, .int .i64 1] w' fun e2 w2 => e2 = .returned (.bool (decide (Lq.length < 100))) ∧ Both w0 w2 gx g' Lq Lx := by
  obtain ⟨P, B, hq, hx, h1, h2, h3, h4, h5, h6, hb, hg⟩ := h
  refine (copy_any w0 w P g Lq hb hq hl).mono fun e w' hp => ?_
  obtain ⟨g', he, hge, hq', hbw, hbw0⟩ := hp
  refine ⟨g', he, ?_⟩
  have hgl := hq.lt
  have hgx := hx.lt
  refine (push_any w0 w' _ g Lq 1 1 hbw0 (fun k h => h.2.1) (hq.tight.below hbw)).mono fun e2 w2 hp2 => ?_
  obtain ⟨he2, -, hb2, hk2⟩ := hp2
  refine ⟨he2, _, _, hq'.kept hk2 (fun k h hs => ?_) (fun hs => ?_), ((hx.tight.kept (Kept.of_below hbw (fun _ => False)) (fun h => h) (fun _ _ h => h)).kept hk2 (fun hs => ?_) (fun k hb hs => ?_)), fun k h => h.2, fun k h => ?_, ?_, fun k hb h => ?_, fun k hb => ?_, fun k hb => h6 k hb.1, hb2, hg⟩
  · have := h.1
    rcases hs with hs | hs
    · have := hs.2.2; omega
    · omega
  · rcases hs with hs | hs
    · have := hs.2.2; omega
    · omega
  · rcases hs with hs | hs
    · exact h2 _ hs.1 rfl
    · exact h3 hs.symm
  · rcases hs with hs | hs
    · exact h4 k hb.1 hs.1
    · exact h5 k hb.1 hs
  · have := h.1; omega
  · omega
  · have := h.1; have := hb.2; omega
  · have := hb.2; omega
end
end Go.Proofs.Ytigoebmmkdhclaa.Pq
end
section
namespace Go.Proofs.Ytigoebmmkdhclaa.Pq
open Go.RowKit Go.Proofs.YtigoebmmkdhclaaW.PrintWords Go.Proofs.YtigoebmmkdhclaaW.PrintLast Go.Proofs.YtigoebmmkdhclaaW.PrintMore
open QHeap OpenKd
set_option linter.unusedVariables false
set_option linter.unusedSimpArgs false
theorem Both.bel {w0 w : World} {gx g : Nat} {Lq Lx : List S48} (h : Both w0 w gx g Lq Lx) : Below w0.heap.size w0 w := by
  obtain ⟨P, B, _, _, _, _, _, _, _, _, hb, _⟩ := h
  exact hb
theorem both_new (w0 w1 : World) (g : Nat) (P : Nat → Prop) (hq : Qu w0 w1 P g []) (hP : ∀ k, P k → k ≠ g) (hb : Below w0.heap.size w0 w1) : Both w0 (w1.alloc (.cells #[.slice none 0 0] 36)) w1.heap.size g [] [] := by
  have hgl := hq.lt
  refine ⟨_, fun _ => False, hq.tight.below (below_alloc (Below.refl _ _) _), ⟨none, 0, heap_alloc_new w1 _, ⟨rfl, by decide, fun h => by simp at h⟩, Nat.zero_le _, fun ad e => by cases e⟩, fun k h => hP k h.1, fun k h => by have := h.2.2; omega, by omega, fun _ h => h.elim, fun _ h => h.elim, fun _ h => h.elim, hb.alloc hb.size _, hb.size⟩
set_option maxHeartbeats 16000000 in
set_option maxRecDepth 100000 in
theorem queuePlays_walk (A : Option Addr) (c : Nat) (l : List Act3) (w : World) (hr : Kd.C kAct w A l.length l) (hc : l.length ≤ c) : Calls Try.prog 7 #[.slice A l.length c] w fun e w' => e = .returned (.bool true) ∧ Below w.heap.size w w' := by
  have hnew := new_any w w (Below.refl _ _)
  have HR := Lib.hid hr
  obtain ⟨n, hn⟩ : ∃ n, n = l.length := ⟨_, rfl⟩
  rw [← hn] at hc ⊢
  have HN := Lib.hid hn
  clear hr hn
  by_cases h300 : (300 : Int) < n
  · clear hnew
    go_enter Try.func7, Try.ntmps7
    go_wp2
    go_ret
    exact ⟨rfl, Below.refl _ _⟩
  go_enter Try.func7, Try.ntmps7
  go_wp2_with fail
  refine hnew.mono ?_
  rintro e w1 ⟨g0, rfl, hg0, hq, hb1, hb1'⟩
  have HS1 := Lib.hid (both_new w w1 g0 _ hq (fun k h => h.2) hb1')
  clear hnew hq hb1 hb1' hg0
  go_wp2
  obtain ⟨gx, hgx⟩ : ∃ gx, gx = w1.heap.size := ⟨_, rfl⟩
  obtain ⟨W2, hW2⟩ : ∃ W2, W2 = w1.alloc (.cells #[.slice none 0 0] 36) := ⟨_, rfl⟩
  rw [← hgx, ← hW2] at HS1 ⊢
  clear hgx hW2
  go_loopg [3, 5] n (fun gg s3 s5 wr => ∃ (g i : Nat) (L : List S48), s3 = .pointer (some ⟨g, 0, none⟩) ∧ s5 = .int .i64 i ∧ i ≤ n ∧ n - i ≤ gg ∧ L.length ≤ 100 ∧ Both w wr gx g L L)
  case atStart => exact ⟨g0, 0, [], rfl, rfl, Nat.zero_le _, by omega, by simp, HS1.out⟩
  case round =>
    obtain ⟨g, i, L, rfl, rfl, hin, hig, hl100, hS⟩ := hrel
    have HS := Lib.hid hS
    clear hS
    by_cases hlt : i < n
    case neg =>
      have hltz : ¬ (i : Int) < (n : Int) := by omega
      go_wp2_with (go_at_call 13; refine (known_any w wr HS.out.bel).mono ?_; rintro e w5 ⟨rfl, hb5⟩)
      go_ret
      exact ⟨rfl, hb5⟩
    have hltz : (i : Int) < (n : Int) := by omega
    obtain ⟨ad, e, h0, h1, h2⟩ := at_act HR.out i (by have := HN.out; omega)
    cases e
    revert h0 h1 h2
    generalize (l.getD i zAct).f0 = kd
    generalize (l.getD i zAct).f1 = du
    generalize (l.getD i zAct).f2 = wh
    intro h0 h1 h2
    have H1 := Lib.hid h1
    have H2 := Lib.hid h2
    have h0 := keepc HS.out.bel h0
    have h1 := keepc HS.out.bel h1
    have h2 := keepc HS.out.bel h2
    by_cases k1 : kd = 1
    · subst k1
      go_wp2
      refine st_ (fun w' => w'.cell? ⟨(ad.add (i * 3)).block, (ad.add (i * 3)).off + 1, none⟩ = some (.int .i64 du) ∧ w'.cell? ⟨(ad.add (i * 3)).block, (ad.add (i * 3)).off + 2, none⟩ = some (.int .i64 wh)) 25 ⟨h1, h2⟩ (fun hHeld => ?_)
      refine pu_ 0 (some 47) ?_
      refine pu_ 1 (some 48) ?_
      refine pu_ 2 (some 49) ?_
      refine pu_ 3 (some 50) ?_
      refine pu_ 4 (some 51) ?_
      refine tk_ 5 (some 52) hHeld ?_ (hy := by rintro w' ⟨s0, s1⟩; go_simp; with_reducible rfl)
      refine pu_ 6 (some 53) ?_
      refine pu_ 7 (some 54) ?_
      refine pu_ 8 (some 55) ?_
      refine pu_ 9 (some 56) ?_
      refine tk_ 10 (some 57) hHeld ?_ (hy := by rintro w' ⟨s0, s1⟩; go_simp; with_reducible rfl)
      refine pu_ 12 (some 59) ?_
      refine pu_ 13 (some 60) ?_
      refine pu_ 14 (some 61) ?_
      refine pu_ 15 (some 62) ?_
      refine pu_ 16 (some 63) ?_
      refine tk_ 17 (some 64) hHeld ?_ (hy := by rintro w' ⟨s0, s1⟩; go_simp; with_reducible rfl)
      refine pu_ 18 (some 65) ?_
      refine pu_ 19 (some 66) ?_
      refine pu_ 20 (some 67) ?_
      refine pu_ 21 (some 68) ?_
      refine tk_ 22 (some 69) hHeld ?_ (hy := by rintro w' ⟨s0, s1⟩; go_simp; with_reducible rfl)
      refine ca_ 11 (some 58) Try.func11 #[.pointer (some ⟨g, 0, none⟩), .int .i64 du, .int .i64 wh] ((both_push (HS.out.below (below_drew1 (Below.refl _ _))) du wh).mono ?_)
      rintro e w3 ⟨rfl, hB3⟩
      obtain ⟨bl, hbl⟩ : ∃ b, b = decide (L.length < 100) := ⟨_, rfl⟩
      have hw3 := hB3.bel
      refine ⟨_, rfl, ⟨keepc hw3 H1.out, keepc hw3 H2.out⟩, fun hHeld => ⟨_, by (simp only [Act.put, List.setIfInBounds_toArray, List.set_cons_zero, List.set_cons_succ, i64_w, i32_w]; rfl), ?_⟩⟩
      refine ca_ 23 (some 70) Try.func16 #[.pointer (some ⟨gx, 0, none⟩), .int .i64 du, .int .i64 wh] ((both_xpush hB3 du wh).mono ?_)
      rintro e w4 ⟨rfl, hB4⟩
      have hw4 := hB4.bel
      refine ⟨_, rfl, ⟨keepc hw4 H1.out, keepc hw4 H2.out⟩, fun hHeld => ⟨_, by (simp only [Act.put, List.setIfInBounds_toArray, List.set_cons_zero, List.set_cons_succ, i64_w, i32_w]; rfl), ?_⟩⟩
      rw [← hbl]
      clear hbl
      refine pu_ 24 (some 71) ?_
      refine dn_ ?_
      have HZ := Lib.hid hB4
      have hlz : (if L.length < 100 then ins ⟨du, wh⟩ L else L).length ≤ 100 := by split <;> (try rw [ins_length]) <;> omega
      obtain ⟨Lz, hLz⟩ : ∃ Lz, Lz = (if L.length < 100 then ins ⟨du, wh⟩ L else L) := ⟨_, rfl⟩
      rw [← hLz] at HZ hlz
      clear hLz hB4 hB3 hw3 hw4 hHeld HS
      obtain ⟨P_, B_, hq_, hx_, _⟩ := HZ.out
      obtain ⟨AX, cX, hcX, -, -⟩ := hx_.cell
      clear hq_ hx_
      obtain ⟨nz, hnz⟩ : ∃ nz, nz = (Lz).length := ⟨_, rfl⟩
      rw [← hnz] at hcX
      have HNZ := Lib.hid hnz
      clear hnz
      go_wp2
      refine st_ (fun w' => w'.cell? ⟨gx, 0, none⟩ = some (.slice AX nz cX)) 12 hcX (fun hHeld => ?_)
      refine pu_ 0 (some 126) ?_
      refine pu_ 1 (some 127) ?_
      refine pu_ 2 (some 128) ?_
      refine pu_ 3 (some 129) ?_
      refine pu_ 5 (some 131) ?_
      refine pu_ 6 (some 132) ?_
      refine pu_ 7 (some 133) ?_
      refine tk_ 8 (some 134) hHeld ?_ (hy := by rintro w' s0; go_simp; with_reducible rfl)
      refine pu_ 9 (some 135) ?_
      refine ca_ 4 (some 130) Try.func14 #[.pointer (some ⟨g, 0, none⟩)] ((both_len (HZ.out.below (below_drew1 (Below.refl _ _)))).mono ?_)
      rintro e wl ⟨rfl, rfl⟩
      rw [← HNZ.out]
      refine ⟨_, rfl, hHeld, fun hHeld => ⟨_, by (simp only [Act.put, List.setIfInBounds_toArray, List.set_cons_zero, List.set_cons_succ, i64_w, i32_w]; rfl), ?_⟩⟩
      refine pu_ 10 (some 136) ?_
      refine pu_ 11 (some 137) ?_
      refine dn_ ?_
      have HE := Lib.hid (HZ.out.below (below_drew1 (Below.refl _ _)))
      clear HZ hHeld hcX HNZ
      go_wp2
      go_roundg (n - (i + 1))
      case measure => omega
      case rel => exact ⟨g, i + 1, Lz, rfl, by go_num, by omega, by omega, hlz, HE.out⟩
    have k1' : (kd == 1) = false := by simpa using k1
    by_cases k2 : kd = 2
    · subst k2
      clear h1 h2 k1 k1'
      cases L with
      | nil =>
        go_upto_region 24 with (first | (go_at_call 12; refine (both_pop_none HS.out).mono ?_; rintro e w3 ⟨rfl, hB3⟩; have HS3 := Lib.hid hB3; clear hB3 HS) | (go_at_call 17; refine (both_xpop_none HS3.out).mono ?_; rintro e w4 ⟨rfl, hB4⟩; have HZ := Lib.hid hB4; clear hB4 HS3))
        obtain ⟨P_, B_, hq_, hx_, _⟩ := HZ.out
        obtain ⟨AX, cX, hcX, -, -⟩ := hx_.cell
        clear hq_ hx_
        obtain ⟨nz, hnz⟩ : ∃ nz, nz = (([] : List S48)).length := ⟨_, rfl⟩
        rw [← hnz] at hcX
        have HNZ := Lib.hid hnz
        clear hnz
        go_wp2
        refine st_ (fun w' => w'.cell? ⟨gx, 0, none⟩ = some (.slice AX nz cX)) 12 hcX (fun hHeld => ?_)
        refine pu_ 0 (some 126) ?_
        refine pu_ 1 (some 127) ?_
        refine pu_ 2 (some 128) ?_
        refine pu_ 3 (some 129) ?_
        refine pu_ 5 (some 131) ?_
        refine pu_ 6 (some 132) ?_
        refine pu_ 7 (some 133) ?_
        refine tk_ 8 (some 134) hHeld ?_ (hy := by rintro w' s0; go_simp; with_reducible rfl)
        refine pu_ 9 (some 135) ?_
        refine ca_ 4 (some 130) Try.func14 #[.pointer (some ⟨g, 0, none⟩)] ((both_len (HZ.out.below (below_drew1 (Below.refl _ _)))).mono ?_)
        rintro e wl ⟨rfl, rfl⟩
        rw [← HNZ.out]
        refine ⟨_, rfl, hHeld, fun hHeld => ⟨_, by (simp only [Act.put, List.setIfInBounds_toArray, List.set_cons_zero, List.set_cons_succ, i64_w, i32_w]; rfl), ?_⟩⟩
        refine pu_ 10 (some 136) ?_
        refine pu_ 11 (some 137) ?_
        refine dn_ ?_
        have HE := Lib.hid (HZ.out.below (below_drew1 (Below.refl _ _)))
        clear HZ hHeld hcX HNZ
        go_wp2
        go_roundg (n - (i + 1))
        case measure => omega
        case rel => exact ⟨g, i + 1, ([] : List S48), rfl, by go_num, by omega, by omega, by simp, HE.out⟩
      | cons a L =>
        rw [List.length_cons] at hl100
        go_upto_region 24 with (first | (go_at_call 12; refine (both_pop HS.out (by omega)).mono ?_; rintro e w3 ⟨rfl, hB3⟩; have HS3 := Lib.hid hB3; clear hB3 HS) | (go_at_call 17; refine (both_xpop HS3.out).mono ?_; rintro e w4 ⟨rfl, hB4⟩; have HZ := Lib.hid hB4; clear hB4 HS3))
        obtain ⟨P_, B_, hq_, hx_, _⟩ := HZ.out
        obtain ⟨AX, cX, hcX, -, -⟩ := hx_.cell
        clear hq_ hx_
        obtain ⟨nz, hnz⟩ : ∃ nz, nz = (L).length := ⟨_, rfl⟩
        rw [← hnz] at hcX
        have HNZ := Lib.hid hnz
        clear hnz
        go_wp2
        refine st_ (fun w' => w'.cell? ⟨gx, 0, none⟩ = some (.slice AX nz cX)) 12 hcX (fun hHeld => ?_)
        refine pu_ 0 (some 126) ?_
        refine pu_ 1 (some 127) ?_
        refine pu_ 2 (some 128) ?_
        refine pu_ 3 (some 129) ?_
        refine pu_ 5 (some 131) ?_
        refine pu_ 6 (some 132) ?_
        refine pu_ 7 (some 133) ?_
        refine tk_ 8 (some 134) hHeld ?_ (hy := by rintro w' s0; go_simp; with_reducible rfl)
        refine pu_ 9 (some 135) ?_
        refine ca_ 4 (some 130) Try.func14 #[.pointer (some ⟨g, 0, none⟩)] ((both_len (HZ.out.below (below_drew1 (Below.refl _ _)))).mono ?_)
        rintro e wl ⟨rfl, rfl⟩
        rw [← HNZ.out]
        refine ⟨_, rfl, hHeld, fun hHeld => ⟨_, by (simp only [Act.put, List.setIfInBounds_toArray, List.set_cons_zero, List.set_cons_succ, i64_w, i32_w]; rfl), ?_⟩⟩
        refine pu_ 10 (some 136) ?_
        refine pu_ 11 (some 137) ?_
        refine dn_ ?_
        have HE := Lib.hid (HZ.out.below (below_drew1 (Below.refl _ _)))
        clear HZ hHeld hcX HNZ
        go_wp2
        go_roundg (n - (i + 1))
        case measure => omega
        case rel => exact ⟨g, i + 1, L, rfl, by go_num, by omega, by omega, by omega, HE.out⟩
    have k2' : (kd == 2) = false := by simpa using k2
    by_cases k3 : kd = 3
    · subst k3
      clear h1 h2 k1 k1' k2 k2'
      cases L with
      | nil =>
        go_upto_region 24 with (first | (go_at_call 15; refine (both_peek_none HS.out).mono ?_; rintro e w3 ⟨rfl, hB3⟩; have HS3 := Lib.hid hB3; clear hB3 HS) | (go_at_call 18; refine (both_xpeek_none HS3.out).mono ?_; rintro e w4 ⟨rfl, hB4⟩; have HZ := Lib.hid hB4; clear hB4 HS3))
        obtain ⟨P_, B_, hq_, hx_, _⟩ := HZ.out
        obtain ⟨AX, cX, hcX, -, -⟩ := hx_.cell
        clear hq_ hx_
        obtain ⟨nz, hnz⟩ : ∃ nz, nz = (([] : List S48)).length := ⟨_, rfl⟩
        rw [← hnz] at hcX
        have HNZ := Lib.hid hnz
        clear hnz
        go_wp2
        refine st_ (fun w' => w'.cell? ⟨gx, 0, none⟩ = some (.slice AX nz cX)) 12 hcX (fun hHeld => ?_)
        refine pu_ 0 (some 126) ?_
        refine pu_ 1 (some 127) ?_
        refine pu_ 2 (some 128) ?_
        refine pu_ 3 (some 129) ?_
        refine pu_ 5 (some 131) ?_
        refine pu_ 6 (some 132) ?_
        refine pu_ 7 (some 133) ?_
        refine tk_ 8 (some 134) hHeld ?_ (hy := by rintro w' s0; go_simp; with_reducible rfl)
        refine pu_ 9 (some 135) ?_
        refine ca_ 4 (some 130) Try.func14 #[.pointer (some ⟨g, 0, none⟩)] ((both_len (HZ.out.below (below_drew1 (Below.refl _ _)))).mono ?_)
        rintro e wl ⟨rfl, rfl⟩
        rw [← HNZ.out]
        refine ⟨_, rfl, hHeld, fun hHeld => ⟨_, by (simp only [Act.put, List.setIfInBounds_toArray, List.set_cons_zero, List.set_cons_succ, i64_w, i32_w]; rfl), ?_⟩⟩
        refine pu_ 10 (some 136) ?_
        refine pu_ 11 (some 137) ?_
        refine dn_ ?_
        have HE := Lib.hid (HZ.out.below (below_drew1 (Below.refl _ _)))
        clear HZ hHeld hcX HNZ
        go_wp2
        go_roundg (n - (i + 1))
        case measure => omega
        case rel => exact ⟨g, i + 1, ([] : List S48), rfl, by go_num, by omega, by omega, by simp, HE.out⟩
      | cons a L =>
        rw [List.length_cons] at hl100
        go_upto_region 24 with (first | (go_at_call 15; refine (both_peek HS.out).mono ?_; rintro e w3 ⟨rfl, hB3⟩; have HS3 := Lib.hid hB3; clear hB3 HS) | (go_at_call 18; refine (both_xpeek HS3.out).mono ?_; rintro e w4 ⟨rfl, hB4⟩; have HZ := Lib.hid hB4; clear hB4 HS3))
        obtain ⟨P_, B_, hq_, hx_, _⟩ := HZ.out
        obtain ⟨AX, cX, hcX, -, -⟩ := hx_.cell
        clear hq_ hx_
        obtain ⟨nz, hnz⟩ : ∃ nz, nz = ((a :: L)).length := ⟨_, rfl⟩
        rw [← hnz] at hcX
        have HNZ := Lib.hid hnz
        clear hnz
        go_wp2
        refine st_ (fun w' => w'.cell? ⟨gx, 0, none⟩ = some (.slice AX nz cX)) 12 hcX (fun hHeld => ?_)
        refine pu_ 0 (some 126) ?_
        refine pu_ 1 (some 127) ?_
        refine pu_ 2 (some 128) ?_
        refine pu_ 3 (some 129) ?_
        refine pu_ 5 (some 131) ?_
        refine pu_ 6 (some 132) ?_
        refine pu_ 7 (some 133) ?_
        refine tk_ 8 (some 134) hHeld ?_ (hy := by rintro w' s0; go_simp; with_reducible rfl)
        refine pu_ 9 (some 135) ?_
        refine ca_ 4 (some 130) Try.func14 #[.pointer (some ⟨g, 0, none⟩)] ((both_len (HZ.out.below (below_drew1 (Below.refl _ _)))).mono ?_)
        rintro e wl ⟨rfl, rfl⟩
        rw [← HNZ.out]
        refine ⟨_, rfl, hHeld, fun hHeld => ⟨_, by (simp only [Act.put, List.setIfInBounds_toArray, List.set_cons_zero, List.set_cons_succ, i64_w, i32_w]; rfl), ?_⟩⟩
        refine pu_ 10 (some 136) ?_
        refine pu_ 11 (some 137) ?_
        refine dn_ ?_
        have HE := Lib.hid (HZ.out.below (below_drew1 (Below.refl _ _)))
        clear HZ hHeld hcX HNZ
        go_wp2
        go_roundg (n - (i + 1))
        case measure => omega
        case rel => exact ⟨g, i + 1, (a :: L), rfl, by go_num, by omega, by omega, by rw [List.length_cons]; omega, HE.out⟩
    have k3' : (kd == 3) = false := by simpa using k3
    clear h1 h2
    go_upto_region 24 with (first | (go_at_call 19; refine (both_copy HS.out (by omega)).mono ?_; rintro e w3 ⟨g', rfl, hC3⟩; have HC3 := Lib.hid hC3; clear hC3 HS) | (go_at_call 11; refine HC3.out.mono ?_; rintro e w4 ⟨rfl, hB4⟩; have HZ := Lib.hid hB4; clear hB4 HC3))
    obtain ⟨P_, B_, hq_, hx_, _⟩ := HZ.out
    obtain ⟨AX, cX, hcX, -, -⟩ := hx_.cell
    clear hq_ hx_
    obtain ⟨nz, hnz⟩ : ∃ nz, nz = (L).length := ⟨_, rfl⟩
    rw [← hnz] at hcX
    have HNZ := Lib.hid hnz
    clear hnz
    go_wp2
    refine st_ (fun w' => w'.cell? ⟨gx, 0, none⟩ = some (.slice AX nz cX)) 12 hcX (fun hHeld => ?_)
    refine pu_ 0 (some 126) ?_
    refine pu_ 1 (some 127) ?_
    refine pu_ 2 (some 128) ?_
    refine pu_ 3 (some 129) ?_
    refine pu_ 5 (some 131) ?_
    refine pu_ 6 (some 132) ?_
    refine pu_ 7 (some 133) ?_
    refine tk_ 8 (some 134) hHeld ?_ (hy := by rintro w' s0; go_simp; with_reducible rfl)
    refine pu_ 9 (some 135) ?_
    refine ca_ 4 (some 130) Try.func14 #[.pointer (some ⟨g', 0, none⟩)] ((both_len (HZ.out.below (below_drew1 (Below.refl _ _)))).mono ?_)
    rintro e wl ⟨rfl, rfl⟩
    rw [← HNZ.out]
    refine ⟨_, rfl, hHeld, fun hHeld => ⟨_, by (simp only [Act.put, List.setIfInBounds_toArray, List.set_cons_zero, List.set_cons_succ, i64_w, i32_w]; rfl), ?_⟩⟩
    refine pu_ 10 (some 136) ?_
    refine pu_ 11 (some 137) ?_
    refine dn_ ?_
    have HE := Lib.hid (HZ.out.below (below_drew1 (Below.refl _ _)))
    clear HZ hHeld hcX HNZ
    go_wp2
    go_roundg (n - (i + 1))
    case measure => omega
    case rel => exact ⟨g', i + 1, L, rfl, by go_num, by omega, by omega, hl100, HE.out⟩
end Go.Proofs.Ytigoebmmkdhclaa.Pq
end
section
namespace Go.Proofs.Ytigoebmmkdhclaa.queuePlays
open Go.ChangeShapes Go.WideShapes Go.ChangeAt Go.RowKit Go.Proofs.YtigoebmmkdhclaaW.PrintWords
open Go.ChangeMaps (open_string shut_string)
set_option linter.unusedVariables false
theorem own : ownKnob Try.prog.godebug = none := by kernel_rfl
theorem laidOut : laidOutB Try.prog = true := by kernel_rfl
set_option maxRecDepth 100000 in
theorem lifted (os : Os) (started : os.Started) (H : Type) (enc : TypeId × Value → H) :
    ReturnsInHanded {} Try.checked os 7 .any (Rows.queuePlaysSpec.pre6 enc Try.prog Try.f7 Rows.queuePlaysRow.domain false) (Rows.queuePlaysSpec.post enc Try.prog Try.f7 false true false false) := by
  refine returnsInHanded_of_change_sized (C := Try.checked) own started (by kernel_rfl) Try.func7
    (ChangeSpec.witness6 (enc := enc) (C := Try.checked) false ⟨#[], #[.slice none 0 0], []⟩ 8 (by kernel_rfl) (by kernel_rfl) (by kernel_rfl) (by kernel_rfl)) ?_
  intro W base args ds gs before hval0 hW hcnd hsz0 _
  have hsz : (DataW.weightsEach Try.prog (Try.f7.params.toList ++ Rows.queuePlaysSpec.plain.varTypes Try.prog) (ds ++ gs)).all (· ≤ reachBytes) = true := hsz0
  have hval : ∀ (j : Nat) t v, Try.f7.params[j]? = some t → args[j]? = some v → Value.okWide Try.prog W .any base t v := hval0
  have hW' := hW
  obtain ⟨p, q, hA0, hV, rfl, hfz, hnd⟩ := hW
  have hA : DataW.TrodAll enc Try.prog W 0 (fun _ => true) true Try.f7.params.toList args.toList ds p := hA0
  rw [Try.params7] at hA hval hsz
  obtain ⟨v0, vs0, d0, ds0, p0, q0, hargs, rfl, rfl, h0, r0⟩ := trodAll_cons hA
  obtain ⟨rfl, rfl, rfl⟩ := trodAll_nil r0
  obtain rfl : args = #[v0] := by cases args; simp_all
  obtain ⟨rfl, rfl⟩ := trodVars_none hV
  obtain ⟨a0, len0, cap0, rfl⟩ := okWide_slice Try.underlying32 (hval 0 32 v0 rfl rfl)
  have k0 := h0
  have lt0 : ∀ x ∈ p0, x.block < W.heap.size := by obtain ⟨m, hm⟩ := k0; exact DataW.trod_lt m _ _ _ hm
  have li0 : OpenKd.Light Try.prog 32 d0 := fun n hn => by simpa using List.all_eq_true.1 hsz _ (DataW.weights_mem_each (j := 0) rfl rfl n hn)
  obtain ⟨A0, c0, l0, e0, hc0, rd0, good0⟩ := h0.elim fun fuel hf => OpenKd.opens_arg_slice Pq.opens_acts (by simpa [Value.cells] using hf) li0
  obtain ⟨rfl, rfl, rfl⟩ : a0 = A0 ∧ len0 = l0.length ∧ cap0 = c0 := by injection e0 with x y z; exact ⟨x, y, z⟩
  clear hA0 hval0 hsz0 hsz
  refine (Pq.queuePlays_walk _ _ l0 W rd0 hc0).mono fun e W' ⟨he, bel⟩ => ?_
  subst he
  exact ⟨_, rfl, _, _, _, [], _, [], hW', trodAll_mk1 (shut_bool Try.underlying4 _), (trodAll_cons_mk (Below.trod laidOut (by kernel_rfl) (of_decide_eq_true (by kernel_rfl)) k0 bel lt0) trodAll_mk0), rfl, bel.frame _, fun h => by cases h⟩
theorem over : Rows.queuePlaysRow.holds Try.pinned (OpenSpec.ofChange Rows.queuePlaysSpec) :=
  OpenClaim.holds_of_wide 7 Try.f7 rfl rfl rfl rfl rfl rfl rfl ⟨rfl, rfl, rfl, rfl, rfl⟩ rfl rfl rfl rfl rfl (by kernel_rfl) Try.func7 (by kernel_rfl)
    (of_decide_eq_true (by kernel_rfl)) (by unfold Func.isWrapper; first | (rw [if_pos (by decide +kernel)]; kernel_rfl) | (rw [if_neg (by decide +kernel)]; exact ⟨rfl, rfl⟩))
    (fun os started H enc _ => lifted os started H enc)
theorem proved : Rows.QueuePlaysSaid := over
end Go.Proofs.Ytigoebmmkdhclaa.queuePlays
namespace Go.Proofs.Ytigoebmmkdhclaa
/-- The row, under a short name, for the claim. -/
theorem queuePlays_holds : Rows.QueuePlaysSaid := queuePlays.proved
end Go.Proofs.Ytigoebmmkdhclaa
end
