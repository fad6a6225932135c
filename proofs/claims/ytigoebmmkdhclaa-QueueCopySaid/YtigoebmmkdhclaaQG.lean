import Derived.Test.YtigoebmmkdhclaaQF
namespace Go.Proofs.Ytigoebmmkdhclaa.Pq
open Go.RowKit Go.Proofs.YtigoebmmkdhclaaW.PrintWords Go.Proofs.YtigoebmmkdhclaaW.PrintLast Go.Proofs.YtigoebmmkdhclaaW.PrintMore
open QHeap
set_option linter.unusedVariables false
set_option linter.unusedSimpArgs false

def EPop (w0 w : World) (P : Nat → Prop) (gq : Nat) (xs : List S48) (e : Ending) (w' : World) : Prop :=
  (∃ u, e = .returned u) ∧ ∃ v', QAt w0 w' P gq v' (xs.take (xs.length - 1)) ∧ Below w0.heap.size w0 w' ∧ Kept w w' (fun k => k = gq)

set_option maxHeartbeats 2000000 in
set_option maxRecDepth 100000 in
theorem epop_any (w0 w : World) (P : Nat → Prop) (gq : Nat) (v : Value) (xs : List S48) (hB : Below w0.heap.size w0 w) (hP : ∀ k, P k → k ≠ gq) (hq : QAt w0 w P gq v xs) (hp : 0 < xs.length) (hl : xs.length ≤ 1000) :
    Calls Try.prog 47 #[.pointer (some ⟨gq, 0, none⟩)] w (EPop w0 w P gq xs) := by
  have hgq := blk_lt hq.blk
  obtain ⟨g, cap, rfl, hg1, hg2, _⟩ := Kd.R_form hq.row hp
  have hcap := (Kd.R_reads' hq.row).2.1
  have hne : g ≠ gq := hP g (hq.row.1 g rfl)
  obtain ⟨n, hn⟩ : ∃ n, xs.length = n + 1 := ⟨xs.length - 1, by omega⟩
  obtain ⟨ce, hcl, hM, hcc, hfr⟩ := Kd.R_elem hq.row z48 (n : Int) (by omega) (by omega)
  obtain rfl := k48_openM hM
  have hx0 : w.cell? ⟨g, n * 2, none⟩ = some (.int .i64 (rd_T48 xs n).f0) := hcc 0 _ rfl
  have hx1 : w.cell? ⟨g, n * 2 + 1, none⟩ = some (.int .i64 (rd_T48 xs n).f1) := hcc 1 _ rfl
  clear hcl hM hcc hfr
  have hc := hq.cell
  have hf : w.frozen? ⟨gq, 0, none⟩ = false := by simp [World.frozen?, hq.blk]
  have hR := Kd.R_take (m := n) hq.row (by omega)
  have H : Hid (QAt w0 w P gq (.slice (some ⟨g, 0, none⟩) xs.length cap) xs ∧ Below w0.heap.size w0 w ∧ Kd.R k48 48 w w0.heap.size P (.slice (some ⟨g, 0, none⟩) n cap) (xs.take n)) := Lib.hid ⟨hq, hB, hR⟩
  clear hq hB hR hP
  have HN := Lib.hid hn
  rw [hn] at hc hcap hp hl
  clear hn
  have hn1 : (n : Int) ≤ 1000 := by omega
  have hn2 : (n : Int) ≤ cap := by omega
  have hn3 : n ≤ cap := by omega
  go_enter Try.func47, Try.ntmps47
  go_wp2
  go_ret
  obtain ⟨hq, hB, hR⟩ := H.out
  have en : xs.length - 1 = n := by have := HN.out; omega
  unfold EPop
  rw [en]
  refine ⟨⟨_, rfl⟩, _, ⟨hq.ge, ?_, Kd.R_alloc (Kd.R_set hR hq.blk (by intro q hq; simp [k48, Kd.iso, Kd.pair, Kd.int, Kd.scalar] at hq; omega) 0 _) _⟩, below_alloc (Below.setCell hB (p := ⟨gq, 0, none⟩) hq.ge _) _, Kept.alloc (Kept.setCell (p := ⟨gq, 0, none⟩) (Kept.refl w (fun k => k = gq)) (.inl rfl) _) _⟩
  have hlt : gq < (w.setCell ⟨gq, 0, none⟩ (.slice (some ⟨g, 0, none⟩) n cap)).heap.size := by simpa [World.setCell] using hgq
  rw [(below_alloc (Below.refl _ _) _).block gq hlt]
  simp [World.setCell, Array.getElem?_modify, hq.blk]

theorem take_perm (xs : List S48) (n : Nat) (hn : xs.length = n + 1) : (QHeap.g xs n :: xs.take n).Perm xs := by
  have e : xs = xs.take n ++ [QHeap.g xs n] := by
    have h1 := List.take_append_drop n xs
    have h2 : xs.drop n = [QHeap.g xs n] := by
      rw [List.drop_eq_getElem_cons (by omega), List.drop_of_length_le (by omega)]
      simp [QHeap.g, List.getD_eq_getElem?_getD, List.getElem?_eq_getElem (show n < xs.length by omega)]
    rw [← h2]; exact h1.symm
  have h3 : (QHeap.g xs n :: xs.take n).Perm (xs.take n ++ [QHeap.g xs n]) := (List.perm_append_singleton _ _).symm
  exact h3.trans (by rw [← e])
theorem g_take (xs : List S48) (n k : Nat) (h : k < n) : QHeap.g (xs.take n) k = QHeap.g xs k := by
  simp [QHeap.g, List.getD_eq_getElem?_getD, List.getElem?_take, h]
theorem pop_start (xs : List S48) (n : Nat) (hn : xs.length = n + 1) (h : Heap xs) : DownInv (swap xs 0 n) 0 n := by
  refine ⟨fun k k0 k1 k2 => ?_, fun k k0 k1 k2 k3 => by omega⟩
  rw [g_swap xs 0 n _ (by omega) (by omega), g_swap xs 0 n _ (by omega) (by omega), if_neg (by omega), if_neg (by omega), if_neg (by omega), if_neg (by omega)]
  exact h k k0 (by omega)
theorem pop_end (xs ys L : List S48) (n : Nat) (a : S48) (hn : xs.length = n + 1) (hr : Rep xs (a :: L)) (hp : ys.Perm (swap xs 0 n)) (hh : HeapN ys n) (hk : ∀ k, n ≤ k → QHeap.g ys k = QHeap.g (swap xs 0 n) k) : Rep (ys.take n) L := by
  have hpx : ys.Perm xs := hp.trans (swap_perm xs 0 n (by omega) (by omega))
  have hly : ys.length = n + 1 := by rw [hpx.length_eq, hn]
  obtain ⟨L', e⟩ := hr.head (by omega)
  have ea : a = QHeap.g xs 0 := (List.cons.inj e).1
  have eg : QHeap.g ys n = a := by rw [hk n (Nat.le_refl _), g_swap xs 0 n n (by omega) (by omega), if_pos rfl, ea]
  refine hr.pop ?_ ?_
  · rw [← eg]
    exact (take_perm ys n hly).trans hpx
  · intro k k0 k1
    have k1' : k < n := by have : (ys.take n).length = n := by simp; omega
                           omega
    rw [g_take _ _ _ (by omega), g_take _ _ _ k1']
    exact hh k k0 k1'

def HPop (w0 w : World) (P : Nat → Prop) (gq : Nat) (L : List S48) (e : Ending) (w' : World) : Prop :=
  (∃ u, e = .returned u) ∧ ∃ v' ys, QAt w0 w' (fun k => P k ∨ w.heap.size ≤ k) gq v' ys ∧ Rep ys L ∧ Below w0.heap.size w0 w' ∧ Kept w w' (fun k => P k ∨ k = gq)

set_option maxHeartbeats 2000000 in
set_option maxRecDepth 100000 in
/-- heap.Pop. -/
theorem hpop_any (w0 w : World) (P : Nat → Prop) (gq : Nat) (v : Value) (xs L : List S48) (a : S48) (hB : Below w0.heap.size w0 w) (hP : ∀ k, P k → k ≠ gq) (hq : QAt w0 w P gq v xs) (hl : xs.length ≤ 1000) (hr : Rep xs (a :: L)) :
    Calls Try.prog 21 #[.iface 46 (.pointer (some ⟨gq, 0, none⟩))] w (HPop w0 w P gq L) := by
  have hgq := blk_lt hq.blk
  obtain ⟨n, hn⟩ : ∃ n, xs.length = n + 1 := ⟨L.length, by have := hr.length; simpa using this⟩
  have h1 := len_any hq.row
  have hc := hq.cell
  have mL := fun (W : World) (h : W.cell? ⟨gq, 0, none⟩ = some v) => m_len h
  have mS := fun (W : World) (h : W.cell? ⟨gq, 0, none⟩ = some v) => m_swap h
  have mP := fun (W : World) => m_pop ⟨gq, 0, none⟩ W
  have H : Hid (QAt w0 w P gq v xs ∧ Below w0.heap.size w0 w ∧ Rep xs (a :: L)) := Lib.hid ⟨hq, hB, hr⟩
  clear hq hB hr
  have HN := Lib.hid hn
  rw [hn] at h1 hl
  clear hn
  go_enter Try.func21, Try.ntmps21
  go_wp2_with fail
  go_at_call 41
  refine h1.mono ?_
  rintro e w1 ⟨rfl, hb1⟩
  have hc1 := (H.out.1.below hb1).cell
  have h2 := swap_any (below_then H.out.2.1 H.out.2.1.size hb1) (H.out.1.below hb1).row 0 (n : Int) (by omega) (by have := HN.out; omega) (by omega) (by have := HN.out; omega)
  rw [show ((0 : Int)).toNat = 0 by omega, show ((n : Int)).toNat = n by omega] at h2
  go_wp2_with fail
  go_at_call 43
  refine h2.mono ?_
  rintro e w2 ⟨rfl, hr2, hB2, hK2⟩
  have hsz : w.heap.size ≤ w1.heap.size := hb1.size
  have hq2 : QAt w0 w2 (fun k => P k ∨ w1.heap.size ≤ k) gq v (swap xs 0 n) := ⟨H.out.1.ge, (hK2.2 gq (blk_lt (H.out.1.below hb1).blk) (fun h => hP gq h rfl)).trans (H.out.1.below hb1).blk, hr2⟩
  have h3 := down_any w0 w2 (fun k => P k ∨ w1.heap.size ≤ k) gq v (swap xs 0 n) n hB2 (fun k hk => hk.elim (hP k) (fun h => by omega)) hq2 (by rw [swap_length]; have := HN.out; omega) (pop_start xs n HN.out H.out.2.2.heap) (by rw [swap_length]; have := HN.out; omega)
  have hc2 := hq2.cell
  have H2 := Lib.hid (And.intro hq2 (And.intro hB2 hK2))
  clear hq2 hB2 hK2 hr2
  go_wp2_with fail
  go_at_call 24
  refine h3.mono ?_
  unfold DownEnd
  rintro e w3 ⟨b, rfl, ys, hq3, hperm, hheap, hkeep, hB3, hK3⟩
  have hly : ys.length = n + 1 := by rw [hperm.length_eq, swap_length]; exact HN.out
  have h4 := epop_any w0 w3 _ gq v ys hB3 (fun k hk => hk.elim (fun h => h.elim (hP k) (fun h => by omega)) (fun h => by have := H2.out.2.2.1; omega)) hq3 (by omega) (by omega)
  have HL := Lib.hid hly
  clear hly
  have H3 := Lib.hid (And.intro hq3 (And.intro hperm (And.intro hheap (And.intro hkeep (And.intro hB3 hK3)))))
  clear hq3 hperm hheap hkeep hB3 hK3
  go_wp2_with fail
  go_at_call 47
  refine h4.mono ?_
  unfold EPop
  rintro e w4 ⟨⟨u, rfl⟩, v4, hq4, hB4, hK4⟩
  go_wp2
  go_ret
  unfold HPop
  obtain ⟨hq3, hperm, hheap, hkeep, hB3, hK3⟩ := H3.out
  have en : ys.length - 1 = n := by have := HL.out; omega
  rw [en] at hq4
  have s12 : w1.heap.size ≤ w2.heap.size := H2.out.2.2.1
  refine ⟨⟨_, rfl⟩, v4, ys.take n, hq4.mono (fun k hk => ?_), pop_end xs ys L n a HN.out H.out.2.2 hperm hheap hkeep, hB4, ?_⟩
  · rcases hk with (h | h) | h
    · exact .inl h
    · exact .inr (by omega)
    · exact .inr (by omega)
  · refine ((((Kept.of_below hb1 _).then_ H2.out.2.2 (fun k hk => .inl (.inl hk))).then_ hK3 (fun k hk => ?_)).then_ hK4 (fun k hk => .inl (.inr hk)))
    rcases hk with h | h
    · exact .inl (.inl h)
    · exact .inr (by omega)
end Go.Proofs.Ytigoebmmkdhclaa.Pq
