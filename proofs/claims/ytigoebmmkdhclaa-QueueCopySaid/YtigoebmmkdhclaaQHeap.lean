/- Heaps of pairs of whole numbers, as container/heap makes them: plain mathematics, no program. -/
import Derived.Test.YtigoebmmkdhclaaPq0
namespace Go.Proofs.Ytigoebmmkdhclaa.QHeap
open Go.Proofs.Ytigoebmmkdhclaa.Pq

abbrev E := S48
def lt (a b : E) : Bool := decide (a.f0 < b.f0 ∨ (a.f0 = b.f0 ∧ a.f1 < b.f1))
def le (a b : E) : Prop := a.f0 < b.f0 ∨ (a.f0 = b.f0 ∧ a.f1 ≤ b.f1)
instance (a b : E) : Decidable (le a b) := by unfold le; infer_instance
theorem le_of_lt {a b : E} (h : lt a b = true) : le a b := by unfold lt at h; unfold le; have := of_decide_eq_true h; omega
theorem le_of_not_lt {a b : E} (h : lt a b = false) : le b a := by unfold lt at h; unfold le; have := of_decide_eq_false h; omega
theorem not_le_of_lt {a b : E} (h : lt a b = true) : ¬ le b a := by unfold lt at h; unfold le; have := of_decide_eq_true h; omega
theorem le_trans {a b c : E} (h : le a b) (k : le b c) : le a c := by unfold le at *; omega
theorem le_refl (a : E) : le a a := by unfold le; omega
theorem le_antisymm {a b : E} (h : le a b) (k : le b a) : a = b := by
  obtain ⟨a1, a2⟩ := a
  obtain ⟨b1, b2⟩ := b
  unfold le at *
  simp only [S48.mk.injEq]
  simp only at h k
  omega
theorem le_total (a b : E) : le a b ∨ le b a := by unfold le; omega

def g (xs : List E) (i : Nat) : E := xs.getD i z48
def swap (xs : List E) (i j : Nat) : List E := (xs.set i (g xs j)).set j (g xs i)
theorem swap_length (xs : List E) (i j : Nat) : (swap xs i j).length = xs.length := by simp [swap]
theorem g_set (xs : List E) (i k : Nat) (v : E) (h : i < xs.length) : g (xs.set i v) k = if k = i then v else g xs k := by
  unfold g
  rw [List.getD_eq_getElem?_getD, List.getD_eq_getElem?_getD, List.getElem?_set]
  by_cases e : i = k
  · subst e
    simp [h]
  · rw [if_neg e, if_neg (Ne.symm e)]
theorem g_swap (xs : List E) (i j k : Nat) (hi : i < xs.length) (hj : j < xs.length) : g (swap xs i j) k = if k = j then g xs i else if k = i then g xs j else g xs k := by
  unfold swap
  rw [g_set _ _ _ _ (by simpa using hj)]
  split
  · rfl
  · rw [g_set _ _ _ _ hi]
theorem swap_perm (xs : List E) (i j : Nat) (hi : i < xs.length) (hj : j < xs.length) : (swap xs i j).Perm xs := by
  have := List.set_set_perm hi hj
  unfold swap g
  rw [List.getD_eq_getElem?_getD, List.getD_eq_getElem?_getD, List.getElem?_eq_getElem hi, List.getElem?_eq_getElem hj]
  exact this

/-- A heap on the first n. -/
def HeapN (xs : List E) (n : Nat) : Prop := ∀ k, 0 < k → k < n → le (g xs ((k - 1) / 2)) (g xs k)
def Heap (xs : List E) : Prop := HeapN xs xs.length
def UpInv (xs : List E) (j : Nat) : Prop :=
  (∀ k, 0 < k → k < xs.length → k ≠ j → le (g xs ((k - 1) / 2)) (g xs k)) ∧
  (∀ k, 0 < k → k < xs.length → (k - 1) / 2 = j → 0 < j → le (g xs ((j - 1) / 2)) (g xs k))

theorem up_start (xs : List E) (x : E) (h : Heap xs) : UpInv (xs ++ [x]) xs.length := by
  have hg : ∀ k, k < xs.length → g (xs ++ [x]) k = g xs k := fun k hk => by
    unfold g
    rw [List.getD_eq_getElem?_getD, List.getD_eq_getElem?_getD, List.getElem?_append_left hk]
  refine ⟨fun k h0 h1 h2 => ?_, fun k h0 h1 h2 h3 => ?_⟩
  · have h1' : k < xs.length + 1 := by simpa using h1
    have hk : k < xs.length := by omega
    rw [hg k hk, hg _ (by omega)]
    exact h k h0 hk
  · have h1' : k < xs.length + 1 := by simpa using h1
    omega
theorem up_done (xs : List E) (j : Nat) (h : UpInv xs j) (hd : j = 0 ∨ lt (g xs j) (g xs ((j - 1) / 2)) = false) : Heap xs := by
  intro k h0 h1
  by_cases e : k = j
  · subst e
    rcases hd with rfl | hd
    · omega
    · exact le_of_not_lt hd
  · exact h.1 k h0 h1 e
theorem up_step (xs : List E) (j : Nat) (h : UpInv xs j) (hj : j < xs.length) (h0 : 0 < j) (hl : lt (g xs j) (g xs ((j - 1) / 2)) = true) : UpInv (swap xs ((j - 1) / 2) j) ((j - 1) / 2) := by
  have hp : (j - 1) / 2 < j := by omega
  have hG : ∀ k, g (swap xs ((j - 1) / 2) j) k = if k = j then g xs ((j - 1) / 2) else if k = (j - 1) / 2 then g xs j else g xs k := fun k => g_swap xs _ _ k (by omega) hj
  refine ⟨fun k k0 k1 k2 => ?_, fun k k0 k1 k2 k3 => ?_⟩
  · rw [swap_length] at k1
    rw [hG, hG]
    by_cases e : k = j
    · subst e
      rw [if_neg (by omega), if_pos rfl, if_pos rfl]
      exact le_of_lt hl
    · rw [if_neg e, if_neg k2]
      by_cases e1 : (k - 1) / 2 = j
      · rw [if_pos e1]
        exact h.2 k k0 k1 e1 h0
      · rw [if_neg e1]
        by_cases e2 : (k - 1) / 2 = (j - 1) / 2
        · rw [if_pos e2]
          have := h.1 k k0 k1 e
          rw [e2] at this
          exact le_trans (le_of_lt hl) this
        · rw [if_neg e2]
          exact h.1 k k0 k1 e
  · rw [swap_length] at k1
    rw [hG, hG]
    rw [if_neg (show ((j - 1) / 2 - 1) / 2 ≠ j by omega), if_neg (show ((j - 1) / 2 - 1) / 2 ≠ (j - 1) / 2 by omega)]
    have hpp := h.1 ((j - 1) / 2) k3 (by omega) (by omega)
    by_cases e : k = j
    · rw [if_pos e]
      exact hpp
    · rw [if_neg e, if_neg (by omega)]
      have := h.1 k k0 k1 e
      rw [k2] at this
      exact le_trans hpp this

def DownInv (xs : List E) (i n : Nat) : Prop :=
  (∀ k, 0 < k → k < n → (k - 1) / 2 ≠ i → le (g xs ((k - 1) / 2)) (g xs k)) ∧
  (∀ k, 0 < k → k < n → (k - 1) / 2 = i → 0 < i → le (g xs ((i - 1) / 2)) (g xs k))
/-- j is the lesser child of i. -/
def Child (xs : List E) (i j n : Nat) : Prop := (j - 1) / 2 = i ∧ 0 < j ∧ j < n ∧ ∀ k, 0 < k → k < n → (k - 1) / 2 = i → le (g xs j) (g xs k)
theorem child_left (xs : List E) (i n : Nat) (h : 2 * i + 1 < n) (h2 : ¬ (2 * i + 2 < n ∧ lt (g xs (2 * i + 2)) (g xs (2 * i + 1)) = true)) : Child xs i (2 * i + 1) n := by
  refine ⟨by omega, by omega, h, fun k k0 k1 k2 => ?_⟩
  have : k = 2 * i + 1 ∨ k = 2 * i + 2 := by omega
  rcases this with rfl | rfl
  · exact le_refl _
  · cases hb : lt (g xs (2 * i + 2)) (g xs (2 * i + 1)) with
    | true => exact absurd ⟨k1, hb⟩ h2
    | false => exact le_of_not_lt hb
theorem child_right (xs : List E) (i n : Nat) (h : 2 * i + 2 < n) (h2 : lt (g xs (2 * i + 2)) (g xs (2 * i + 1)) = true) : Child xs i (2 * i + 2) n := by
  refine ⟨by omega, by omega, h, fun k k0 k1 k2 => ?_⟩
  have : k = 2 * i + 1 ∨ k = 2 * i + 2 := by omega
  rcases this with rfl | rfl
  · exact le_of_lt h2
  · exact le_refl _
theorem down_none (xs : List E) (i n : Nat) (h : DownInv xs i n) (hd : n ≤ 2 * i + 1) : HeapN xs n := fun k k0 k1 => h.1 k k0 k1 (by omega)
theorem down_done (xs : List E) (i j n : Nat) (h : DownInv xs i n) (hc : Child xs i j n) (hl : lt (g xs j) (g xs i) = false) : HeapN xs n := by
  intro k k0 k1
  by_cases e : (k - 1) / 2 = i
  · rw [e]
    exact le_trans (le_of_not_lt hl) (hc.2.2.2 k k0 k1 e)
  · exact h.1 k k0 k1 e
theorem down_step (xs : List E) (i j n : Nat) (h : DownInv xs i n) (hc : Child xs i j n) (hn : n ≤ xs.length) (hl : lt (g xs j) (g xs i) = true) : DownInv (swap xs i j) j n := by
  obtain ⟨c1, c2, c3, c4⟩ := hc
  have hG : ∀ k, g (swap xs i j) k = if k = j then g xs i else if k = i then g xs j else g xs k := fun k => g_swap xs _ _ k (by omega) (by omega)
  refine ⟨fun k k0 k1 k2 => ?_, fun k k0 k1 k2 k3 => ?_⟩
  · rw [hG, hG, if_neg k2]
    by_cases e : (k - 1) / 2 = i
    · rw [if_pos e]
      by_cases e1 : k = j
      · rw [if_pos e1]
        exact le_of_lt hl
      · rw [if_neg e1, if_neg (by omega)]
        exact c4 k k0 k1 e
    · rw [if_neg e]
      by_cases e1 : k = j
      · omega
      · rw [if_neg e1]
        by_cases e2 : k = i
        · rw [if_pos e2]
          subst e2
          exact h.2 j c2 c3 c1 (by omega)
        · rw [if_neg e2]
          exact h.1 k k0 k1 e
  · rw [hG, hG, c1]
    rw [if_neg (show i ≠ j by omega), if_pos rfl, if_neg (show k ≠ j by omega), if_neg (show k ≠ i by omega)]
    have := h.1 k k0 k1 (by omega)
    rw [k2] at this
    exact this
theorem down_keeps (xs : List E) (i j k : Nat) (hi : i < xs.length) (hj : j < xs.length) (h1 : k ≠ i) (h2 : k ≠ j) : g (swap xs i j) k = g xs k := by
  rw [g_swap xs i j k hi hj, if_neg h2, if_neg h1]
theorem heap_min (xs : List E) (n : Nat) (h : HeapN xs n) : ∀ k, k < n → le (g xs 0) (g xs k) := by
  intro k
  induction k using Nat.strongRecOn with
  | _ k ih =>
    intro hk
    by_cases e : k = 0
    · subst e
      exact le_refl _
    · exact le_trans (ih ((k - 1) / 2) (by omega) (by omega)) (h k (by omega) hk)

/-! sorted rows -/
def Sorted (L : List E) : Prop := L.Pairwise le
def ins (x : E) : List E → List E
  | [] => [x]
  | y :: L => if le y x then y :: ins x L else x :: y :: L
theorem ins_perm (x : E) (L : List E) : (ins x L).Perm (x :: L) := by
  induction L with
  | nil => exact List.Perm.refl _
  | cons y L ih =>
    unfold ins
    split
    · exact (List.Perm.cons y ih).trans (List.Perm.swap x y L)
    · exact List.Perm.refl _
theorem ins_length (x : E) (L : List E) : (ins x L).length = L.length + 1 := by simpa using (ins_perm x L).length_eq
theorem ins_sorted (x : E) (L : List E) (h : Sorted L) : Sorted (ins x L) := by
  induction L with
  | nil => exact List.pairwise_singleton _ _
  | cons y L ih =>
    have hy := List.pairwise_cons.1 h
    unfold ins
    split
    · rename_i hle
      refine List.pairwise_cons.2 ⟨fun z hz => ?_, ih hy.2⟩
      have : z = x ∨ z ∈ L := by simpa using (ins_perm x L).mem_iff.1 hz
      rcases this with rfl | hz
      · exact hle
      · exact hy.1 z hz
    · rename_i hle
      have hxy : le x y := (le_total x y).resolve_right hle
      refine List.pairwise_cons.2 ⟨fun z hz => ?_, h⟩
      rcases List.mem_cons.1 hz with rfl | hz
      · exact hxy
      · exact le_trans hxy (hy.1 z hz)
theorem sorted_unique : ∀ (A B : List E), Sorted A → Sorted B → A.Perm B → A = B
  | [], B, _, _, h => by simpa using h.symm.eq_nil
  | a :: A, [], _, _, h => by simpa using h.eq_nil
  | a :: A, b :: B, ha, hb, h => by
    have ha' := List.pairwise_cons.1 ha
    have hb' := List.pairwise_cons.1 hb
    have h1 : le a b := by
      have : b ∈ a :: A := h.mem_iff.2 List.mem_cons_self
      rcases List.mem_cons.1 this with rfl | hm
      · exact le_refl _
      · exact ha'.1 b hm
    have h2 : le b a := by
      have : a ∈ b :: B := h.mem_iff.1 List.mem_cons_self
      rcases List.mem_cons.1 this with rfl | hm
      · exact le_refl _
      · exact hb'.1 a hm
    have e := le_antisymm h1 h2
    subst e
    rw [sorted_unique A B ha'.2 hb'.2 ((List.perm_cons a).1 h)]

/-- What a queue's row xs stands for: the sorted row L. -/
structure Rep (xs L : List E) : Prop where
  heap : Heap xs
  perm : xs.Perm L
  sorted : Sorted L
theorem Rep.nil : Rep [] [] := ⟨fun k _ h => by simp at h, List.Perm.refl _, List.Pairwise.nil⟩
theorem Rep.length {xs L : List E} (h : Rep xs L) : xs.length = L.length := h.perm.length_eq
theorem Rep.push {xs ys L : List E} {x : E} (h : Rep xs L) (hp : ys.Perm (xs ++ [x])) (hh : Heap ys) : Rep ys (ins x L) :=
  ⟨hh, (hp.trans ((List.perm_append_comm).trans (List.Perm.cons x h.perm))).trans (ins_perm x L).symm, ins_sorted x L h.sorted⟩
theorem Rep.head {xs L : List E} (h : Rep xs L) (h0 : 0 < xs.length) : ∃ L', L = g xs 0 :: L' := by
  cases L with
  | nil => have := h.length; rw [List.length_nil] at this; omega
  | cons a L' =>
    refine ⟨L', ?_⟩
    have ha := List.pairwise_cons.1 h.sorted
    have hm0 : g xs 0 ∈ xs := by unfold g; rw [List.getD_eq_getElem?_getD, List.getElem?_eq_getElem h0]; exact List.getElem_mem h0
    have h1 : le a (g xs 0) := by
      have : g xs 0 ∈ a :: L' := h.perm.mem_iff.1 hm0
      rcases List.mem_cons.1 this with e | hm
      · rw [e]; exact le_refl _
      · exact ha.1 _ hm
    have h2 : le (g xs 0) a := by
      have : a ∈ xs := h.perm.mem_iff.2 List.mem_cons_self
      obtain ⟨k, hk, e⟩ := List.getElem_of_mem this
      have := heap_min xs xs.length h.heap k hk
      have eg : g xs k = a := by unfold g; rw [List.getD_eq_getElem?_getD, List.getElem?_eq_getElem hk]; exact e
      rw [eg] at this
      exact this
    rw [le_antisymm h1 h2]
theorem Rep.pop {xs ys L : List E} {a : E} (h : Rep xs (a :: L)) (hp : (a :: ys).Perm xs) (hh : Heap ys) : Rep ys L :=
  ⟨hh, (List.perm_cons a).1 (hp.trans h.perm), (List.pairwise_cons.1 h.sorted).2⟩
end Go.Proofs.Ytigoebmmkdhclaa.QHeap
