/- Walks and plain laws on the way to the law PackSealedOne: several texts of this workplace and of the kit's printer, merged; what is not used is struck, by a program. No condition. -/
import Derived.Test.YtaiglhfmmdajdaaMPackSealedOne2
import Derived.Test.YtaiglhfmmdajdaaMPackSealedOne4
import Derived.Test.YtaiglhfmmdajdaaMPackSealedOne3
import Derived.Test.YtaiglhfmmdajdaaMPackSealedOne0
import Derived.Lib.EndianBits
import Derived.Lib.Hide
import Derived.Lib.Varint
import Derived.Test.YtaiglhfmmdajdaaMPackSealedOne1
section
namespace Go.Proofs.Ytaiglhfmmdajdaa.Pm
open Go.RowKit Go.Proofs.YtaiglhfmmdajdaaW.PrintWords Go.Proofs.YtaiglhfmmdajdaaW.PrintLast Go.Proofs.YtaiglhfmmdajdaaW.PrintMore
attribute [local go_sem] max2_int min2_int max_two min_two max_three min_three max_four min_four   -- for this text's walks alone
set_option linter.unusedVariables false
set_option linter.unusedSimpArgs false
theorem rd_in (l : List (S48)) (i : Nat) (h : i < l.length) : q89 l (i : Int) = l[i] := by simp [q89, List.getD_eq_getElem?_getD, List.getElem?_eq_getElem h]
theorem rd_getD (l : List (S48)) (i : Nat) : q89 l (i : Int) = l.getD i z48 := rfl
theorem placeI_congr (l : List (S48)) (a b : ByteArray) (h : a.toList = b.toList) : q85 l a = q85 l b := by
 unfold q85
 have : q48.p a = q48.p b := by funext x; unfold q48.p; rw [h]
 rw [this]
theorem placeI_at (l : List (S48)) (id : ByteArray) (p : Nat) (h : q85 l id = p) : p < l.length ∧ (nmA l p).toList = id.toList := by
  unfold q85 fidx at h
  cases e : l.findIdx? (q48.p id) with
  | none => rw [e] at h; simp only at h; omega
  | some q =>
    rw [e] at h
    simp only at h
    obtain rfl : q = p := by omega
    obtain ⟨hq, hp, _⟩ := List.findIdx?_eq_some_iff_getElem.1 e
    refine ⟨hq, ?_⟩
    unfold nmA
    rw [rd_in l q hq]
    unfold q48.p at hp
    simpa using hp
theorem placeI_self (l : List (S48)) (i : Nat) (hi : i < l.length) : decide (q85 l (nmA l i) = i) = !memB ((l.map (·.f0)).take i) (rdOf ByteArray.empty (l.map (·.f0)) (i : Int)) := by
  have hr : rdOf ByteArray.empty (l.map (·.f0)) (i : Int) = nmA l i := by
    rw [rdOf_get _ _ _ (by simpa using hi)]
    unfold nmA
    rw [rd_in l i hi]; simp
  rw [hr]
  cases hm : memB ((l.map (·.f0)).take i) (nmA l i) with
  | false =>
    have : q85 l (nmA l i) = i := by
      unfold q85
      refine fidx_hit _ l i z48 hi ?_ (fun j hj => ?_)
      · rw [← rd_getD]; unfold q48.p; simp
      · unfold memB at hm
        rw [List.any_eq_false] at hm
        have hjl : j < l.length := by omega
        have hmem : l[j].f0 ∈ (l.map (·.f0)).take i := by
          rw [List.mem_take_iff_getElem]
          exact ⟨j, by rw [List.length_map]; omega, by simp⟩
        have := hm _ hmem
        rw [← rd_getD, rd_in l j hjl]
        unfold q48.p
        have hne : (nmA l i).toList ≠ l[j].f0.toList := by simpa using this
        simpa using Ne.symm hne
    rw [this]; simp
  | true =>
    unfold memB at hm
    obtain ⟨x, hx, he⟩ := List.any_eq_true.1 hm
    obtain ⟨j, hj, hjx⟩ := List.mem_take_iff_getElem.1 hx
    rw [List.length_map] at hj
    have hjl : j < l.length := by omega
    have : q85 l (nmA l i) ≠ i := by
      intro h
      unfold q85 fidx at h
      cases e : l.findIdx? (q48.p (nmA l i)) with
      | none => rw [e] at h; simp only at h; omega
      | some q =>
        rw [e] at h
        simp only at h
        obtain ⟨_, _, hno⟩ := List.findIdx?_eq_some_iff_getElem.1 e
        have := hno j (by omega)
        apply this
        unfold q48.p
        have hx2 : x = l[j].f0 := by rw [← hjx]; simp
        have he2 : (nmA l i).toList = x.toList := by simpa using he
        rw [hx2] at he2
        simp [he2]
    simp [this]
inductive Pth (l : List (S48)) : Nat → List ByteArray → Prop
 | root : Pth l 0 [nmA l 0]
 | kid (p i : Nat) (st : List ByteArray) : Pth l p st → q85 l (paA l i) = p → p < i → Pth l i (st ++ [nmA l i])
theorem Pth.len {l : List (S48)} {i : Nat} {st : List ByteArray} (h : Pth l i st) : st.length ≤ i + 1 ∧ 0 < st.length := by
 induction h with
 | root => simp
 | kid p i st hp e hlt ih => simp only [List.length_append, List.length_singleton]; omega
theorem Pth.head {l : List (S48)} {i : Nat} {st : List ByteArray} (h : Pth l i st) : ∀ m, 0 < m → m ≤ st.length → ∃ q, q ≤ i ∧ Pth l q (st.take m) ∧ st[m-1]? = some (nmA l q) := by
  induction h with
  | root =>
    intro m h0 hm
    simp only [List.length_singleton] at hm
    obtain rfl : m = 1 := by omega
    exact ⟨0, Nat.le_refl _, Pth.root, rfl⟩
  | kid p i st hp e hlt ih =>
    intro m h0 hm
    simp only [List.length_append, List.length_singleton] at hm
    by_cases hq : m ≤ st.length
    · obtain ⟨q, hq1, hq2, hq3⟩ := ih m h0 hq
      refine ⟨q, by omega, ?_, ?_⟩
      · rw [List.take_append_of_le_length hq]; exact hq2
      · rw [List.getElem?_append_left (by omega)]; exact hq3
    · obtain rfl : m = st.length + 1 := by omega
      refine ⟨i, Nat.le_refl _, ?_, ?_⟩
      · rw [List.take_of_length_le (by simp)]
        exact Pth.kid p i st hp e hlt
      · simp
theorem Pth.wn {l : List (S48)} (h0 : q85 l (paA l 0) = -1) (id : ByteArray) {i : Nat} {st : List ByteArray} (h : Pth l i st) : ∀ d, st.length ≤ d → wnF l id d i = st.any (idxP id) := by
  induction h with
  | root =>
    intro d hd
    simp only [List.length_singleton] at hd
    obtain ⟨d, rfl⟩ : ∃ m, d = m + 1 := ⟨d - 1, by omega⟩
    unfold wnF
    rw [if_pos (by omega)]
    by_cases he : (nmA l 0).toList = id.toList
    · rw [if_pos (by exact he)]
      simp [idxP, he]
    · rw [if_neg (by exact he), show ((0 : Nat) : Int) = 0 from rfl, h0]
      have : wnF l id d (-1) = false := by cases d <;> simp [wnF]
      rw [this]
      simp [idxP, Ne.symm he]
  | kid p i st hp e hlt ih =>
    intro d hd
    simp only [List.length_append, List.length_singleton] at hd
    obtain ⟨d, rfl⟩ : ∃ m, d = m + 1 := ⟨d - 1, by omega⟩
    unfold wnF
    rw [if_pos (by omega), List.any_append]
    by_cases he : (nmA l i).toList = id.toList
    · rw [if_pos (by exact he)]
      simp [idxP, he]
    · rw [if_neg (by exact he), e, ih d (by omega)]
      simp [idxP, Ne.symm he]
theorem Pth.dp {l : List (S48)} {i : Nat} {st : List ByteArray} (h : Pth l i st) : ∀ d (c : Int), st.length ≤ d → dpF l d i c = c + st.length - 1 := by
  induction h with
  | root =>
    intro d c hd
    simp only [List.length_singleton] at hd
    obtain ⟨d, rfl⟩ : ∃ m, d = m + 1 := ⟨d - 1, by omega⟩
    simp [dpF]
  | kid p i st hp e hlt ih =>
    intro d c hd
    simp only [List.length_append, List.length_singleton] at hd ⊢
    obtain ⟨d, rfl⟩ : ∃ m, d = m + 1 := ⟨d - 1, by omega⟩
    unfold dpF
    rw [if_pos (by omega), e, ih d _ (by omega)]
    omega
theorem stk_places (l : List (S48)) (hD : ∀ i : Nat, i < l.length → q85 l (nmA l i) = i ∧ (nmA l i).toList ≠ []) (h0 : (paA l 0).toList = []) : ∀ i : Nat, i < l.length → (match stk l (i + 1) with | some st => Pth l i st ∧ ∀ q, q ≤ i → 0 < q → rplace l q = true | none => ∃ q, q ≤ i ∧ 0 < q ∧ rplace l q = false) := by
  have hroot : q85 l (paA l 0) = -1 := by
    unfold q85
    refine fidx_miss _ l z48 (fun j hj => ?_)
    rw [← rd_getD]
    unfold q48.p
    have := (hD j hj).2
    rw [h0]
    simpa using this
  intro i
  induction i with
  | zero =>
    intro hi
    have : stk l (0 + 1) = some [nmA l 0] := by simp [stk, stkStep]
    rw [this]
    exact ⟨Pth.root, fun q h1 h2 => by omega⟩
  | succ i ih =>
    intro hi
    have hi' := ih (by omega)
    have hstk : stk l (i + 1 + 1) = (stk l (i + 1)).bind (stkStep l (i + 1)) := rfl
    rw [hstk]
    cases hs : stk l (i + 1) with
    | none =>
      rw [hs] at hi'
      obtain ⟨q, h1, h2, h3⟩ := hi'
      exact ⟨q, by omega, h2, h3⟩
    | some st =>
      rw [hs] at hi'
      obtain ⟨hp, hall⟩ := hi'
      rw [Option.bind_some]
      obtain ⟨a, ha⟩ : ∃ a, a = paA l ((i + 1 : Nat) : Int) := ⟨_, rfl⟩
      have hlen := hp.len
      have hwn : wnF l a (l.length + 1) ((i + 1 : Nat) - 1) = st.any (idxP a) := by
        have := hp.wn hroot a (l.length + 1) (by omega)
        rw [show (((i + 1 : Nat) : Int) - 1) = (i : Int) by omega]
        exact this
      have hrp : rplace l (i + 1) = (!decide (a.toList = []) && (decide (0 ≤ q85 l a ∧ q85 l a < ((i + 1 : Nat) : Int) ∧ kdA l (q85 l a) = 1) && (wnF l a (l.length + 1) (((i + 1 : Nat) : Int) - 1) && decide (1 ≤ dpF l (l.length + 1) ((i + 1 : Nat) : Int) 0 ∧ dpF l (l.length + 1) ((i + 1 : Nat) : Int) 0 ≤ 5)))) := by
        unfold rplace
        rw [if_neg (by omega), ha]
      rw [hwn] at hrp
      have hst : stkStep l (i + 1) st = if (st.take (fidx (idxP a) st + 1).toNat).length = 0 ∨ 5 < (st.take (fidx (idxP a) st + 1).toNat).length ∨ kdA l (q85 l a) ≠ 1 then none else some (st.take (fidx (idxP a) st + 1).toNat ++ [nmA l ((i + 1 : Nat) : Int)]) := by
        unfold stkStep
        rw [if_neg (by omega), ha]
      rw [hst]
      have hfl := fidx_lt (idxP a) st
      have hfa := fidx_any (idxP a) st
      by_cases hin : st.any (idxP a) = true
      case neg =>
        have hin2 : st.any (idxP a) = false := by simpa using hin
        have hneg : fidx (idxP a) st = -1 := fidx_neg _ _ (by rw [hin2] at hfa; have := of_decide_eq_false hfa; omega)
        rw [hneg, if_pos (Or.inl (by simp))]
        refine ⟨i + 1, Nat.le_refl _, by omega, ?_⟩
        rw [hrp, hin2]; simp
      rw [hin] at hrp hfa
      have hge : fidx (idxP a) st ≥ 0 := of_decide_eq_true hfa
      obtain ⟨m, hm⟩ : ∃ m : Nat, fidx (idxP a) st = m := ⟨(fidx (idxP a) st).toNat, by omega⟩
      rw [hm] at hfl ⊢
      rw [show ((m : Int) + 1).toNat = m + 1 by omega]
      obtain ⟨q, hq1, hq2, hq3⟩ := hp.head (m + 1) (by omega) (by omega)
      have hna : (nmA l q).toList = a.toList := by
        unfold fidx at hm
        cases e : st.findIdx? (idxP a) with
        | none => rw [e] at hm; simp only at hm; omega
        | some j =>
          rw [e] at hm
          simp only at hm
          obtain rfl : j = m := by omega
          obtain ⟨hj, hpj, _⟩ := List.findIdx?_eq_some_iff_getElem.1 e
          have : st[j] = nmA l q := by
            have h := hq3
            rw [show j + 1 - 1 = j by omega, List.getElem?_eq_getElem hj] at h
            exact Option.some.inj h
          unfold idxP at hpj
          rw [this] at hpj
          exact (by simpa using hpj : a.toList = (nmA l q).toList).symm
      have hpq : q85 l a = q := by rw [← placeI_congr l _ _ hna]; exact (hD q (by omega)).1
      have hne : ¬ a.toList = [] := by rw [← hna]; exact (hD q (by omega)).2
      have hpi : q85 l (paA l ((i + 1 : Nat) : Int)) = q := by rw [← ha]; exact hpq
      have hk := Pth.kid q (i + 1) _ hq2 hpi (by omega)
      have htl : (st.take (m + 1)).length = m + 1 := by rw [List.length_take]; omega
      have hd := hk.dp (l.length + 1) 0 (by rw [List.length_append, htl, List.length_singleton]; omega)
      rw [List.length_append, htl, List.length_singleton] at hd
      rw [hd, decide_eq_false hne, hpq] at hrp
      rw [htl, hpq]
      by_cases hc : (m + 1 = 0 ∨ 5 < m + 1 ∨ kdA l q ≠ 1)
      · rw [if_pos hc]
        refine ⟨i + 1, Nat.le_refl _, by omega, ?_⟩
        rw [hrp]
        rcases hc with hc | hc | hc
        · omega
        · rw [decide_eq_false (p := (1 ≤ (0 : Int) + ((m + 1 + 1 : Nat) : Int) - 1 ∧ _)) (by omega)]; simp
        · simp [hc]
      · rw [if_neg hc]
        have hk1 : kdA l q = 1 := by
          by_cases h : kdA l q = 1
          · exact h
          · exact absurd (Or.inr (Or.inr h)) hc
        refine ⟨hk, fun r hr h0 => ?_⟩
        by_cases e : r = i + 1
        · rw [e, hrp, decide_eq_true (p := 0 ≤ (q : Int) ∧ _) ⟨by omega, by omega, hk1⟩, decide_eq_true (p := (1 ≤ (0 : Int) + ((m + 1 + 1 : Nat) : Int) - 1 ∧ _)) (by omega)]
          rfl
        · exact hall r (by omega) h0
theorem stands_places (l : List (S48)) (hn : 0 < l.length) (hD : ∀ i : Nat, i < l.length → q85 l (nmA l i) = i ∧ (nmA l i).toList ≠ []) (h0 : (paA l 0).toList = []) : standsB l = true ↔ ∀ q, q < l.length → 0 < q → rplace l q = true := by
  have h := stk_places l hD h0 (l.length - 1) (by omega)
  rw [show l.length - 1 + 1 = l.length by omega] at h
  unfold standsB
  cases hs : stk l l.length with
  | none =>
    rw [hs] at h
    obtain ⟨q, h1, h2, h3⟩ := h
    constructor
    · intro h; simp at h
    · intro h
      rw [h q (by omega) h2] at h3
      simp at h3
  | some st =>
    rw [hs] at h
    constructor
    · intro _ q hq h0; exact h.2 q (by omega) h0
    · intro _; rfl
theorem nameB_ne (s : ByteArray) (h : nameB s = true) : s.toList ≠ [] := by
 unfold nameB at h
 simp only [Bool.and_eq_true, decide_eq_true_eq] at h
 intro he
 have := empty_size s
 rw [he] at this
 have h2 := of_decide_eq_true (this.symm.trans rfl)
 omega
theorem names_at (l : List (S48)) (i : Nat) (hi : i < l.length) : nameOk (l.map (·.f0)) i = (nameB (nmA l i) && decide (q85 l (nmA l i) = i)) := by
 unfold nameOk
 rw [placeI_self l i hi]
 have hr : rdOf ByteArray.empty (l.map (·.f0)) (i : Int) = nmA l i := by
  rw [rdOf_get _ _ _ (by simpa using hi)]
  unfold nmA
  rw [rd_in l i hi]; simp
 rw [hr]
theorem all_range {l : List (S48)} (p : S48 → Bool) : l.all p = true ↔ ∀ i : Nat, i < l.length → p (q89 l i) = true := by
 rw [List.all_eq_true]
 constructor
 ·intro h i hi; rw [rd_in l i hi]; exact h _ (List.getElem_mem hi)
 ·intro h x hx
  obtain ⟨i, hi, rfl⟩ := List.getElem_of_mem hx
  rw [← rd_in l i hi]; exact h i hi
theorem itemB_eq (fs : List ByteArray) (l : List (S48)) (x : S48) : itemB fs l x.f1 x.f3 x.f4 x.f5 x.f6 = (rown x && (sentsB fs l x.f5 && sentsB fs l x.f6)) := by
 unfold itemB rown
 by_cases h1 : 1 ≤ x.f1 ∧ x.f1 ≤ 5
 ·have h4 : decide (x.f1 = 4 ∨ x.f1 = 5) = decide (x.f1 ≥ 4) := by rw [decide_eq_decide]; omega
  rw [h4]
  generalize decide (x.f1 ≥ 4) = A
  generalize sentsB fs l x.f5 = B
  generalize sentsB fs l x.f6 = C
  generalize (if x.f1 = 5 then decide (1 ≤ x.f4 ∧ x.f4 ≤ 100) else decide (x.f4 = 0)) = D
  generalize decide (1 ≤ x.f1 ∧ x.f1 ≤ 5) = E
  generalize (x.f3 || decide (0 < x.f5.length)) = F
  cases A <;> cases B <;> cases C <;> cases D <;> cases E <;> cases F <;> rfl
 ·rw [decide_eq_false h1]; simp
theorem ris_eq (fs : List ByteArray) (l : List (S48)) : risB fs l = isB fs l := by
 unfold risB isB
 by_cases hb : fs.length ≤ 6 ∧ 1 ≤ l.length ∧ l.length ≤ 16
 case neg => rw [decide_eq_false hb]; simp
 rw [decide_eq_true hb, Bool.true_and, Bool.true_and]
 congr 1
 rw [Bool.eq_iff_iff]
 have hR : rplace l 0 = planB (q89 l 0).f1 (q89 l 0).f2 (q89 l 0).f3 (q89 l 0).f5.length (q89 l 0).f6.length := rfl
 have hn : namesB (l.map (·.f0)) = true ↔ ∀ i : Nat, i < l.length → nameB (nmA l i) = true ∧ q85 l (nmA l i) = i := by
  unfold namesB
  rw [List.all_eq_true]
  constructor
  ·intro h i hi
   have := h i (List.mem_range.2 (by simpa using hi))
   rw [names_at l i hi] at this
   simpa using this
  ·intro h i hi
   have hi' : i < l.length := by simpa using List.mem_range.1 hi
   rw [names_at l i hi']
   simpa using h i hi'
 rw [← hR]
 have hany : (!l.any fun x => !itemB fs l x.f1 x.f3 x.f4 x.f5 x.f6) = l.all (fun x => rown x && (sentsB fs l x.f5 && sentsB fs l x.f6)) := by
  rw [List.not_any_eq_all_not]
  congr 1
  funext x
  rw [Bool.not_not, itemB_eq]
 rw [hany]
 have h0 : rplace l 0 = true → (paA l 0).toList = [] := by
  intro h
  rw [hR] at h
  unfold planB at h
  simp only [Bool.and_eq_true, decide_eq_true_eq] at h
  exact h.2.1
 constructor
 ·intro h
  rw [Bool.and_eq_true] at h
  obtain ⟨h1, h2⟩ := h
  have hi : ∀ i : Nat, i < l.length → nameB (nmA l i) = true ∧ q85 l (nmA l i) = i ∧ rown (q89 l i) = true ∧ rplace l i = true := by
   intro i hi
   have := List.all_eq_true.1 h1 i (List.mem_range.2 hi)
   unfold ritem at this
   simpa using this
  have hp0 := (hi 0 (by omega)).2.2.2
  rw [Bool.and_eq_true, Bool.and_eq_true, Bool.and_eq_true]
  refine ⟨hn.2 (fun i h => ⟨(hi i h).1, (hi i h).2.1⟩), hp0, (stands_places l (by omega) (fun i h => ⟨(hi i h).2.1, nameB_ne _ (hi i h).1⟩) (h0 hp0)).2 (fun q hq _ => (hi q hq).2.2.2), ?_⟩
  rw [all_range] at h2 ⊢
  intro i h
  rw [(hi i h).2.2.1, Bool.true_and]
  exact h2 i h
 ·intro h
  rw [Bool.and_eq_true, Bool.and_eq_true, Bool.and_eq_true] at h
  obtain ⟨h1, h2, h3, h4⟩ := h
  have hnm := hn.1 h1
  have hst := (stands_places l (by omega) (fun i h => ⟨(hnm i h).2, nameB_ne _ (hnm i h).1⟩) (h0 h2)).1 h3
  rw [all_range] at h4
  rw [Bool.and_eq_true]
  refine ⟨List.all_eq_true.2 (fun i hi => ?_), (all_range _).2 (fun i hi => ?_)⟩
  ·have hi := List.mem_range.1 hi
   have := h4 i hi
   rw [Bool.and_eq_true] at this
   unfold ritem
   rw [(hnm i hi).1, (hnm i hi).2, this.1, Bool.true_and, decide_eq_true rfl, Bool.true_and, Bool.true_and]
   by_cases e : i = 0
   ·rw [e]; exact h2
   ·exact hst i hi (by omega)
  ·have := h4 i hi
   rw [Bool.and_eq_true] at this
   exact this.2
theorem legal_parts (fs : List ByteArray) (l : List (S48)) (h : isB fs l = true) : (fs.length ≤ 6 ∧ 1 ≤ l.length ∧ l.length ≤ 16) ∧ namesB fs = true ∧ (∀ i : Nat, i < l.length → ritem l i = true) ∧ (∀ i : Nat, i < l.length → sentsB fs l (q89 l i).f5 = true ∧ sentsB fs l (q89 l i).f6 = true) := by
 rw [← ris_eq] at h
 unfold risB at h
 rw [Bool.and_eq_true, Bool.and_eq_true, Bool.and_eq_true, decide_eq_true_eq, all_range] at h
 obtain ⟨h1, h2, h3, h4⟩ := h
 refine ⟨h1, h2, fun i hi => List.all_eq_true.1 h3 i (List.mem_range.2 hi), fun i hi => ?_⟩
 have := h4 i hi
 rw [Bool.and_eq_true] at this
 exact this
theorem legal_facts (fs : List ByteArray) (l : List (S48)) (h : isB fs l = true) : fs.length ≤ 6 ∧ 1 ≤ l.length ∧ l.length ≤ 16 ∧ (∀ i : Nat, i < l.length → q85 l (nmA l i) = i ∧ (nmA l i).toList ≠ []) ∧ (paA l 0).toList = [] ∧ ∀ q : Nat, 0 < q → q < l.length → ∃ p : Nat, p < q ∧ q85 l (paA l q) = p ∧ (paA l q).toList ≠ [] ∧ kdA l p = 1 := by
 obtain ⟨⟨h1, h2, h3⟩, -, hi, -⟩ := legal_parts fs l h
 have hr : ∀ i : Nat, i < l.length → nameB (nmA l i) = true ∧ q85 l (nmA l i) = i ∧ rplace l i = true := by
  intro i hl
  have := hi i hl
  unfold ritem at this
  rw [Bool.and_eq_true, Bool.and_eq_true, Bool.and_eq_true, decide_eq_true_eq] at this
  exact ⟨this.1, this.2.1, this.2.2.2⟩
 refine ⟨h1, h2, h3, fun i hl => ⟨(hr i hl).2.1, nameB_ne _ (hr i hl).1⟩, ?_, fun q h0 hq => ?_⟩
 ·have := (hr 0 (by omega)).2.2
  rw [show rplace l 0 = planB (q89 l 0).f1 (q89 l 0).f2 (q89 l 0).f3 (q89 l 0).f5.length (q89 l 0).f6.length from rfl] at this
  unfold planB at this
  simp only [Bool.and_eq_true, decide_eq_true_eq] at this
  exact this.2.1
 ·have := (hr q hq).2.2
  unfold rplace at this
  rw [if_neg (by omega), Bool.and_eq_true, Bool.and_eq_true, decide_eq_true_eq, Bool.not_eq_true', decide_eq_false_iff_not] at this
  obtain ⟨e, ⟨a, b, c⟩, -⟩ := this
  obtain ⟨p, hp⟩ := Int.eq_ofNat_of_zero_le a
  rw [hp] at b c
  exact ⟨p, by omega, hp, e, c⟩
theorem fits_of (fs : List ByteArray) (l : List (S48)) (hf : fs.length ≤ 140737488351232) (hl : l.length ≤ 140737488351232) (hg : ∀ x ∈ l, goodItem x) : Fits fs l :=
 ⟨by omega, by omega, fun x hx => by
  obtain ⟨_, _, h5, h6, s5, s6⟩ := hg x hx
  exact ⟨⟨by omega, fun s hs => by obtain ⟨a, b⟩ := s5 s hs; constructor <;> omega⟩, ⟨by omega, fun s hs => by obtain ⟨a, b⟩ := s6 s hs; constructor <;> omega⟩⟩⟩
theorem and127 (n : Int) (h0 : 0 ≤ n) (h1 : n < 9223372036854775808) : Go.bits .and .i64 n 127 = n % 128 := by
 obtain ⟨a, rfl⟩ := Int.eq_ofNat_of_zero_le h0
 have hw : ∀ m : Int, 0 ≤ m → m < 2 ^ 63 → IntKind.i64.wrap m = m := fun m hm1 hm2 => by rw [IntKind.wrap_i64]; omega
 have h := (bits_nat .i64 63 (by decide) hw a 127 (by omega) (by decide)).1
 have e : ((127 : Nat) : Int) = 127 := rfl
 rw [e] at h
 have h2 : a &&& 127 = a % 128 := Nat.and_two_pow_sub_one_eq_mod a 7
 rw [h, h2]
 omega
theorem byteW_val (n : Int) : byteW n = n % 128 + 128 := by
 unfold byteW
 rw [Lib.u8_or128_any _ (by omega) (by omega)]
 omega
theorem byteL_val (n : Int) (h0 : 0 ≤ n) (h1 : n < 9223372036854775808) : (Go.bits .or .i64 (Go.bits .and .i64 n 127) 128) % 256 = n % 128 + 128 := by
 rw [and127 n h0 h1]
 have hw : ∀ m : Int, 0 ≤ m → m < 2 ^ 63 → IntKind.i64.wrap m = m := fun m hm1 hm2 => by rw [IntKind.wrap_i64]; omega
 rw [bits_join_low .i64 63 (by decide) hw 7 (n % 128) 128 (by omega) (by omega) (by omega) (by decide) (by decide) (by decide)]
 omega
theorem numL_numW (d : Nat) : ∀ (n : Int) (e : Nat), 0 ≤ n → n < 9223372036854775808 → n < (128 : Int) ^ d → 1 ≤ d → d ≤ e → numL e n = numW d n := by
  induction d with
  | zero => intro n e _ _ _ h; omega
  | succ d ih =>
    intro n e h0 h63 hn _ he
    obtain ⟨e, rfl⟩ : ∃ m, e = m + 1 := ⟨e - 1, by omega⟩
    simp only [numL, numW]
    by_cases h : n < 128
    · rw [if_pos h, if_neg (by omega)]
    · have hd : 1 ≤ d := by
        rcases Nat.eq_zero_or_pos d with rfl | h'
        · simp at hn; omega
        · exact h'
      have hn' : n / 128 < (128 : Int) ^ d := by
        rw [Int.pow_succ] at hn
        omega
      rw [if_neg h, if_pos (by omega), byteL_val n h0 h63, byteW_val, ih (n / 128) e (by omega) (by omega) hn' hd (by omega)]
      rfl
theorem numL11 (n : Int) (h0 : 0 ≤ n) (h63 : n < 9223372036854775808) : numL 11 n = numW 10 n := by
 have h : (128 : Int) ^ 10 = 1180591620717411303424 := by decide
 exact numL_numW 10 n 11 h0 h63 (by rw [h]; omega) (by decide) (by decide)
theorem ev_numW (n : Int) (h0 : 0 ≤ n) (h63 : n < 9223372036854775808) : Ev (fun k => q35.f k n) (numW 10 n) := by
 have h : (128 : Int) ^ 11 = 151115727451828646838272 := by decide
 rw [← numL11 n h0 h63]
 exact Ev.at 12 (fun k hk => num_eq 11 n k (by rw [h]; omega) (by decide) (by decide) (by omega))
theorem ev_signedW (x : Int) (h : -1000000 ≤ x ∧ x ≤ 1000000) : Ev (fun k => q15.f k x) (numW 10 (sgn x)) := by
 unfold sgn
 by_cases h0 : x < 0
 ·rw [if_pos h0]
  have hw1 : wrap64 (wrap64 (-2 * x) - 1) = -2 * x - 1 := by unfold wrap64; omega
  refine Ev.congr (f := fun k => (q35.f k (-2 * x - 1)).bind fun t => some t) (fun k => ?_) ((ev_numW (-2 * x - 1) (by omega) (by omega)).bind (Ev.now _))
  unfold q15.f
  rw [if_pos h0, hw1]
 ·rw [if_neg h0]
  have hw1 : wrap64 (2 * x) = 2 * x := by unfold wrap64; omega
  refine Ev.congr (f := fun k => (q35.f k (2 * x)).bind fun t => some t) (fun k => ?_) ((ev_numW (2 * x) (by omega) (by omega)).bind (Ev.now _))
  unfold q15.f
  rw [if_neg h0, hw1]
theorem evc {α : Type} {g : Nat → Option (List Int)} {t : List Int} {next : Nat → List Int → Option α} {r : α} (pre : List Int) (hg : Ev g t) (hl : pre.length + t.length < 140737488355328) (hn : Ev (fun k => next k (pre ++ t)) r) :
 Ev (fun k => (g k).bind fun t => if pre.length + t.length < 140737488355328 then (some (pre ++ t)).bind (next k) else none) r :=
 hg.bind (Ev.congr (fun k => if_pos hl) hn)
theorem ev_text6 (s : ByteArray) (h : s.size ≤ 1000) : q28.f s = some (textW s) := by
 unfold q28.f textW
 rw [if_pos (by omega), numL11 _ (by omega) (by omega)]
theorem rop_fidx (s : ByteArray) (l : List ByteArray) (hn : l.length ≤ 9223372036854775807) (d : Nat) : ∀ (i k : Nat), i + d = l.length → d < k → q39.l0 k s l i = some (match (l.drop i).findIdx? (fun x => s.toList == x.toList) with | some j => ((i + j : Nat) : Int) | none => -1) := by
  induction d with
  | zero =>
    intro i k hi hk
    obtain ⟨k, rfl⟩ : ∃ m, k = m + 1 := ⟨k - 1, by omega⟩
    simp only [q39.l0]
    rw [if_neg (by omega), List.drop_of_length_le (by omega)]
    rfl
  | succ d ih =>
    intro i k hi hk
    obtain ⟨k, rfl⟩ : ∃ m, k = m + 1 := ⟨k - 1, by omega⟩
    have hlt : i < l.length := by omega
    simp only [q39.l0]
    rw [if_pos (by omega), if_pos (by omega), rdOf_get _ _ _ hlt, List.drop_eq_getElem_cons hlt, List.findIdx?_cons]
    by_cases he : l[i].toList = s.toList
    · rw [if_pos he]
      rw [show (s.toList == l[i].toList) = true by simpa using he.symm]
      simp
    · rw [if_neg he, show (s.toList == l[i].toList) = false by simpa using fun h => he h.symm, wrap_lt (n := (l.length : Int)) (by omega) (by omega) (by omega)]
      have := ih (i + 1) k (by omega) (by omega)
      rw [show ((i : Int) + 1) = ((i + 1 : Nat) : Int) by omega, this]
      cases (List.drop (i + 1) l).findIdx? (fun x => s.toList == x.toList) with
      | none => rfl
      | some j => simp only [Option.map_some, Nat.add_assoc, Nat.add_comm 1 j]; rfl
theorem ev_op6 (s : ByteArray) : Ev (fun k => q39.f k s) (idxI opsL s) := Ev.at 7 (fun k hk => by
 unfold q39.f idxI fidx
 have := rop_fidx s opsL (by decide) 6 0 k (by decide) (by omega)
 have e : ((0 : Nat) : Int) = 0 := rfl
 rw [e] at this
 refine this.trans ?_
 rw [List.drop_zero]
 cases opsL.findIdx? (fun x => s.toList == x.toList) with
 | none => rfl
 | some j => simp)
theorem idxI_some (l : List ByteArray) (s : ByteArray) (h : memB l s = true) : ∃ q : Nat, q < l.length ∧ l.findIdx? (fun x => s.toList == x.toList) = some q ∧ idxI l s = q := by
  unfold memB at h
  cases hf : l.findIdx? (fun x => s.toList == x.toList) with
  | none =>
    rw [List.findIdx?_eq_none_iff] at hf
    obtain ⟨x, hx, hp⟩ := List.any_eq_true.1 h
    rw [hf x hx] at hp
    cases hp
  | some q =>
    obtain ⟨hq, _⟩ := List.findIdx?_eq_some_iff_getElem.1 hf
    exact ⟨q, hq, rfl, by unfold idxI fidx; rw [hf]⟩
theorem ev_file6 {R : List Int} (fs : List ByteArray) (items : List (S48)) (l : List (S54)) (acc : List Int) (i j : Int) (c : S50) (hn : fs.length ≤ 9223372036854775806) (d : Nat) : ∀ (t q : Nat), t + d = fs.length → (fs.drop t).findIdx? (fun x => c.f0.toList == x.toList) = some q →
    Ev (fun k => q14.j4 k l acc i j ((t + q : Nat) : Int) fs items c.f0 c.f1 c.f2) R → Ev (fun k => q14.l3 k l acc i j (t : Int) fs items c.f0 c.f1 c.f2) R := by
  induction d with
  | zero =>
    intro t q ht hq
    rw [List.drop_of_length_le (by omega)] at hq
    cases hq
  | succ d ih =>
    intro t q ht hq hR
    have hlt : t < fs.length := by omega
    rw [List.drop_eq_getElem_cons hlt, List.findIdx?_cons] at hq
    by_cases he : fs[t].toList = c.f0.toList
    · rw [show (c.f0.toList == fs[t].toList) = true by simpa using he.symm] at hq
      obtain rfl : 0 = q := by simpa using hq
      refine Ev.step (f := fun k => q14.j4 k l acc i j ((t + 0 : Nat) : Int) fs items c.f0 c.f1 c.f2) (fun k => ?_) hR
      simp only [q14.l3]
      rw [if_pos (by omega), if_pos (by omega), rdOf_get _ _ _ hlt, if_pos he]
      rfl
    · rw [show (c.f0.toList == fs[t].toList) = false by simpa using fun h => he h.symm] at hq
      obtain ⟨q', hq', rfl⟩ : ∃ q', (fs.drop (t + 1)).findIdx? (fun x => c.f0.toList == x.toList) = some q' ∧ q = q' + 1 := by
        cases hf : (fs.drop (t + 1)).findIdx? (fun x => c.f0.toList == x.toList) with
        | none => rw [hf] at hq; simp at hq
        | some q' => rw [hf] at hq; simp at hq; exact ⟨q', rfl, hq.symm⟩
      refine Ev.step (f := fun k => q14.l3 k l acc i j ((t + 1 : Nat) : Int) fs items c.f0 c.f1 c.f2) (fun k => ?_) (ih (t + 1) q' (by omega) hq' (by rw [show t + 1 + q' = t + (q' + 1) by omega]; exact hR))
      simp only [q14.l3]
      rw [if_pos (by omega), if_pos (by omega), rdOf_get _ _ _ hlt, if_neg he, wrap_lt (n := (fs.length : Int)) (by omega) (by omega) (by omega)]
      rfl
def sIn (fs : List ByteArray) (items : List (S48)) (s : S54) : Prop := sOk s ∧ (∀ x ∈ s.f0, 0 ≤ q85 items x.f0 ∧ 0 ≤ x.f1) ∧ ∀ c ∈ s.f1, memB fs c.f0 = true ∧ memB opsL c.f1 = true
theorem rd_c (l : List (S50)) (i : Nat) (h : i < l.length) : q90 l (i : Int) = l[i] := by simp [q90, List.getD_eq_getElem?_getD, List.getElem?_eq_getElem h]
theorem rd_o (l : List (S103)) (i : Nat) (h : i < l.length) : q87 l (i : Int) = l[i] := by simp [q87, List.getD_eq_getElem?_getD, List.getElem?_eq_getElem h]
theorem rd_s6 (l : List (S54)) (i : Nat) (h : i < l.length) : q91 l (i : Int) = l[i] := by simp [q91, List.getD_eq_getElem?_getD, List.getElem?_eq_getElem h]
theorem ev_ifs6 {R : List Int} (fs : List ByteArray) (items : List (S48)) (l : List (S54)) (i : Nat) (s : S54) (hil : i < l.length) (hsl : l[i] = s) (hs : sIn fs items s) (hn : fs.length ≤ 9223372036854775806) (hll : l.length ≤ 1000) (d : Nat) : ∀ (j : Nat) (acc : List Int), j + d = s.f1.length → acc.length + 30 * d ≤ 100000000000000 →
    Ev (fun k => q14.l0 k l (acc ++ (s.f1.drop j).flatMap (ifW fs)) ((i + 1 : Nat) : Int) fs items) R → Ev (fun k => q14.l2 k l acc (i : Int) (j : Int) fs items) R := by
  induction d with
  | zero =>
    intro j acc hj _ hR
    rw [List.drop_of_length_le (by omega)] at hR
    refine Ev.step (f := fun k => q14.l0 k l acc ((i + 1 : Nat) : Int) fs items) (fun k => ?_) (by simpa using hR)
    simp only [q14.l2]
    rw [if_pos (by omega), if_pos (by omega), rd_s6 _ _ hil, hsl, if_neg (by omega), wrap_lt (n := (l.length : Int)) (by omega) (by omega) (by omega)]
    rfl
  | succ d ih =>
    intro j acc hj hacc hR
    have hlt : j < s.f1.length := by have := hs.1.2.1; omega
    have h2 := hs.1.2.1
    obtain ⟨c, hc⟩ : ∃ c, c = s.f1[j] := ⟨_, rfl⟩
    have hcm : c ∈ s.f1 := by rw [hc]; exact List.getElem_mem _
    obtain ⟨hm, ho⟩ := hs.2.2 c hcm
    obtain ⟨q, hq, hqf, hqi⟩ := idxI_some fs c.f0 hm
    obtain ⟨q2, hq2, hqf2, hqi2⟩ := idxI_some opsL c.f1 ho
    rw [List.drop_eq_getElem_cons hlt, List.flatMap_cons, ← hc, ← List.append_assoc] at hR
    have hwl := ifW_le fs c
    have hnx := ih (j + 1) (acc ++ ifW fs c) (by omega) (by rw [List.length_append]; omega) hR
    have l1 := q84 10 (idxI fs c.f0)
    have l2 := q84 10 (idxI opsL c.f1)
    have l3 := q84 10 (sgn c.f2)
    have h6 : opsL.length = 6 := rfl
    have hj4 : Ev (fun k => q14.j4 k l acc (i : Int) (j : Int) ((0 + q : Nat) : Int) fs items c.f0 c.f1 c.f2) R := by
      rw [Nat.zero_add, ← hqi]
      refine Ev.step (fun k => by simp only [q14.j4]; rfl) ?_
      refine evc acc (ev_numW _ (by omega) (by omega)) (by omega) ?_
      refine Ev.bind (ev_op6 c.f1) ?_
      refine evc (acc ++ numW 10 (idxI fs c.f0)) (ev_numW _ (by omega) (by omega)) (by rw [List.length_append]; omega) ?_
      refine Ev.bind (ev_signedW c.f2 (hs.1.2.2.2 c hcm)) ?_
      refine Ev.congr (fun k => if_pos (by rw [List.length_append, List.length_append]; omega)) ?_
      rw [wrap_lt (n := (s.f1.length : Int)) (by omega) (by omega) (by omega)]
      have e : acc ++ numW 10 (idxI fs c.f0) ++ numW 10 (idxI opsL c.f1) ++ numW 10 (sgn c.f2) = acc ++ ifW fs c := by unfold ifW; simp only [List.append_assoc]
      rw [e]
      exact hnx
    have hl3 := ev_file6 fs items l acc (i : Int) (j : Int) c hn fs.length 0 q (by omega) (by rw [List.drop_zero]; exact hqf) hj4
    refine Ev.step (f := fun k => q14.l3 k l acc (i : Int) (j : Int) ((0 : Nat) : Int) fs items c.f0 c.f1 c.f2) (fun k => ?_) hl3
    simp only [q14.l2]
    rw [if_pos (by omega), if_pos (by omega), rd_s6 _ _ hil, hsl, if_pos (by omega), if_pos (by omega), rd_c _ _ hlt, ← hc]
    rfl
theorem ev_ons6 {R : List Int} (fs : List ByteArray) (items : List (S48)) (l : List (S54)) (i : Nat) (s : S54) (hil : i < l.length) (hsl : l[i] = s) (hs : sIn fs items s) (hn : fs.length ≤ 9223372036854775806) (hni : items.length ≤ 9223372036854775806) (hll : l.length ≤ 1000) (d : Nat) : ∀ (j : Nat) (acc : List Int), j + d = s.f0.length → acc.length + 20 * d ≤ 90000000000000 →
    Ev (fun k => q14.l0 k l (acc ++ (s.f0.drop j).flatMap (onW items) ++ numW 10 s.f1.length ++ s.f1.flatMap (ifW fs)) ((i + 1 : Nat) : Int) fs items) R → Ev (fun k => q14.l1 k l acc (i : Int) (j : Int) fs items) R := by
  induction d with
  | zero =>
    intro j acc hj hacc hR
    rw [List.drop_of_length_le (by omega)] at hR
    have h2 := hs.1.2.1
    have l1 := q84 10 (s.f1.length : Int)
    have hnx := ev_ifs6 fs items l i s hil hsl hs hn hll s.f1.length 0 (acc ++ numW 10 s.f1.length) (by omega) (by rw [List.length_append]; omega) (R := R) (by simpa using hR)
    refine Ev.step (f := fun k => (q35.f k (s.f1.length : Int)).bind fun t204 => (if acc.length + t204.length < 140737488355328 then (some (acc ++ t204)).bind (fun y => q14.l2 k l y i 0 fs items) else (none))) (fun k => ?_) (evc acc (ev_numW _ (by omega) (by omega)) (by omega) hnx)
    simp only [q14.l1]
    rw [if_pos (by omega), if_pos (by omega), rd_s6 _ _ hil, hsl, if_neg (by omega)]
    rfl
  | succ d ih =>
    intro j acc hj hacc hR
    have hlt : j < s.f0.length := by omega
    have h3 := hs.1.1
    obtain ⟨c, hc⟩ : ∃ c, c = s.f0[j] := ⟨_, rfl⟩
    have hcm : c ∈ s.f0 := by rw [hc]; exact List.getElem_mem _
    obtain ⟨hp, he⟩ := hs.2.1 c hcm
    have hpl := placeI_lt items c.f0
    have he2 := hs.1.2.2.1 c hcm
    rw [List.drop_eq_getElem_cons hlt, List.flatMap_cons, ← hc, ← List.append_assoc] at hR
    have hwl := onW_le items c
    have hnx := ih (j + 1) (acc ++ onW items c) (by omega) (by rw [List.length_append]; omega) hR
    have l1 := q84 10 (q85 items c.f0)
    have l2 := q84 10 c.f1
    refine Ev.step (f := fun k => (q24.f k fs items c.f0).bind fun t188 => ((q35.f k t188).bind fun t189 => (if acc.length + t189.length < 140737488355328 then ((some (acc ++ t189 : List Int)).bind fun y192 => ((q35.f k c.f1).bind fun t197 => (if y192.length + t197.length < 140737488355328 then (some (y192 ++ t197)).bind (fun y => q14.l1 k l y i ((j + 1 : Nat) : Int) fs items) else (none)))) else (none)))) (fun k => ?_) ?_
    · simp only [q14.l1]
      rw [if_pos (by omega), if_pos (by omega), rd_s6 _ _ hil, hsl, if_pos (by omega), if_pos (by omega), rd_o _ _ hlt, ← hc, wrap_lt (n := (s.f0.length : Int)) (by omega) (by omega) (by omega)]
      rfl
    · refine Ev.bind (ev_place fs items c.f0 (by omega)) ?_
      refine evc acc (ev_numW _ (by omega) (by omega)) (by omega) ?_
      refine evc (acc ++ numW 10 (q85 items c.f0)) (ev_numW _ (by omega) (by omega)) (by rw [List.length_append]; omega) ?_
      have e : acc ++ numW 10 (q85 items c.f0) ++ numW 10 c.f1 = acc ++ onW items c := by unfold onW; simp only [List.append_assoc]
      rw [e]
      exact hnx
theorem ev_sents6 (fs : List ByteArray) (items : List (S48)) (l : List (S54)) (hs : ∀ s ∈ l, sIn fs items s) (hn : fs.length ≤ 9223372036854775806) (hni : items.length ≤ 9223372036854775806) (hll : l.length ≤ 3) : Ev (fun k => q14.f k fs items l) (sentsW fs items l) := by
  have main : ∀ (d i : Nat) (acc : List Int), i + d = l.length → acc.length + 140 * d ≤ 80000000000000 → Ev (fun k => q14.l0 k l acc (i : Int) fs items) (acc ++ (l.drop i).flatMap (sentW fs items)) := by
    intro d
    induction d with
    | zero =>
      intro i acc hi _
      rw [List.drop_of_length_le (by omega)]
      refine Ev.step (f := fun k => some acc) (fun k => ?_) (by simpa using Ev.now acc)
      simp only [q14.l0]
      rw [if_neg (by omega)]
    | succ d ih =>
      intro i acc hi hacc
      have hlt : i < l.length := by omega
      obtain ⟨s, hsx⟩ : ∃ s, s = l[i] := ⟨_, rfl⟩
      have hsm := hs s (by rw [hsx]; exact List.getElem_mem _)
      have hw := sentW_le fs items s hsm.1
      have h3 := hsm.1.1
      have hnx := ih (i + 1) (acc ++ sentW fs items s) (by omega) (by rw [List.length_append]; omega)
      rw [List.drop_eq_getElem_cons hlt, List.flatMap_cons, ← hsx, ← List.append_assoc]
      have l1 := q84 10 (s.f0.length : Int)
      have e : acc ++ numW 10 s.f0.length ++ s.f0.flatMap (onW items) ++ numW 10 s.f1.length ++ s.f1.flatMap (ifW fs) = acc ++ sentW fs items s := by unfold sentW; simp only [List.append_assoc]
      rw [← e] at hnx
      have h2 := ev_ons6 fs items l i s hlt hsx.symm hsm hn hni (by omega) s.f0.length 0 (acc ++ numW 10 s.f0.length) (by omega) (by rw [List.length_append]; omega) (by rw [List.drop_zero]; exact hnx)
      rw [e] at h2
      refine Ev.step (f := fun k => (q35.f k (s.f0.length : Int)).bind fun t179 => (if acc.length + t179.length < 140737488355328 then (some (acc ++ t179)).bind (fun y => q14.l1 k l y i 0 fs items) else (none))) (fun k => ?_) (evc acc (ev_numW _ (by omega) (by omega)) (by omega) h2)
      simp only [q14.l0]
      rw [if_pos (by omega), if_pos (by omega), rd_s6 _ _ hlt, ← hsx]
      rfl
  unfold sentsW
  have h := main l.length 0 (numW 10 l.length) (by omega) (by have := q84 10 (l.length : Int); omega)
  exact Ev.congr (fun k => rfl) ((ev_numW (l.length : Int) (by omega) (by omega)).bind h)
def iIn (fs : List ByteArray) (items : List (S48)) (x : S48) : Prop := x.f0.size ≤ 1000 ∧ 0 ≤ x.f1 ∧ x.f1 < 9223372036854775808 ∧ 0 ≤ x.f4 ∧ x.f4 < 9223372036854775808 ∧ (x.f2.toList = [] → q85 items x.f2 = -1) ∧ (x.f5.length ≤ 3 ∧ ∀ s ∈ x.f5, sIn fs items s) ∧ x.f6.length ≤ 3 ∧ ∀ s ∈ x.f6, sIn fs items s
def MIn (fs : List ByteArray) (items : List (S48)) : Prop := fs.length ≤ 6 ∧ items.length ≤ 16 ∧ (∀ s ∈ fs, s.size ≤ 1000) ∧ ∀ x ∈ items, iIn fs items x
theorem rd_i6 (l : List (S48)) (i : Nat) (h : i < l.length) : q89 l (i : Int) = l[i] := by simp [q89, List.getD_eq_getElem?_getD, List.getElem?_eq_getElem h]
theorem iIn_ok {fs : List ByteArray} {items : List (S48)} {x : S48} (h : iIn fs items x) : iOk x := ⟨h.1, h.2.2.1, h.2.2.2.2.1, ⟨h.2.2.2.2.2.2.1.1, fun s hs => (h.2.2.2.2.2.2.1.2 s hs).1⟩, h.2.2.2.2.2.2.2.1, fun s hs => (h.2.2.2.2.2.2.2.2 s hs).1⟩
theorem placeI_ge (l : List (S48)) (s : ByteArray) : -1 ≤ q85 l s := fidx_ge _ _
theorem ev_items6 (fs : List ByteArray) (items : List (S48)) (h : MIn fs items) (d : Nat) : ∀ (i : Nat) (acc : List Int), i + d = items.length → acc.length + 1000 * d ≤ 50000000000000 →
    Ev (fun k => q26.l2 k acc (i : Int) fs items) (acc ++ (items.drop i).flatMap (itemW fs items)) := by
  have hfl := h.1
  have hil := h.2.1
  induction d with
  | zero =>
    intro i acc hi _
    rw [List.drop_of_length_le (by omega)]
    refine Ev.step (f := fun k => some acc) (fun k => ?_) (by simpa using Ev.now acc)
    simp only [q26.l2]
    rw [if_neg (by omega)]
  | succ d ih =>
    intro i acc hi hacc
    have hlt : i < items.length := by omega
    obtain ⟨x, hx⟩ : ∃ x, x = items[i] := ⟨_, rfl⟩
    have hin := h.2.2.2 x (by rw [hx]; exact List.getElem_mem _)
    have hwl := itemW_le fs items x (iIn_ok hin)
    have hnx := ih (i + 1) (acc ++ itemW fs items x) (by omega) (by rw [List.length_append]; omega)
    rw [List.drop_eq_getElem_cons hlt, List.flatMap_cons, ← hx, ← List.append_assoc]
    obtain ⟨g1, g2, g3, g4, g5, g6, g7, g8⟩ := hin
    have p1 := placeI_ge items x.f2
    have p2 := placeI_lt items x.f2
    have w1 := q84 10 x.f1
    have w2 := q84 10 (q85 items x.f2 + 1)
    have w3 := q84 10 (if x.f3 = true then 1 else 0)
    have w4 := q84 10 x.f4
    have w5 := sentsW_le fs items x.f5 g7.1 (fun s hs => (g7.2 s hs).1)
    have w6 := sentsW_le fs items x.f6 g8.1 (fun s hs => (g8.2 s hs).1)
    have key : ∀ q : Int, q = q85 items x.f2 + 1 → Ev (fun k => q26.j4 k acc (i : Int) (if x.f3 = true then 1 else 0) q fs items x.f0 x.f1 x.f2 x.f3 x.f4 x.f5 x.f6) (acc ++ itemW fs items x ++ (items.drop (i + 1)).flatMap (itemW fs items)) := by
      intro q hq
      refine Ev.step (fun k => by simp only [q26.j4]; rfl) ?_
      refine evc acc (ev_numW x.f1 g2 g3) (by omega) ?_
      refine evc (acc ++ numW 10 x.f1) (by rw [hq]; exact ev_numW _ (by omega) (by omega)) (by rw [List.length_append]; omega) ?_
      refine evc (acc ++ numW 10 x.f1 ++ numW 10 (q85 items x.f2 + 1)) (ev_numW (if x.f3 = true then 1 else 0) (by split <;> omega) (by split <;> omega)) (by simp only [List.length_append]; omega) ?_
      refine evc (acc ++ numW 10 x.f1 ++ numW 10 (q85 items x.f2 + 1) ++ numW 10 (if x.f3 = true then 1 else 0)) (ev_numW x.f4 g4 g5) (by simp only [List.length_append]; omega) ?_
      refine evc (acc ++ numW 10 x.f1 ++ numW 10 (q85 items x.f2 + 1) ++ numW 10 (if x.f3 = true then 1 else 0) ++ numW 10 x.f4) (ev_sents6 fs items x.f5 g7.2 (by omega) (by omega) g7.1) (by simp only [List.length_append]; omega) ?_
      refine Ev.bind (ev_sents6 fs items x.f6 g8.2 (by omega) (by omega) g8.1) ?_
      refine Ev.congr (fun k => if_pos (by simp only [List.length_append]; omega)) ?_
      rw [wrap_lt (n := (items.length : Int)) (by omega) (by omega) (by omega)]
      have e : acc ++ numW 10 x.f1 ++ numW 10 (q85 items x.f2 + 1) ++ numW 10 (if x.f3 = true then 1 else 0) ++ numW 10 x.f4 ++ sentsW fs items x.f5 ++ sentsW fs items x.f6 = acc ++ itemW fs items x := by unfold itemW; simp only [List.append_assoc]
      rw [e]
      exact hnx
    have key3 : Ev (fun k => q26.j3 k acc (i : Int) (if x.f3 = true then 1 else 0) fs items x.f0 x.f1 x.f2 x.f3 x.f4 x.f5 x.f6) (acc ++ itemW fs items x ++ (items.drop (i + 1)).flatMap (itemW fs items)) := by
      by_cases hp : x.f2.toList = []
      · refine Ev.step (f := fun k => q26.j4 k acc (i : Int) (if x.f3 = true then 1 else 0) 0 fs items x.f0 x.f1 x.f2 x.f3 x.f4 x.f5 x.f6) (fun k => ?_) (key 0 (by rw [g6 hp]; rfl))
        simp only [q26.j3]
        rw [if_pos hp]
      · refine Ev.step (f := fun k => (q24.f k fs items x.f2).bind fun t260 => (q26.j4 k acc (i : Int) (if x.f3 = true then 1 else 0) (wrap64 (t260 + 1)) fs items x.f0 x.f1 x.f2 x.f3 x.f4 x.f5 x.f6)) (fun k => ?_) (Ev.bind (ev_place fs items x.f2 (by omega)) (key _ (by unfold wrap64; omega)))
        simp only [q26.j3]
        rw [if_neg hp]
    refine Ev.step (f := fun k => q26.j3 k acc (i : Int) (if x.f3 = true then 1 else 0) fs items x.f0 x.f1 x.f2 x.f3 x.f4 x.f5 x.f6) (fun k => ?_) key3
    simp only [q26.l2]
    rw [if_pos (by omega), if_pos (by omega), rd_i6 _ _ hlt, ← hx]
    split <;> rfl
theorem ev_ids6 (fs : List ByteArray) (items : List (S48)) (h : MIn fs items) (d : Nat) : ∀ (i : Nat) (acc : List Int), i + d = items.length → acc.length + 1100 * d ≤ 40000000000000 →
    Ev (fun k => q26.l1 k acc (i : Int) fs items) (acc ++ ((items.drop i).map (fun x => x.f0)).flatMap textW ++ numW 10 fs.length ++ items.flatMap (itemW fs items)) := by
  have hfl := h.1
  have hil := h.2.1
  induction d with
  | zero =>
    intro i acc hi hacc
    rw [List.drop_of_length_le (by omega)]
    have w1 := q84 10 (fs.length : Int)
    have hnx := ev_items6 fs items h items.length 0 (acc ++ numW 10 fs.length) (by omega) (by rw [List.length_append]; omega)
    refine Ev.step (f := fun k => (q35.f k (fs.length : Int)).bind fun t252 => (if acc.length + t252.length < 140737488355328 then (some (acc ++ t252)).bind (fun y => q26.l2 k y 0 fs items) else (none))) (fun k => ?_) (evc acc (ev_numW (fs.length : Int) (by omega) (by omega)) (by omega) (by simpa using hnx))
    simp only [q26.l1]
    rw [if_neg (by omega)]
    rfl
  | succ d ih =>
    intro i acc hi hacc
    have hlt : i < items.length := by omega
    obtain ⟨x, hx⟩ : ∃ x, x = items[i] := ⟨_, rfl⟩
    have hin := h.2.2.2 x (by rw [hx]; exact List.getElem_mem _)
    have hwl := textW_le x.f0 hin.1
    have hnx := ih (i + 1) (acc ++ textW x.f0) (by omega) (by rw [List.length_append]; omega)
    rw [List.drop_eq_getElem_cons hlt, List.map_cons, List.flatMap_cons, ← hx, ← List.append_assoc]
    refine Ev.step (f := fun k => q26.l1 k (acc ++ textW x.f0) ((i + 1 : Nat) : Int) fs items) (fun k => ?_) hnx
    simp only [q26.l1]
    rw [if_pos (by omega), if_pos (by omega), rd_i6 _ _ hlt, ← hx, ev_text6 _ hin.1, wrap_lt (n := (items.length : Int)) (by omega) (by omega) (by omega), Option.bind_some, if_pos (by omega)]
    rfl
theorem ev_files6 (fs : List ByteArray) (items : List (S48)) (h : MIn fs items) (d : Nat) : ∀ (i : Nat) (acc : List Int), i + d = fs.length → acc.length + 1100 * d ≤ 30000000000000 →
    Ev (fun k => q26.l0 k acc (i : Int) fs items) (acc ++ (fs.drop i).flatMap textW ++ (items.map (fun x => x.f0)).flatMap textW ++ numW 10 fs.length ++ items.flatMap (itemW fs items)) := by
  have hfl := h.1
  have hil := h.2.1
  induction d with
  | zero =>
    intro i acc hi hacc
    rw [List.drop_of_length_le (by omega)]
    have hnx := ev_ids6 fs items h items.length 0 acc (by omega) (by omega)
    refine Ev.step (f := fun k => q26.l1 k acc 0 fs items) (fun k => ?_) (by simpa using hnx)
    simp only [q26.l0]
    rw [if_neg (by omega)]
  | succ d ih =>
    intro i acc hi hacc
    have hlt : i < fs.length := by omega
    obtain ⟨x, hx⟩ : ∃ x, x = fs[i] := ⟨_, rfl⟩
    have hin := h.2.2.1 x (by rw [hx]; exact List.getElem_mem _)
    have hwl := textW_le x hin
    have hnx := ih (i + 1) (acc ++ textW x) (by omega) (by rw [List.length_append]; omega)
    rw [List.drop_eq_getElem_cons hlt, List.flatMap_cons, ← hx, ← List.append_assoc]
    refine Ev.step (f := fun k => q26.l0 k (acc ++ textW x) ((i + 1 : Nat) : Int) fs items) (fun k => ?_) hnx
    simp only [q26.l0]
    rw [if_pos (by omega), if_pos (by omega), rdOf_get _ _ _ hlt, ← hx, ev_text6 _ hin, wrap_lt (n := (fs.length : Int)) (by omega) (by omega) (by omega), Option.bind_some, if_pos (by omega)]
    rfl
theorem ev_body (fs : List ByteArray) (items : List (S48)) (h : MIn fs items) : Ev (fun k => q26.f k fs items) (modelW fs items) := by
 have hfl := h.1
 have hil := h.2.1
 have w1 := q84 10 ((fs.length : Int) + items.length)
 have hnx := ev_files6 fs items h fs.length 0 (numW 10 ((fs.length : Int) + items.length)) (by omega) (by omega)
 have e : modelW fs items = numW 10 ((fs.length : Int) + items.length) ++ (fs.drop 0).flatMap textW ++ (items.map (fun x => x.f0)).flatMap textW ++ numW 10 fs.length ++ items.flatMap (itemW fs items) := by
  unfold modelW textsOf
  rw [List.drop_zero, List.flatMap_append, List.length_append, List.length_map]
  simp only [List.append_assoc]
  rfl
 rw [e]
 have hw : wrap64 ((fs.length : Int) + (items.length : Int)) = (fs.length : Int) + items.length := by unfold wrap64; omega
 refine Ev.congr (f := fun k => (q35.f k ((fs.length : Int) + items.length)).bind fun t => q26.l0 k t 0 fs items) (fun k => ?_) (Ev.bind (ev_numW _ (by omega) (by omega)) hnx)
 unfold q26.f
 rw [hw]
theorem sIn_of (fs : List ByteArray) (items : List (S48)) (ss : List (S54)) (h : sentsB fs items ss = true) : ss.length ≤ 3 ∧ ∀ s ∈ ss, sIn fs items s := by
 obtain ⟨h3, hok⟩ := sOk_of fs items ss h
 unfold sentsB at h
 rw [Bool.and_eq_true, decide_eq_true_eq, Bool.not_eq_true', List.any_eq_false] at h
 refine ⟨h3, fun s hs => ⟨hok s hs, ?_⟩⟩
 have h2 := h.2 s hs
 rw [Bool.not_eq_true, Bool.not_eq_false'] at h2
 unfold sentryB at h2
 rw [Bool.and_eq_true, decide_eq_true_eq, Bool.and_eq_true, List.all_eq_true] at h2
 obtain ⟨-, c, d⟩ := h2
 refine ⟨fun x hx => ?_, fun y hy => ?_⟩
 ·obtain ⟨i, hi, rfl⟩ := List.getElem_of_mem hx
  have := c i (List.mem_range.2 hi)
  unfold onOk at this
  rw [Bool.and_eq_true] at this
  have h3 := this.1
  rw [rd_o _ _ hi] at h3
  unfold onB at h3
  split at h3
  case isFalse => cases h3
  rename_i hp
  refine ⟨hp, ?_⟩
  unfold legalB at h3
  split at h3
  ·omega
  ·split at h3
   ·omega
   ·split at h3
    ·omega
    ·cases h3
 ·unfold ifsOk at d
  rw [Bool.not_eq_true', List.any_eq_false] at d
  have h3 := d y hy
  rw [Bool.not_eq_true, Bool.not_eq_false'] at h3
  unfold ifB at h3
  rw [Bool.and_eq_true, Bool.and_eq_true] at h3
  exact ⟨h3.2.1, h3.1⟩
theorem MIn_of (fs : List ByteArray) (items : List (S48)) (h : isB fs items = true) : MIn fs items := by
 have hm := MOk_of fs items h
 have hf := legal_facts fs items h
 refine ⟨hm.1, hm.2.1, hm.2.2.1, fun x hx => ?_⟩
 have hi := hm.2.2.2 x hx
 unfold isB at h
 rw [Bool.and_eq_true, Bool.and_eq_true, Bool.and_eq_true, Bool.and_eq_true, Bool.and_eq_true, decide_eq_true_eq, Bool.not_eq_true', List.any_eq_false] at h
 obtain ⟨-, -, -, -, -, f⟩ := h
 have h2 := f x hx
 rw [Bool.not_eq_true, Bool.not_eq_false'] at h2
 unfold itemB at h2
 rw [Bool.and_eq_true, Bool.and_eq_true, Bool.and_eq_true, Bool.and_eq_true, decide_eq_true_eq] at h2
 obtain ⟨p, q, r, s, -⟩ := h2
 refine ⟨hi.1, by omega, hi.2.1, ?_, hi.2.2.1, fun he => ?_, sIn_of fs items _ q, sIn_of fs items _ r⟩
 ·split at s
  ·rw [decide_eq_true_eq] at s; omega
  ·rw [decide_eq_true_eq] at s; omega
 ·have h1 := placeI_ge items x.f2
  rcases Int.lt_or_le (q85 items x.f2) 0 with h0 | h0
  ·omega
  ·obtain ⟨p, hp⟩ := Int.eq_ofNat_of_zero_le h0
   obtain ⟨hl, hn⟩ := placeI_at items x.f2 p hp
   exact absurd (hn.trans he) (hf.2.2.2.1 p hl).2
theorem ev_rpack (fs : List ByteArray) (items : List (S48)) (hF : Fits fs items) : Ev (fun k => q27.f k fs items) (if isB fs items = true then (packL fs items, 0) else ([], 1)) := by
 have hi := ev_ris fs items hF
 rw [ris_eq] at hi
 by_cases h : isB fs items = true
 ·rw [if_pos h]
  rw [h] at hi
  have hm := MIn_of fs items h
  have hl := modelW_le fs items (MOk_of fs items h)
  refine Ev.congr (fun k => rfl) (Ev.bind hi (Ev.congr (fun k => if_pos rfl) (Ev.bind (ev_body fs items hm) (Ev.congr (f := fun k => some (packL fs items, 0)) (fun k => ?_) (Ev.now _)))))
  unfold q25.f
  rw [if_pos (by omega)]
  rfl
 ·rw [if_neg h]
  rw [Bool.not_eq_true] at h
  rw [h] at hi
  exact Ev.congr (fun k => rfl) (Ev.bind hi (Ev.congr (fun k => if_neg (by decide)) (Ev.now _)))
def textR (s : RSt) : ByteArray × RSt := (strOfNums (takeR (numR 13 s).1.toNat (numR 13 s).2).1, (takeR (numR 13 s).1.toNat (numR 13 s).2).2)
def textsGo : Nat → RSt → List ByteArray × RSt
 | 0, s => ([], s)
 | d + 1, s => ((textR s).1 :: (textsGo d (textR s).2).1, (textsGo d (textR s).2).2)
def itemsGo (files ids : List ByteArray) : List ByteArray → RSt → List (S48) × RSt
 | [], s => ([], s)
 | id :: l, s => ((itemR id files ids s).1 :: (itemsGo files ids l (itemR id files ids s).2).1, (itemsGo files ids l (itemR id files ids s).2).2)
def modelR (s : RSt) : (List ByteArray × List (S48)) × RSt :=
 let c := countR 22 s
 let ts := textsGo c.1.toNat c.2
 let n := countR ts.1.length ts.2
 let r := itemsGo (ts.1.take n.1.toNat) (ts.1.drop n.1.toNat) (ts.1.drop n.1.toNat) n.2
 ((ts.1.take n.1.toNat, r.1), r.2)
def ModelPost (w0 w : World) (g : Nat) (r : (List ByteArray × List (S48)) × RSt) (e : Ending) (w' : World) : Prop := ∃ A c v, e = .returned (.agg #[.slice A r.1.1.length c, v]) ∧ r.1.1.length ≤ c ∧ Kd.C Kd.string w' A r.1.1.length r.1.1 ∧ (∀ ad, A = some ad → w.heap.size ≤ ad.block) ∧ Kd.R k48 48 w' w.heap.size (fun _ => True) v r.1.2 ∧ Rs w0 w w' g r.2
theorem cut_hm {P : Program} (t e : TypeId) (kh km : IntKind) {i : TypeInfo} (ht : P.underlying t = some (.slice e)) (hi : P.info? e = some i) (A : Option Addr) (n c : Nat) (j m : Int) (h0 : 0 ≤ j) (hm : j ≤ m) (hc : m ≤ c) :
 ∀ W : World, (Instr.slice t (.slice A n c) none (some (.int kh j)) (some (.int km m))).run P W = .ok (.slice A j.toNat m.toNat) W := by
 intro W
 have hel : P.elem t = e := by simp [Program.elem, ht]
 have hu : P.underlying t = some (.slice (P.elem t)) := by rw [hel]; exact ht
 have ha : (A.map fun x => x.add 0) = A := by cases A <;> simp [Addr.add]
 rw [run_slice_hm W t A n c hu kh km j m h0 hm hc, hel]
 simp [sizeOf, typeInfo, hi, sliced, Result.andThen, ha]
theorem textsGo_length (d : Nat) : ∀ s, (textsGo d s).1.length = d := by
 induction d with
 | zero => intro s; rfl
 | succ d ih => intro s; simp only [textsGo, List.length_cons, ih]
theorem info48_ : (Try.prog.info? 48).map (fun i => (i.zero, i.size, i.bytes)) = some (some (.agg #[.string ⟨#[]⟩, .int .i64 0, .string ⟨#[]⟩, .bool false, .int .i64 0, .slice none 0 0, .slice none 0 0]), 7, 104) := by kernel_rfl
set_option maxHeartbeats 16000000 in
set_option maxRecDepth 100000 in
theorem modelr_any (w0 w : World) (g : Nat) (s : RSt) (hg0 : w0.heap.size ≤ g) (h : Rs w0 w w g s) :
    Calls Try.prog 34 #[.pointer (some ⟨g, 0, none⟩)] w (ModelPost w0 w g (modelR s)) := by
  have hu25 := Try.underlying25
  obtain ⟨R, hR⟩ : ∃ R, R = modelR s := ⟨_, rfl⟩
  rw [← hR]
  unfold modelR at hR
  have hcl := countR_le 22 s h.bytes (by omega)
  obtain ⟨⟨n0, z0⟩, hn⟩ : ∃ r, r = countR 22 s := ⟨_, rfl⟩
  rw [← hn] at hR hcl
  obtain ⟨k, rfl⟩ := Int.eq_ofNat_of_zero_le hcl.1
  have hk22 : k ≤ 22 := by have := hcl.2; simp only at this; omega
  simp only [Int.toNat_natCast] at hR
  obtain ⟨⟨T, z1⟩, hT⟩ : ∃ r, r = textsGo k z0 := ⟨_, rfl⟩
  rw [← hT] at hR
  simp only at hR
  have hTl : T.length = k := by have := textsGo_length k z0; rw [← hT] at this; exact this
  obtain ⟨wA, hwA⟩ : ∃ wA, wA = w.alloc (.cells #[.slice none 0 0, .slice none 0 0] 25) := ⟨_, rfl⟩
  have hsA : Rs w0 w wA g s := by rw [hwA]; exact h.alloc _
  have hbA : wA.heap[w.heap.size]? = some (.cells #[.slice none 0 0, .slice none 0 0] 25 (0, 0)) := by rw [hwA]; exact heap_alloc_new w _
  have hzA : wA.heap.size = w.heap.size + 1 := by rw [hwA]; simp
  have hcnt := count_rs (w0 := w0) (w := wA) 22 (by omega) hg0 hsA.here
  rw [← hn] at hcnt
  have hgl := h.1.lt
  have hgA : g < wA.heap.size := by omega
  have hAw : w.heap.size < wA.heap.size := by omega
  have hw0w := h.2.1.size
  have HSA := Lib.hid hsA
  have HBA := Lib.hid hbA
  have HWA := Lib.hid hwA
  have HR := Lib.hid hR
  have HT := Lib.hid hT
  have HTL := Lib.hid hTl
  have HZA := Lib.hid hzA
  clear hR hn hT hcl hTl h hwA hsA hbA hzA
  go_enter Try.func34, Try.ntmps34
  go_wp2_with fail
  rw [← HWA.out]
  refine hcnt.mono ?_
  rintro e w1 ⟨rfl, s1⟩
  have HS1 := Lib.hid s1
  have hzw1 : wA.heap.size ≤ w1.heap.size := s1.2.2.1
  clear s1 hcnt
  go_wp2
  go_loopg [10, 3] k (fun gg s10 s3 wr => ∃ (i d : Nat) (z : RSt) (acc : List ByteArray), s10 = .int .i64 i ∧ i + d = k ∧ d ≤ gg ∧ Hid (Kd.R Kd.string 9 wr wA.heap.size (fun _ => True) s3 acc ∧ Rs w0 wA wr g z ∧ acc.length = i ∧ (T, z1) = (acc ++ (textsGo d z).1, (textsGo d z).2)))
  case atStart => exact ⟨0, k, z0, [], rfl, by omega, Nat.le_refl _, Lib.hid ⟨Kd.R_nil _ _ _ _ _, HS1.out, rfl, by rw [HT.out]; rfl⟩⟩
  case round =>
    obtain ⟨i, d, z, acc, rfl, hid, hdg, X⟩ := hrel
    obtain ⟨wO, rfl⟩ : ∃ wO, wO = wr := ⟨_, rfl⟩
    obtain ⟨hRa, hsO, hacc, hRe⟩ := X.out
    obtain ⟨Av, cv, rfl⟩ := Kd.R_slice hRa
    clear X
    by_cases hlt : i < k
    case pos =>
      have hltz : (i : Int) < (k : Int) := by omega
      obtain ⟨d, rfl⟩ : ∃ e, d = e + 1 := ⟨d - 1, by omega⟩
      have hnl := numR_lt 13 z hsO.bytes
      have hnm := num_rs (w0 := w0) (w := wO) 13 hg0 hsO.here
      have hRe2 : (T, z1) = (acc ++ strOfNums (takeR (numR 13 z).1.toNat (numR 13 z).2).1 :: (textsGo d (takeR (numR 13 z).1.toNat (numR 13 z).2).2).1, (textsGo d (takeR (numR 13 z).1.toNat (numR 13 z).2).2).2) := hRe
      obtain ⟨⟨q, y⟩, hq⟩ : ∃ r, r = numR 13 z := ⟨_, rfl⟩
      rw [← hq] at hnm hnl hRe2
      obtain ⟨q, rfl⟩ := Int.eq_ofNat_of_zero_le hnl.1
      have hq63 : q ≤ 9223372036854775807 := by have := hnl.2.1; simp only at this; omega
      simp only [Int.toNat_natCast] at hRe2
      obtain ⟨⟨b, y2⟩, hb⟩ : ∃ r, r = takeR q y := ⟨_, rfl⟩
      rw [← hb] at hRe2
      simp only at hRe2
      obtain ⟨m, hm⟩ : ∃ m, m = acc.length := ⟨_, rfl⟩
      rw [← hm] at hRa ⊢
      have hlim : (acc.length + 1) * 16 ≤ 140737488355328 := by omega
      have HRA := Lib.hid hRa
      have HSO := Lib.hid hsO
      have HACC := Lib.hid hacc
      have HRE := Lib.hid hRe2
      have HB := Lib.hid hb
      have HLIM := Lib.hid hlim
      have hwO : wA.heap.size ≤ wO.heap.size := hsO.2.2.1
      clear hRa hsO hacc hRe hRe2 hq hb hm hnl hlim
      go_wp2_with fail
      refine hnm.mono ?_
      rintro e w2 ⟨rfl, s2⟩
      have htk := take_st (w0 := w0) (w := w2) q hg0 s2.here hq63
      rw [← HB.out] at htk
      have HS2 := Lib.hid (HSO.out.then_ s2)
      have HR2 := Lib.hid (R_rs HRA.out s2 (by omega))
      clear s2 hnm HSO HRA
      go_wp2_with fail
      refine htk.mono ?_
      rintro e w3 ⟨A3, c3, rfl, hlc, hC, s3⟩
      have HS3 := Lib.hid (HS2.out.then_ s3)
      have HR3 := Lib.hid (R_rs HR2.out s3 (by omega))
      have hks : (convert 26 9 (.slice A3 b.length c3)).run Try.prog w3 = .ok (.string (strOfNums b)) w3 := Kd.C_string Try.underlying26 Try.underlying5 Try.underlying9 (Kd.C_below hC s3.2.1)
      have hw3 : wA.heap.size ≤ w3.heap.size := HS3.out.2.2.1
      clear s3 htk hC HS2 HR2
      obtain ⟨nb, hnb⟩ : ∃ nb, nb = b.length := ⟨_, rfl⟩
      rw [← hnb] at hks ⊢
      clear hnb
      go_wp2_with (first | ((with_reducible refine q79 (b := .append) (xs := #[.tmp 12, .tmp 18]) rfl ?_); at_builtin; refine Kd.R_append Kd.string (w0 := w3) wA.heap.size rfl (.tmp 12) (.tmp 18) 22 9 (.string ⟨#[]⟩) 16 rfl Try.underlying22 info9 rfl (by decide) (by omega) (.slice Av m cv) acc (strOfNums b) [.string (strOfNums b)] (fun _ => True) (fun _ => False) rfl rfl rfl (fun _ h => h.elim) (fun _ _ => trivial) HR3.out (Below.refl _ _) hw3 HLIM.out ?_; intro v4 w4 hR4 hB4 hgr hat; have HS4 := Lib.hid (HS3.out.grown hgr (fun kk ek => by (have h_ := Kd.R_base HR3.out kk ek); omega)); clear hgr hat hB4; obtain ⟨A4, c4, rfl⟩ := Kd.R_slice hR4; rw [List.length_append, List.length_singleton] at hR4; have HR4 := Lib.hid hR4; clear hR4))
      go_roundg d
      case measure => omega
      case rel => exact ⟨i + 1, d, y2, acc ++ [strOfNums b], by go_num, by omega, Nat.le_refl _, Lib.hid ⟨HR4.out, HS4.out, by rw [List.length_append, List.length_singleton, HACC.out], by rw [HRE.out, List.append_assoc]; rfl⟩⟩
    have hltz : ¬ (i : Int) < (k : Int) := by omega
    obtain rfl : d = 0 := by omega
    have hTa : T = acc ∧ z1 = z := by
      have := Prod.mk.inj hRe
      simpa [textsGo] using this
    obtain ⟨rfl, rfl⟩ := hTa
    have hcl := countR_le T.length z1 hsO.bytes (by omega)
    have hcnt := count_rs (w0 := w0) (w := wO) T.length (by omega) hg0 hsO.here
    have hRR := HR.out
    obtain ⟨⟨n, z2⟩, hn⟩ : ∃ r, r = countR T.length z1 := ⟨_, rfl⟩
    rw [← hn] at hcl hcnt hRR
    obtain ⟨n, rfl⟩ := Int.eq_ofNat_of_zero_le hcl.1
    have hnT : n ≤ T.length := by have := hcl.2; simp only at this; omega
    simp only [Int.toNat_natCast] at hRR
    obtain ⟨F, hF⟩ : ∃ F, F = T.take n := ⟨_, rfl⟩
    obtain ⟨I, hI⟩ : ∃ I, I = T.drop n := ⟨_, rfl⟩
    rw [← hF, ← hI] at hRR
    have hFl : F.length = n := by rw [hF, List.length_take]; omega
    have hIl : I.length = T.length - n := by rw [hI, List.length_drop]
    have hrd := Kd.R_reads' hRa
    have hCF : Kd.C Kd.string wO Av F.length F := by rw [hF]; exact Kd.C_take hrd.2.2 hnT
    obtain ⟨Ai, hAi⟩ : ∃ Ai, Ai = if cv = n then Av else Av.map (·.add (n * 1)) := ⟨_, rfl⟩
    have hCI : Kd.C Kd.string wO Ai I.length I := by rw [hI, hAi]; exact Kd.C_drop hrd.2.2 hnT hrd.2.1
    have hAv : ∀ ad, Av = some ad → wA.heap.size ≤ ad.block ∧ ad.block < wO.heap.size := fun ad e => by
      subst e
      exact ⟨Kd.R_base hRa ad.block (by simp [Value.ownBlock]), Kd.R_lt hRa ad.block (by simp [Value.ownBlock])⟩
    have hAii : ∀ ad, Ai = some ad → wA.heap.size ≤ ad.block ∧ ad.block < wO.heap.size := by
      intro ad e
      rw [hAi] at e
      split at e
      · exact hAv ad e
      · cases Av with
        | none => cases e
        | some a0 =>
          cases e
          have hblk : (a0.add (n * 1)).block = a0.block := by unfold Addr.add; split <;> rfl
          rw [hblk]
          exact hAv a0 rfl
    obtain ⟨i0, hi0, hz0, hz1, hz2⟩ := info_parts info9
    have k1 := cut_hm (P := Try.prog) 22 9 .i64 .i64 Try.underlying22 hi0 Av T.length cv (n : Int) (n : Int) (by omega) (by omega) (by have := hrd.2.1; omega)
    have k2 := cut_from (P := Try.prog) 22 9 .i64 Try.underlying22 hi0 1 hz1 Av T.length cv (n : Int) (by omega) (by omega)
    rw [Int.toNat_natCast] at k1 k2
    rw [← hAi, ← hIl] at k2
    obtain ⟨tl, htl⟩ : ∃ tl, tl = T.length := ⟨_, rfl⟩
    obtain ⟨il, hil⟩ : ∃ il, il = I.length := ⟨_, rfl⟩
    rw [← hil] at k2
    rw [← htl] at k1 k2 hcnt ⊢
    have htl22 : tl ≤ 22 := by have := HTL.out; omega
    have hil22 : il ≤ 22 := by omega
    have hwO : wA.heap.size ≤ wO.heap.size := hsO.2.2.1
    have HSO := Lib.hid hsO
    have HTF : Hid (Txt w0 wO g Av n F) := Lib.hid ⟨hCF, by omega, fun ad e => ⟨(hAv ad e).2, by have := (hAv ad e).1; omega⟩, by omega⟩
    have HTI : Hid (Txt w0 wO g Ai (cv - n) I) := Lib.hid ⟨hCI, by have := hrd.2.1; omega, fun ad e => ⟨(hAii ad e).2, by have := (hAii ad e).1; omega⟩, by omega⟩
    have HAV := Lib.hid hAv
    have HRR : Hid (R = ((F, (itemsGo F I I z2).1), (itemsGo F I I z2).2)) := Lib.hid hRR
    have HFL := Lib.hid hFl
    have HIL := Lib.hid hil
    have hntl : n ≤ tl := by omega
    have hncv : tl ≤ cv := by have := hrd.2.1; omega
    clear hRa hsO hacc hRe hcl hRR hn hF hI hFl hIl hrd hCF hAi hCI hAv hAii hi0 hz0 hz1 hz2 htl hil
    go_wp2_with fail
    refine hcnt.mono ?_
    rintro e w5 ⟨rfl, s5⟩
    have HS5 := Lib.hid (HSO.out.then_ s5)
    have HTF := Lib.hid (HTF.out.go s5)
    have HTI := Lib.hid (HTI.out.go s5)
    have hw5 : wA.heap.size ≤ w5.heap.size := HS5.out.2.2.1
    clear s5 hcnt HSO
    go_wp2
    obtain ⟨wB, hwB⟩ : ∃ wB, wB = w5.alloc (.cells #[.slice Av n n, .slice none 0 0] 25) := ⟨_, rfl⟩
    rw [← hwB]
    have hsB : Rs w0 wA wB g z2 := by rw [hwB]; exact HS5.out.alloc _
    have hbB : wB.heap[w5.heap.size]? = some (.cells #[.slice Av n n, .slice none 0 0] 25 (0, 0)) := by rw [hwB]; exact heap_alloc_new w5 _
    have hbg : w5.heap.size ≠ g := by omega
    have hgb : g < w5.heap.size + 1 := by omega
    have HSB := Lib.hid hsB
    have HBB := Lib.hid hbB
    have HTFB : Hid (∀ wi z, Rs w0 wA wi g z → Kept w5 wi (fun k => k = g) → Txt w0 wi g Av n F ∧ Txt w0 wi g Ai (cv - n) I) := Lib.hid (fun wi z hs hk => ⟨⟨C_kept HTF.out.1 hk HTF.out.2.2.1, HTF.out.2.1, fun ad e => ⟨Nat.lt_of_lt_of_le (HTF.out.2.2.1 ad e).1 hk.1, (HTF.out.2.2.1 ad e).2⟩, HTF.out.2.2.2⟩, ⟨C_kept HTI.out.1 hk HTI.out.2.2.1, HTI.out.2.1, fun ad e => ⟨Nat.lt_of_lt_of_le (HTI.out.2.2.1 ad e).1 hk.1, (HTI.out.2.2.1 ad e).2⟩, HTI.out.2.2.2⟩⟩)
    have HKB : Hid (Rs w0 w5 wB g z2) := Lib.hid (by rw [hwB]; exact HS5.out.here.alloc _)
    clear hwB hsB hbB
    go_loopg [34] il (fun gg s34 wi => ∃ (j : Nat) (y : RSt) (its : List (S48)), s34 = .int .i64 j ∧ j ≤ il ∧ il - j ≤ gg ∧ Hid (∃ v, Rs w0 w5 wi g y ∧ wi.heap[w5.heap.size]? = some (.cells #[.slice Av n n, v] 25 (0, 0)) ∧ Kd.R k48 48 wi (w5.heap.size + 1) (fun _ => True) v its ∧ its.length = j ∧ R = ((F, its ++ (itemsGo F I (I.drop j) y).1), (itemsGo F I (I.drop j) y).2)))
    case atStart => exact ⟨0, z2, [], rfl, by omega, by omega, Lib.hid ⟨_, HKB.out, HBB.out, Kd.R_nil _ _ _ _ _, rfl, by rw [HRR.out]; rfl⟩⟩
    case round =>
      obtain ⟨j, y, its, rfl, hjl, hjg, Y⟩ := hrel
      obtain ⟨wi, rfl⟩ : ∃ wi, wi = wr := ⟨_, rfl⟩
      obtain ⟨v, hsi, hbi, hRi, hil, hRe⟩ := Y.out
      obtain ⟨A4, c4, rfl⟩ := Kd.R_slice hRi
      clear Y
      by_cases hlj : j < il
      case pos =>
        have hltj : (j : Int) < (il : Int) := by omega
        have hjI : j < I.length := by have := HIL.out; omega
        have htx := HTFB.out wi y (HS5.out.then_ hsi) hsi.2.2
        obtain ⟨ad, e, hx0⟩ := Kd.at_string htx.2.1 (j : Int) (by omega) (by omega)
        cases e
        simp only [Int.toNat_natCast] at hx0
        obtain ⟨id, hid'⟩ : ∃ id, id = rdOf ByteArray.empty I (j : Int) := ⟨_, rfl⟩
        have hidl : id = I[j] := by rw [hid', rdOf_get _ _ _ hjI]
        rw [← hid'] at hx0
        have hdr : I.drop j = id :: I.drop (j + 1) := by rw [hidl]; exact List.drop_eq_getElem_cons hjI
        rw [hdr] at hRe
        obtain ⟨⟨x, y2⟩, hxy⟩ : ∃ r, r = itemR id F I y := ⟨_, rfl⟩
        have hRe2 : R = ((F, its ++ x :: (itemsGo F I (I.drop (j + 1)) y2).1), (itemsGo F I (I.drop (j + 1)) y2).2) := by rw [hRe]; simp only [itemsGo]; rw [← hxy]
        obtain ⟨m, hm⟩ : ∃ m, m = its.length := ⟨_, rfl⟩
        rw [← hm] at hRi hbi
        have HSI := Lib.hid hsi
        have HBI := Lib.hid hbi
        have HRI := Lib.hid hRi
        have HRE := Lib.hid hRe2
        have HM := Lib.hid hm
        have HIT := Lib.hid hil
        have HXY := Lib.hid hxy
        clear hsi hbi hRi hil hRe hRe2 hm hxy hdr hid' hidl htx hjI
        go_wp2
        clear hx0
        have hb0 : wi.cell? ⟨w5.heap.size, 0, none⟩ = some (.slice Av n n) := (q73 HBI.out 0).trans rfl
        have hb1 : wi.cell? ⟨w5.heap.size, 1, none⟩ = some (.slice A4 m c4) := (q73 HBI.out 1).trans rfl
        refine sD_ [13] (fun w' => w'.cell? ⟨w5.heap.size, 0, none⟩ = some (.slice Av n n) ∧ w'.cell? ⟨w5.heap.size, 1, none⟩ = some (.slice A4 m c4)) 14 ⟨hb0, hb1⟩ (fun hHeld => ?_)
        have hb4 : wi.drew.heap[w5.heap.size]? = some (.cells #[.slice Av n n, .slice A4 m c4] 25 (0, 0)) := HBI.out
        have hs4 : Rs w0 w5 wi.drew g y := HSI.out.drew
        have hR4 : Kd.R k48 48 wi.drew (w5.heap.size + 1) (fun _ => True) (.slice A4 m c4) its := Kd.R_drew HRI.out
        clear hb0 hb1 HBI HSI HRI
        generalize wi.drew = wD at hHeld hb4 hs4 hR4 ⊢
        refine pu_ 0 (some 38) ?_
        refine tk_ 1 (some 39) hHeld ?_ (hy := by rintro w' ⟨s0, s1⟩; go_simp; with_reducible rfl)
        refine pu_ 2 (some 40) ?_
        refine pu_ 3 (some 41) ?_
        refine pu_ 4 (some 42) ?_
        refine tk_ 5 (some 43) hHeld ?_ (hy := by rintro w' ⟨s0, s1⟩; go_simp; with_reducible rfl)
        refine pu_ 6 (some 44) ?_
        refine pu_ 7 (some 45) ?_
        refine pu_ 8 (some 46) ?_
        have htx := HTFB.out wD y (HS5.out.then_ hs4) hs4.2.2
        have hit := itemr_any w0 wD g y id Av n F (some ad) (cv - n) I hg0 hs4.here htx.1 htx.2 (by have := HIL.out; omega)
        rw [HFL.out, ← HIL.out, ← HXY.out] at hit
        refine ca_ 9 (some 47) Try.func65 #[.pointer (some ⟨g, 0, none⟩), .string id, .slice Av n n, .slice (some ad) il (cv - n)] ?_
        refine hit.mono ?_
        rintro e' w6 ⟨v5, v6, rfl, hR5, hR6, s6⟩
        obtain ⟨A5, c5, rfl⟩ := Kd.R_slice hR5
        obtain ⟨A6, c6, rfl⟩ := Kd.R_slice hR6
        have hs6 := hs4.then_ s6
        have hb6 := s6.blk hb4 hbg
        have hRr := R_rs hR4 s6 hgb
        have hwD : w5.heap.size + 1 ≤ wD.heap.size := blk_lt hb4
        have hown : ∀ kk, (Value.slice A4 m c4).ownBlock = some kk → w5.heap.size + 1 ≤ kk ∧ kk < wD.heap.size := fun kk ek => ⟨Kd.R_base hR4 kk ek, Kd.R_lt hR4 kk ek⟩
        have hM : Kd.M k48 w6 (w5.heap.size + 1) (fun kk => wD.heap.size ≤ kk) x [.string x.f0, .int .i64 x.f1, .string x.f2, .bool x.f3, .int .i64 x.f4, .slice A5 x.f5.length c5, .slice A6 x.f6.length c6] := k48_mkM _ _ _ _ (Kd.R_lower (Kd.R_mono (Kd.R_bound hR5) (fun kk hk => hk.2.1)) hwD) (Kd.R_lower (Kd.R_mono (Kd.R_bound hR6) (fun kk hk => hk.2.1)) hwD)
        obtain ⟨m5, hm5⟩ : ∃ m5, m5 = x.f5.length := ⟨_, rfl⟩
        obtain ⟨m6, hm6⟩ : ∃ m6, m6 = x.f6.length := ⟨_, rfl⟩
        rw [← hm5, ← hm6] at hM ⊢
        clear hit hs4 hb4 hR4 hR5 hR6 s6 hHeld htx hm5 hm6
        refine ⟨_, rfl, ⟨(q73 hb6 0).trans rfl, (q73 hb6 1).trans rfl⟩, fun hHeld => ⟨_, rfl, nz_ (some 47) ?_⟩⟩
        refine oN_ 10 (some 48) (fun K hK => ?_)
        go_simp
        refine hK.out _ _ ?_ (fun _ => ?_)
        · have hbq := q72 hb6 (q67 (Below.refl _ _) (.cells #[.string x.f0, .int .i64 x.f1, .string x.f2, .bool x.f3, .int .i64 x.f4, .slice A5 m5 c5, .slice A6 m6 c6] 48))
          exact ⟨(q73 hbq 0).trans rfl, (q73 hbq 1).trans rfl⟩
        clear hK K
        refine oN_ 11 (some 49) (fun K hK => ?_)
        refine Kd.R_append_step k48 (w0 := w6) (w5.heap.size + 1) (by rfl) (.tmp 39) (.tmp 48) 23 48 (.agg #[.string ⟨#[]⟩, .int .i64 0, .string ⟨#[]⟩, .bool false, .int .i64 0, .slice none 0 0, .slice none 0 0]) 104 rfl Try.underlying23 info48_ rfl (by decide) (by omega) (.slice A4 m c4) its x [.string x.f0, .int .i64 x.f1, .string x.f2, .bool x.f3, .int .i64 x.f4, .slice A5 m5 c5, .slice A6 m6 c6] (fun _ => True) (fun kk => wD.heap.size ≤ kk) rfl rfl hM (fun kk hk => ⟨trivial, fun ek => by have := hown kk ek.symm; omega⟩) (fun _ _ => trivial) hRr (Below.refl _ _) (blk_lt hb6) ?_ ?_
        · have := HIT.out; omega
        intro v7 w7 hR7 hB7 hgr hat
        have hs7 := hs6.grown hgr (fun kk ek => ⟨by have := hown kk ek; omega, by have := hown kk ek; omega, by have := hown kk ek; omega⟩)
        have hb7 := (hgr.block _ (blk_lt hb6) (fun ek => by have := hown _ ek.symm; omega)).trans hb6
        obtain ⟨A7, c7, rfl⟩ := Kd.R_slice hR7
        clear hgr hat hB7 hown hs6 hb6 hRr hHeld hM
        refine hK.out _ _ ⟨(q73 hb7 0).trans rfl, (q73 hb7 1).trans rfl⟩ (fun _ => ?_)
        clear hK K
        refine nz_ (some 49) ?_
        refine pu_ 12 (some 50) ?_
        have hcz := (q73 hb7 1).trans rfl
        have hfz := q77 hb7 1
        refine lA_ 13 none (fun K hK => ?_)
        go_simp
        have hlen : (its ++ [x]).length = its.length + 1 := by rw [List.length_append, List.length_singleton]
        have HF : Hid (Rs w0 w5 (w7.setCell ⟨w5.heap.size, 1, none⟩ (.slice A7 (its.length + 1) c7)) g y2 ∧ (w7.setCell ⟨w5.heap.size, 1, none⟩ (.slice A7 (its.length + 1) c7)).heap[w5.heap.size]? = some (.cells #[.slice Av n n, .slice A7 (its.length + 1) c7] 25 (0, 0)) ∧ Kd.R k48 48 (w7.setCell ⟨w5.heap.size, 1, none⟩ (.slice A7 (its.length + 1) c7)) (w5.heap.size + 1) (fun _ => True) (.slice A7 (its.length + 1) c7) (its ++ [x])) := Lib.hid ⟨hs7.set _ ⟨hbg, Nat.le_refl _, by show w0.heap.size ≤ w5.heap.size; omega⟩, q78 hb7 1 _ rfl, hlen ▸ R_set2 hR7 _ _ (Nat.lt_succ_self _)⟩
        have HL := Lib.hid hlen
        refine hK.out _ _ ?_
        clear hK K hs7 hb7 hR7 hcz hfz hlen
        refine dn_ ?_
        go_wp2
        go_roundg (il - (j + 1))
        case measure => omega
        case rel => exact ⟨j + 1, y2, its ++ [x], by go_num, by omega, by omega, Lib.hid ⟨_, HF.out.1, HF.out.2.1, HF.out.2.2, by rw [HL.out, HIT.out], by rw [HRE.out, List.append_assoc]; rfl⟩⟩
      have hltj : ¬ (j : Int) < (il : Int) := by omega
      obtain rfl : j = il := by omega
      have hRf : R = ((F, its), y) := by rw [hRe, List.drop_of_length_le (by have := HIL.out; omega)]; simp [itemsGo]
      have htx := HTFB.out wi y (HS5.out.then_ hsi) hsi.2.2
      have hsA := HS5.out.then_ hsi
      have hbz := hsA.blk HBA.out (by omega)
      have hbz2 : w.heap.size ≠ w5.heap.size := by omega
      have hwl : w.heap.size < w5.heap.size + 1 := by omega
      have hgw : w.heap.size ≠ g := by omega
      obtain ⟨m, hm⟩ : ∃ m, m = its.length := ⟨_, rfl⟩
      rw [← hm] at hRi hbi
      have HF : Hid (Kd.C Kd.string ((wi.setCell ⟨w.heap.size, 0, none⟩ (.slice Av n n)).setCell ⟨w.heap.size, 1, none⟩ (.slice A4 m c4)) Av F.length F ∧ Kd.R k48 48 ((wi.setCell ⟨w.heap.size, 0, none⟩ (.slice Av n n)).setCell ⟨w.heap.size, 1, none⟩ (.slice A4 m c4)) w.heap.size (fun _ => True) (.slice A4 m c4) its ∧ Rs w0 w ((wi.setCell ⟨w.heap.size, 0, none⟩ (.slice Av n n)).setCell ⟨w.heap.size, 1, none⟩ (.slice A4 m c4)) g y) := Lib.hid (by
        refine ⟨C_stay (C_stay htx.1.1 (fun ad e => Below.heap_setCell _ _ _ _ (by have := (HAV.out ad e).1; show ad.block ≠ w.heap.size; omega))) (fun ad e => Below.heap_setCell _ _ _ _ (by have := (HAV.out ad e).1; show ad.block ≠ w.heap.size; omega)), Kd.R_lower (R_set2 (R_set2 hRi _ _ hwl) _ _ hwl) (by omega), ?_⟩
        refine RsT.set (RsT.set (HSA.out.then_ hsA) _ ⟨hgw, Nat.le_refl _, hw0w⟩) _ ⟨hgw, Nat.le_refl _, hw0w⟩)
      have HG := Lib.hid (q78 (q78 hbz 0 (.slice Av n n) rfl) 1 (.slice A4 m c4) rfl)
      have HM := Lib.hid hm
      have HRF := Lib.hid hRf
      have hc0 := (q73 hbi 0).trans rfl
      have hc1 := (q73 hbi 1).trans rfl
      have hz0 := (q73 hbz 0).trans rfl
      have hz1 := (q73 hbz 1).trans rfl
      have hq0 := q77 hbz 0
      have hq1 := q77 hbz 1
      clear hsi hbi hRi hil hRe hRf htx hsA hbz hm
      go_wp2
      clear hc0 hc1 hz0 hz1 hq0 hq1
      refine bodyPost_ret (results_cell_row rfl _ _ w.heap.size 25 #[.slice Av n n, .slice A4 m c4] (0, 0) _ rfl HG.out Try.underlying25 rfl (by kernel_rfl)) rfl ?_
      rw [HRF.out]
      exact ⟨Av, n, .slice A4 m c4, by rw [HFL.out], by show F.length ≤ n; rw [HFL.out]; exact Nat.le_refl _, HF.out.1, fun ad e => by have := (HAV.out ad e).1; omega, HF.out.2.1, HF.out.2.2⟩
theorem strOfNums_inj {xs : List Int} : ∀ {ys : List Int}, Bytes xs → Bytes ys → (strOfNums xs).toList = (strOfNums ys).toList → xs = ys := by
  have e : ∀ l : List Int, (strOfNums l).toList = l.map (fun n => UInt8.ofNat n.toNat) := fun l => by rw [ByteArray.toList_eq, strOfNums_data]
  intro ys hx hy h
  rw [e, e] at h
  clear e
  induction xs generalizing ys with
  | nil => cases ys with
    | nil => rfl
    | cons b ys => simp at h
  | cons a xs ih => cases ys with
    | nil => simp at h
    | cons b ys =>
      rw [List.map_cons, List.map_cons, List.cons.injEq] at h
      have ha := (Bytes.cons hx).1
      have hb := (Bytes.cons hy).1
      have h1 := congrArg UInt8.toNat h.1
      rw [UInt8.toNat_ofNat', UInt8.toNat_ofNat', Nat.mod_eq_of_lt (by omega), Nat.mod_eq_of_lt (by omega)] at h1
      rw [ih (Bytes.cons hx).2 (Bytes.cons hy).2 h.2, show a = b by omega]
theorem equal_any (w : World) (A : Option Addr) (c : Nat) (xs : List Int) (B : Option Addr) (d : Nat) (ys : List Int) (hx : Kd.C (Kd.int .u8) w A xs.length xs) (hy : Kd.C (Kd.int .u8) w B ys.length ys) :
 Calls Try.prog 35 #[.slice A xs.length c, .slice B ys.length d] w fun e w' => e = .returned (.bool ((strOfNums xs).toList == (strOfNums ys).toList)) ∧ w = w' := by
 have h1 : (convert 26 9 (.slice A xs.length c)).run Try.prog w = .ok (.string (strOfNums xs)) w := Kd.C_string Try.underlying26 Try.underlying5 Try.underlying9 hx
 have h2 : (convert 26 9 (.slice B ys.length d)).run Try.prog w = .ok (.string (strOfNums ys)) w := Kd.C_string Try.underlying26 Try.underlying5 Try.underlying9 hy
 clear hx hy
 obtain ⟨n, hn⟩ : ∃ n, n = xs.length := ⟨_, rfl⟩
 obtain ⟨m, hm⟩ : ∃ m, m = ys.length := ⟨_, rfl⟩
 obtain ⟨sx, hsx⟩ : ∃ s, s = strOfNums xs := ⟨_, rfl⟩
 obtain ⟨sy, hsy⟩ : ∃ s, s = strOfNums ys := ⟨_, rfl⟩
 rw [← hn] at h1 ⊢
 rw [← hm] at h2 ⊢
 rw [← hsx] at h1 ⊢
 rw [← hsy] at h2 ⊢
 clear hn hm hsx hsy
 go_enter Try.func35, Try.ntmps35
 go_wp2
 go_ret
 exact ⟨rfl, rfl⟩
def unpackR (l : List Int) : (List ByteArray × List (S48)) × Int :=
 if l.length < 8 then (([], []), 2) else
  let r := modelR (l.drop 8, false)
  if r.2.2 = false ∧ isB r.1.1 r.1.2 = true ∧ packL r.1.1 r.1.2 = l then (r.1, 0) else (([], []), 2)
def UnPost (w : World) (r : (List ByteArray × List (S48)) × Int) (e : Ending) (w' : World) : Prop := ∃ A c v, e = .returned (.tuple #[.agg #[.slice A r.1.1.length c, v], .int .i64 r.2]) ∧ r.1.1.length ≤ c ∧ Kd.C Kd.string w' A r.1.1.length r.1.1 ∧ (∀ ad, A = some ad → w.heap.size ≤ ad.block) ∧ Kd.R k48 48 w' w.heap.size (fun _ => True) v r.1.2 ∧ Below w.heap.size w w'
theorem bytes_num (d : Nat) : ∀ n : Int, Bytes (numW d n) := by
  induction d with
  | zero => intro n x hx; simp [numW] at hx
  | succ d ih =>
    intro n x hx
    simp only [numW] at hx
    split at hx
    · rcases List.mem_cons.1 hx with rfl | hx
      · unfold byteW; rw [Lib.u8_or128_any _ (by omega) (by omega)]; omega
      · exact ih _ x hx
    · rw [List.mem_singleton.1 hx]; omega
theorem bytes_app {a b : List Int} (h1 : Bytes a) (h2 : Bytes b) : Bytes (a ++ b) := fun x hx => (List.mem_append.1 hx).elim (h1 x) (h2 x)
theorem bytes_flat {α : Type} (f : α → List Int) (l : List α) (h : ∀ x, Bytes (f x)) : Bytes (l.flatMap f) := fun x hx => by
 obtain ⟨y, -, h2⟩ := List.mem_flatMap.1 hx
 exact h y x h2
theorem bytes_str (s : ByteArray) : Bytes (bytesOf s) := fun x hx => by
 unfold bytesOf at hx
 obtain ⟨b, -, rfl⟩ := List.mem_map.1 hx
 have := b.toNat_lt
 omega
theorem bytes_model (fs : List ByteArray) (l : List (S48)) : Bytes (modelW fs l) := by
 unfold modelW
 refine bytes_app (bytes_app (bytes_app (bytes_num _ _) (bytes_flat _ _ fun s => bytes_app (bytes_num _ _) (bytes_str s))) (bytes_num _ _)) (bytes_flat _ _ fun x => ?_)
 have hs : ∀ ss, Bytes (sentsW fs l ss) := fun ss => bytes_app (bytes_num _ _) (bytes_flat _ _ fun s => bytes_app (bytes_app (bytes_app (bytes_num _ _) (bytes_flat _ _ fun o => bytes_app (bytes_num _ _) (bytes_num _ _))) (bytes_num _ _)) (bytes_flat _ _ fun c => bytes_app (bytes_app (bytes_num _ _) (bytes_num _ _)) (bytes_num _ _)))
 exact bytes_app (bytes_app (bytes_app (bytes_app (bytes_app (bytes_num _ _) (bytes_num _ _)) (bytes_num _ _)) (bytes_num _ _)) (hs _)) (hs _)
theorem bytes_seal {l : List Int} (h : Bytes l) : Bytes (sealL l) := by
 unfold sealL
 refine bytes_app (bytes_app (fun x hx => ?_) (fun x hx => ?_)) h
 ·simp only [List.mem_cons, List.not_mem_nil, or_false] at hx
  omega
 ·simp only [List.mem_cons, List.not_mem_nil, or_false] at hx
  omega
theorem bytes_pack (fs : List ByteArray) (l : List (S48)) : Bytes (packL fs l) := bytes_seal (bytes_model fs l)
theorem un_bad {w W : World} {U : (List ByteArray × List (S48)) × Int} (h : U = (([], []), 2)) (hb : Below w.heap.size w W) : UnPost w U (.returned (.tuple #[.agg #[.slice none 0 0, .slice none 0 0], .int .i64 2])) W := by
 subst h
 exact ⟨none, 0, .slice none 0 0, rfl, Nat.le_refl _, Kd.C_nil _ _, (fun ad e => by cases e), Kd.R_nil _ _ _ _ _, hb⟩
set_option maxHeartbeats 16000000 in
set_option maxRecDepth 100000 in
theorem unpack_any (w : World) (A0 : Option Addr) (c0 : Nat) (l : List Int) (hr0 : Kd.C (Kd.int .u8) w A0 l.length l) (hc0 : l.length ≤ c0) (h8 : Bytes l) (hl : l.length ≤ 140737488351232) :
    Calls Try.prog 21 #[.slice A0 l.length c0] w (UnPost w (unpackR l)) := by
  have hu25 := Try.underlying25
  have hu71 := Try.underlying71
  obtain ⟨U, hU⟩ : ∃ U, U = unpackR l := ⟨_, rfl⟩
  rw [← hU]
  unfold unpackR at hU
  obtain ⟨wA, hwA⟩ : ∃ wA, wA = w.alloc (.cells #[.slice none 0 0, .slice none 0 0] 25) := ⟨_, rfl⟩
  have hbA : wA.heap[w.heap.size]? = some (.cells #[.slice none 0 0, .slice none 0 0] 25 (0, 0)) := by rw [hwA]; exact heap_alloc_new w _
  have hblA : Below w.heap.size w wA := by rw [hwA]; exact q67 (Below.refl _ _) _
  have hAw : w.heap.size < wA.heap.size := by rw [hwA]; simp
  have HWA := Lib.hid hwA
  have HBA := Lib.hid hbA
  have HBLA := Lib.hid hblA
  by_cases h8l : l.length < 8
  case pos =>
    rw [if_pos h8l] at hU
    have HU := Lib.hid hU
    have hz : (l.length : Int) < 8 := by omega
    have HG : Hid ((w.alloc (.cells #[.slice none 0 0, .slice none 0 0] 25)).heap[w.heap.size]? = _) := Lib.hid (HWA.out ▸ HBA.out)
    have HB2 : Hid (Below w.heap.size w (w.alloc (.cells #[.slice none 0 0, .slice none 0 0] 25))) := Lib.hid (HWA.out ▸ HBLA.out)
    obtain ⟨n, hn⟩ : ∃ n, n = l.length := ⟨_, rfl⟩
    rw [← hn] at hz ⊢
    clear hr0 hc0 hU hwA hbA hblA h8l hn hl
    go_enter Try.func21, Try.ntmps21
    go_wp2
    refine bodyPost_ret (results_ct rfl _ _ w.heap.size 25 #[.slice none 0 0, .slice none 0 0] (0, 0) _ rfl HG.out Try.underlying25 rfl (by kernel_rfl)) rfl ?_
    rw [HU.out]
    exact ⟨none, 0, .slice none 0 0, rfl, Nat.le_refl _, Kd.C_nil _ _, (fun ad e => by cases e), Kd.R_nil _ _ _ _ _, HB2.out⟩
  rw [if_neg h8l] at hU
  have hz : ¬ (l.length : Int) < 8 := by omega
  obtain ⟨i0, hi0, hz0, hz1, hz2⟩ := info_parts info5
  have k2 := cut_from (P := Try.prog) 26 5 .i64 Try.underlying26 hi0 1 hz1 A0 l.length c0 8 (by omega) (by omega)
  obtain ⟨A2, hA2⟩ : ∃ A2, A2 = if c0 = (8 : Int).toNat then A0 else A0.map (·.add ((8 : Int).toNat * 1)) := ⟨_, rfl⟩
  have hC2 : Kd.C (Kd.int .u8) w A2 (l.drop 8).length (l.drop 8) := by rw [hA2]; exact Kd.C_drop hr0 (show 8 ≤ l.length by omega) hc0
  rw [← hA2] at k2
  have h8t : (8 : Int).toNat = 8 := rfl
  rw [h8t] at k2
  have hdl : (l.drop 8).length = l.length - 8 := List.length_drop
  obtain ⟨q, hq⟩ : ∃ q, q = l.length - 8 := ⟨_, rfl⟩
  rw [← hq] at k2 hdl
  obtain ⟨wB, hwB⟩ : ∃ wB, wB = wA.alloc (.cells #[.slice A2 q (c0 - 8), .bool false] 71) := ⟨_, rfl⟩
  have hzA : wA.heap.size = w.heap.size + 1 := by rw [hwA]; simp
  have hgB : wB.heap[w.heap.size + 1]? = some (.cells #[.slice A2 q (c0 - 8), .bool false] 71 (0, 0)) := by rw [hwB, ← hzA]; exact heap_alloc_new wA _
  have hblB : Below w.heap.size w wB := by rw [hwB]; exact q67 hblA _
  have hsB : Rs w wB wB (w.heap.size + 1) (l.drop 8, false) := RsT.refl ⟨A2, c0 - 8, by show (l.drop 8).length ≤ c0 - 8; omega, by show wB.heap[w.heap.size + 1]? = some (.cells #[.slice A2 (l.drop 8).length (c0 - 8), .bool false] 71 (0, 0)); rw [hdl]; exact hgB, hC2, fun x hx => h8 x (List.mem_of_mem_drop hx), by show (l.drop 8).length ≤ 140737488351232; omega⟩ hblB
  have hbB : wB.heap[w.heap.size]? = some (.cells #[.slice none 0 0, .slice none 0 0] 25 (0, 0)) := by rw [hwB]; exact q72 hbA (q67 (Below.refl _ _) _)
  have hmd := modelr_any w wB (w.heap.size + 1) (l.drop 8, false) (Nat.le_succ _) hsB
  obtain ⟨⟨⟨F, I⟩, z⟩, hz⟩ : ∃ r, r = modelR (l.drop 8, false) := ⟨_, rfl⟩
  rw [← hz] at hmd hU
  simp only at hU
  have HU := Lib.hid hU
  have HWB := Lib.hid hwB
  have HBB := Lib.hid hbB
  have HR0 := Lib.hid hr0
  have H8 := Lib.hid h8
  have hBw : w.heap.size + 1 < wB.heap.size := by have := hsB.1.lt; omega
  have HC0 := Lib.hid hc0
  obtain ⟨n, hn⟩ : ∃ n, n = l.length := ⟨_, rfl⟩
  have HN := Lib.hid hn
  rw [← hn] at k2 hc0 hl h8l ⊢
  have hnz : ¬ (n : Int) < 8 := by omega
  clear hr0 hU hwA hbA hblA hz0 hz1 hz2 hi0 hA2 hC2 h8t hdl hq hwB hzA hgB hblB hsB hbB hz hn h8
  go_enter Try.func21, Try.ntmps21
  go_wp2_with fail
  rw [← HWA.out, ← HWB.out]
  refine hmd.mono ?_
  rintro e w3 ⟨A3, c3, v3, rfl, hc3, hC3, hA3, hR3, s3⟩
  obtain ⟨A4, c4, rfl⟩ := Kd.R_slice hR3
  simp only at hc3 hC3 hA3 hR3 s3
  have hrd := Kd.R_reads' hR3
  have hb3 := s3.blk HBB.out (by omega)
  have hw3 : w.heap.size + 1 < w3.heap.size := by have := s3.2.2.1; omega
  obtain ⟨w4, hw4⟩ : ∃ w4, w4 = w3.alloc (.cells #[.slice A3 F.length c3, .slice A4 I.length c4] 25) := ⟨_, rfl⟩
  have hbl4 : Below w3.heap.size w3 w4 := by rw [hw4]; exact q67 (Below.refl _ _) _
  have hm4 : w4.heap[w3.heap.size]? = some (.cells #[.slice A3 F.length c3, .slice A4 I.length c4] 25 (0, 0)) := by rw [hw4]; exact heap_alloc_new w3 _
  have hpk := q58.calls A3 c3 F A4 c4 I (if isB F I = true then packL F I else []) (if isB F I = true then 0 else 1) w4 (Kd.C_below hC3 hbl4) hc3 (Kd.C_below hrd.2.2 hbl4) hrd.2.1 (by unfold q58.f; split <;> rfl)
  have hg4 : w4.cell? ⟨w.heap.size + 1, 1, none⟩ = some (.bool z.2) := by
    obtain ⟨A, c, hl, hg, -⟩ := s3.1
    exact q83 hbl4 ((q73 hg 1).trans rfl)
  have HB4 := Lib.hid (q72 hb3 hbl4)
  have HM4 := Lib.hid hm4
  have HW4 := Lib.hid hw4
  have HG4 := Lib.hid hg4
  have HBL4 := Lib.hid (q70 s3.2.1 s3.2.1.size hbl4)
  have HC4 := Lib.hid (Kd.C_below hC3 hbl4)
  have HR4 := Lib.hid (Kd.R_below hR3 hbl4)
  have HA3 := Lib.hid hA3
  have HC3 := Lib.hid hc3
  have hw4s : w3.heap.size < w4.heap.size := blk_lt hm4
  clear hmd hC3 hR3 hA3 hrd hb3 s3 hw4 hbl4 hm4 hg4 HBB HWB
  obtain ⟨nf, hnf⟩ : ∃ nf, nf = F.length := ⟨_, rfl⟩
  obtain ⟨ni, hni⟩ : ∃ ni, ni = I.length := ⟨_, rfl⟩
  obtain ⟨p, hp⟩ : ∃ p, p = (if isB F I = true then packL F I else []) := ⟨_, rfl⟩
  obtain ⟨r, hr⟩ : ∃ r : Int, r = (if isB F I = true then 0 else 1) := ⟨_, rfl⟩
  rw [← hp, ← hr] at hpk
  have hr01 : r = 0 ∨ r = 1 := by rw [hr]; split <;> simp
  have HP := Lib.hid (And.intro hp hr)
  have HNF := Lib.hid (And.intro hnf hni)
  clear hp hr
  go_wp2_with fail
  rw [← HW4.out]
  refine hpk.mono ?_
  rintro e w5 ⟨v5, rfl, hR5, hb5⟩
  obtain ⟨A5, c5, rfl⟩ := Kd.R_slice hR5
  have hg5 := q83 hb5 HG4.out
  have hz5 := q72 HB4.out hb5
  have hm5 := q72 HM4.out hb5
  have hbl5 := q70 HBL4.out HBL4.out.size hb5
  have hrd5 := Kd.R_reads' hR5
  have hz_0 := (q73 hz5 0).trans rfl
  have hz_1 := (q73 hz5 1).trans rfl
  have hq_0 := q77 hz5 0
  have hq_1 := q77 hz5 1
  have hm_0 := (q73 hm5 0).trans rfl
  have hm_1 := (q73 hm5 1).trans rfl
  have HZ5 := Lib.hid hz5
  have HBL5 := Lib.hid hbl5
  have HC5 := Lib.hid (Kd.C_below HC4.out hb5)
  have HR5 := Lib.hid (Kd.R_below HR4.out hb5)
  have HX5 := Lib.hid hrd5.2.2
  have HY5 := Lib.hid (Kd.C_below HR0.out hbl5)
  obtain ⟨m, hm⟩ : ∃ m, m = p.length := ⟨_, rfl⟩
  have HM := Lib.hid hm
  have heq := equal_any w5 A5 c5 p A0 c0 l HX5.out HY5.out
  rw [← hm, ← HN.out] at heq
  rw [← hm]
  have HBAD : Hid (∀ W, W = (w5.setCell ⟨w.heap.size, 0, none⟩ (.slice none 0 0)).setCell ⟨w.heap.size, 1, none⟩ (.slice none 0 0) → W.heap[w.heap.size]? = some (.cells #[.slice none 0 0, .slice none 0 0] 25 (0, 0)) ∧ Below w.heap.size w W) := Lib.hid (fun W hW => by
    subst hW
    exact ⟨q78 (q78 HZ5.out 0 (.slice none 0 0) rfl) 1 (.slice none 0 0) rfl, (HBL5.out.setCell (Nat.le_refl _) _).setCell (Nat.le_refl _) _⟩)
  clear hR5 hb5 hz5 hm5 hbl5 hrd5 hpk hm HM4 HB4 HBL4 HC4 HR4 HG4
  obtain ⟨zx, zb⟩ := z
  simp only at hg5
  cases zb with
  | true =>
    have HUB : Hid (U = (([], []), 2)) := Lib.hid (by rw [HU.out, if_neg (by simp)])
    clear heq hm_0 hm_1
    go_wp2
    refine bodyPost_ret (results_ct rfl _ _ w.heap.size 25 #[.slice none 0 0, .slice none 0 0] (0, 0) _ rfl (HBAD.out _ rfl).1 Try.underlying25 rfl (by kernel_rfl)) rfl ?_
    exact un_bad HUB.out (HBAD.out _ rfl).2
  | false =>
    rcases hr01 with rfl | rfl
    case inr =>
      have HUB : Hid (U = (([], []), 2)) := Lib.hid (by
        have h1 := HP.out.2
        rw [HU.out, if_neg]
        rintro ⟨-, h2, -⟩
        rw [if_pos h2] at h1
        cases h1)
      clear heq hm_0 hm_1
      go_wp2
      refine bodyPost_ret (results_ct rfl _ _ w.heap.size 25 #[.slice none 0 0, .slice none 0 0] (0, 0) _ rfl (HBAD.out _ rfl).1 Try.underlying25 rfl (by kernel_rfl)) rfl ?_
      exact un_bad HUB.out (HBAD.out _ rfl).2
    case inl =>
      have hB : isB F I = true := by
        have h1 := HP.out.2
        by_cases h : isB F I = true
        · exact h
        · rw [if_neg h] at h1; cases h1
      have hpp : p = packL F I := by rw [HP.out.1, if_pos hB]
      have HPP := Lib.hid hpp
      have HBB := Lib.hid hB
      clear hB hpp
      by_cases hq : (strOfNums p).toList = (strOfNums l).toList
      case neg =>
        have HUB : Hid (U = (([], []), 2)) := Lib.hid (by
          rw [HU.out, if_neg]
          rintro ⟨-, -, h2⟩
          exact hq (by rw [HPP.out, h2]))
        rw [beq_eq_false_iff_ne.mpr hq] at heq
        clear hm_0 hm_1 hq
        go_wp2_with fail
        refine heq.mono ?_
        rintro e w6 ⟨rfl, rfl⟩
        clear heq
        go_wp2
        refine bodyPost_ret (results_ct rfl _ _ w.heap.size 25 #[.slice none 0 0, .slice none 0 0] (0, 0) _ rfl (HBAD.out _ rfl).1 Try.underlying25 rfl (by kernel_rfl)) rfl ?_
        exact un_bad HUB.out (HBAD.out _ rfl).2
      case pos =>
        have HUB : Hid (U = ((F, I), 0)) := Lib.hid (by
          have := strOfNums_inj (by rw [HPP.out]; exact bytes_pack F I) H8.out hq
          rw [HU.out, if_pos ⟨rfl, HBB.out, by rw [← HPP.out]; exact this⟩])
        rw [beq_iff_eq.mpr hq] at heq
        clear hq
        go_wp2_with fail
        refine heq.mono ?_
        rintro e w6 ⟨rfl, rfl⟩
        clear heq
        go_wp2
        have hne : ∀ ad, A3 = some ad → ad.block ≠ w.heap.size := fun ad e => by have := HA3.out ad e; omega
        have HF : Hid (Kd.C Kd.string ((w5.setCell ⟨w.heap.size, 0, none⟩ (.slice A3 F.length c3)).setCell ⟨w.heap.size, 1, none⟩ (.slice A4 I.length c4)) A3 F.length F ∧ Kd.R k48 48 ((w5.setCell ⟨w.heap.size, 0, none⟩ (.slice A3 F.length c3)).setCell ⟨w.heap.size, 1, none⟩ (.slice A4 I.length c4)) w.heap.size (fun _ => True) (.slice A4 I.length c4) I ∧ Below w.heap.size w ((w5.setCell ⟨w.heap.size, 0, none⟩ (.slice A3 F.length c3)).setCell ⟨w.heap.size, 1, none⟩ (.slice A4 I.length c4))) := Lib.hid ⟨C_stay (C_stay HC5.out (fun ad e => Below.heap_setCell _ _ _ _ (hne ad e))) (fun ad e => Below.heap_setCell _ _ _ _ (hne ad e)), Kd.R_lower (R_set2 (R_set2 HR5.out _ _ (show w.heap.size < wB.heap.size by omega)) _ _ (show w.heap.size < wB.heap.size by omega)) (by omega), (HBL5.out.setCell (Nat.le_refl _) _).setCell (Nat.le_refl _) _⟩
        refine bodyPost_ret (results_ct rfl _ _ w.heap.size 25 #[.slice A3 F.length c3, .slice A4 I.length c4] (0, 0) _ rfl (q78 (q78 HZ5.out 0 _ rfl) 1 _ rfl) Try.underlying25 rfl (by kernel_rfl)) rfl ?_
        rw [HUB.out]
        exact ⟨A3, c3, .slice A4 I.length c4, rfl, HC3.out, HF.out.1, fun ad e => by have := HA3.out ad e; omega, HF.out.2.1, HF.out.2.2⟩
def textsGoC : Nat → RSt → List ByteArray × RSt
 | 0, s => ([], s)
 | d + 1, s => if s.2 = true then ([], s) else ((textC s).1 :: (textsGoC d (textC s).2).1, (textsGoC d (textC s).2).2)
def itemC (id : ByteArray) (files ids : List ByteArray) (s : RSt) : S48 × RSt :=
 let k := numC 9 s
 let p := numC ids.length k.2
 let r := numC 1 p.2
 let t := numC 100 r.2
 let en := sentsC files ids t.2
 let ex := sentsC files ids en.2
 (⟨id, k.1, if p.1 > 0 then rdOf ByteArray.empty ids (p.1 - 1) else ⟨#[]⟩, r.1 == 1, t.1, en.1, ex.1⟩, ex.2)
def itemsGoC (files ids : List ByteArray) : List ByteArray → RSt → List (S48) × RSt
 | [], s => ([], s)
 | id :: l, s => if s.2 = true then ([], s) else ((itemC id files ids s).1 :: (itemsGoC files ids l (itemC id files ids s).2).1, (itemsGoC files ids l (itemC id files ids s).2).2)
def refUnR (l : List Int) : (List ByteArray × List (S48)) × Int :=
 if l.length < 8 ∨ ¬ (strOfNums (l.take 4)).toList = [83, 78, 84, 49] then (([], []), 2) else
  let c := numC 22 (l.drop 8, false)
  let ts := textsGoC c.1.toNat c.2
  let n := numC ts.1.length ts.2
  if n.2.2 = true then (([], []), 2) else
   let r := itemsGoC (ts.1.take n.1.toNat) (ts.1.drop n.1.toNat) (ts.1.drop n.1.toNat) n.2
   if r.2.2 = false ∧ isB (ts.1.take n.1.toNat) r.1 = true ∧ packL (ts.1.take n.1.toNat) r.1 = l then ((ts.1.take n.1.toNat, r.1), 0) else (([], []), 2)
theorem numCGo_lt2 (most : Int) (d : Nat) : ∀ (i : Nat) (n : Int) (s : RSt), 0 ≤ n → n < (128 : Int) ^ i → (numCGo most d i n s).1 < (128 : Int) ^ (i + d) := by
  induction d with
  | zero => intro i n s _ _; simp only [numCGo]; exact Int.pow_pos (by decide)
  | succ d ih =>
    intro i n s h0 h1
    have hp : (0 : Int) < (128 : Int) ^ (i + (d + 1)) := Int.pow_pos (by decide)
    simp only [numCGo]
    by_cases hb : s.2 = true
    · rw [if_pos hb]; exact hp
    rw [if_neg hb]
    obtain ⟨xs, b⟩ := s
    cases xs with
    | nil => exact hp
    | cons x r =>
      have hpi : (0 : Int) ≤ (128 : Int) ^ i := Int.le_of_lt (Int.pow_pos (by decide))
      have hm : 0 ≤ x % 128 * (128 : Int) ^ i ∧ x % 128 * (128 : Int) ^ i ≤ 127 * (128 : Int) ^ i := ⟨Int.mul_nonneg (by omega) hpi, Int.mul_le_mul_of_nonneg_right (by omega) hpi⟩
      have hs : n + x % 128 * (128 : Int) ^ i < (128 : Int) ^ (i + 1) := by
        rw [Int.pow_succ]
        omega
      simp only
      split
      · split
        · exact hp
        · show n + x % 128 * (128 : Int) ^ i < (128 : Int) ^ (i + (d + 1))
          refine Int.lt_of_lt_of_le hs ?_
          have h1 : (128 : Nat) ^ (i + 1) ≤ 128 ^ (i + (d + 1)) := Nat.pow_le_pow_right (by decide) (by omega)
          exact_mod_cast h1
      · have := ih (i + 1) (n + x % 128 * (128 : Int) ^ i) (r, false) (by omega) hs
        rw [show i + 1 + d = i + (d + 1) by omega] at this
        exact this
theorem numC_small (most : Int) (s : RSt) : (numC most s).1.toNat ≤ 9223372036854775806 := by
 have h : (numC most s).1 < (128 : Int) ^ (0 + 5) := numCGo_lt2 most 5 0 0 s (by omega) (by decide)
 have h2 : (128 : Int) ^ (0 + 5) = 34359738368 := by decide
 omega
theorem onsC_len (ids : List ByteArray) (d : Nat) : ∀ s, (onsC ids d s).1.length ≤ d := by
 induction d with
 | zero => intro s; exact Nat.le_refl _
 | succ d ih => intro s; simp only [onsC]; split; exact Nat.zero_le _; exact Nat.succ_le_succ (ih _)
theorem ifsC_len (fs : List ByteArray) (d : Nat) : ∀ s, (ifsC fs d s).1.length ≤ d := by
 induction d with
 | zero => intro s; exact Nat.le_refl _
 | succ d ih => intro s; simp only [ifsC]; split; exact Nat.zero_le _; exact Nat.succ_le_succ (ih _)
theorem sentsGoC_fit (fs ids : List ByteArray) (d : Nat) : ∀ s, (sentsGoC fs ids d s).1.length ≤ d ∧ ∀ x ∈ (sentsGoC fs ids d s).1, x.f0.length ≤ 9223372036854775806 ∧ x.f1.length ≤ 9223372036854775806 := by
  induction d with
  | zero => intro s; exact ⟨Nat.le_refl _, fun x hx => by cases hx⟩
  | succ d ih =>
    intro s
    simp only [sentsGoC]
    split
    · exact ⟨Nat.zero_le _, fun x hx => by cases hx⟩
    · refine ⟨Nat.succ_le_succ (ih _).1, fun x hx => ?_⟩
      rcases List.mem_cons.1 hx with rfl | hx
      · exact ⟨Nat.le_trans (onsC_len _ _ _) (numC_small _ _), Nat.le_trans (ifsC_len _ _ _) (numC_small _ _)⟩
      · exact (ih _).2 x hx
theorem sentsC_fit (fs ids : List ByteArray) (s : RSt) : (sentsC fs ids s).1.length ≤ 9223372036854775806 ∧ ∀ x ∈ (sentsC fs ids s).1, x.f0.length ≤ 9223372036854775806 ∧ x.f1.length ≤ 9223372036854775806 :=
 ⟨Nat.le_trans (sentsGoC_fit _ _ _ _).1 (numC_small _ _), (sentsGoC_fit _ _ _ _).2⟩
theorem itemsGoC_fit (fs ids : List ByteArray) (l : List ByteArray) : ∀ s, (itemsGoC fs ids l s).1.length ≤ l.length ∧ ∀ x ∈ (itemsGoC fs ids l s).1, (x.f5.length ≤ 9223372036854775806 ∧ ∀ s ∈ x.f5, s.f0.length ≤ 9223372036854775806 ∧ s.f1.length ≤ 9223372036854775806) ∧ (x.f6.length ≤ 9223372036854775806 ∧ ∀ s ∈ x.f6, s.f0.length ≤ 9223372036854775806 ∧ s.f1.length ≤ 9223372036854775806) := by
  induction l with
  | nil => intro s; exact ⟨Nat.le_refl _, fun x hx => by cases hx⟩
  | cons id l ih =>
    intro s
    simp only [itemsGoC]
    split
    · exact ⟨Nat.zero_le _, fun x hx => by cases hx⟩
    · refine ⟨Nat.succ_le_succ (ih _).1, fun x hx => ?_⟩
      rcases List.mem_cons.1 hx with rfl | hx
      · exact ⟨sentsC_fit _ _ _, sentsC_fit _ _ _⟩
      · exact (ih _).2 x hx
theorem fits_items (F I l : List ByteArray) (z : RSt) {y : RSt} {its : List (S48)} (hF : F.length ≤ 1000) (hl : l.length ≤ 1000) (h : itemsGoC F I l z = (its, y)) : Fits F its := by
 have := itemsGoC_fit F I l z
 rw [h] at this
 exact ⟨by omega, by have := this.1; simp only at this; omega, this.2⟩
set_option maxHeartbeats 16000000 in
set_option maxRecDepth 100000 in
theorem refun_any (w : World) (A0 : Option Addr) (c0 : Nat) (l : List Int) (hr0 : Kd.C (Kd.int .u8) w A0 l.length l) (hc0 : l.length ≤ c0) (h8 : Bytes l) (hl : l.length ≤ 140737488351232) :
    Calls Try.prog 22 #[.slice A0 l.length c0] w (UnPost w (refUnR l)) := by
  have hu25 := Try.underlying25
  have hu76 := Try.underlying76
  obtain ⟨U, hU⟩ : ∃ U, U = refUnR l := ⟨_, rfl⟩
  rw [← hU]
  unfold refUnR at hU
  obtain ⟨wA, hwA⟩ : ∃ wA, wA = w.alloc (.cells #[.slice none 0 0, .slice none 0 0] 25) := ⟨_, rfl⟩
  have hbA : wA.heap[w.heap.size]? = some (.cells #[.slice none 0 0, .slice none 0 0] 25 (0, 0)) := by rw [hwA]; exact heap_alloc_new w _
  have hblA : Below w.heap.size w wA := by rw [hwA]; exact q67 (Below.refl _ _) _
  have hAw : w.heap.size < wA.heap.size := by rw [hwA]; simp
  have HWA := Lib.hid hwA
  have HBA := Lib.hid hbA
  have HBLA := Lib.hid hblA
  have HG : Hid ((w.alloc (.cells #[.slice none 0 0, .slice none 0 0] 25)).heap[w.heap.size]? = _) := Lib.hid (HWA.out ▸ HBA.out)
  have HB2 : Hid (Below w.heap.size w (w.alloc (.cells #[.slice none 0 0, .slice none 0 0] 25))) := Lib.hid (HWA.out ▸ HBLA.out)
  have HBAD : Hid (U = (([], []), 2) → ∀ W, Below w.heap.size w W → UnPost w U (.returned (.tuple #[.agg #[.slice none 0 0, .slice none 0 0], .int .i64 2])) W) := Lib.hid (fun h W hb => un_bad h hb)
  by_cases h8l : l.length < 8
  case pos =>
    rw [if_pos (.inl h8l)] at hU
    have HU := Lib.hid hU
    have hz : (l.length : Int) < 8 := by omega
    obtain ⟨n, hn⟩ : ∃ n, n = l.length := ⟨_, rfl⟩
    rw [← hn] at hz ⊢
    clear hr0 hc0 hU hwA hbA hblA h8l hn hl
    go_enter Try.func22, Try.ntmps22
    go_wp2
    refine bodyPost_ret (results_ct rfl _ _ w.heap.size 25 #[.slice none 0 0, .slice none 0 0] (0, 0) _ rfl HG.out Try.underlying25 rfl (by kernel_rfl)) rfl ?_
    exact HBAD.out HU.out _ HB2.out
  have hz : ¬ (l.length : Int) < 8 := by omega
  obtain ⟨i0, hi0, hz0, hz1, hz2⟩ := info_parts info5
  have k1 := cut_to (P := Try.prog) 26 5 .i64 Try.underlying26 hi0 A0 l.length c0 (4 : Int) (by omega) (by omega) hc0
  have k2 := cut_from (P := Try.prog) 26 5 .i64 Try.underlying26 hi0 1 hz1 A0 l.length c0 8 (by omega) (by omega)
  have h4t : (4 : Int).toNat = 4 := rfl
  have h8t : (8 : Int).toNat = 8 := rfl
  obtain ⟨A2, hA2⟩ : ∃ A2, A2 = if c0 = (8 : Int).toNat then A0 else A0.map (·.add ((8 : Int).toNat * 1)) := ⟨_, rfl⟩
  have hC2 : Kd.C (Kd.int .u8) w A2 (l.drop 8).length (l.drop 8) := by rw [hA2]; exact Kd.C_drop hr0 (show 8 ≤ l.length by omega) hc0
  have hC4 : Kd.C (Kd.int .u8) w A0 (l.take 4).length (l.take 4) := Kd.C_take hr0 (by omega)
  have h4l : (l.take 4).length = 4 := by rw [List.length_take]; omega
  have hks : ∀ W, Below w.heap.size w W → (convert 26 9 (.slice A0 4 c0)).run Try.prog W = .ok (.string (strOfNums (l.take 4))) W := fun W hb => by
    have := Kd.C_string (w := W) Try.underlying26 Try.underlying5 Try.underlying9 (c := c0) (Kd.C_below hC4 hb)
    rwa [h4l] at this
  obtain ⟨t4, ht4⟩ : ∃ t4, t4 = strOfNums (l.take 4) := ⟨_, rfl⟩
  rw [← ht4] at hks hU
  rw [← hA2] at k2
  rw [h8t] at k2
  rw [h4t] at k1
  have hdl : (l.drop 8).length = l.length - 8 := List.length_drop
  obtain ⟨q, hq⟩ : ∃ q, q = l.length - 8 := ⟨_, rfl⟩
  rw [← hq] at k2 hdl
  have hks := hks _ HB2.out
  by_cases ht : t4.toList = [83, 78, 84, 49]
  case neg =>
    rw [if_pos (.inr ht)] at hU
    have HU := Lib.hid hU
    have htb : (t4.toList == [83, 78, 84, 49]) = false := beq_eq_false_iff_ne.mpr ht
    obtain ⟨n, hn⟩ : ∃ n, n = l.length := ⟨_, rfl⟩
    rw [← hn] at hz k1 hc0 k2 ⊢
    clear hr0 hU hwA hbA hblA h8l hn hl k2 hC2 hC4 hA2 hdl hq ht4 h4l hz0 hz1 hz2 hi0
    go_enter Try.func22, Try.ntmps22
    go_wp2
    refine bodyPost_ret (results_ct rfl _ _ w.heap.size 25 #[.slice none 0 0, .slice none 0 0] (0, 0) _ rfl HG.out Try.underlying25 rfl (by kernel_rfl)) rfl ?_
    exact HBAD.out HU.out _ HB2.out
  rw [if_neg (by rw [not_or]; exact ⟨h8l, fun h => h ht⟩)] at hU
  simp only at hU
  have htb : (t4.toList == [83, 78, 84, 49]) = true := beq_iff_eq.mpr ht
  obtain ⟨wB, hwB⟩ : ∃ wB, wB = wA.alloc (.cells #[.slice A2 q (c0 - 8), .bool false] 76) := ⟨_, rfl⟩
  have hzA : wA.heap.size = w.heap.size + 1 := by rw [hwA]; simp
  have hgB : wB.heap[w.heap.size + 1]? = some (.cells #[.slice A2 q (c0 - 8), .bool false] 76 (0, 0)) := by rw [hwB, ← hzA]; exact heap_alloc_new wA _
  have hblB : Below w.heap.size w wB := by rw [hwB]; exact q67 hblA _
  have hsB : Cs w wB wB (w.heap.size + 1) (l.drop 8, false) := RsT.refl ⟨A2, c0 - 8, by show (l.drop 8).length ≤ c0 - 8; omega, by show wB.heap[w.heap.size + 1]? = some (.cells #[.slice A2 (l.drop 8).length (c0 - 8), .bool false] 76 (0, 0)); rw [hdl]; exact hgB, hC2, fun x hx => h8 x (List.mem_of_mem_drop hx), by show (l.drop 8).length ≤ 140737488351232; omega⟩ hblB
  have hbB : wB.heap[w.heap.size]? = some (.cells #[.slice none 0 0, .slice none 0 0] 25 (0, 0)) := by rw [hwB]; exact q72 hbA (q67 (Below.refl _ _) _)
  have hg0 : w.heap.size ≤ w.heap.size + 1 := Nat.le_succ _
  have hcnt := numc_rs 22 hg0 hsB.here
  have hcl := countC_le 22 (l.drop 8, false) hsB.bytes (by omega)
  obtain ⟨⟨n0, z0⟩, hn0⟩ : ∃ r, r = numC 22 (l.drop 8, false) := ⟨_, rfl⟩
  rw [← hn0] at hcnt hcl hU
  obtain ⟨k, rfl⟩ := Int.eq_ofNat_of_zero_le hcl.1
  have hk22 : k ≤ 22 := by have := hcl.2; simp only at this; omega
  simp only [Int.toNat_natCast] at hU
  obtain ⟨⟨T, z1⟩, hT⟩ : ∃ r, r = textsGoC k z0 := ⟨_, rfl⟩
  rw [← hT] at hU
  simp only at hU
  have HT := Lib.hid hT
  have HU := Lib.hid hU
  have HWB := Lib.hid hwB
  have HBB := Lib.hid hbB
  have HSB := Lib.hid hsB
  have HR0 := Lib.hid hr0
  have H8 := Lib.hid h8
  have HL := Lib.hid hl
  have hBw : w.heap.size + 1 < wB.heap.size := by have := hsB.1.lt; omega
  obtain ⟨n, hn⟩ : ∃ n, n = l.length := ⟨_, rfl⟩
  have HN := Lib.hid hn
  rw [← hn] at hz k1 hc0 k2 ⊢
  clear hr0 hU hwA hbA hblA hz0 hz1 hz2 hi0 hA2 hC2 hC4 h8t h4t h4l hdl hq hwB hzA hgB hblB hsB hbB ht4 ht hT hn h8 h8l hl hn0 hcl
  go_enter Try.func22, Try.ntmps22
  go_wp2_with fail
  rw [← HWA.out, ← HWB.out]
  refine hcnt.mono ?_
  rintro e w1 ⟨rfl, s1⟩
  have HS1 := Lib.hid s1
  have hgb1 : w.heap.size + 1 < wB.heap.size := hBw
  clear s1 hcnt k1 k2 hks
  go_upto_block 0 with (fail)
  go_cut [5] (fun s5 wc => ∃ Av cv, s5 = .slice Av T.length cv ∧ Hid (Kd.R Kd.string 9 wc wB.heap.size (fun _ => True) (.slice Av T.length cv) T ∧ Cs w wB wc (w.heap.size + 1) z1 ∧ T.length ≤ 22))
  case first =>
   go_wp2_with fail
   go_loopg [6, 5] k (fun gg s6 s5 wr => ∃ (d : Nat) (z : RSt) (acc : List ByteArray), s6 = .int .i64 d ∧ d ≤ gg ∧ Hid (Kd.R Kd.string 9 wr wB.heap.size (fun _ => True) s5 acc ∧ Cs w wB wr (w.heap.size + 1) z ∧ acc.length + d ≤ 22 ∧ (T, z1) = (acc ++ (textsGoC d z).1, (textsGoC d z).2)))
   case atStart => exact ⟨k, z0, [], rfl, Nat.le_refl _, Lib.hid ⟨Kd.R_nil _ _ _ _ _, HS1.out, by simpa using hk22, by rw [HT.out]; rfl⟩⟩
   case round =>
     obtain ⟨d, z, acc, rfl, hdg, X⟩ := hrel
     obtain ⟨wO, rfl⟩ : ∃ wO, wO = wr := ⟨_, rfl⟩
     obtain ⟨hRa, hsO, hacc, hRe⟩ := X.out
     obtain ⟨Av, cv, rfl⟩ := Kd.R_slice hRa
     clear X
     obtain ⟨bd, hbd⟩ : ∃ bd, bd = z.2 := ⟨_, rfl⟩
     have hev : wO.cell? ⟨w.heap.size + 1, 1, none⟩ = some (.bool bd) := by obtain ⟨A, c, -, hg, -⟩ := hsO.1; rw [hbd]; exact (q73 hg 1).trans rfl
     have hwO : wB.heap.size ≤ wO.heap.size := hsO.2.2.1
     by_cases hend : d = 0 ∨ bd = true
     case neg =>
       rw [not_or] at hend
       obtain ⟨hd0, hb0⟩ := hend
       obtain rfl : bd = false := by simpa using hb0
       obtain ⟨d, rfl⟩ : ∃ e, d = e + 1 := ⟨d - 1, by omega⟩
       have hdp : ((d + 1 : Nat) : Int) > 0 := by omega
       have htx := textc_rs (w0 := w) (w := wO) hg0 hsO.here
       obtain ⟨⟨s, y⟩, hs⟩ : ∃ r, r = textC z := ⟨_, rfl⟩
       rw [← hs] at htx
       have hRe2 : (T, z1) = (acc ++ s :: (textsGoC d y).1, (textsGoC d y).2) := by rw [hRe]; simp only [textsGoC]; rw [if_neg (by rw [← hbd]; decide), ← hs]
       obtain ⟨m, hm⟩ : ∃ m, m = acc.length := ⟨_, rfl⟩
       rw [← hm] at hRa ⊢
       have hlim : (acc.length + 1) * 16 ≤ 140737488355328 := by omega
       have HRA := Lib.hid hRa
       have HSO := Lib.hid hsO
       have HACC := Lib.hid hacc
       have HRE := Lib.hid hRe2
       have HLIM := Lib.hid hlim
       have hd3 : (d : Int) ≤ 22 := by omega
       clear hRa hsO hacc hRe hRe2 hs hm hlim hbd hd0 hb0
       go_wp2_with fail
       refine htx.mono ?_
       rintro e w2 ⟨rfl, s2⟩
       have HS2 := Lib.hid (HSO.out.then_ s2)
       have HR2 := Lib.hid (R_rs HRA.out s2 (by omega))
       have hw2 : wB.heap.size ≤ w2.heap.size := HS2.out.2.2.1
       clear s2 htx HSO HRA
       go_wp2_with (first | ((with_reducible refine q79 (b := .append) (xs := #[.tmp 42, .tmp 45]) rfl ?_); at_builtin; refine Kd.R_append Kd.string (w0 := w2) wB.heap.size rfl (.tmp 42) (.tmp 45) 22 9 (.string ⟨#[]⟩) 16 rfl Try.underlying22 info9 rfl (by decide) (by omega) (.slice Av m cv) acc s [.string s] (fun _ => True) (fun _ => False) rfl rfl rfl (fun _ h => h.elim) (fun _ _ => trivial) HR2.out (Below.refl _ _) hw2 HLIM.out ?_; intro v4 w4 hR4 hB4 hgr hat; have HS4 := Lib.hid (HS2.out.grown hgr (fun kk ek => by (have h_ := Kd.R_base HR2.out kk ek); omega)); clear hgr hat hB4; obtain ⟨A4, c4, rfl⟩ := Kd.R_slice hR4; rw [List.length_append, List.length_singleton] at hR4; have HR4 := Lib.hid hR4; clear hR4))
       go_roundg d
       case measure => omega
       case rel => exact ⟨d, y, acc ++ [s], (by first | rfl | rw [show wrap64 (d : Int) = (d : Int) by unfold wrap64; omega]), Nat.le_refl _, Lib.hid ⟨HR4.out, HS4.out, by have := HACC.out; rw [List.length_append, List.length_singleton]; omega, by rw [HRE.out, List.append_assoc]; rfl⟩⟩
     obtain ⟨rfl, rfl⟩ : T = acc ∧ z1 = z := by
       rcases hend with rfl | h
       · simpa [textsGoC] using hRe
       · cases d with
         | zero => simpa [textsGoC] using hRe
         | succ d =>
           simp only [textsGoC] at hRe
           rw [if_pos (by rw [← hbd]; exact h)] at hRe
           simpa using hRe
     have hE : d = 0 ∨ ((d : Int) > 0 ∧ bd = true) := by
       rcases Nat.eq_zero_or_pos d with h0 | h0
       · exact .inl h0
       · exact .inr ⟨by omega, hend.resolve_left (by omega)⟩
     have HF : Hid (Kd.R Kd.string 9 wO wB.heap.size (fun _ => True) (.slice Av T.length cv) T ∧ Cs w wB wO (w.heap.size + 1) z1 ∧ T.length ≤ 22) := Lib.hid ⟨hRa, hsO, by omega⟩
     clear hRa hsO hacc hRe hbd hend
     rcases hE with rfl | ⟨hdp, rfl⟩
     all_goals
       go_wp2
       go_meet
       case rel => exact ⟨Av, cv, rfl, HF⟩
  case rest =>
   obtain ⟨Av, cv, rfl, X⟩ := hcut
   obtain ⟨wQ, rfl⟩ : ∃ wQ, wQ = wc := ⟨_, rfl⟩
   obtain ⟨hRT, hsO, hT22⟩ := X.out
   clear X
   have hcl := countC_le T.length z1 hsO.bytes (by omega)
   have hcnt := numc_rs (w0 := w) (w := wQ) T.length hg0 hsO.here
   have hUU := HU.out
   obtain ⟨⟨n1, z2⟩, hn1⟩ : ∃ r, r = numC T.length z1 := ⟨_, rfl⟩
   rw [← hn1] at hcl hcnt hUU
   obtain ⟨n1, rfl⟩ := Int.eq_ofNat_of_zero_le hcl.1
   have hnT : n1 ≤ T.length := by have := hcl.2; simp only at this; omega
   simp only [Int.toNat_natCast] at hUU
   obtain ⟨F, hF⟩ : ∃ F, F = T.take n1 := ⟨_, rfl⟩
   obtain ⟨I, hI⟩ : ∃ I, I = T.drop n1 := ⟨_, rfl⟩
   rw [← hF, ← hI] at hUU
   obtain ⟨RR, hRR⟩ : ∃ RR, RR = itemsGoC F I I z2 := ⟨_, rfl⟩
   rw [← hRR] at hUU
   have hFl : F.length = n1 := by rw [hF, List.length_take]; omega
   have hIl : I.length = T.length - n1 := by rw [hI, List.length_drop]
   have hrd := Kd.R_reads' hRT
   have hCF : Kd.C Kd.string wQ Av F.length F := by rw [hF]; exact Kd.C_take hrd.2.2 hnT
   obtain ⟨Ai, hAi⟩ : ∃ Ai, Ai = if cv = n1 then Av else Av.map (·.add (n1 * 1)) := ⟨_, rfl⟩
   have hCI : Kd.C Kd.string wQ Ai I.length I := by rw [hI, hAi]; exact Kd.C_drop hrd.2.2 hnT hrd.2.1
   have hAv : ∀ ad, Av = some ad → wB.heap.size ≤ ad.block ∧ ad.block < wQ.heap.size := fun ad e => by
     subst e
     exact ⟨Kd.R_base hRT ad.block (by simp [Value.ownBlock]), Kd.R_lt hRT ad.block (by simp [Value.ownBlock])⟩
   have hAii : ∀ ad, Ai = some ad → wB.heap.size ≤ ad.block ∧ ad.block < wQ.heap.size := by
     intro ad e
     rw [hAi] at e
     split at e
     · exact hAv ad e
     · cases Av with
       | none => cases e
       | some a0 =>
         cases e
         have hblk : (a0.add (n1 * 1)).block = a0.block := by unfold Addr.add; split <;> rfl
         rw [hblk]
         exact hAv a0 rfl
   obtain ⟨i1, hi1, hy0, hy1, hy2⟩ := info_parts info9
   have k1 := cut_to (P := Try.prog) 22 9 .i64 Try.underlying22 hi1 Av T.length cv (n1 : Int) (by omega) (by omega) hrd.2.1
   have k2 := cut_from (P := Try.prog) 22 9 .i64 Try.underlying22 hi1 1 hy1 Av T.length cv (n1 : Int) (by omega) (by omega)
   rw [Int.toNat_natCast] at k1 k2
   rw [← hAi, ← hIl] at k2
   obtain ⟨tl, htl⟩ : ∃ tl, tl = T.length := ⟨_, rfl⟩
   obtain ⟨il, hil⟩ : ∃ il, il = I.length := ⟨_, rfl⟩
   rw [← hil] at k2
   rw [← htl] at k1 k2 hcnt ⊢
   have hil22 : il ≤ 22 := by omega
   have htl22 : tl ≤ 22 := by omega
   have hwQ : wB.heap.size ≤ wQ.heap.size := hsO.2.2.1
   have hgne : w.heap.size ≠ w.heap.size + 1 := by omega
   have HTF : Hid (Txt w wQ (w.heap.size + 1) Av cv F) := Lib.hid ⟨hCF, by have := hrd.2.1; omega, fun ad e => ⟨(hAv ad e).2, by have := (hAv ad e).1; omega⟩, by omega⟩
   have HTI : Hid (Txt w wQ (w.heap.size + 1) Ai (cv - n1) I) := Lib.hid ⟨hCI, by have := hrd.2.1; omega, fun ad e => ⟨(hAii ad e).2, by have := (hAii ad e).1; omega⟩, by omega⟩
   have HSO := Lib.hid hsO
   have HAV := Lib.hid hAv
   have HUU := Lib.hid hUU
   have HFL := Lib.hid hFl
   have HIL := Lib.hid hil
   have HRR := Lib.hid hRR
   have hntl : n1 ≤ tl := by omega
   have hncv : tl ≤ cv := by have := hrd.2.1; omega
   have hncv2 : n1 ≤ cv := by omega
   have HBADF : Hid (∀ W0, Below w.heap.size w W0 → W0.heap[w.heap.size]? = some (.cells #[.slice none 0 0, .slice none 0 0] 25 (0, 0)) → ∀ W, W = (W0.setCell ⟨w.heap.size, 0, none⟩ (.slice none 0 0)).setCell ⟨w.heap.size, 1, none⟩ (.slice none 0 0) → W.heap[w.heap.size]? = some (.cells #[.slice none 0 0, .slice none 0 0] 25 (0, 0)) ∧ Below w.heap.size w W) := Lib.hid (fun W0 hb hz W hW => by
     subst hW
     exact ⟨q78 (q78 hz 0 (.slice none 0 0) rfl) 1 (.slice none 0 0) rfl, (hb.setCell (Nat.le_refl _) _).setCell (Nat.le_refl _) _⟩)
   clear hRT hsO hcl hUU hn1 hF hI hFl hIl hrd hCF hAi hCI hAv hAii hi1 hy0 hy1 hy2 htl hil hRR hT22
   go_wp2_with fail
   refine hcnt.mono ?_
   rintro e w5 ⟨rfl, s5⟩
   have hs5 := HSO.out.then_ s5
   have hz5 := hs5.blk HBB.out hgne
   have HTX : Hid (∀ W z, Cs w w5 W (w.heap.size + 1) z → Txt w W (w.heap.size + 1) Av cv F ∧ Txt w W (w.heap.size + 1) Ai (cv - n1) I) := Lib.hid (fun W z h => ⟨HTF.out.go (s5.then_ h), HTI.out.go (s5.then_ h)⟩)
   obtain ⟨bz, hbz⟩ : ∃ bz, bz = z2.2 := ⟨_, rfl⟩
   have hev5 : w5.cell? ⟨w.heap.size + 1, 1, none⟩ = some (.bool bz) := by obtain ⟨A, c, -, hg, -⟩ := hs5.1; rw [hbz]; exact (q73 hg 1).trans rfl
   have HS5 := Lib.hid hs5
   have HZ5 := Lib.hid hz5
   have HB5 := Lib.hid hs5.2.1
   have hz_0 := (q73 hz5 0).trans rfl
   have hz_1 := (q73 hz5 1).trans rfl
   have hq_0 := q77 hz5 0
   have hq_1 := q77 hz5 1
   have hw5 : wB.heap.size ≤ w5.heap.size := hs5.2.2.1
   clear s5 hcnt hs5 hz5 HTF HTI
   cases bz with
   | true =>
     have HUB : Hid (U = (([], []), 2)) := Lib.hid (by rw [HUU.out, if_pos hbz.symm])
     clear hbz
     go_wp2
     refine bodyPost_ret (results_ct rfl _ _ w.heap.size 25 #[.slice none 0 0, .slice none 0 0] (0, 0) _ rfl (HBADF.out w5 HB5.out HZ5.out _ rfl).1 Try.underlying25 rfl (by kernel_rfl)) rfl ?_
     exact HBAD.out HUB.out _ (HBADF.out w5 HB5.out HZ5.out _ rfl).2
   | false =>
   have HUV : Hid (U = if RR.2.2 = false ∧ isB F RR.1 = true ∧ packL F RR.1 = l then ((F, RR.1), 0) else (([], []), 2)) := Lib.hid (by rw [HUU.out, if_neg (by rw [← hbz]; decide)])
   obtain ⟨wM, hwM⟩ : ∃ wM, wM = w5.alloc (.cells #[.slice Av n1 cv, .slice none 0 0] 25) := ⟨_, rfl⟩
   have HSM : Hid (Cs w w5 wM (w.heap.size + 1) z2) := Lib.hid (by rw [hwM]; exact HS5.out.here.alloc _)
   have HBM : Hid (wM.heap[w5.heap.size]? = some (.cells #[.slice Av n1 cv, .slice none 0 0] 25 (0, 0))) := Lib.hid (by rw [hwM]; exact heap_alloc_new w5 _)
   have HWM := Lib.hid hwM
   clear hwM hbz HUU hz_0 hz_1 hq_0 hq_1
   go_upto_block 2 with (fail)
   rw [← HWM.out]
   go_cut [10] (fun s10 wc => ∃ (y : RSt) (its : List (S48)) (v : Value), Hid (Cs w w5 wc (w.heap.size + 1) y ∧ wc.heap[w5.heap.size]? = some (.cells #[.slice Av n1 cv, v] 25 (0, 0)) ∧ Kd.R k48 48 wc (w5.heap.size + 1) (fun _ => True) v its ∧ RR = (its, y)))
   case first =>
    go_wp2_with fail
    go_loopg [10] il (fun gg s10 wi => ∃ (j : Nat) (y : RSt) (its : List (S48)), s10 = .int .i64 j ∧ j ≤ il ∧ il - j ≤ gg ∧ Hid (∃ v, Cs w w5 wi (w.heap.size + 1) y ∧ wi.heap[w5.heap.size]? = some (.cells #[.slice Av n1 cv, v] 25 (0, 0)) ∧ Kd.R k48 48 wi (w5.heap.size + 1) (fun _ => True) v its ∧ its.length = j ∧ RR = (its ++ (itemsGoC F I (I.drop j) y).1, (itemsGoC F I (I.drop j) y).2)))
    case atStart => exact ⟨0, z2, [], rfl, by omega, by omega, Lib.hid ⟨_, HSM.out, HBM.out, Kd.R_nil _ _ _ _ _, rfl, by rw [HRR.out]; rfl⟩⟩
    case round =>
      obtain ⟨j, y, its, rfl, hjl, hjg, Y⟩ := hrel
      obtain ⟨wi, rfl⟩ : ∃ wi, wi = wr := ⟨_, rfl⟩
      obtain ⟨v, hsi, hbi, hRi, hjt, hRe⟩ := Y.out
      obtain ⟨A4, c4, rfl⟩ := Kd.R_slice hRi
      clear Y
      obtain ⟨bd, hbd⟩ : ∃ bd, bd = y.2 := ⟨_, rfl⟩
      have hev : wi.cell? ⟨w.heap.size + 1, 1, none⟩ = some (.bool bd) := by obtain ⟨A, c, -, hg, -⟩ := hsi.1; rw [hbd]; exact (q73 hg 1).trans rfl
      by_cases hend : j = il ∨ bd = true
      case pos =>
        have hR2 : RR = (its, y) := by
          rw [hRe]
          rcases hend with rfl | h
          · rw [show I.drop j = [] from List.drop_eq_nil_of_le (by have := HIL.out; omega)]
            simp [itemsGoC]
          · cases hd : I.drop j with
            | nil => simp [itemsGoC]
            | cons a b => simp only [itemsGoC]; rw [if_pos (by rw [← hbd]; exact h)]; simp
        have hE : j = il ∨ ((j : Int) < (il : Int) ∧ bd = true) := by
          rcases Nat.lt_or_ge j il with h0 | h0
          · exact .inr ⟨by omega, hend.resolve_left (by omega)⟩
          · exact .inl (by omega)
        have HF : Hid (Cs w w5 wi (w.heap.size + 1) y ∧ wi.heap[w5.heap.size]? = some (.cells #[.slice Av n1 cv, .slice A4 its.length c4] 25 (0, 0)) ∧ Kd.R k48 48 wi (w5.heap.size + 1) (fun _ => True) (.slice A4 its.length c4) its ∧ RR = (its, y)) := Lib.hid ⟨hsi, hbi, hRi, hR2⟩
        clear hsi hbi hRi hjt hRe hbd hend hR2
        rcases hE with rfl | ⟨hdp, rfl⟩
        all_goals
          go_wp2
          go_meet
          case rel => exact ⟨y, its, _, HF⟩
      rw [not_or] at hend
      obtain ⟨hj0, hb0⟩ := hend
      obtain rfl : bd = false := by simpa using hb0
      have hlj : j < il := by omega
      have hltj : (j : Int) < (il : Int) := by omega
      have hjI : j < I.length := by have := HIL.out; omega
      have htx := HTX.out wi y hsi
      obtain ⟨ad, e, hx0⟩ := Kd.at_string htx.2.1 (j : Int) (by omega) (by omega)
      cases e
      simp only [Int.toNat_natCast] at hx0
      obtain ⟨id, hid'⟩ : ∃ id, id = rdOf ByteArray.empty I (j : Int) := ⟨_, rfl⟩
      have hidl : id = I[j] := by rw [hid', rdOf_get _ _ _ hjI]
      rw [← hid'] at hx0
      have hdr : I.drop j = id :: I.drop (j + 1) := by rw [hidl]; exact List.drop_eq_getElem_cons hjI
      rw [hdr] at hRe
      have hadg : (ad.add j).block ≠ w.heap.size + 1 := by
        rw [show (ad.add j).block = ad.block by unfold Addr.add; split <;> rfl]
        exact (htx.2.2.2.1 ad rfl).2
      obtain ⟨X, hX⟩ : ∃ X, X = itemC id F I y := ⟨_, rfl⟩
      have hRe2 : RR = (its ++ X.1 :: (itemsGoC F I (I.drop (j + 1)) X.2).1, (itemsGoC F I (I.drop (j + 1)) X.2).2) := by rw [hRe]; simp only [itemsGoC]; rw [if_neg (by rw [← hbd]; decide), hX]
      unfold itemC at hX
      have hkb := numC_lt 9 y hsi.bytes
      obtain ⟨⟨k, y1⟩, h1⟩ : ∃ r, r = numC 9 y := ⟨_, rfl⟩
      rw [← h1] at hX
      obtain ⟨⟨p, y2⟩, h2⟩ : ∃ r, r = numC I.length y1 := ⟨_, rfl⟩
      simp only at hX
      rw [← h2] at hX
      obtain ⟨⟨r, y3⟩, h3⟩ : ∃ r, r = numC 1 y2 := ⟨_, rfl⟩
      simp only at hX
      rw [← h3] at hX
      obtain ⟨⟨t, y4⟩, h4⟩ : ∃ r, r = numC 100 y3 := ⟨_, rfl⟩
      simp only at hX
      rw [← h4] at hX
      obtain ⟨⟨en, y5⟩, h5⟩ : ∃ r, r = sentsC F I y4 := ⟨_, rfl⟩
      simp only at hX
      rw [← h5] at hX
      obtain ⟨⟨ex, y6⟩, h6⟩ : ∃ r, r = sentsC F I y5 := ⟨_, rfl⟩
      simp only at hX
      rw [← h6] at hX
      simp only at hX
      obtain ⟨par, hpar⟩ : ∃ par : ByteArray, par = if p > 0 then rdOf ByteArray.empty I (p - 1) else ⟨#[]⟩ := ⟨_, rfl⟩
      rw [← hpar] at hX
      obtain ⟨m, hm⟩ : ∃ m, m = its.length := ⟨_, rfl⟩
      rw [← hm] at hRi hbi
      have hmj : m = j := by omega
      have HJT : Hid (its.length ≤ 22) := Lib.hid (by omega)
      have HX := Lib.hid hX
      have HRE := Lib.hid hRe2
      have HPAR := Lib.hid hpar
      have HH := Lib.hid (And.intro h1 (And.intro h2 (And.intro h3 (And.intro h4 (And.intro h5 h6)))))
      have HSI := Lib.hid hsi
      have HBI := Lib.hid hbi
      have HRI := Lib.hid hRi
      have HM := Lib.hid hm
      have HMJ := Lib.hid hmj
      have hbmg : w5.heap.size ≠ w.heap.size + 1 := by omega
      clear hsi hbi hRi hjt hRe hRe2 hm hmj hX h1 h2 h3 h4 h5 h6 hpar hbd hj0 hb0 hidl hdr hid' htx hkb
      go_wp2
      refine sD_ [8] (fun w' => w'.cell? (ad.add j) = some (.string id)) 9 hx0 (fun hHeld => ?_)
      have hs4 : Cs w w5 wi.drew (w.heap.size + 1) y := HSI.out.drew
      have hb4 : wi.drew.heap[w5.heap.size]? = some (.cells #[.slice Av n1 cv, .slice A4 m c4] 25 (0, 0)) := HBI.out
      have hR4 : Kd.R k48 48 wi.drew (w5.heap.size + 1) (fun _ => True) (.slice A4 m c4) its := Kd.R_drew HRI.out
      clear HSI HBI HRI hx0 hev
      generalize wi.drew = wD at hHeld hb4 hs4 hR4 ⊢
      have HSD := Lib.hid hs4
      have HBD := Lib.hid hb4
      have HRD := Lib.hid hR4
      have hD5 : w5.heap.size < wD.heap.size := blk_lt hb4
      have hwD0 : w.heap.size ≤ wD.heap.size := by omega
      have hnum := numc_rs (w0 := w) (w := wD) 9 hg0 hs4.here
      rw [← HH.out.1] at hnum
      clear hs4 hb4 hR4
      refine pu_ 0 (some 76) ?_
      refine pu_ 1 (some 77) ?_
      refine pu_ 2 (some 78) ?_
      refine tk_ 3 (some 79) hHeld ?_ (hy := by rintro w' s0; go_simp; with_reducible rfl)
      refine pu_ 4 (some 80) ?_
      refine join_ (σ := Nat) 0 (bits 9 511) (fun bx => [(81, .int .i64 k), (11, .pointer (some ⟨bx, 0, none⟩)), (82, .agg #[.string id, .int .i64 k, .string ⟨#[]⟩, .bool false, .int .i64 0, .slice none 0 0, .slice none 0 0])]) (fun bx w' => XST 76 w wD w' (w.heap.size + 1) bx y1 #[.string id, .int .i64 k, .string ⟨#[]⟩, .bool false, .int .i64 0, .slice none 0 0, .slice none 0 0] ∧ wD.heap.size ≤ bx) ?_ ?_
      rotate_left
      · intro hCont
        have HCT := Lib.hid hCont
        clear hCont
        refine tW_ 5 7 (some 81) (some 11) (fun K hK => ?_) (fun K hK => ?_)
        · refine go_s_ Try.func36 #[.pointer (some ⟨w.heap.size + 1, 0, none⟩), .int .i64 9] ?_
          refine hnum.mono ?_
          rintro e' w6 ⟨rfl, s6⟩
          refine ⟨_, rfl, ?_⟩
          have hc6 := s6.stay hHeld hadg
          refine hK.out _ _ hc6 (fun _ => ?_)
          clear hK K
          refine nz_ (some 81) ?_
          refine pu_ 6 (some 82) ?_
          refine oN_ 7 (some 11) (fun K hK => ?_)
          go_simp
          refine hK.out _ _ (q83 (q67 (Below.refl _ _) _) hc6) (fun _ => ?_)
          clear hK K
          refine lA_ 8 none (fun K hK => ?_)
          go_simp
          refine hK.out _ _ ?_
          exact HCT.out w6.heap.size _ ⟨⟨s6.alloc _, heap_alloc_new w6 _⟩, s6.2.2.1⟩
        · go_simp
          have hDg : wD.heap.size ≠ w.heap.size + 1 := by omega
          have hc5 := q83 (q67 (Below.refl wD.heap.size wD) (.cells #[.string ⟨#[]⟩, .int .i64 0, .string ⟨#[]⟩, .bool false, .int .i64 0, .slice none 0 0, .slice none 0 0] 48)) hHeld
          have hs5 := HSD.out.here.alloc (.cells #[.string ⟨#[]⟩, .int .i64 0, .string ⟨#[]⟩, .bool false, .int .i64 0, .slice none 0 0, .slice none 0 0] 48)
          have hnum2 := numc_rs (w0 := w) 9 hg0 hs5.here
          rw [← HH.out.1] at hnum2
          refine hK.out _ _ hc5 (fun _ => ?_)
          clear hK K
          refine ca_ 5 (some 81) Try.func36 #[.pointer (some ⟨w.heap.size + 1, 0, none⟩), .int .i64 9] ?_
          refine hnum2.mono ?_
          rintro e' w6 ⟨rfl, s6⟩
          have hx6 : XST 76 w wD w6 (w.heap.size + 1) wD.heap.size y1 #[.string ⟨#[]⟩, .int .i64 0, .string ⟨#[]⟩, .bool false, .int .i64 0, .slice none 0 0, .slice none 0 0] := ⟨hs5.then_ s6, s6.blk (heap_alloc_new wD _) hDg⟩
          refine ⟨_, rfl, s6.stay hc5 hadg, fun _ => ⟨_, rfl, nz_ (some 81) ?_⟩⟩
          refine pu_ 6 (some 82) ?_
          have hz_0 := (q73 hx6.2 0).trans rfl
          have hz_1 := (q73 hx6.2 1).trans rfl
          have hz_2 := (q73 hx6.2 2).trans rfl
          have hz_3 := (q73 hx6.2 3).trans rfl
          have hz_4 := (q73 hx6.2 4).trans rfl
          have hz_5 := (q73 hx6.2 5).trans rfl
          have hz_6 := (q73 hx6.2 6).trans rfl
          have hq_0 := q77 hx6.2 0
          have hq_1 := q77 hx6.2 1
          have hq_2 := q77 hx6.2 2
          have hq_3 := q77 hx6.2 3
          have hq_4 := q77 hx6.2 4
          have hq_5 := q77 hx6.2 5
          have hq_6 := q77 hx6.2 6
          have HX6 := Lib.hid hx6
          clear hx6 hs5 hnum hnum2 s6
          refine lA_ 8 none (fun K hK => ?_)
          go_simp
          refine hK.out _ _ ?_
          exact HCT.out wD.heap.size _ ⟨((((((HX6.out.put 0 (.string id) _ rfl hDg (Nat.le_refl _) hwD0).put 1 (.int .i64 k) _ rfl hDg (Nat.le_refl _) hwD0).put 2 (.string ⟨#[]⟩) _ rfl hDg (Nat.le_refl _) hwD0).put 3 (.bool false) _ rfl hDg (Nat.le_refl _) hwD0).put 4 (.int .i64 0) _ rfl hDg (Nat.le_refl _) hwD0).put 5 (.slice none 0 0) _ rfl hDg (Nat.le_refl _) hwD0).put 6 (.slice none 0 0) _ rfl hDg (Nat.le_refl _) hwD0, Nat.le_refl _⟩
      · intro bx w8 ⟨hx8, hle8⟩
        refine norm_ (a' := ?_) ?_ ?_
        rotate_left
        · simp only [putAll, Act.put, List.setIfInBounds_toArray, List.set_cons_zero, List.set_cons_succ]
          rfl
        refine dn_ ?_
        clear hHeld hnum
        have hne : bx ≠ w.heap.size + 1 := by omega
        have hwbx : w.heap.size ≤ bx := by omega
        have hbmx : w5.heap.size ≠ bx := by omega
        have hbxm : bx ≠ w5.heap.size := by omega
        have hcp := numc_rs (w0 := w) (w := w8) I.length hg0 hx8.1.here
        have hpl := countC_le I.length y1 hx8.1.bytes (by omega)
        rw [← HH.out.2.1] at hcp hpl
        obtain ⟨pn, rfl⟩ := Int.eq_ofNat_of_zero_le hpl.1
        have hpn : pn ≤ il := by have := hpl.2; have := HIL.out; simp only at *; omega
        rw [← HIL.out] at hcp
        have HX8 := Lib.hid hx8
        clear hx8 hpl
        go_wp2_with fail
        refine hcp.mono ?_
        rintro e' w9 ⟨rfl, s9⟩
        have hx9 := HX8.out.call s9 hne
        clear s9 hcp HX8
        obtain ⟨wN, hwN⟩ : ∃ wN, wN = w9 := ⟨_, rfl⟩
        rw [← hwN] at hx9 ⊢
        have HX9 := Lib.hid hx9
        clear hwN hx9
        go_upto_if 88 with (fail)
        go_cut [] (fun wc => Hid (XST 76 w wD wc (w.heap.size + 1) bx y2 #[.string id, .int .i64 k, .string par, .bool false, .int .i64 0, .slice none 0 0, .slice none 0 0]))
        case first =>
          by_cases hp0 : pn = 0
          · subst hp0
            have hpr : par = ⟨#[]⟩ := by rw [HPAR.out]; exact if_neg (by decide)
            have HF : Hid (XST 76 w wD wN (w.heap.size + 1) bx y2 #[.string id, .int .i64 k, .string par, .bool false, .int .i64 0, .slice none 0 0, .slice none 0 0]) := Lib.hid (by rw [hpr]; exact HX9.out)
            clear hpr
            go_wp2
            go_meet
            case rel => exact HF
          · obtain ⟨pp, rfl⟩ : ∃ pp, pn = pp + 1 := ⟨pn - 1, by omega⟩
            have hpg : ((pp + 1 : Nat) : Int) > 0 := by omega
            have hpr : par = rdOf ByteArray.empty I (pp : Int) := by
              rw [HPAR.out, if_pos hpg]
              congr 1
              omega
            have htx := HTX.out wN y2 (HSD.out.then_ HX9.out.1)
            obtain ⟨ad', e, hx0⟩ := Kd.at_string htx.2.1 (pp : Int) (by omega) (by have := HIL.out; omega)
            cases e
            simp only [Int.toNat_natCast] at hx0
            rw [← hpr] at hx0
            have hcz := (q73 HX9.out.2 2).trans rfl
            have hfz := q77 HX9.out.2 2
            have hpl1 : (pp : Int) < (il : Int) := by omega
            have HF : Hid (XST 76 w wD (wN.setCell ⟨bx, 2, none⟩ (.string par)) (w.heap.size + 1) bx y2 #[.string id, .int .i64 k, .string par, .bool false, .int .i64 0, .slice none 0 0, .slice none 0 0]) := Lib.hid (HX9.out.put 2 (.string par) _ rfl hne hle8 hwbx)
            clear htx hpr hp0
            go_wp2
            go_meet
            case rel => exact HF
        case rest =>
          obtain ⟨wX, rfl⟩ : ∃ wX, wX = wc := ⟨_, rfl⟩
          have HXX := hcut
          clear hcut HX9
          have hc3 := numc_rs (w0 := w) (w := wX) 1 hg0 HXX.out.1.here
          rw [← HH.out.2.2.1] at hc3
          go_wp2_with fail
          refine hc3.mono ?_
          rintro e' w10 ⟨rfl, s10⟩
          have hx10 := HXX.out.call s10 hne
          clear s10 hc3 HXX
          have hcz := (q73 hx10.2 3).trans rfl
          have hfz := q77 hx10.2 3
          have hx11 := hx10.put 3 (.bool (r == 1)) _ rfl hne hle8 hwbx
          have hc4 := numc_rs (w0 := w) (w := w10.setCell ⟨bx, 3, none⟩ (.bool (r == 1))) 100 hg0 hx11.1.here
          rw [← HH.out.2.2.2.1] at hc4
          have HX11 := Lib.hid hx11
          clear hx10 hx11
          go_wp2_with fail
          refine hc4.mono ?_
          rintro e' w11 ⟨rfl, s11⟩
          have hx12 := HX11.out.call s11 hne
          clear s11 hc4 HX11 hcz hfz
          have hcz := (q73 hx12.2 4).trans rfl
          have hfz := q77 hx12.2 4
          have hm12 := (q73 (hx12.1.blk HBD.out hbmg) 0).trans rfl
          have hx13 := hx12.put 4 (.int .i64 t) _ rfl hne hle8 hwbx
          have ht13 := HTX.out _ _ (HSD.out.then_ hx13.1)
          have hc5 := sentsc_any w (w11.setCell ⟨bx, 4, none⟩ (.int .i64 t)) (w.heap.size + 1) y4 Av cv F (some ad) (cv - n1) I hg0 hx13.1.here ht13.1 ht13.2
          rw [← HH.out.2.2.2.2.1, HFL.out, ← HIL.out] at hc5
          have HX13 := Lib.hid hx13
          clear hx12 hx13 ht13
          go_wp2_with fail
          refine hc5.mono ?_
          rintro e' w14 ⟨v5, rfl, hR5, s14⟩
          obtain ⟨A5, c5, rfl⟩ := Kd.R_slice hR5
          have hx14 := HX13.out.call s14 hne
          clear s14 hc5 hcz hfz hm12
          have hcz := (q73 hx14.2 5).trans rfl
          have hfz := q77 hx14.2 5
          have hm14 := (q73 (hx14.1.blk HBD.out hbmg) 0).trans rfl
          have hbase5 : bx < (w11.setCell ⟨bx, 4, none⟩ (.int .i64 t)).heap.size := blk_lt HX13.out.2
          have hx15 := hx14.put 5 (.slice A5 en.length c5) _ rfl hne hle8 hwbx
          have ht15 := HTX.out _ _ (HSD.out.then_ hx15.1)
          have hR515 := R_set2 hR5 ⟨bx, 5, none⟩ (.slice A5 en.length c5) hbase5
          have hc6 := sentsc_any w (w14.setCell ⟨bx, 5, none⟩ (.slice A5 en.length c5)) (w.heap.size + 1) y5 Av cv F (some ad) (cv - n1) I hg0 hx15.1.here ht15.1 ht15.2
          rw [← HH.out.2.2.2.2.2, HFL.out, ← HIL.out] at hc6
          have hg5 : w.heap.size + 1 < (w11.setCell ⟨bx, 4, none⟩ (.int .i64 t)).heap.size := by omega
          have HX15 := Lib.hid hx15
          have HR5 := Lib.hid hR515
          clear hx14 hx15 ht15 hR5 hR515 HX13
          go_wp2_with fail
          refine hc6.mono ?_
          rintro e' w16 ⟨v6, rfl, hR6, s16⟩
          obtain ⟨A6, c6, rfl⟩ := Kd.R_slice hR6
          have hx16 := HX15.out.call s16 hne
          have hbase6 : bx < (w14.setCell ⟨bx, 5, none⟩ (.slice A5 en.length c5)).heap.size := blk_lt HX15.out.2
          obtain ⟨w17, hw17⟩ : ∃ w17, w17 = w16.setCell ⟨bx, 6, none⟩ (.slice A6 ex.length c6) := ⟨_, rfl⟩
          have hx17 : XST 76 w wD w17 (w.heap.size + 1) bx y6 #[.string id, .int .i64 k, .string par, .bool (r == 1), .int .i64 t, .slice A5 en.length c5, .slice A6 ex.length c6] := by rw [hw17]; exact hx16.put 6 _ _ rfl hne hle8 hwbx
          have hR57 := R_set2 (R_rs HR5.out s16 hg5) ⟨bx, 6, none⟩ (.slice A6 ex.length c6) hbase5
          have hR67 := R_set2 hR6 ⟨bx, 6, none⟩ (.slice A6 ex.length c6) hbase6
          rw [← hw17] at hR57 hR67
          have hM : Kd.M k48 w17 (w5.heap.size + 1) (fun kk => wD.heap.size ≤ kk) ⟨id, k, par, r == 1, t, en, ex⟩ [.string id, .int .i64 k, .string par, .bool (r == 1), .int .i64 t, .slice A5 en.length c5, .slice A6 ex.length c6] := k48_mkM _ _ _ _ (Kd.R_lower (Kd.R_mono (Kd.R_bound hR57) (fun kk hk => Nat.le_trans (by omega) hk.2.1)) (by omega)) (Kd.R_lower (Kd.R_mono (Kd.R_bound hR67) (fun kk hk => Nat.le_trans (by omega) hk.2.1)) (by omega))
          have hR17 := R_rs HRD.out hx17.1 (by omega)
          have hb17 := hx17.1.blk HBD.out hbmg
          have hs17 := HSD.out.then_ hx17.1
          have hown : ∀ kk, (Value.slice A4 m c4).ownBlock = some kk → w5.heap.size + 1 ≤ kk ∧ kk < wD.heap.size := fun kk ek => ⟨Kd.R_base HRD.out kk ek, Kd.R_lt HRD.out kk ek⟩
          have hz17 : w17.heap.size = w16.heap.size := by rw [hw17, set_size]
          have h16_0 := (q73 hx16.2 0).trans rfl
          have h16_1 := (q73 hx16.2 1).trans rfl
          have h16_2 := (q73 hx16.2 2).trans rfl
          have h16_3 := (q73 hx16.2 3).trans rfl
          have h16_4 := (q73 hx16.2 4).trans rfl
          have h16_5 := (q73 hx16.2 5).trans rfl
          have hcz := (q73 hx16.2 6).trans rfl
          have hfz := q77 hx16.2 6
          have hm16 := (q73 (hx16.1.blk HBD.out hbmg) 1).trans rfl
          have hl17 : w5.heap.size + 1 ≤ w17.heap.size := blk_lt hb17
          have hlim : (its.length + 1) * 104 ≤ 140737488355328 := by have := HJT.out; omega
          have HW17 := Lib.hid hw17
          have HMM := Lib.hid hM
          have HR17 := Lib.hid hR17
          have HB17 := Lib.hid hb17
          have HS17 := Lib.hid hs17
          have HOWN := Lib.hid hown
          have HZ17 := Lib.hid hz17
          have HLIM := Lib.hid hlim
          clear hx16 hw17 hx17 hR57 hR67 hM hR17 hb17 hs17 hown hz17 hlim s16 hc6 hm14 HX15 HR5 hR6
          go_wp2_with (first | ((with_reducible refine q79 (b := .append) (xs := #[.tmp 115, .tmp 117]) rfl ?_); at_builtin; rw [← HW17.out]; refine Kd.R_append k48 (w0 := w17) (w5.heap.size + 1) rfl (.tmp 115) (.tmp 117) 23 48 (.agg #[.string ⟨#[]⟩, .int .i64 0, .string ⟨#[]⟩, .bool false, .int .i64 0, .slice none 0 0, .slice none 0 0]) 104 rfl Try.underlying23 info48_ rfl (by decide) (by omega) (.slice A4 m c4) its ⟨id, k, par, r == 1, t, en, ex⟩ [.string id, .int .i64 k, .string par, .bool (r == 1), .int .i64 t, .slice A5 en.length c5, .slice A6 ex.length c6] (fun _ => True) (fun kk => wD.heap.size ≤ kk) rfl (by rw [HZ17.out]; rfl) HMM.out (fun kk hk => ⟨trivial, fun ek => by have := HOWN.out kk ek.symm; omega⟩) (fun _ _ => trivial) HR17.out (Below.refl _ _) hl17 HLIM.out ?_; intro v18 w18 hR18 hB18 hgr hat; have hs18 := HS17.out.grown hgr (fun kk ek => by have := HOWN.out kk ek; omega); have hb18 := (hgr.block _ (blk_lt HB17.out) (fun ek => by have := HOWN.out _ ek.symm; omega)).trans HB17.out; clear hgr hat hB18; obtain ⟨A8, c8, rfl⟩ := Kd.R_slice hR18; rw [List.length_append, List.length_singleton] at hR18; have hcy := (q73 hb18 1).trans rfl; have hfy := q77 hb18 1; have HS18 := Lib.hid hs18; have HB18 := Lib.hid hb18; have HR18 := Lib.hid hR18; clear hs18 hb18 hR18))
          have HF : Hid (Cs w w5 (w18.setCell ⟨w5.heap.size, 1, none⟩ (.slice A8 (its.length + 1) c8)) (w.heap.size + 1) y6 ∧ (w18.setCell ⟨w5.heap.size, 1, none⟩ (.slice A8 (its.length + 1) c8)).heap[w5.heap.size]? = some (.cells #[.slice Av n1 cv, .slice A8 (its.length + 1) c8] 25 (0, 0)) ∧ Kd.R k48 48 (w18.setCell ⟨w5.heap.size, 1, none⟩ (.slice A8 (its.length + 1) c8)) (w5.heap.size + 1) (fun _ => True) (.slice A8 (its.length + 1) c8) (its ++ [⟨id, k, par, r == 1, t, en, ex⟩])) := Lib.hid ⟨HS18.out.set _ ⟨hbmg, Nat.le_refl _, by show w.heap.size ≤ w5.heap.size; omega⟩, q78 HB18.out 1 _ rfl, R_set2 HR18.out _ _ (Nat.lt_succ_self _)⟩
          have hj63 : (j : Int) + 1 ≤ 22 := by omega
          go_roundg (il - (j + 1))
          case measure => omega
          case rel => exact ⟨j + 1, y6, its ++ [⟨id, k, par, r == 1, t, en, ex⟩], by go_num, by omega, Nat.le_refl _, Lib.hid ⟨_, HF.out.1, HF.out.2.1, HF.out.2.2, by have := HM.out; have := HMJ.out; rw [List.length_append, List.length_singleton]; omega, by rw [HRE.out, HX.out, List.append_assoc]; rfl⟩⟩
   case rest =>
    obtain ⟨y, its, v, X⟩ := hcut
    obtain ⟨wR, rfl⟩ : ∃ wR, wR = wc := ⟨_, rfl⟩
    obtain ⟨hs, hb, hR, hRR2⟩ := X.out
    obtain ⟨A4, c4, rfl⟩ := Kd.R_slice hR
    clear X
    have hrd := Kd.R_reads' hR
    have HUW : Hid (U = if y.2 = false ∧ isB F its = true ∧ packL F its = l then ((F, its), 0) else (([], []), 2)) := Lib.hid (by rw [HUV.out, hRR2])
    have hfit : Fits F its := fits_items F I I z2 (by have := HFL.out; omega) (by have := HIL.out; omega) (by rw [← HRR.out, hRR2])
    obtain ⟨kk, hkk⟩ := ev_rpack F its hfit
    have htx := HTX.out wR y hs
    have hpk := q27.calls kk Av cv F A4 c4 its (if isB F its = true then packL F its else []) (if isB F its = true then 0 else 1) wR htx.1.1 htx.1.2.1 hrd.2.2 hrd.2.1 (by have h9 : q27.f kk F its = some _ := hkk kk (Nat.le_refl _); rw [h9]; split <;> rfl)
    rw [HFL.out] at hpk
    obtain ⟨p, hp⟩ : ∃ p, p = (if isB F its = true then packL F its else []) := ⟨_, rfl⟩
    obtain ⟨r, hr⟩ : ∃ r : Int, r = (if isB F its = true then 0 else 1) := ⟨_, rfl⟩
    rw [← hp, ← hr] at hpk
    have hr01 : r = 0 ∨ r = 1 := by rw [hr]; split <;> simp
    have HP := Lib.hid (And.intro hp hr)
    obtain ⟨by_, hby⟩ : ∃ b, b = y.2 := ⟨_, rfl⟩
    have hey : wR.cell? ⟨w.heap.size + 1, 1, none⟩ = some (.bool by_) := by obtain ⟨A, c, -, hg, -⟩ := hs.1; rw [hby]; exact (q73 hg 1).trans rfl
    obtain ⟨ni, hni⟩ : ∃ ni, ni = its.length := ⟨_, rfl⟩
    rw [← hni] at hpk hb hR
    have hmr_0 := (q73 hb 0).trans rfl
    have hmr_1 := (q73 hb 1).trans rfl
    have HS := Lib.hid hs
    have HB := Lib.hid hb
    have HR := Lib.hid hR
    have HCF := Lib.hid htx.1.1
    have HBY := Lib.hid hby
    have HNI := Lib.hid hni
    have hzr := (HS5.out.then_ hs).blk HBB.out hgne
    have HZR := Lib.hid hzr
    have HBR := Lib.hid hs.2.1
    clear hs hb hR hRR2 hrd hfit hkk htx hp hr hby hni hzr HUV HSM HBM
    go_wp2_with fail
    refine hpk.mono ?_
    rintro e w20 ⟨v5, rfl, hR5, hb5⟩
    obtain ⟨A5, c5, rfl⟩ := Kd.R_slice hR5
    have hey2 := q83 hb5 hey
    have hz20 := q72 HZR.out hb5
    have hm20 := q72 HB.out hb5
    have hbl := q70 HBR.out HBR.out.size hb5
    have hrd5 := Kd.R_reads' hR5
    have hz_0 := (q73 hz20 0).trans rfl
    have hz_1 := (q73 hz20 1).trans rfl
    have hq_0 := q77 hz20 0
    have hq_1 := q77 hz20 1
    have hm_0 := (q73 hm20 0).trans rfl
    have hm_1 := (q73 hm20 1).trans rfl
    have HZ20 := Lib.hid hz20
    have HBL := Lib.hid hbl
    have HCF2 := Lib.hid (Kd.C_below HCF.out hb5)
    have HR2 := Lib.hid (Kd.R_below HR.out hb5)
    have hks1 : (convert 26 9 (.slice A5 p.length c5)).run Try.prog w20 = .ok (.string (strOfNums p)) w20 := Kd.C_string Try.underlying26 Try.underlying5 Try.underlying9 hrd5.2.2
    have hks2 : (convert 26 9 (.slice A0 l.length c0)).run Try.prog w20 = .ok (.string (strOfNums l)) w20 := Kd.C_string Try.underlying26 Try.underlying5 Try.underlying9 (Kd.C_below HR0.out hbl)
    obtain ⟨sp, hsp⟩ : ∃ sp, sp = strOfNums p := ⟨_, rfl⟩
    obtain ⟨sl, hsl⟩ : ∃ sl, sl = strOfNums l := ⟨_, rfl⟩
    obtain ⟨m, hm⟩ : ∃ m, m = p.length := ⟨_, rfl⟩
    rw [← hsp, ← hm] at hks1
    rw [← hsl, ← HN.out] at hks2
    rw [← hm]
    have HSP := Lib.hid (And.intro hsp hsl)
    clear hR5 hb5 hz20 hm20 hbl hrd5 hpk hm hsp hsl HB HR HCF hmr_0 hmr_1 hey hz_0 hz_1
    have hz_0 := (q73 HZ20.out 0).trans rfl
    have hz_1 := (q73 HZ20.out 1).trans rfl
    cases by_ with
    | true =>
      have HUB : Hid (U = (([], []), 2)) := Lib.hid (by rw [HUW.out, if_neg (by rw [← HBY.out]; simp)])
      clear hm_0 hm_1
      go_wp2
      refine bodyPost_ret (results_ct rfl _ _ w.heap.size 25 #[.slice none 0 0, .slice none 0 0] (0, 0) _ rfl (HBADF.out w20 HBL.out HZ20.out _ rfl).1 Try.underlying25 rfl (by kernel_rfl)) rfl ?_
      exact HBAD.out HUB.out _ (HBADF.out w20 HBL.out HZ20.out _ rfl).2
    | false =>
      rcases hr01 with rfl | rfl
      case inr =>
        have HUB : Hid (U = (([], []), 2)) := Lib.hid (by
          have h1 := HP.out.2
          rw [HUW.out, if_neg]
          rintro ⟨-, h2, -⟩
          rw [if_pos h2] at h1
          cases h1)
        clear hm_0 hm_1
        go_wp2
        refine bodyPost_ret (results_ct rfl _ _ w.heap.size 25 #[.slice none 0 0, .slice none 0 0] (0, 0) _ rfl (HBADF.out w20 HBL.out HZ20.out _ rfl).1 Try.underlying25 rfl (by kernel_rfl)) rfl ?_
        exact HBAD.out HUB.out _ (HBADF.out w20 HBL.out HZ20.out _ rfl).2
      case inl =>
        have hB : isB F its = true := by
          have h1 := HP.out.2
          by_cases h : isB F its = true
          · exact h
          · rw [if_neg h] at h1; cases h1
        have hpp : p = packL F its := by rw [HP.out.1, if_pos hB]
        have HPP := Lib.hid hpp
        have HBB2 := Lib.hid hB
        clear hB hpp
        by_cases hq : sp.toList = sl.toList
        case neg =>
          have HUB : Hid (U = (([], []), 2)) := Lib.hid (by
            rw [HUW.out, if_neg]
            rintro ⟨-, -, h2⟩
            exact hq (by rw [HSP.out.1, HSP.out.2, HPP.out, h2]))
          have hqb : (sp.toList == sl.toList) = false := beq_eq_false_iff_ne.mpr hq
          clear hm_0 hm_1 hq
          go_wp2
          refine bodyPost_ret (results_ct rfl _ _ w.heap.size 25 #[.slice none 0 0, .slice none 0 0] (0, 0) _ rfl (HBADF.out w20 HBL.out HZ20.out _ rfl).1 Try.underlying25 rfl (by kernel_rfl)) rfl ?_
          exact HBAD.out HUB.out _ (HBADF.out w20 HBL.out HZ20.out _ rfl).2
        case pos =>
          have HUB : Hid (U = ((F, its), 0)) := Lib.hid (by
            have hbp : Bytes p := by rw [HPP.out]; exact bytes_pack F its
            have := strOfNums_inj hbp H8.out (by rw [← HSP.out.1, ← HSP.out.2]; exact hq)
            rw [HUW.out, if_pos ⟨HBY.out.symm, HBB2.out, by rw [← HPP.out]; exact this⟩])
          have hqb : (sp.toList == sl.toList) = true := beq_iff_eq.mpr hq
          have hlz : w.heap.size < w5.heap.size + 1 := by omega
          have hne : ∀ ad, Av = some ad → ad.block ≠ w.heap.size := fun ad e => by have := (HAV.out ad e).1; omega
          have HF : Hid (Kd.C Kd.string ((w20.setCell ⟨w.heap.size, 0, none⟩ (.slice Av n1 cv)).setCell ⟨w.heap.size, 1, none⟩ (.slice A4 ni c4)) Av F.length F ∧ Kd.R k48 48 ((w20.setCell ⟨w.heap.size, 0, none⟩ (.slice Av n1 cv)).setCell ⟨w.heap.size, 1, none⟩ (.slice A4 ni c4)) w.heap.size (fun _ => True) (.slice A4 ni c4) its ∧ Below w.heap.size w ((w20.setCell ⟨w.heap.size, 0, none⟩ (.slice Av n1 cv)).setCell ⟨w.heap.size, 1, none⟩ (.slice A4 ni c4))) := Lib.hid ⟨C_stay (C_stay HCF2.out (fun ad e => Below.heap_setCell _ _ _ _ (hne ad e))) (fun ad e => Below.heap_setCell _ _ _ _ (hne ad e)), Kd.R_lower (R_set2 (R_set2 HR2.out _ _ hlz) _ _ hlz) (by omega), (HBL.out.setCell (Nat.le_refl _) _).setCell (Nat.le_refl _) _⟩
          clear hq hne
          go_wp2
          refine bodyPost_ret (results_ct rfl _ _ w.heap.size 25 #[.slice Av n1 cv, .slice A4 ni c4] (0, 0) _ rfl (q78 (q78 HZ20.out 0 _ rfl) 1 _ rfl) Try.underlying25 rfl (by kernel_rfl)) rfl ?_
          rw [HUB.out]
          refine ⟨Av, cv, .slice A4 ni c4, ?_, ?_, HF.out.1, fun ad e => by have := (HAV.out ad e).1; omega, HF.out.2.1, HF.out.2.2⟩
          · show _ = Ending.returned (.tuple #[.agg #[.slice Av F.length cv, .slice A4 ni c4], .int .i64 0])
            rw [HFL.out]
            rfl
          · show F.length ≤ cv
            rw [HFL.out]
            exact hncv2
theorem ba_ext {a b : ByteArray} (h : a.toList = b.toList) : a = b := by
 rw [ByteArray.toList_eq, ByteArray.toList_eq] at h
 exact Go.WideShapes.bytes_inj h
theorem byteW_v (n : Int) : byteW n = n % 128 + 128 := by
 unfold byteW
 rw [Lib.u8_or128_any _ (by omega) (by omega)]
 omega
theorem numGo_numW (below : Int) (rest : List Int) (d : Nat) : ∀ (k : Nat) (n : Int) (i : Nat) (acc : Int), 0 ≤ n → n < (128 : Int) ^ d → 1 ≤ d → d ≤ k → numGo below d i acc (numW k n ++ rest, false) = (acc + n * (128 : Int) ^ i, (rest, decide (below ≤ acc + n * (128 : Int) ^ i))) := by
  induction d with
  | zero => intro k n i acc _ _ h; omega
  | succ d ih =>
    intro k n i acc h0 hn _ hk
    obtain ⟨k, rfl⟩ : ∃ m, k = m + 1 := ⟨k - 1, by omega⟩
    by_cases h : n ≥ 128
    · have hd1 : 1 ≤ d := by
        rcases Nat.eq_zero_or_pos d with rfl | h'
        · simp at hn; omega
        · exact h'
      have hn' : n / 128 < (128 : Int) ^ d := by
        rw [Int.pow_succ] at hn
        omega
      have e1 : byteW n % 128 = n % 128 := by rw [byteW_v]; omega
      simp only [numW]
      rw [if_pos h]
      show numGo below (d + 1) i acc (byteW n :: (numW k (n / 128) ++ rest), false) = _
      simp only [numGo]
      rw [if_neg (by decide), if_neg (by rw [byteW_v]; omega), e1, ih k (n / 128) (i + 1) _ (by omega) hn' hd1 (by omega)]
      have e2 : acc + n % 128 * (128 : Int) ^ i + n / 128 * (128 : Int) ^ (i + 1) = acc + n * (128 : Int) ^ i := by
        rw [Int.pow_succ, Int.add_assoc, ← Int.mul_assoc (n / 128), Int.mul_comm (n / 128 * 128 ^ i) 128, ← Int.mul_assoc 128, ← Int.add_mul, Int.emod_add_mul_ediv]
      rw [e2]
    · simp only [numW]
      rw [if_neg h]
      show numGo below (d + 1) i acc (n % 256 :: rest, false) = _
      simp only [numGo]
      have e1 : n % 256 % 128 = n := by omega
      rw [if_neg (by decide), if_pos (by omega), e1]
theorem numR_numW (below n : Int) (rest : List Int) (h0 : 0 ≤ n) (h1 : n < 34359738368) (h2 : n < below) : numR below (numW 10 n ++ rest, false) = (n, (rest, false)) := by
 unfold numR
 rw [numGo_numW below rest 5 10 n 0 0 h0 (by exact h1) (by decide) (by decide)]
 have e : (0 : Int) + n * (128 : Int) ^ 0 = n := by omega
 rw [e, decide_eq_false (by omega)]
theorem countR_numW (m n : Int) (rest : List Int) (h0 : 0 ≤ n) (h1 : n ≤ m) (hm : m ≤ 1000000) : countR m (numW 10 n ++ rest, false) = (n, (rest, false)) := by
 unfold countR
 rw [numR_numW (m + 1) n rest h0 (by omega) (by omega), if_neg (by simp)]
theorem pickR_numW (l : List ByteArray) (q : Nat) (rest : List Int) (hq : q < l.length) (hl : l.length ≤ 1000000) : pickR l (numW 10 (q : Int) ++ rest, false) = (l[q], (rest, false)) := by
 unfold pickR
 rw [numR_numW l.length q rest (by omega) (by omega) (by omega), if_neg (by simp), rdOf_get _ _ _ hq]
theorem unsgn_sgn (n : Int) : unsgn (sgn n) = n := by
 unfold unsgn sgn
 split <;> split <;> omega
theorem signedR_numW (n : Int) (rest : List Int) (h : -1000000 ≤ n ∧ n ≤ 1000000) : signedR (numW 10 (sgn n) ++ rest, false) = (n, (rest, false)) := by
 unfold signedR
 have h1 : 0 ≤ sgn n ∧ sgn n < 2000001 := by unfold sgn; split <;> omega
 rw [numR_numW 2000001 (sgn n) rest h1.1 (by omega) h1.2, unsgn_sgn]
theorem strOf_bytes (s : ByteArray) : strOfNums (bytesOf s) = s := by
 apply ba_ext
 rw [ByteArray.toList_eq, ByteArray.toList_eq, strOfNums_data]
 unfold bytesOf
 rw [List.map_map]
 have : (fun (n : Int) => UInt8.ofNat n.toNat) ∘ (fun (b : UInt8) => (b.toNat : Int)) = id := by
  funext b
  simp
 rw [this, List.map_id]
theorem textR_textW (s : ByteArray) (rest : List Int) (h : s.size ≤ 12) : textR (textW s ++ rest, false) = (s, (rest, false)) := by
 unfold textR textW
 rw [List.append_assoc, numR_numW 13 s.size _ (by omega) (by omega) (by omega)]
 have hl : (bytesOf s).length = s.size := bytesOf_length s
 have e : takeR (s.size : Int).toNat (bytesOf s ++ rest, false) = (bytesOf s, (rest, false)) := by
  rw [Int.toNat_natCast]
  unfold takeR
  rw [if_neg (by rw [List.length_append, hl]; simp), ← hl, List.take_left', List.drop_left'] <;> rfl
 simp only
 rw [e, strOf_bytes]
theorem textsGo_textW (rest : List Int) (l : List ByteArray) : (∀ s ∈ l, s.size ≤ 12) → textsGo l.length (l.flatMap textW ++ rest, false) = (l, (rest, false)) := by
  induction l with
  | nil => intro _; rfl
  | cons s l ih =>
    intro h
    rw [List.length_cons, List.flatMap_cons, List.append_assoc]
    simp only [textsGo]
    rw [textR_textW s _ (h s List.mem_cons_self)]
    simp only
    rw [ih (fun x hx => h x (List.mem_cons_of_mem _ hx))]
def gOn (ids : List ByteArray) (items : List (S48)) (x : S103) : Prop := (∃ p : Nat, ∃ h : p < ids.length, q85 items x.f0 = p ∧ ids[p] = x.f0) ∧ 0 ≤ x.f1 ∧ x.f1 < 6
def gIf (fs : List ByteArray) (c : S50) : Prop := (∃ p : Nat, ∃ h : p < fs.length, idxI fs c.f0 = p ∧ fs[p] = c.f0) ∧ (∃ p : Nat, ∃ h : p < opsL.length, idxI opsL c.f1 = p ∧ opsL[p] = c.f1) ∧ -1000000 ≤ c.f2 ∧ c.f2 ≤ 1000000
def gS (fs ids : List ByteArray) (items : List (S48)) (s : S54) : Prop := s.f0.length ≤ 3 ∧ s.f1.length ≤ 2 ∧ (∀ x ∈ s.f0, gOn ids items x) ∧ ∀ c ∈ s.f1, gIf fs c
def gI (fs ids : List ByteArray) (items : List (S48)) (x : S48) : Prop := (0 ≤ x.f1 ∧ x.f1 < 6) ∧ ((q85 items x.f2 = -1 ∧ x.f2 = ⟨#[]⟩) ∨ ∃ p : Nat, ∃ h : p < ids.length, q85 items x.f2 = p ∧ ids[p] = x.f2) ∧ (0 ≤ x.f4 ∧ x.f4 ≤ 100) ∧ (x.f5.length ≤ 3 ∧ ∀ s ∈ x.f5, gS fs ids items s) ∧ x.f6.length ≤ 3 ∧ ∀ s ∈ x.f6, gS fs ids items s
set_option linter.unusedSectionVars false
section
variable {fs ids : List ByteArray} {items : List (S48)} (hfs : fs.length ≤ 1000000) (hids : ids.length ≤ 100000)
include hfs hids
theorem onsR_W (rest : List Int) (l : List (S103)) : (∀ x ∈ l, gOn ids items x) → onsR ids l.length (l.flatMap (onW items) ++ rest, false) = (l, (rest, false)) := by
  induction l with
  | nil => intro _; rfl
  | cons x l ih =>
    intro h
    obtain ⟨⟨p, hp, h1, h2⟩, h3, h4⟩ := h x List.mem_cons_self
    rw [List.length_cons, List.flatMap_cons, List.append_assoc]
    simp only [onsR]
    unfold onW
    rw [List.append_assoc, h1, pickR_numW ids p _ hp (by omega)]
    simp only
    rw [numR_numW 6 x.f1 _ h3 (by omega) h4]
    simp only
    rw [show (l.flatMap fun x => numW 10 (q85 items x.f0) ++ numW 10 x.f1) = l.flatMap (onW items) from rfl, ih (fun y hy => h y (List.mem_cons_of_mem _ hy)), h2]
theorem ifsR_W (rest : List Int) (l : List (S50)) : (∀ x ∈ l, gIf fs x) → ifsR fs l.length (l.flatMap (ifW fs) ++ rest, false) = (l, (rest, false)) := by
  induction l with
  | nil => intro _; rfl
  | cons x l ih =>
    intro h
    obtain ⟨⟨p, hp, h1, h2⟩, ⟨q, hq, h3, h4⟩, h5⟩ := h x List.mem_cons_self
    have ih' := ih (fun y hy => h y (List.mem_cons_of_mem _ hy))
    rw [List.length_cons, List.flatMap_cons, List.append_assoc]
    simp only [ifsR]
    have e : ifW fs x ++ (l.flatMap (ifW fs) ++ rest) = numW 10 (p : Int) ++ (numW 10 (q : Int) ++ (numW 10 (sgn x.f2) ++ (l.flatMap (ifW fs) ++ rest))) := by
      unfold ifW
      rw [h1, h3]
      simp only [List.append_assoc]
    rw [e, pickR_numW fs p _ hp hfs]
    simp only
    rw [pickR_numW opsL q _ hq (by decide)]
    simp only
    rw [signedR_numW x.f2 _ h5]
    simp only
    rw [ih', h2, h4]
theorem sentR_W (rest : List Int) (s : S54) (h : gS fs ids items s) : sentR fs ids (sentW fs items s ++ rest, false) = (s, (rest, false)) := by
 obtain ⟨h1, h2, h3, h4⟩ := h
 have e : sentW fs items s ++ rest = numW 10 (s.f0.length : Int) ++ (s.f0.flatMap (onW items) ++ (numW 10 (s.f1.length : Int) ++ (s.f1.flatMap (ifW fs) ++ rest))) := by
  unfold sentW
  simp only [List.append_assoc]
 unfold sentR
 rw [e, countR_numW 3 s.f0.length _ (by omega) (by omega) (by omega)]
 simp only [Int.toNat_natCast]
 rw [onsR_W hfs hids _ s.f0 h3]
 simp only
 rw [countR_numW 2 s.f1.length _ (by omega) (by omega) (by omega)]
 simp only [Int.toNat_natCast]
 rw [ifsR_W hfs hids _ s.f1 h4]
theorem sentsGo_W (rest : List Int) (l : List (S54)) : (∀ x ∈ l, gS fs ids items x) → sentsGo fs ids l.length (l.flatMap (sentW fs items) ++ rest, false) = (l, (rest, false)) := by
  induction l with
  | nil => intro _; rfl
  | cons x l ih =>
    intro h
    rw [List.length_cons, List.flatMap_cons, List.append_assoc]
    simp only [sentsGo]
    rw [sentR_W hfs hids _ x (h x List.mem_cons_self)]
    simp only
    rw [ih (fun y hy => h y (List.mem_cons_of_mem _ hy))]
theorem sentsR_W (rest : List Int) (l : List (S54)) (h : l.length ≤ 3 ∧ ∀ x ∈ l, gS fs ids items x) : sentsR fs ids (sentsW fs items l ++ rest, false) = (l, (rest, false)) := by
 unfold sentsR sentsW
 rw [List.append_assoc, countR_numW 3 l.length _ (by omega) (by omega) (by omega)]
 simp only [Int.toNat_natCast]
 exact sentsGo_W hfs hids rest l h.2
theorem itemR_W (rest : List Int) (x : S48) (h : gI fs ids items x) : itemR x.f0 fs ids (itemW fs items x ++ rest, false) = (x, (rest, false)) := by
 obtain ⟨h1, h2, h3, h4, h5⟩ := h
 have e : itemW fs items x ++ rest = numW 10 x.f1 ++ (numW 10 (q85 items x.f2 + 1) ++ (numW 10 (if x.f3 = true then 1 else 0) ++ (numW 10 x.f4 ++ (sentsW fs items x.f5 ++ (sentsW fs items x.f6 ++ rest))))) := by
  unfold itemW
  simp only [List.append_assoc]
 unfold itemR
 rw [e, numR_numW 6 x.f1 _ h1.1 (by omega) h1.2]
 simp only
 have hp : ∀ r, pickR (⟨#[]⟩ :: ids) (numW 10 (q85 items x.f2 + 1) ++ r, false) = (x.f2, (r, false)) := by
  intro r
  rcases h2 with ⟨a, b⟩ | ⟨p, hp, a, b⟩
  ·rw [a, b]
   have := pickR_numW (⟨#[]⟩ :: ids) 0 r (by simp) (by simp; omega)
   exact this
  ·rw [a]
   have := pickR_numW (⟨#[]⟩ :: ids) (p + 1) r (by simp; omega) (by simp; omega)
   rw [show ((p : Int) + 1) = ((p + 1 : Nat) : Int) by omega, this]
   simp [b]
 rw [hp]
 simp only
 rw [numR_numW 2 (if x.f3 = true then 1 else 0) _ (by split <;> omega) (by split <;> omega) (by split <;> omega)]
 simp only
 rw [numR_numW 101 x.f4 _ h3.1 (by omega) (by omega)]
 simp only
 rw [sentsR_W hfs hids _ x.f5 h4]
 simp only
 rw [sentsR_W hfs hids _ x.f6 h5]
 have e3 : ((if x.f3 = true then (1 : Int) else 0) == 1) = x.f3 := by cases x.f3 <;> rfl
 rw [e3]
theorem itemsGo_W (rest : List Int) (l : List (S48)) : (∀ x ∈ l, gI fs ids items x) → itemsGo fs ids (l.map (fun x => x.f0)) (l.flatMap (itemW fs items) ++ rest, false) = (l, (rest, false)) := by
  induction l with
  | nil => intro _; rfl
  | cons x l ih =>
    intro h
    rw [List.map_cons, List.flatMap_cons, List.append_assoc]
    simp only [itemsGo]
    rw [itemR_W hfs hids _ x (h x List.mem_cons_self)]
    simp only
    rw [ih (fun y hy => h y (List.mem_cons_of_mem _ hy))]
end
theorem idx_at (l : List ByteArray) (s : ByteArray) (h : memB l s = true) : ∃ q : Nat, ∃ hq : q < l.length, idxI l s = q ∧ l[q] = s := by
  unfold memB at h
  cases hf : l.findIdx? (fun x => s.toList == x.toList) with
  | none =>
    rw [List.findIdx?_eq_none_iff] at hf
    obtain ⟨x, hx, hp⟩ := List.any_eq_true.1 h
    rw [hf x hx] at hp
    cases hp
  | some q =>
    obtain ⟨hq, h2, _⟩ := List.findIdx?_eq_some_iff_getElem.1 hf
    refine ⟨q, hq, by unfold idxI fidx; rw [hf], ?_⟩
    apply ba_ext
    simpa using (beq_iff_eq.1 h2).symm
theorem gS_of (fs : List ByteArray) (items : List (S48)) (ss : List (S54)) (h : sentsB fs items ss = true) : ss.length ≤ 3 ∧ ∀ s ∈ ss, gS fs (items.map (fun x => x.f0)) items s := by
 obtain ⟨h3, hok⟩ := sOk_of fs items ss h
 unfold sentsB at h
 rw [Bool.and_eq_true, decide_eq_true_eq, Bool.not_eq_true', List.any_eq_false] at h
 refine ⟨h3, fun s hs => ?_⟩
 have h2 := h.2 s hs
 rw [Bool.not_eq_true, Bool.not_eq_false'] at h2
 unfold sentryB at h2
 rw [Bool.and_eq_true, decide_eq_true_eq, Bool.and_eq_true, List.all_eq_true] at h2
 obtain ⟨⟨a, b, -⟩, c, d⟩ := h2
 refine ⟨a, b, fun x hx => ?_, fun y hy => ?_⟩
 ·obtain ⟨i, hi, rfl⟩ := List.getElem_of_mem hx
  have := c i (List.mem_range.2 hi)
  unfold onOk at this
  rw [Bool.and_eq_true] at this
  have h3 := this.1
  have e : q87 s.f0 (i : Int) = s.f0[i] := by simp [q87, List.getD_eq_getElem?_getD, List.getElem?_eq_getElem hi]
  rw [e] at h3
  unfold onB at h3
  split at h3
  case isFalse => cases h3
  rename_i hp
  obtain ⟨p, hp2⟩ := Int.eq_ofNat_of_zero_le hp
  obtain ⟨hl, hn⟩ := placeI_at items _ p hp2
  refine ⟨⟨p, by rw [List.length_map]; exact hl, hp2, ?_⟩, ?_⟩
  ·rw [List.getElem_map]
   apply ba_ext
   rw [← hn]
   show _ = ((q89 items (p : Int)).f0).toList
   simp [q89, List.getD_eq_getElem?_getD, List.getElem?_eq_getElem hl]
  ·unfold legalB at h3
   split at h3
   ·omega
   ·split at h3
    ·omega
    ·split at h3
     ·omega
     ·cases h3
 ·unfold ifsOk at d
  rw [Bool.not_eq_true', List.any_eq_false] at d
  have h3 := d y hy
  rw [Bool.not_eq_true, Bool.not_eq_false'] at h3
  unfold ifB at h3
  rw [Bool.and_eq_true, Bool.and_eq_true, decide_eq_true_eq] at h3
  have hm : ∀ l, memB l y.f0 = true → ∃ p : Nat, ∃ h : p < l.length, idxI l y.f0 = p ∧ l[p] = y.f0 := fun l hl => by
   obtain ⟨q, hq, hf, he⟩ := idx_at l y.f0 hl
   exact ⟨q, hq, hf, he⟩
  obtain ⟨q, hq, hf, he⟩ := idx_at opsL y.f1 h3.1
  exact ⟨hm fs h3.2.1, ⟨q, hq, hf, he⟩, h3.2.2⟩
theorem gI_of (fs : List ByteArray) (items : List (S48)) (h : isB fs items = true) : ∀ x ∈ items, gI fs (items.map (fun x => x.f0)) items x := by
 intro x hx
 have hf := legal_facts fs items h
 unfold isB at h
 rw [Bool.and_eq_true, Bool.and_eq_true, Bool.and_eq_true, Bool.and_eq_true, Bool.and_eq_true, decide_eq_true_eq, Bool.not_eq_true', List.any_eq_false] at h
 obtain ⟨-, -, -, -, -, f⟩ := h
 have h2 := f x hx
 rw [Bool.not_eq_true, Bool.not_eq_false'] at h2
 unfold itemB at h2
 rw [Bool.and_eq_true, Bool.and_eq_true, Bool.and_eq_true, Bool.and_eq_true, decide_eq_true_eq] at h2
 obtain ⟨p, q, r, s, -⟩ := h2
 refine ⟨by omega, ?_, ?_, gS_of fs items _ q, gS_of fs items _ r⟩
 ·obtain ⟨i, hi, rfl⟩ := List.getElem_of_mem hx
  have e : q89 items (i : Int) = items[i] := by simp [q89, List.getD_eq_getElem?_getD, List.getElem?_eq_getElem hi]
  rcases Nat.eq_zero_or_pos i with rfl | hi0
  ·left
   have h0 : (items[0].f2).toList = [] := by
    have := hf.2.2.2.2.1
    unfold paA at this
    rw [show (0 : Int) = ((0 : Nat) : Int) from rfl, e] at this
    exact this
   refine ⟨?_, ba_ext (by rw [h0, ByteArray.toList_eq])⟩
   have h1 : -1 ≤ q85 items items[0].f2 := fidx_ge _ _
   rcases Int.lt_or_le (q85 items items[0].f2) 0 with h0' | h0'
   ·omega
   ·obtain ⟨p, hp⟩ := Int.eq_ofNat_of_zero_le h0'
    obtain ⟨hl, hn⟩ := placeI_at items _ p hp
    exact absurd (hn.trans h0) (hf.2.2.2.1 p hl).2
  ·right
   obtain ⟨p, hp, hpl, -, -⟩ := hf.2.2.2.2.2 i hi0 hi
   unfold paA at hpl
   rw [e] at hpl
   obtain ⟨hl, hn⟩ := placeI_at items _ p hpl
   refine ⟨p, by rw [List.length_map]; exact hl, hpl, ?_⟩
   rw [List.getElem_map]
   apply ba_ext
   rw [← hn]
   show _ = ((q89 items (p : Int)).f0).toList
   simp [q89, List.getD_eq_getElem?_getD, List.getElem?_eq_getElem hl]
 ·split at s
  ·rw [decide_eq_true_eq] at s; omega
  ·rw [decide_eq_true_eq] at s; omega
theorem name12 (l : List ByteArray) (h : namesB l = true) : ∀ s ∈ l, s.size ≤ 12 := by
 intro s hs
 obtain ⟨i, hi, rfl⟩ := List.getElem_of_mem hs
 unfold namesB at h
 rw [List.all_eq_true] at h
 have := h i (List.mem_range.2 hi)
 unfold nameOk at this
 rw [rdOf_get _ _ _ hi, Bool.and_eq_true] at this
 have h1 := this.1
 unfold nameB at h1
 simp only [Bool.and_eq_true, decide_eq_true_eq] at h1
 omega
theorem modelR_W (fs : List ByteArray) (items : List (S48)) (rest : List Int) (h : isB fs items = true) : modelR (modelW fs items ++ rest, false) = ((fs, items), (rest, false)) := by
 have hg := gI_of fs items h
 have hm := MOk_of fs items h
 have h12 : ∀ s ∈ textsOf fs items, s.size ≤ 12 := by
  unfold isB at h
  rw [Bool.and_eq_true, Bool.and_eq_true, Bool.and_eq_true] at h
  intro s hs
  unfold textsOf at hs
  rcases List.mem_append.1 hs with hs | hs
  ·exact name12 fs h.2.1 s hs
  ·exact name12 _ h.2.2.1 s hs
 have hl : (textsOf fs items).length = fs.length + items.length := by unfold textsOf; rw [List.length_append, List.length_map]
 have h1 := hm.1
 have h2 := hm.2.1
 have e : modelW fs items ++ rest = numW 10 ((textsOf fs items).length : Int) ++ ((textsOf fs items).flatMap textW ++ (numW 10 (fs.length : Int) ++ (items.flatMap (itemW fs items) ++ rest))) := by
  unfold modelW
  simp only [List.append_assoc]
 unfold modelR
 rw [e, countR_numW 22 _ _ (by omega) (by omega) (by omega)]
 simp only [Int.toNat_natCast]
 rw [textsGo_textW _ _ h12]
 simp only
 rw [countR_numW _ (fs.length : Int) _ (by omega) (by omega) (by omega)]
 simp only [Int.toNat_natCast]
 have e1 : (textsOf fs items).take fs.length = fs := by unfold textsOf; exact List.take_left' rfl
 have e2 : (textsOf fs items).drop fs.length = items.map (fun x => x.f0) := by unfold textsOf; exact List.drop_left' rfl
 rw [e1, e2, itemsGo_W (by omega) (by rw [List.length_map]; omega) rest items hg]
theorem unpack_pack (fs : List ByteArray) (items : List (S48)) (h : isB fs items = true) : unpackR (packL fs items) = ((fs, items), 0) := by
 have hd : (packL fs items).drop 8 = modelW fs items := rfl
 have hl : (packL fs items).length = 8 + (modelW fs items).length := by unfold packL sealL; simp; omega
 have hm := modelR_W fs items [] h
 rw [List.append_nil] at hm
 unfold unpackR
 rw [if_neg (by omega), hd, hm]
 exact if_pos ⟨rfl, h, rfl⟩
theorem numCGo_of (below most : Int) (hb : below ≤ most + 1) (d : Nat) : ∀ (i : Nat) (n : Int) (s : RSt), (numGo below d i n s).2.2 = false → numCGo most d i n s = numGo below d i n s := by
  induction d with
  | zero => intro i n s h; cases h
  | succ d ih =>
    intro i n s h
    simp only [numGo, numCGo] at h ⊢
    by_cases h2 : s.2 = true
    · rw [if_pos h2] at h; cases h
    rw [if_neg h2] at h ⊢
    rw [if_neg h2]
    obtain ⟨xs, b⟩ := s
    cases xs with
    | nil => cases h
    | cons x r =>
      simp only at h ⊢
      by_cases hx : x < 128
      · rw [if_pos hx] at h ⊢
        rw [if_pos hx]
        have h3 := of_decide_eq_false h
        rw [if_neg (by omega), decide_eq_false h3]
      · rw [if_neg hx] at h ⊢
        rw [if_neg hx]
        exact ih _ _ _ h
theorem numC_numW (most n : Int) (rest : List Int) (h0 : 0 ≤ n) (h1 : n < 34359738368) (h2 : n ≤ most) : numC most (numW 10 n ++ rest, false) = (n, (rest, false)) := by
 have h := numR_numW (n + 1) n rest h0 h1 (by omega)
 have hc : numC most (numW 10 n ++ rest, false) = numR (n + 1) (numW 10 n ++ rest, false) := numCGo_of (n + 1) most (by omega) 5 0 0 _ (by
  show (numR (n + 1) (numW 10 n ++ rest, false)).2.2 = false
  rw [h])
 rw [hc, h]
theorem pickC_numW (l : List ByteArray) (q : Nat) (rest : List Int) (hq : q < l.length) (hl : l.length ≤ 1000000) : pickC l (numW 10 (q : Int) ++ rest, false) = (l[q], (rest, false)) := by
 unfold pickC
 rw [numC_numW _ q rest (by omega) (by omega) (by omega), if_neg (by simp), rdOf_get _ _ _ hq]
theorem unC_sgn (n : Int) : unC (sgn n) = n := by
 unfold unC sgn
 split <;> split <;> omega
theorem textC_textW (s : ByteArray) (rest : List Int) (h : s.size ≤ 12) : textC (textW s ++ rest, false) = (s, (rest, false)) := by
 unfold textC textW
 rw [List.append_assoc, numC_numW 12 s.size _ (by omega) (by omega) (by omega)]
 have hl : (bytesOf s).length = s.size := bytesOf_length s
 simp only [Int.toNat_natCast]
 rw [if_neg (by rw [List.length_append, hl]; simp), ← hl, List.take_left' rfl, List.drop_left' rfl, strOf_bytes]
theorem textsGoC_textW (rest : List Int) (l : List ByteArray) : (∀ s ∈ l, s.size ≤ 12) → textsGoC l.length (l.flatMap textW ++ rest, false) = (l, (rest, false)) := by
  induction l with
  | nil => intro _; rfl
  | cons s l ih =>
    intro h
    rw [List.length_cons, List.flatMap_cons, List.append_assoc]
    simp only [textsGoC]
    rw [if_neg (by decide), textC_textW s _ (h s List.mem_cons_self)]
    simp only
    rw [ih (fun x hx => h x (List.mem_cons_of_mem _ hx))]
set_option linter.unusedSectionVars false
section
variable {fs ids : List ByteArray} {items : List (S48)} (hfs : fs.length ≤ 1000000) (hids : ids.length ≤ 100000)
include hfs hids
theorem onsC_W (rest : List Int) (l : List (S103)) : (∀ x ∈ l, gOn ids items x) → onsC ids l.length (l.flatMap (onW items) ++ rest, false) = (l, (rest, false)) := by
  induction l with
  | nil => intro _; rfl
  | cons x l ih =>
    intro h
    obtain ⟨⟨p, hp, h1, h2⟩, h3, h4⟩ := h x List.mem_cons_self
    rw [List.length_cons, List.flatMap_cons, List.append_assoc]
    simp only [onsC]
    rw [if_neg (by decide)]
    unfold onW
    rw [List.append_assoc, h1, pickC_numW ids p _ hp (by omega)]
    simp only
    rw [numC_numW 9 x.f1 _ h3 (by omega) (by omega)]
    simp only
    rw [show (l.flatMap fun x => numW 10 (q85 items x.f0) ++ numW 10 x.f1) = l.flatMap (onW items) from rfl, ih (fun y hy => h y (List.mem_cons_of_mem _ hy)), h2]
theorem ifsC_W (rest : List Int) (l : List (S50)) : (∀ x ∈ l, gIf fs x) → ifsC fs l.length (l.flatMap (ifW fs) ++ rest, false) = (l, (rest, false)) := by
  induction l with
  | nil => intro _; rfl
  | cons x l ih =>
    intro h
    obtain ⟨⟨p, hp, h1, h2⟩, ⟨q, hq, h3, h4⟩, h5⟩ := h x List.mem_cons_self
    have ih' := ih (fun y hy => h y (List.mem_cons_of_mem _ hy))
    rw [List.length_cons, List.flatMap_cons, List.append_assoc]
    simp only [ifsC]
    rw [if_neg (by decide)]
    have e : ifW fs x ++ (l.flatMap (ifW fs) ++ rest) = numW 10 (p : Int) ++ (numW 10 (q : Int) ++ (numW 10 (sgn x.f2) ++ (l.flatMap (ifW fs) ++ rest))) := by
      unfold ifW
      rw [h1, h3]
      simp only [List.append_assoc]
    have hs : 0 ≤ sgn x.f2 ∧ sgn x.f2 ≤ 2000001 := by unfold sgn; split <;> omega
    rw [e, pickC_numW fs p _ hp hfs]
    simp only
    rw [pickC_numW opsL q _ hq (by decide)]
    simp only
    rw [numC_numW 2000001 (sgn x.f2) _ hs.1 (by omega) hs.2]
    simp only
    rw [ih', h2, h4, unC_sgn]
theorem sentC_W (rest : List Int) (s : S54) (h : gS fs ids items s) : sentC fs ids (sentW fs items s ++ rest, false) = (s, (rest, false)) := by
 obtain ⟨h1, h2, h3, h4⟩ := h
 have e : sentW fs items s ++ rest = numW 10 (s.f0.length : Int) ++ (s.f0.flatMap (onW items) ++ (numW 10 (s.f1.length : Int) ++ (s.f1.flatMap (ifW fs) ++ rest))) := by
  unfold sentW
  simp only [List.append_assoc]
 unfold sentC
 rw [e, numC_numW 3 s.f0.length _ (by omega) (by omega) (by omega)]
 simp only [Int.toNat_natCast]
 rw [onsC_W hfs hids _ s.f0 h3]
 simp only
 rw [numC_numW 2 s.f1.length _ (by omega) (by omega) (by omega)]
 simp only [Int.toNat_natCast]
 rw [ifsC_W hfs hids _ s.f1 h4]
theorem sentsGoC_W (rest : List Int) (l : List (S54)) : (∀ x ∈ l, gS fs ids items x) → sentsGoC fs ids l.length (l.flatMap (sentW fs items) ++ rest, false) = (l, (rest, false)) := by
  induction l with
  | nil => intro _; rfl
  | cons x l ih =>
    intro h
    rw [List.length_cons, List.flatMap_cons, List.append_assoc]
    simp only [sentsGoC]
    rw [if_neg (by decide), sentC_W hfs hids _ x (h x List.mem_cons_self)]
    simp only
    rw [ih (fun y hy => h y (List.mem_cons_of_mem _ hy))]
theorem sentsC_W (rest : List Int) (l : List (S54)) (h : l.length ≤ 3 ∧ ∀ x ∈ l, gS fs ids items x) : sentsC fs ids (sentsW fs items l ++ rest, false) = (l, (rest, false)) := by
 unfold sentsC sentsW
 rw [List.append_assoc, numC_numW 3 l.length _ (by omega) (by omega) (by omega)]
 simp only [Int.toNat_natCast]
 exact sentsGoC_W hfs hids rest l h.2
theorem itemC_W (rest : List Int) (x : S48) (h : gI fs ids items x) : itemC x.f0 fs ids (itemW fs items x ++ rest, false) = (x, (rest, false)) := by
 obtain ⟨h1, h2, h3, h4, h5⟩ := h
 have e : itemW fs items x ++ rest = numW 10 x.f1 ++ (numW 10 (q85 items x.f2 + 1) ++ (numW 10 (if x.f3 = true then 1 else 0) ++ (numW 10 x.f4 ++ (sentsW fs items x.f5 ++ (sentsW fs items x.f6 ++ rest))))) := by
  unfold itemW
  simp only [List.append_assoc]
 have hp : 0 ≤ q85 items x.f2 + 1 ∧ q85 items x.f2 + 1 ≤ ids.length ∧ (if q85 items x.f2 + 1 > 0 then rdOf ByteArray.empty ids (q85 items x.f2 + 1 - 1) else ⟨#[]⟩) = x.f2 := by
  rcases h2 with ⟨a, b⟩ | ⟨p, hp, a, b⟩
  ·rw [a, b]
   exact ⟨by omega, by omega, if_neg (by omega)⟩
  ·rw [a, if_pos (by omega), show (p : Int) + 1 - 1 = (p : Int) by omega, rdOf_get _ _ _ hp, b]
   exact ⟨by omega, by omega, rfl⟩
 unfold itemC
 rw [e, numC_numW 9 x.f1 _ h1.1 (by omega) (by omega)]
 simp only
 rw [numC_numW ids.length (q85 items x.f2 + 1) _ hp.1 (by omega) hp.2.1]
 simp only
 rw [numC_numW 1 (if x.f3 = true then 1 else 0) _ (by split <;> omega) (by split <;> omega) (by split <;> omega)]
 simp only
 rw [numC_numW 100 x.f4 _ h3.1 (by omega) (by omega)]
 simp only
 rw [sentsC_W hfs hids _ x.f5 h4]
 simp only
 rw [sentsC_W hfs hids _ x.f6 h5]
 have e3 : ((if x.f3 = true then (1 : Int) else 0) == 1) = x.f3 := by cases x.f3 <;> rfl
 rw [e3, hp.2.2]
theorem itemsGoC_W (rest : List Int) (l : List (S48)) : (∀ x ∈ l, gI fs ids items x) → itemsGoC fs ids (l.map (fun x => x.f0)) (l.flatMap (itemW fs items) ++ rest, false) = (l, (rest, false)) := by
  induction l with
  | nil => intro _; rfl
  | cons x l ih =>
    intro h
    rw [List.map_cons, List.flatMap_cons, List.append_assoc]
    simp only [itemsGoC]
    rw [if_neg (by decide), itemC_W hfs hids _ x (h x List.mem_cons_self)]
    simp only
    rw [ih (fun y hy => h y (List.mem_cons_of_mem _ hy))]
end
theorem refun_pack (fs : List ByteArray) (items : List (S48)) (h : isB fs items = true) : refUnR (packL fs items) = ((fs, items), 0) := by
 have hg := gI_of fs items h
 have hm := MOk_of fs items h
 have h12 : ∀ s ∈ textsOf fs items, s.size ≤ 12 := by
  unfold isB at h
  rw [Bool.and_eq_true, Bool.and_eq_true, Bool.and_eq_true] at h
  intro s hs
  unfold textsOf at hs
  rcases List.mem_append.1 hs with hs | hs
  ·exact name12 fs h.2.1 s hs
  ·exact name12 _ h.2.2.1 s hs
 have hl : (textsOf fs items).length = fs.length + items.length := by unfold textsOf; rw [List.length_append, List.length_map]
 have h1 := hm.1
 have h2 := hm.2.1
 have e : modelW fs items = numW 10 ((textsOf fs items).length : Int) ++ ((textsOf fs items).flatMap textW ++ (numW 10 (fs.length : Int) ++ (items.flatMap (itemW fs items) ++ []))) := by
  unfold modelW
  simp only [List.append_assoc, List.append_nil]
 have hd : (packL fs items).drop 8 = modelW fs items := rfl
 have hll : (packL fs items).length = 8 + (modelW fs items).length := by unfold packL sealL; simp; omega
 have ht : (strOfNums ((packL fs items).take 4)).toList = [83, 78, 84, 49] := by
  show (strOfNums [83, 78, 84, 49]).toList = _
  rw [ByteArray.toList_eq, strOfNums_data]
  rfl
 unfold refUnR
 rw [if_neg (by rw [not_or]; exact ⟨by omega, fun h => h ht⟩), hd, e, numC_numW 22 _ _ (by omega) (by omega) (by omega)]
 simp only [Int.toNat_natCast]
 rw [textsGoC_textW _ _ h12]
 simp only
 rw [numC_numW _ (fs.length : Int) _ (by omega) (by omega) (by omega)]
 simp only [Int.toNat_natCast]
 have e1 : (textsOf fs items).take fs.length = fs := by unfold textsOf; exact List.take_left' rfl
 have e2 : (textsOf fs items).drop fs.length = items.map (fun x => x.f0) := by unfold textsOf; exact List.drop_left' rfl
 rw [if_neg (by decide), e1, e2, itemsGoC_W (by omega) (by rw [List.length_map]; omega) [] items hg]
 exact if_pos ⟨rfl, h, rfl⟩
theorem unpackR_or (l : List Int) : unpackR l = (([], []), 2) ∨ ∃ fs items, isB fs items = true ∧ packL fs items = l := by
 unfold unpackR
 split
 ·exact .inl rfl
 ·simp only
  split
  ·rename_i h
   exact .inr ⟨_, _, h.2.1, h.2.2⟩
  ·exact .inl rfl
theorem refUnR_or (l : List Int) : refUnR l = (([], []), 2) ∨ ∃ fs items, isB fs items = true ∧ packL fs items = l := by
 unfold refUnR
 split
 ·exact .inl rfl
 ·simp only
  split
  ·exact .inl rfl
  ·split
   ·rename_i h
    exact .inr ⟨_, _, h.2.1, h.2.2⟩
   ·exact .inl rfl
theorem readers_eq (l : List Int) : refUnR l = unpackR l := by
 rcases refUnR_or l with h | ⟨fs, items, h, rfl⟩
 ·rcases unpackR_or l with h2 | ⟨fs, items, h2, rfl⟩
  ·rw [h, h2]
  ·rw [refun_pack fs items h2, unpack_pack fs items h2]
 ·rw [refun_pack fs items h, unpack_pack fs items h]
mutual
def q20.l0 : Nat → Int → Int → List ByteArray → List (S48) → Option (Bool)
 | 0, _, _, _, _ => none
 | k + 1, x3, x4, x307000, x307001 => if x4 < (x307001.length : Int) then (q20.j1 k x3 x4 (decide (x3 < 400)) x307000 x307001) else (q20.j1 k x3 x4 false x307000 x307001)
def q20.j1 : Nat → Int → Int → Bool → List ByteArray → List (S48) → Option (Bool)
 | 0, _, _, _, _, _ => none
 | k + 1, x3, x4, x23, x307000, x307001 => if x23 = true then (if 0 ≤ x4 then (if x4 < (x307001.length : Int) then (q20.l1 k (wrap64 ((wrap64 ((wrap64 ((wrap64 (x3 + (((q89 x307001 x4).f5).length : Int))) + (((q89 x307001 x4).f6).length : Int))) + (wrap64 ((((q89 x307001 x4).f0).size : Int) / 50)))) + (wrap64 ((((q89 x307001 x4).f2).size : Int) / 50)))) x4 0 x307000 x307001 ((q89 x307001 x4).f0) ((q89 x307001 x4).f1) ((q89 x307001 x4).f2) ((q89 x307001 x4).f3) ((q89 x307001 x4).f4) ((q89 x307001 x4).f5) ((q89 x307001 x4).f6)) else (none)) else (none)) else (some (decide (x3 ≥ 400)))
def q20.j3 : Nat → Int → Int → List ByteArray → List (S48) → ByteArray → Int → ByteArray → Bool → Int → List (S54) → List (S54) → Option (Bool)
 | 0, _, _, _, _, _, _, _, _, _, _, _ => none
 | k + 1, x3, x4, x307000, x307001, x309000, x309001, x309002, x309003, x309004, x309005, x309006 => q20.l2 k x3 x4 0 x307000 x307001 x309000 x309001 x309002 x309003 x309004 x309005 x309006
def q20.l2 : Nat → Int → Int → Int → List ByteArray → List (S48) → ByteArray → Int → ByteArray → Bool → Int → List (S54) → List (S54) → Option (Bool)
 | 0, _, _, _, _, _, _, _, _, _, _, _, _ => none
 | k + 1, x3, x4, x7, x307000, x307001, x309000, x309001, x309002, x309003, x309004, x309005, x309006 => if x7 < (x309006.length : Int) then (if x3 < 400 then (if 0 ≤ x7 then (q20.l2 k (wrap64 ((wrap64 (x3 + (((q91 x309006 x7).f0).length : Int))) + (((q91 x309006 x7).f1).length : Int))) x4 (wrap64 (x7 + 1)) x307000 x307001 x309000 x309001 x309002 x309003 x309004 x309005 x309006) else (none)) else (q20.l0 k x3 (wrap64 (x4 + 1)) x307000 x307001)) else (q20.l0 k x3 (wrap64 (x4 + 1)) x307000 x307001)
def q20.l1 : Nat → Int → Int → Int → List ByteArray → List (S48) → ByteArray → Int → ByteArray → Bool → Int → List (S54) → List (S54) → Option (Bool)
 | 0, _, _, _, _, _, _, _, _, _, _, _, _ => none
 | k + 1, x3, x4, x6, x307000, x307001, x309000, x309001, x309002, x309003, x309004, x309005, x309006 => if x6 < (x309005.length : Int) then (if x3 < 400 then (if 0 ≤ x6 then (q20.l1 k (wrap64 ((wrap64 (x3 + (((q91 x309005 x6).f0).length : Int))) + (((q91 x309005 x6).f1).length : Int))) x4 (wrap64 (x6 + 1)) x307000 x307001 x309000 x309001 x309002 x309003 x309004 x309005 x309006) else (none)) else (q20.j3 k x3 x4 x307000 x307001 x309000 x309001 x309002 x309003 x309004 x309005 x309006)) else (q20.j3 k x3 x4 x307000 x307001 x309000 x309001 x309002 x309003 x309004 x309005 x309006)
end
def q20.f (k : Nat) (l0_0 : List ByteArray) (l0_1 : List (S48)) : Option (Bool) := q20.l0 k (wrap64 ((l0_0.length : Int) + (l0_1.length : Int))) 0 l0_0 l0_1
theorem q20.mono_l : ∀ k, (∀ y0 y1 y2 y3, LeO (q20.l0 k y0 y1 y2 y3) (q20.l0 (k + 1) y0 y1 y2 y3)) ∧ (∀ y0 y1 y2 y3 y4, LeO (q20.j1 k y0 y1 y2 y3 y4) (q20.j1 (k + 1) y0 y1 y2 y3 y4)) ∧ (∀ y0 y1 y2 y3 y4 y5 y6 y7 y8 y9 y10, LeO (q20.j3 k y0 y1 y2 y3 y4 y5 y6 y7 y8 y9 y10) (q20.j3 (k + 1) y0 y1 y2 y3 y4 y5 y6 y7 y8 y9 y10)) ∧ (∀ y0 y1 y2 y3 y4 y5 y6 y7 y8 y9 y10 y11, LeO (q20.l2 k y0 y1 y2 y3 y4 y5 y6 y7 y8 y9 y10 y11) (q20.l2 (k + 1) y0 y1 y2 y3 y4 y5 y6 y7 y8 y9 y10 y11)) ∧ (∀ y0 y1 y2 y3 y4 y5 y6 y7 y8 y9 y10 y11, LeO (q20.l1 k y0 y1 y2 y3 y4 y5 y6 y7 y8 y9 y10 y11) (q20.l1 (k + 1) y0 y1 y2 y3 y4 y5 y6 y7 y8 y9 y10 y11))
 | 0 => ⟨fun _ _ _ _ r h => by simp [q20.l0] at h, fun _ _ _ _ _ r h => by simp [q20.j1] at h, fun _ _ _ _ _ _ _ _ _ _ _ r h => by simp [q20.j3] at h, fun _ _ _ _ _ _ _ _ _ _ _ _ r h => by simp [q20.l2] at h, fun _ _ _ _ _ _ _ _ _ _ _ _ r h => by simp [q20.l1] at h⟩
 | k + 1 => by
  obtain ⟨ih0, ih1, ih2, ih3, ih4⟩ := q20.mono_l k
  refine ⟨?_, ?_, ?_, ?_, ?_⟩
  intro y0 y1 y2 y3
  unfold q20.l0
  rotate_left
  intro y0 y1 y2 y3 y4
  unfold q20.j1
  rotate_left
  intro y0 y1 y2 y3 y4 y5 y6 y7 y8 y9 y10
  unfold q20.j3
  rotate_left
  intro y0 y1 y2 y3 y4 y5 y6 y7 y8 y9 y10 y11
  unfold q20.l2
  rotate_left
  intro y0 y1 y2 y3 y4 y5 y6 y7 y8 y9 y10 y11
  unfold q20.l1
  rotate_left
  all_goals repeat' first
   | (with_reducible exact ih0 _ _ _ _)
   | (with_reducible exact ih1 _ _ _ _ _)
   | (with_reducible exact ih2 _ _ _ _ _ _ _ _ _ _ _)
   | (with_reducible exact ih3 _ _ _ _ _ _ _ _ _ _ _ _)
   | (with_reducible exact ih4 _ _ _ _ _ _ _ _ _ _ _ _)
   | (with_reducible exact LeO.refl _)
   | (with_reducible exact LeO.none _)
   | (with_reducible refine LeO.ite ?_ ?_)
   | (with_reducible refine LeO.bind ?_ (fun _ => ?_))
   | exact ih0 _ _ _ _
   | exact ih1 _ _ _ _ _
   | exact ih2 _ _ _ _ _ _ _ _ _ _ _
   | exact ih3 _ _ _ _ _ _ _ _ _ _ _ _
   | exact ih4 _ _ _ _ _ _ _ _ _ _ _ _
   | exact LeO.none _
   | refine LeO.ite ?_ ?_
   | refine LeO.bind ?_ (fun _ => ?_)
theorem q20.mono : ∀ a0 a1 k, LeO (q20.f k a0 a1) (q20.f (k + 1) a0 a1) := by
 intro a0 a1 k
 obtain ⟨ih0, ih1, ih2, ih3, ih4⟩ := q20.mono_l k
 unfold q20.f
 repeat' first
  | (with_reducible exact ih0 _ _ _ _)
  | (with_reducible exact ih1 _ _ _ _ _)
  | (with_reducible exact ih2 _ _ _ _ _ _ _ _ _ _ _)
  | (with_reducible exact ih3 _ _ _ _ _ _ _ _ _ _ _ _)
  | (with_reducible exact ih4 _ _ _ _ _ _ _ _ _ _ _ _)
  | (with_reducible exact LeO.refl _)
  | (with_reducible exact LeO.none _)
  | (with_reducible refine LeO.ite ?_ ?_)
  | (with_reducible refine LeO.bind ?_ (fun _ => ?_))
  | exact ih0 _ _ _ _
  | exact ih1 _ _ _ _ _
  | exact ih2 _ _ _ _ _ _ _ _ _ _ _
  | exact ih3 _ _ _ _ _ _ _ _ _ _ _ _
  | exact ih4 _ _ _ _ _ _ _ _ _ _ _ _
  | exact LeO.none _
  | refine LeO.ite ?_ ?_
  | refine LeO.bind ?_ (fun _ => ?_)
set_option maxHeartbeats 8000000 in
set_option maxRecDepth 100000 in
theorem q20.calls (k : Nat) (A0_0 : Option Addr) (c0_0 : Nat) (l0_0 : List ByteArray) (A0_1 : Option Addr) (c0_1 : Nat) (l0_1 : List (S48)) (r : Bool) (w : World) (hr0_0 : Kd.C Kd.string w A0_0 l0_0.length l0_0) (hc0_0 : l0_0.length ≤ c0_0) (hr0_1 : Kd.C k48 w A0_1 l0_1.length l0_1) (hc0_1 : l0_1.length ≤ c0_1) (h : q20.f k l0_0 l0_1 = some r) :
 Calls Try.prog 13 #[.agg #[.slice A0_0 l0_0.length c0_0, .slice A0_1 l0_1.length c0_1]] w fun e w' => e = .returned (.bool r) ∧ Below w.heap.size w w' := by
 have hu25 := Try.underlying25
 have hu48 := Try.underlying48
 have HR0_0 := q66.mk hr0_0
 have HC0_0 := q66.mk hc0_0
 clear hr0_0 hc0_0
 have HR0_1 := q66.mk hr0_1
 have HC0_1 := q66.mk hc0_1
 clear hr0_1 hc0_1
 have HB := q66.mk (Below.refl w.heap.size w)
 have H : (q20.l0 k (wrap64 ((l0_0.length : Int) + (l0_1.length : Int))) 0 l0_0 l0_1) = some r := h
 clear h
 have H' := q66.mk H
 clear H
 go_enter Try.func13, Try.ntmps13
 go_wp2_with (first | ((with_reducible refine q81 (N := 1) rfl ?_); refine bx_ 1 #[.slice A0_0 l0_0.length c0_0, .slice A0_1 l0_1.length c0_1] 25 ?_; intro gb306 hg w2 hbox hb; have BK306 := q66.mk (hbox); have GW306 := zz_ (w := w) hg; have GE306 := zz_ (w := w) hg; replace HB := hb_ HB hb;  clear hb hbox hg; obtain ⟨hcz3_0, hcz3_1, hfz3_0, hfz3_1⟩ := bs2_ BK306))
 repeat (go_quiet (first | ((with_reducible refine q81 (N := 1) rfl ?_); refine bx_ 1 #[.slice A0_0 l0_0.length c0_0, .slice A0_1 l0_1.length c0_1] 25 ?_; intro gb306 hg w2 hbox hb; have BK306 := q66.mk (hbox); have GW306 := zz_ (w := w) hg; have GE306 := zz_ (w := w) hg; replace HB := hb_ HB hb;  clear hb hbox hg; obtain ⟨hcz3_0, hcz3_1, hfz3_0, hfz3_1⟩ := bs2_ BK306)); try go_wp2_with (first | ((with_reducible refine q81 (N := 1) rfl ?_); refine bx_ 1 #[.slice A0_0 l0_0.length c0_0, .slice A0_1 l0_1.length c0_1] 25 ?_; intro gb306 hg w2 hbox hb; have BK306 := q66.mk (hbox); have GW306 := zz_ (w := w) hg; have GE306 := zz_ (w := w) hg; replace HB := hb_ HB hb;  clear hb hbox hg; obtain ⟨hcz3_0, hcz3_1, hfz3_0, hfz3_1⟩ := bs2_ BK306)))
 go_loopg [3, 4] k (fun kq v3 v4 w' => ∃ (x3_1 : Int) (x4_1 : Int), v3 = .int .i64 x3_1 ∧ v4 = .int .i64 x4_1 ∧ q66 (q20.l0 kq x3_1 x4_1 l0_0 l0_1 = some r) ∧ q66 (kq ≤ k) ∧ q66 (w'.heap[gb306]? = some (.cells #[(.slice A0_0 l0_0.length c0_0), (.slice A0_1 l0_1.length c0_1)] 25 (0, 0))) ∧ q66 (Below w.heap.size w w'))
 case atStart => exact ⟨(wrap64 ((l0_0.length : Int) + (l0_1.length : Int))), (0), rf_, rf_, H', ⟨Nat.le_refl _⟩, ⟨gx_ BK306⟩, ⟨hf_⟩⟩
 case round =>
  clear H'
  (try clear hcz3_0); (try clear hcz3_1); (try clear hfz3_0); (try clear hfz3_1)
  obtain ⟨x3_1, x4_1, rfl, rfl, HA, HK1, BK306, HB⟩ := hrel
  cases gk with
  | zero => exact absurd HA.out (by simp [q20.l0])
  | succ k1 =>
   have H := HA.out
   clear HA
   simp only [q20.l0] at H
   have HC4 := q66.mk H
   clear H
   go_upto_region 3 with (fail)
   repeat (go_quiet (fail); go_upto_region 3 with (fail))
   go_cut [23] (fun v23 wc => ∃ (kq : Nat) (x23_3 : Bool), v23 = .bool x23_3 ∧ q66 (q20.j1 kq x3_1 x4_1 x23_3 l0_0 l0_1 = some r) ∧ q66 (kq ≤ k1) ∧ q66 (wc.heap[gb306]? = some (.cells #[(.slice A0_0 l0_0.length c0_0), (.slice A0_1 l0_1.length c0_1)] 25 (0, 0))) ∧ q66 (Below w.heap.size w wc))
   case first =>
    have H := HC4.out
    clear HC4
    by_cases c5 : x4_1 < (l0_1.length : Int)
    ·rw [if_pos c5] at H
     have c5b0 := decide_eq_true c5
     clear c5
     (first | rw [c5b0] | (simp only [i64_w, i32_w]; rw [c5b0]) | skip)
     have H' := q66.mk H
     clear H
     obtain ⟨hcz6_0, hcz6_1, hfz6_0, hfz6_1⟩ := bs2_ BK306
     go_wp2
     repeat (go_quiet (fail); try go_wp2)
     go_meet
     case rel => exact ⟨_, (decide (x3_1 < 400)), rf_, H', ⟨by have := HK1.out; first | omega | exact Nat.le_refl _⟩, ⟨gx_ BK306⟩, ⟨hf_⟩⟩
    ·rw [if_neg c5] at H
     have c5b0 := decide_eq_false c5
     clear c5
     (first | rw [c5b0] | (simp only [i64_w, i32_w]; rw [c5b0]) | skip)
     have H' := q66.mk H
     clear H
     obtain ⟨hcz7_0, hcz7_1, hfz7_0, hfz7_1⟩ := bs2_ BK306
     go_wp2
     repeat (go_quiet (fail); try go_wp2)
     go_meet
     case rel => exact ⟨_, (false), rf_, H', ⟨by have := HK1.out; first | omega | exact Nat.le_refl _⟩, ⟨gx_ BK306⟩, ⟨hf_⟩⟩
   case rest =>
    clear HC4
    obtain ⟨kq, x23_3, rfl, HA, HJ3, BK306, HB⟩ := hcut
    cases kq with
    | zero => exact absurd HA.out (by simp [q20.j1])
    | succ kj3 =>
     have H := HA.out
     clear HA
     simp only [q20.j1] at H
     by_cases c8 : x23_3 = true
     ·subst c8
      have H1 : (if 0 ≤ x4_1 then (if x4_1 < (l0_1.length : Int) then (q20.l1 kj3 (wrap64 ((wrap64 ((wrap64 ((wrap64 (x3_1 + (((q89 l0_1 x4_1).f5).length : Int))) + (((q89 l0_1 x4_1).f6).length : Int))) + (wrap64 ((((q89 l0_1 x4_1).f0).size : Int) / 50)))) + (wrap64 ((((q89 l0_1 x4_1).f2).size : Int) / 50)))) x4_1 0 l0_0 l0_1 ((q89 l0_1 x4_1).f0) ((q89 l0_1 x4_1).f1) ((q89 l0_1 x4_1).f2) ((q89 l0_1 x4_1).f3) ((q89 l0_1 x4_1).f4) ((q89 l0_1 x4_1).f5) ((q89 l0_1 x4_1).f6)) else (none)) else (none)) = some r := by rw [if_pos rfl] at H; exact H
      clear H
      have H := H1
      clear H1
      by_cases c9 : 0 ≤ x4_1
      ·rw [if_pos c9] at H
       have c9b0 := decide_eq_true c9
       clear c9
       by_cases c10 : x4_1 < (l0_1.length : Int)
       ·rw [if_pos c10] at H
        have c10b0 := decide_eq_true c10
        clear c10
        have HC11 := q66.mk H
        clear H
        obtain ⟨hcz12_0, hcz12_1, hfz12_0, hfz12_1⟩ := bs2_ BK306
        obtain ⟨ad307, A307_5, c307_5, A307_6, c307_6, e307, hx307_0, hx307_1, hx307_2, hx307_3, hx307_4, hx307_5, hx307_6, HC307_5, HR307_5, HC307_6, HR307_6, p307, q307⟩ := au_T48 HR0_1 HB (x4_1)
        cases e307
        go_upto_block 2 with (first | ((with_reducible refine q81 (N := 5) rfl ?_); refine bx_ 5 #[.string (⟨#[]⟩ : ByteArray), .int .i64 0, .string (⟨#[]⟩ : ByteArray), .bool false, .int .i64 0, .slice none 0 0, .slice none 0 0] 48 ?_; intro gb308 hg w13 hbox hb; have BK308 := q66.mk (hbox); have GW308 := zz_ (w := w) hg; have GE308 := zz_ (w := w) hg; replace HB := hb_ HB hb; have NB306_308 := ne1_ hg BK306; have NB308_306 := ne2_ hg BK306; replace BK306 := bb_ BK306 hb;  clear hb hbox hg; have hnb14 := NB308_306.out; have hnc14 := NB306_308.out; obtain ⟨hcz15_0, hcz15_1, hcz15_2, hcz15_3, hcz15_4, hcz15_5, hcz15_6, hfz15_0, hfz15_1, hfz15_2, hfz15_3, hfz15_4, hfz15_5, hfz15_6⟩ := bs7_ BK308))
        repeat (go_quiet (first | ((with_reducible refine q81 (N := 5) rfl ?_); refine bx_ 5 #[.string (⟨#[]⟩ : ByteArray), .int .i64 0, .string (⟨#[]⟩ : ByteArray), .bool false, .int .i64 0, .slice none 0 0, .slice none 0 0] 48 ?_; intro gb308 hg w13 hbox hb; have BK308 := q66.mk (hbox); have GW308 := zz_ (w := w) hg; have GE308 := zz_ (w := w) hg; replace HB := hb_ HB hb; have NB306_308 := ne1_ hg BK306; have NB308_306 := ne2_ hg BK306; replace BK306 := bb_ BK306 hb;  clear hb hbox hg; have hnb14 := NB308_306.out; have hnc14 := NB306_308.out; obtain ⟨hcz15_0, hcz15_1, hcz15_2, hcz15_3, hcz15_4, hcz15_5, hcz15_6, hfz15_0, hfz15_1, hfz15_2, hfz15_3, hfz15_4, hfz15_5, hfz15_6⟩ := bs7_ BK308)); go_upto_block 2 with (first | ((with_reducible refine q81 (N := 5) rfl ?_); refine bx_ 5 #[.string (⟨#[]⟩ : ByteArray), .int .i64 0, .string (⟨#[]⟩ : ByteArray), .bool false, .int .i64 0, .slice none 0 0, .slice none 0 0] 48 ?_; intro gb308 hg w13 hbox hb; have BK308 := q66.mk (hbox); have GW308 := zz_ (w := w) hg; have GE308 := zz_ (w := w) hg; replace HB := hb_ HB hb; have NB306_308 := ne1_ hg BK306; have NB308_306 := ne2_ hg BK306; replace BK306 := bb_ BK306 hb;  clear hb hbox hg; have hnb14 := NB308_306.out; have hnc14 := NB306_308.out; obtain ⟨hcz15_0, hcz15_1, hcz15_2, hcz15_3, hcz15_4, hcz15_5, hcz15_6, hfz15_0, hfz15_1, hfz15_2, hfz15_3, hfz15_4, hfz15_5, hfz15_6⟩ := bs7_ BK308)))
        (try simp only [Act.put, List.setIfInBounds_toArray, List.set_cons_zero, List.set_cons_succ])
        go_cut [3] (fun v3 wc => ∃ (kq : Nat) (x3_10 : Int), v3 = .int .i64 x3_10 ∧ q66 (q20.j3 kq x3_10 x4_1 l0_0 l0_1 ((q89 l0_1 x4_1).f0) ((q89 l0_1 x4_1).f1) ((q89 l0_1 x4_1).f2) ((q89 l0_1 x4_1).f3) ((q89 l0_1 x4_1).f4) ((q89 l0_1 x4_1).f5) ((q89 l0_1 x4_1).f6) = some r) ∧ q66 (kq ≤ kj3) ∧ q66 (wc.heap[gb306]? = some (.cells #[(.slice A0_0 l0_0.length c0_0), (.slice (some ad307) l0_1.length c0_1)] 25 (0, 0))) ∧ q66 (wc.heap[gb308]? = some (.cells #[.string ((q89 l0_1 x4_1).f0), .int .i64 ((q89 l0_1 x4_1).f1), .string ((q89 l0_1 x4_1).f2), .bool ((q89 l0_1 x4_1).f3), .int .i64 ((q89 l0_1 x4_1).f4), (.slice A307_5 ((q89 l0_1 x4_1).f5).length c307_5), (.slice A307_6 ((q89 l0_1 x4_1).f6).length c307_6)] 48 (0, 0))) ∧ q66 (Below w.heap.size w wc))
        case first =>
         have H := HC11.out
         clear HC11
         have H' := q66.mk H
         clear H
         go_wp2
         repeat (go_quiet (fail); try go_wp2)
         go_loopg [3, 6] kj3 (fun kq v3 v6 w' => ∃ (x3_3 : Int) (x6_3 : Int), v3 = .int .i64 x3_3 ∧ v6 = .int .i64 x6_3 ∧ q66 (q20.l1 kq x3_3 x4_1 x6_3 l0_0 l0_1 ((q89 l0_1 x4_1).f0) ((q89 l0_1 x4_1).f1) ((q89 l0_1 x4_1).f2) ((q89 l0_1 x4_1).f3) ((q89 l0_1 x4_1).f4) ((q89 l0_1 x4_1).f5) ((q89 l0_1 x4_1).f6) = some r) ∧ q66 (kq ≤ kj3) ∧ q66 (w'.heap[gb306]? = some (.cells #[(.slice A0_0 l0_0.length c0_0), (.slice (some ad307) l0_1.length c0_1)] 25 (0, 0))) ∧ q66 (w'.heap[gb308]? = some (.cells #[.string ((q89 l0_1 x4_1).f0), .int .i64 ((q89 l0_1 x4_1).f1), .string ((q89 l0_1 x4_1).f2), .bool ((q89 l0_1 x4_1).f3), .int .i64 ((q89 l0_1 x4_1).f4), (.slice A307_5 ((q89 l0_1 x4_1).f5).length c307_5), (.slice A307_6 ((q89 l0_1 x4_1).f6).length c307_6)] 48 (0, 0))) ∧ q66 (Below w.heap.size w w'))
         case atStart => exact ⟨(wrap64 ((wrap64 ((wrap64 ((wrap64 (x3_1 + (((q89 l0_1 x4_1).f5).length : Int))) + (((q89 l0_1 x4_1).f6).length : Int))) + (wrap64 ((((q89 l0_1 x4_1).f0).size : Int) / 50)))) + (wrap64 ((((q89 l0_1 x4_1).f2).size : Int) / 50)))), (0), rf_, rf_, H', ⟨Nat.le_refl _⟩, ⟨by (with_reducible repeat (first | refine q75 ?_ _ | refine q74 ?_ | refine q71 ?_ _)); refine q76 ?_ NB306_308.out _; (with_reducible repeat (first | refine q75 ?_ _ | refine q74 ?_ | refine q71 ?_ _)); refine q76 ?_ NB306_308.out _; (with_reducible repeat (first | refine q75 ?_ _ | refine q74 ?_ | refine q71 ?_ _)); refine q76 ?_ NB306_308.out _; (with_reducible repeat (first | refine q75 ?_ _ | refine q74 ?_ | refine q71 ?_ _)); refine q76 ?_ NB306_308.out _; (with_reducible repeat (first | refine q75 ?_ _ | refine q74 ?_ | refine q71 ?_ _)); refine q76 ?_ NB306_308.out _; (with_reducible repeat (first | refine q75 ?_ _ | refine q74 ?_ | refine q71 ?_ _)); refine q76 ?_ NB306_308.out _; (with_reducible repeat (first | refine q75 ?_ _ | refine q74 ?_ | refine q71 ?_ _)); refine q76 ?_ NB306_308.out _; (with_reducible repeat (first | refine q75 ?_ _ | refine q74 ?_ | refine q71 ?_ _)); exact BK306.out⟩, ⟨by (with_reducible repeat (first | refine q75 ?_ _ | refine q74 ?_ | refine q71 ?_ _)); refine q78 (cs := #[.string ((q89 l0_1 x4_1).f0), .int .i64 ((q89 l0_1 x4_1).f1), .string ((q89 l0_1 x4_1).f2), .bool ((q89 l0_1 x4_1).f3), .int .i64 ((q89 l0_1 x4_1).f4), .slice A307_5 ((q89 l0_1 x4_1).f5).length c307_5, .slice none 0 0]) ?_ 6 _ rfl; (with_reducible repeat (first | refine q75 ?_ _ | refine q74 ?_ | refine q71 ?_ _)); refine q78 (cs := #[.string ((q89 l0_1 x4_1).f0), .int .i64 ((q89 l0_1 x4_1).f1), .string ((q89 l0_1 x4_1).f2), .bool ((q89 l0_1 x4_1).f3), .int .i64 ((q89 l0_1 x4_1).f4), .slice none 0 0, .slice none 0 0]) ?_ 5 _ rfl; (with_reducible repeat (first | refine q75 ?_ _ | refine q74 ?_ | refine q71 ?_ _)); refine q78 (cs := #[.string ((q89 l0_1 x4_1).f0), .int .i64 ((q89 l0_1 x4_1).f1), .string ((q89 l0_1 x4_1).f2), .bool ((q89 l0_1 x4_1).f3), .int .i64 0, .slice none 0 0, .slice none 0 0]) ?_ 4 _ rfl; (with_reducible repeat (first | refine q75 ?_ _ | refine q74 ?_ | refine q71 ?_ _)); refine q78 (cs := #[.string ((q89 l0_1 x4_1).f0), .int .i64 ((q89 l0_1 x4_1).f1), .string ((q89 l0_1 x4_1).f2), .bool false, .int .i64 0, .slice none 0 0, .slice none 0 0]) ?_ 3 _ rfl; (with_reducible repeat (first | refine q75 ?_ _ | refine q74 ?_ | refine q71 ?_ _)); refine q78 (cs := #[.string ((q89 l0_1 x4_1).f0), .int .i64 ((q89 l0_1 x4_1).f1), .string (⟨#[]⟩ : ByteArray), .bool false, .int .i64 0, .slice none 0 0, .slice none 0 0]) ?_ 2 _ rfl; (with_reducible repeat (first | refine q75 ?_ _ | refine q74 ?_ | refine q71 ?_ _)); refine q78 (cs := #[.string ((q89 l0_1 x4_1).f0), .int .i64 0, .string (⟨#[]⟩ : ByteArray), .bool false, .int .i64 0, .slice none 0 0, .slice none 0 0]) ?_ 1 _ rfl; (with_reducible repeat (first | refine q75 ?_ _ | refine q74 ?_ | refine q71 ?_ _)); refine q78 (cs := #[.string (⟨#[]⟩ : ByteArray), .int .i64 0, .string (⟨#[]⟩ : ByteArray), .bool false, .int .i64 0, .slice none 0 0, .slice none 0 0]) ?_ 0 _ rfl; (with_reducible repeat (first | refine q75 ?_ _ | refine q74 ?_ | refine q71 ?_ _)); exact BK308.out⟩, ⟨hf_⟩⟩
         case round =>
          clear H'
          clear c9b0 c10b0 hcz12_0 hcz12_1 hfz12_0 hfz12_1 hx307_0 hx307_1 hx307_2 hx307_3 hx307_4 hx307_5 hx307_6 p307 q307; (try clear hcz15_0); (try clear hcz15_1); (try clear hcz15_2); (try clear hcz15_3); (try clear hcz15_4); (try clear hcz15_5); (try clear hcz15_6); (try clear hfz15_0); (try clear hfz15_1); (try clear hfz15_2); (try clear hfz15_3); (try clear hfz15_4); (try clear hfz15_5); (try clear hfz15_6)
          obtain ⟨x3_3, x6_3, rfl, rfl, HA, HK3, BK306, BK308, HB⟩ := hrel
          cases gk with
          | zero => exact absurd HA.out (by simp [q20.l1])
          | succ k3 =>
           have H := HA.out
           clear HA
           simp only [q20.l1] at H
           by_cases c16 : x6_3 < (((q89 l0_1 x4_1).f5).length : Int)
           ·rw [if_pos c16] at H
            have c16b0 := decide_eq_true c16
            clear c16
            (first | rw [c16b0] | (simp only [i64_w, i32_w]; rw [c16b0]) | skip)
            by_cases c17 : x3_3 < 400
            ·rw [if_pos c17] at H
             replace c17 := decide_eq_true c17
             by_cases c18 : 0 ≤ x6_3
             ·rw [if_pos c18] at H
              replace c18 := decide_eq_true c18
              have H' := q66.mk H
              clear H
              have hnb19 := NB308_306.out
              have hnc19 := NB306_308.out
              obtain ⟨hcz20_0, hcz20_1, hcz20_2, hcz20_3, hcz20_4, hcz20_5, hcz20_6, hfz20_0, hfz20_1, hfz20_2, hfz20_3, hfz20_4, hfz20_5, hfz20_6⟩ := bs7_ BK308
              obtain ⟨ad309, A309_0, c309_0, A309_1, c309_1, e309, hx309_0, hx309_1, HC309_0, HR309_0, HC309_1, HR309_1, p309, q309⟩ := au_T54 HR307_5 HB (x6_3)
              cases e309
              obtain ⟨ad310, A310_0, c310_0, A310_1, c310_1, e310, hx310_0, hx310_1, HC310_0, HR310_0, HC310_1, HR310_1, p310, q310⟩ := au_T54 HR307_5 HB (x6_3)
              obtain rfl : ad309 = ad310 := (by injection e310)
              have ea_ := Option.some.inj (hx309_0.symm.trans hx310_0)
              injection ea_ with ea_ en_ ec_
              subst ea_
              subst ec_
              clear en_
              have ea_ := Option.some.inj (hx309_1.symm.trans hx310_1)
              injection ea_ with ea_ en_ ec_
              subst ea_
              subst ec_
              clear en_
              go_wp2
              repeat (go_quiet (fail); try go_wp2)
              go_roundg k3
              case measure => have := HK1.out; have := HJ3.out; have := HK3.out; omega
              case rel => exact ⟨(wrap64 ((wrap64 (x3_3 + (((q91 ((q89 l0_1 x4_1).f5) x6_3).f0).length : Int))) + (((q91 ((q89 l0_1 x4_1).f5) x6_3).f1).length : Int))), (wrap64 (x6_3 + 1)), rf_, rf_, H', ⟨by have := HK1.out; have := HJ3.out; have := HK3.out; omega⟩, ⟨gx_ BK306⟩, ⟨gx_ BK308⟩, ⟨hf_⟩⟩
             ·rw [if_neg c18] at H
              exact absurd H (by simp)
            ·rw [if_neg c17] at H
             replace c17 := decide_eq_false c17
             have H' := q66.mk H
             clear H
             have hnb21 := NB308_306.out
             have hnc21 := NB306_308.out
             obtain ⟨hcz22_0, hcz22_1, hcz22_2, hcz22_3, hcz22_4, hcz22_5, hcz22_6, hfz22_0, hfz22_1, hfz22_2, hfz22_3, hfz22_4, hfz22_5, hfz22_6⟩ := bs7_ BK308
             go_wp2
             repeat (go_quiet (fail); try go_wp2)
             go_meet
             case rel => exact ⟨_, (x3_3), rf_, H', ⟨by have := HK1.out; have := HJ3.out; have := HK3.out; first | omega | exact Nat.le_refl _⟩, ⟨gx_ BK306⟩, ⟨gx_ BK308⟩, ⟨hf_⟩⟩
           ·rw [if_neg c16] at H
            have c16b0 := decide_eq_false c16
            clear c16
            (first | rw [c16b0] | (simp only [i64_w, i32_w]; rw [c16b0]) | skip)
            have H' := q66.mk H
            clear H
            have hnb23 := NB308_306.out
            have hnc23 := NB306_308.out
            obtain ⟨hcz24_0, hcz24_1, hcz24_2, hcz24_3, hcz24_4, hcz24_5, hcz24_6, hfz24_0, hfz24_1, hfz24_2, hfz24_3, hfz24_4, hfz24_5, hfz24_6⟩ := bs7_ BK308
            go_wp2
            repeat (go_quiet (fail); try go_wp2)
            go_meet
            case rel => exact ⟨_, (x3_3), rf_, H', ⟨by have := HK1.out; have := HJ3.out; have := HK3.out; first | omega | exact Nat.le_refl _⟩, ⟨gx_ BK306⟩, ⟨gx_ BK308⟩, ⟨hf_⟩⟩
        case rest =>
         clear HC11
         clear c9b0 c10b0 hcz12_0 hcz12_1 hfz12_0 hfz12_1 hx307_0 hx307_1 hx307_2 hx307_3 hx307_4 hx307_5 hx307_6 p307 q307; (try clear hcz15_0); (try clear hcz15_1); (try clear hcz15_2); (try clear hcz15_3); (try clear hcz15_4); (try clear hcz15_5); (try clear hcz15_6); (try clear hfz15_0); (try clear hfz15_1); (try clear hfz15_2); (try clear hfz15_3); (try clear hfz15_4); (try clear hfz15_5); (try clear hfz15_6)
         obtain ⟨kq, x3_10, rfl, HA, HJ10, BK306, BK308, HB⟩ := hcut
         cases kq with
         | zero => exact absurd HA.out (by simp [q20.j3])
         | succ kj10 =>
          have H := HA.out
          clear HA
          simp only [q20.j3] at H
          have H' := q66.mk H
          clear H
          go_wp2
          repeat (go_quiet (fail); try go_wp2)
          go_loopg [3, 7] kj10 (fun kq v3 v7 w' => ∃ (x3_4 : Int) (x7_4 : Int), v3 = .int .i64 x3_4 ∧ v7 = .int .i64 x7_4 ∧ q66 (q20.l2 kq x3_4 x4_1 x7_4 l0_0 l0_1 ((q89 l0_1 x4_1).f0) ((q89 l0_1 x4_1).f1) ((q89 l0_1 x4_1).f2) ((q89 l0_1 x4_1).f3) ((q89 l0_1 x4_1).f4) ((q89 l0_1 x4_1).f5) ((q89 l0_1 x4_1).f6) = some r) ∧ q66 (kq ≤ kj10) ∧ q66 (w'.heap[gb306]? = some (.cells #[(.slice A0_0 l0_0.length c0_0), (.slice (some ad307) l0_1.length c0_1)] 25 (0, 0))) ∧ q66 (w'.heap[gb308]? = some (.cells #[.string ((q89 l0_1 x4_1).f0), .int .i64 ((q89 l0_1 x4_1).f1), .string ((q89 l0_1 x4_1).f2), .bool ((q89 l0_1 x4_1).f3), .int .i64 ((q89 l0_1 x4_1).f4), (.slice A307_5 ((q89 l0_1 x4_1).f5).length c307_5), (.slice A307_6 ((q89 l0_1 x4_1).f6).length c307_6)] 48 (0, 0))) ∧ q66 (Below w.heap.size w w'))
          case atStart => exact ⟨(x3_10), (0), rf_, rf_, H', ⟨Nat.le_refl _⟩, ⟨gx_ BK306⟩, ⟨gx_ BK308⟩, ⟨hf_⟩⟩
          case round =>
           clear H'
           obtain ⟨x3_4, x7_4, rfl, rfl, HA, HK4, BK306, BK308, HB⟩ := hrel
           cases gk with
           | zero => exact absurd HA.out (by simp [q20.l2])
           | succ k4 =>
            have H := HA.out
            clear HA
            simp only [q20.l2] at H
            by_cases c25 : x7_4 < (((q89 l0_1 x4_1).f6).length : Int)
            ·rw [if_pos c25] at H
             replace c25 := decide_eq_true c25
             by_cases c26 : x3_4 < 400
             ·rw [if_pos c26] at H
              replace c26 := decide_eq_true c26
              by_cases c27 : 0 ≤ x7_4
              ·rw [if_pos c27] at H
               replace c27 := decide_eq_true c27
               have H' := q66.mk H
               clear H
               have hnb28 := NB308_306.out
               have hnc28 := NB306_308.out
               obtain ⟨hcz29_0, hcz29_1, hcz29_2, hcz29_3, hcz29_4, hcz29_5, hcz29_6, hfz29_0, hfz29_1, hfz29_2, hfz29_3, hfz29_4, hfz29_5, hfz29_6⟩ := bs7_ BK308
               obtain ⟨ad311, A311_0, c311_0, A311_1, c311_1, e311, hx311_0, hx311_1, HC311_0, HR311_0, HC311_1, HR311_1, p311, q311⟩ := au_T54 HR307_6 HB (x7_4)
               cases e311
               obtain ⟨ad312, A312_0, c312_0, A312_1, c312_1, e312, hx312_0, hx312_1, HC312_0, HR312_0, HC312_1, HR312_1, p312, q312⟩ := au_T54 HR307_6 HB (x7_4)
               obtain rfl : ad311 = ad312 := (by injection e312)
               have ea_ := Option.some.inj (hx311_0.symm.trans hx312_0)
               injection ea_ with ea_ en_ ec_
               subst ea_
               subst ec_
               clear en_
               have ea_ := Option.some.inj (hx311_1.symm.trans hx312_1)
               injection ea_ with ea_ en_ ec_
               subst ea_
               subst ec_
               clear en_
               go_wp2
               repeat (go_quiet (fail); try go_wp2)
               go_roundg k4
               case measure => have := HK1.out; have := HJ3.out; have := HJ10.out; have := HK4.out; omega
               case rel => exact ⟨(wrap64 ((wrap64 (x3_4 + (((q91 ((q89 l0_1 x4_1).f6) x7_4).f0).length : Int))) + (((q91 ((q89 l0_1 x4_1).f6) x7_4).f1).length : Int))), (wrap64 (x7_4 + 1)), rf_, rf_, H', ⟨by have := HK1.out; have := HJ3.out; have := HJ10.out; have := HK4.out; omega⟩, ⟨gx_ BK306⟩, ⟨gx_ BK308⟩, ⟨hf_⟩⟩
              ·rw [if_neg c27] at H
               exact absurd H (by simp)
             ·rw [if_neg c26] at H
              replace c26 := decide_eq_false c26
              have H' := q66.mk H
              clear H
              have hnb30 := NB308_306.out
              have hnc30 := NB306_308.out
              obtain ⟨hcz31_0, hcz31_1, hcz31_2, hcz31_3, hcz31_4, hcz31_5, hcz31_6, hfz31_0, hfz31_1, hfz31_2, hfz31_3, hfz31_4, hfz31_5, hfz31_6⟩ := bs7_ BK308
              go_wp2
              repeat (go_quiet (fail); try go_wp2)
              go_roundg k4
              case measure => have := HK1.out; have := HJ3.out; have := HJ10.out; have := HK4.out; omega
              case rel => exact ⟨(x3_4), (wrap64 (x4_1 + 1)), rf_, rf_, H', ⟨by have := HK1.out; have := HJ3.out; have := HJ10.out; have := HK4.out; omega⟩, ⟨gx_ BK306⟩, ⟨hf_⟩⟩
            ·rw [if_neg c25] at H
             replace c25 := decide_eq_false c25
             have H' := q66.mk H
             clear H
             have hnb32 := NB308_306.out
             have hnc32 := NB306_308.out
             obtain ⟨hcz33_0, hcz33_1, hcz33_2, hcz33_3, hcz33_4, hcz33_5, hcz33_6, hfz33_0, hfz33_1, hfz33_2, hfz33_3, hfz33_4, hfz33_5, hfz33_6⟩ := bs7_ BK308
             go_wp2
             repeat (go_quiet (fail); try go_wp2)
             go_roundg k4
             case measure => have := HK1.out; have := HJ3.out; have := HJ10.out; have := HK4.out; omega
             case rel => exact ⟨(x3_4), (wrap64 (x4_1 + 1)), rf_, rf_, H', ⟨by have := HK1.out; have := HJ3.out; have := HJ10.out; have := HK4.out; omega⟩, ⟨gx_ BK306⟩, ⟨hf_⟩⟩
       ·rw [if_neg c10] at H
        exact absurd H (by simp)
      ·rw [if_neg c9] at H
       exact absurd H (by simp)
     ·replace c8 := Bool.eq_false_iff.mpr c8
      subst c8
      have H1 : (some (decide (x3_1 ≥ 400))) = some r := by rw [if_neg (show ¬ (false = true) by decide)] at H; exact H
      clear H
      have H := H1
      clear H1
      obtain rfl := Option.some.inj H
      go_wp2
      repeat (go_quiet (fail); try go_wp2)
      go_ret
      exact ⟨er_, hf_⟩
theorem eqA50 (d : Nat) (w : World) (x0 y0 : ByteArray) (x1 y1 : ByteArray) (x2 y2 : Int) :
 (Op.equalIn (d + 2) 50 (.agg #[.string x0, .string x1, .int .i64 x2]) (.agg #[.string y0, .string y1, .int .i64 y2])).run Try.prog w = .ok (x0.toList == y0.toList && (x1.toList == y1.toList && (x2 == y2))) w := by
 refine eqA_of Try.underlying50 (by kernel_rfl) ?_
 refine eqf_cons (by rfl) (by go_simp; rfl) (by go_simp; rfl) (by go_simp) ?_
 refine eqf_cons (by rfl) (by go_simp; rfl) (by go_simp; rfl) (by go_simp) ?_
 exact eqf_last (by rfl) (by go_simp; rfl) (by go_simp; rfl) (by go_simp)
end Go.Proofs.Ytaiglhfmmdajdaa.Pm
end
section
namespace Go.Proofs.Ytaiglhfmmdajdaa.Pm
open Go.RowKit Go.Proofs.YtaiglhfmmdajdaaW.PrintWords Go.Proofs.YtaiglhfmmdajdaaW.PrintLast Go.Proofs.YtaiglhfmmdajdaaW.PrintMore
attribute [local go_sem] max2_int min2_int max_two min_two max_three min_three max_four min_four   -- for this text's walks alone
set_option linter.unusedVariables false
set_option linter.unusedSimpArgs false
attribute [local go_sem high] eqA50 eqA103
mutual
def q8.l0 : Nat → List (S54) → List (S54) → Int → Option (Bool)
 | 0, _, _, _ => none
 | k + 1, x0, x1, x5 => if x5 < (x0.length : Int) then (if 0 ≤ x5 then (if x5 < (x1.length : Int) then (if (((q91 x0 x5).f0).length : Int) = (((q91 x1 x5).f0).length : Int) then (q8.j1 k x0 x1 x5 ((((q91 x0 x5).f1).length : Int) != (((q91 x1 x5).f1).length : Int))) else (q8.j1 k x0 x1 x5 true)) else (none)) else (none)) else (some true)
def q8.j1 : Nat → List (S54) → List (S54) → Int → Bool → Option (Bool)
 | 0, _, _, _, _ => none
 | k + 1, x0, x1, x5, x46 => if x46 = true then (some false) else (q8.l1 k x0 x1 x5 0)
def q8.l1 : Nat → List (S54) → List (S54) → Int → Int → Option (Bool)
 | 0, _, _, _, _ => none
 | k + 1, x0, x1, x5, x6 => if 0 ≤ x5 then (if x5 < (x0.length : Int) then (if x6 < (((q91 x0 x5).f0).length : Int) then (if 0 ≤ x6 then (if x5 < (x1.length : Int) then (if x6 < (((q91 x1 x5).f0).length : Int) then (if (!((((q87 ((q91 x0 x5).f0) x6).f0).toList) == (((q87 ((q91 x1 x5).f0) x6).f0).toList)) || (!(((q87 ((q91 x0 x5).f0) x6).f1) == ((q87 ((q91 x1 x5).f0) x6).f1)))) = true then (some false) else (q8.l1 k x0 x1 x5 (wrap64 (x6 + 1)))) else (none)) else (none)) else (none)) else (q8.l2 k x0 x1 x5 0)) else (none)) else (none)
def q8.l2 : Nat → List (S54) → List (S54) → Int → Int → Option (Bool)
 | 0, _, _, _, _ => none
 | k + 1, x0, x1, x5, x7 => if 0 ≤ x5 then (if x5 < (x0.length : Int) then (if x7 < (((q91 x0 x5).f1).length : Int) then (if 0 ≤ x7 then (if x5 < (x1.length : Int) then (if x7 < (((q91 x1 x5).f1).length : Int) then (if (!((((q90 ((q91 x0 x5).f1) x7).f0).toList) == (((q90 ((q91 x1 x5).f1) x7).f0).toList)) || (!((((q90 ((q91 x0 x5).f1) x7).f1).toList) == (((q90 ((q91 x1 x5).f1) x7).f1).toList)) || (!(((q90 ((q91 x0 x5).f1) x7).f2) == ((q90 ((q91 x1 x5).f1) x7).f2))))) = true then (some false) else (q8.l2 k x0 x1 x5 (wrap64 (x7 + 1)))) else (none)) else (none)) else (none)) else (q8.l0 k x0 x1 (wrap64 (x5 + 1)))) else (none)) else (none)
end
def q8.f (k : Nat) (l0 : List (S54)) (l1 : List (S54)) : Option (Bool) := if (l0.length : Int) = (l1.length : Int) then (q8.l0 k l0 l1 0) else (some false)
theorem q8.mono_l : ∀ k, (∀ y0 y1 y2, LeO (q8.l0 k y0 y1 y2) (q8.l0 (k + 1) y0 y1 y2)) ∧ (∀ y0 y1 y2 y3, LeO (q8.j1 k y0 y1 y2 y3) (q8.j1 (k + 1) y0 y1 y2 y3)) ∧ (∀ y0 y1 y2 y3, LeO (q8.l1 k y0 y1 y2 y3) (q8.l1 (k + 1) y0 y1 y2 y3)) ∧ (∀ y0 y1 y2 y3, LeO (q8.l2 k y0 y1 y2 y3) (q8.l2 (k + 1) y0 y1 y2 y3))
 | 0 => ⟨fun _ _ _ r h => by simp [q8.l0] at h, fun _ _ _ _ r h => by simp [q8.j1] at h, fun _ _ _ _ r h => by simp [q8.l1] at h, fun _ _ _ _ r h => by simp [q8.l2] at h⟩
 | k + 1 => by
  obtain ⟨ih0, ih1, ih2, ih3⟩ := q8.mono_l k
  refine ⟨?_, ?_, ?_, ?_⟩
  intro y0 y1 y2
  unfold q8.l0
  rotate_left
  intro y0 y1 y2 y3
  unfold q8.j1
  rotate_left
  intro y0 y1 y2 y3
  unfold q8.l1
  rotate_left
  intro y0 y1 y2 y3
  unfold q8.l2
  rotate_left
  all_goals repeat' first
   | (with_reducible exact ih0 _ _ _)
   | (with_reducible exact ih1 _ _ _ _)
   | (with_reducible exact ih2 _ _ _ _)
   | (with_reducible exact ih3 _ _ _ _)
   | (with_reducible exact LeO.refl _)
   | (with_reducible exact LeO.none _)
   | (with_reducible refine LeO.ite ?_ ?_)
   | (with_reducible refine LeO.bind ?_ (fun _ => ?_))
   | exact ih0 _ _ _
   | exact ih1 _ _ _ _
   | exact ih2 _ _ _ _
   | exact ih3 _ _ _ _
   | exact LeO.none _
   | refine LeO.ite ?_ ?_
   | refine LeO.bind ?_ (fun _ => ?_)
theorem q8.mono : ∀ a0 a1 k, LeO (q8.f k a0 a1) (q8.f (k + 1) a0 a1) := by
 intro a0 a1 k
 obtain ⟨ih0, ih1, ih2, ih3⟩ := q8.mono_l k
 unfold q8.f
 repeat' first
  | (with_reducible exact ih0 _ _ _)
  | (with_reducible exact ih1 _ _ _ _)
  | (with_reducible exact ih2 _ _ _ _)
  | (with_reducible exact ih3 _ _ _ _)
  | (with_reducible exact LeO.refl _)
  | (with_reducible exact LeO.none _)
  | (with_reducible refine LeO.ite ?_ ?_)
  | (with_reducible refine LeO.bind ?_ (fun _ => ?_))
  | exact ih0 _ _ _
  | exact ih1 _ _ _ _
  | exact ih2 _ _ _ _
  | exact ih3 _ _ _ _
  | exact LeO.none _
  | refine LeO.ite ?_ ?_
  | refine LeO.bind ?_ (fun _ => ?_)
set_option maxHeartbeats 8000000 in
set_option maxRecDepth 100000 in
theorem q8.calls (k : Nat) (A0 : Option Addr) (c0 : Nat) (l0 : List (S54)) (A1 : Option Addr) (c1 : Nat) (l1 : List (S54)) (r : Bool) (w : World) (hr0 : Kd.C k54 w A0 l0.length l0) (hc0 : l0.length ≤ c0) (hr1 : Kd.C k54 w A1 l1.length l1) (hc1 : l1.length ≤ c1) (h : q8.f k l0 l1 = some r) :
 Calls Try.prog 78 #[.slice A0 l0.length c0, .slice A1 l1.length c1] w fun e w' => e = .returned (.bool r) ∧ Drawn0 w w' := by
 have hu103 := Try.underlying103
 have hu50 := Try.underlying50
 have HR0 := q66.mk hr0
 have HC0 := q66.mk hc0
 clear hr0 hc0
 have HR1 := q66.mk hr1
 have HC1 := q66.mk hc1
 clear hr1 hc1
 unfold q8.f at h
 have H := h
 clear h
 by_cases c3 : (l0.length : Int) = (l1.length : Int)
 ·rw [if_pos c3] at H
  have c3b0 : ((l0.length : Int) == (l1.length : Int)) = true := beq_iff_eq.mpr c3
  have c3b1 : ((l0.length : Int) != (l1.length : Int)) = false := bne_eq_false_iff_eq.mpr c3
  have c3b2 : (l0.length == l1.length) = true := by first | simpa using c3 | (simp at c3 ⊢; omega)
  clear c3
  have H' := q66.mk H
  clear H
  go_enter Try.func78, Try.ntmps78
  go_wp2
  repeat (go_quiet (fail); try go_wp2)
  go_loopg [5] k (fun kq v5 w' => ∃ (x5_1 : Int), v5 = .int .i64 x5_1 ∧ q66 (q8.l0 kq l0 l1 x5_1 = some r) ∧ q66 (kq ≤ k) ∧ Drawn0 w w')
  case atStart => exact ⟨(0), rf_, H', ⟨Nat.le_refl _⟩, by repeat (first | exact Drawn0.refl _ | apply Drawn0.step)⟩
  case round =>
   clear H'
   clear c3b0 c3b1 c3b2
   obtain ⟨x5_1, rfl, HA, HK1, ⟨m1, rfl⟩⟩ := hrel
   cases gk with
   | zero => exact absurd HA.out (by simp [q8.l0])
   | succ k1 =>
    have H := HA.out
    clear HA
    simp only [q8.l0] at H
    by_cases c4 : x5_1 < (l0.length : Int)
    ·rw [if_pos c4] at H
     have c4b0 := decide_eq_true c4
     clear c4
     have HC5 := q66.mk H
     clear H
     go_upto_region 6 with (fail)
     repeat (go_quiet (fail); go_upto_region 6 with (fail))
     go_cut [46] (fun v46 wc => ∃ (kq : Nat) (x46_4 : Bool), v46 = .bool x46_4 ∧ q66 (q8.j1 kq l0 l1 x5_1 x46_4 = some r) ∧ q66 (kq ≤ k1) ∧ Drawn0 w wc)
     case first =>
      have H := HC5.out
      clear HC5
      by_cases c6 : 0 ≤ x5_1
      ·rw [if_pos c6] at H
       have c6b0 := decide_eq_true c6
       clear c6
       (first | rw [c6b0] | (simp only [i64_w, i32_w]; rw [c6b0]) | skip)
       by_cases c7 : x5_1 < (l1.length : Int)
       ·rw [if_pos c7] at H
        replace c7 := decide_eq_true c7
        by_cases c8 : (((q91 l0 x5_1).f0).length : Int) = (((q91 l1 x5_1).f0).length : Int)
        ·rw [if_pos c8] at H
         have c8b0 : ((((q91 l0 x5_1).f0).length : Int) == (((q91 l1 x5_1).f0).length : Int)) = true := beq_iff_eq.mpr c8
         have c8b1 : ((((q91 l0 x5_1).f0).length : Int) != (((q91 l1 x5_1).f0).length : Int)) = false := bne_eq_false_iff_eq.mpr c8
         have c8b2 : (((q91 l0 x5_1).f0).length == ((q91 l1 x5_1).f0).length) = true := by first | simpa using c8 | (simp at c8 ⊢; omega)
         clear c8
         have H' := q66.mk H
         clear H
         obtain ⟨ad345, A345_0, c345_0, A345_1, c345_1, e345, hx345_0, hx345_1, HC345_0, HR345_0, HC345_1, HR345_1, p345, q345⟩ := au_T54 HR0 ⟨Below.refl _ _⟩ (x5_1)
         cases e345
         obtain ⟨ad346, A346_0, c346_0, A346_1, c346_1, e346, hx346_0, hx346_1, HC346_0, HR346_0, HC346_1, HR346_1, p346, q346⟩ := au_T54 HR1 ⟨Below.refl _ _⟩ (x5_1)
         cases e346
         obtain ⟨ad347, A347_0, c347_0, A347_1, c347_1, e347, hx347_0, hx347_1, HC347_0, HR347_0, HC347_1, HR347_1, p347, q347⟩ := au_T54 HR0 ⟨Below.refl _ _⟩ (x5_1)
         obtain rfl : ad345 = ad347 := (by injection e347)
         have ea_ := Option.some.inj (hx345_0.symm.trans hx347_0)
         injection ea_ with ea_ en_ ec_
         subst ea_
         subst ec_
         clear en_
         have ea_ := Option.some.inj (hx345_1.symm.trans hx347_1)
         injection ea_ with ea_ en_ ec_
         subst ea_
         subst ec_
         clear en_
         obtain ⟨ad348, A348_0, c348_0, A348_1, c348_1, e348, hx348_0, hx348_1, HC348_0, HR348_0, HC348_1, HR348_1, p348, q348⟩ := au_T54 HR1 ⟨Below.refl _ _⟩ (x5_1)
         obtain rfl : ad346 = ad348 := (by injection e348)
         have ea_ := Option.some.inj (hx346_0.symm.trans hx348_0)
         injection ea_ with ea_ en_ ec_
         subst ea_
         subst ec_
         clear en_
         have ea_ := Option.some.inj (hx346_1.symm.trans hx348_1)
         injection ea_ with ea_ en_ ec_
         subst ea_
         subst ec_
         clear en_
         go_wp2
         repeat (go_quiet (fail); try go_wp2)
         go_meet
         case rel => exact ⟨_, (((((q91 l0 x5_1).f1).length : Int) != (((q91 l1 x5_1).f1).length : Int))), rf_, H', ⟨by have := HK1.out; first | omega | exact Nat.le_refl _⟩, by repeat (first | exact Drawn0.refl _ | apply Drawn0.step)⟩
        ·rw [if_neg c8] at H
         have c8b0 : ((((q91 l0 x5_1).f0).length : Int) == (((q91 l1 x5_1).f0).length : Int)) = false := beq_eq_false_iff_ne.mpr c8
         have c8b1 : ((((q91 l0 x5_1).f0).length : Int) != (((q91 l1 x5_1).f0).length : Int)) = true := bne_iff_ne.mpr c8
         have c8b2 : (((q91 l0 x5_1).f0).length == ((q91 l1 x5_1).f0).length) = false := by first | simpa using c8 | (simp at c8 ⊢; omega)
         have H' := q66.mk H
         clear H
         obtain ⟨ad345, A345_0, c345_0, A345_1, c345_1, e345, hx345_0, hx345_1, HC345_0, HR345_0, HC345_1, HR345_1, p345, q345⟩ := au_T54 HR0 ⟨Below.refl _ _⟩ (x5_1)
         cases e345
         obtain ⟨ad346, A346_0, c346_0, A346_1, c346_1, e346, hx346_0, hx346_1, HC346_0, HR346_0, HC346_1, HR346_1, p346, q346⟩ := au_T54 HR1 ⟨Below.refl _ _⟩ (x5_1)
         cases e346
         go_wp2
         repeat (go_quiet (fail); try go_wp2)
         go_meet
         case rel => exact ⟨_, (true), rf_, H', ⟨by have := HK1.out; first | omega | exact Nat.le_refl _⟩, by repeat (first | exact Drawn0.refl _ | apply Drawn0.step)⟩
       ·rw [if_neg c7] at H
        exact absurd H (by simp)
      ·rw [if_neg c6] at H
       exact absurd H (by simp)
     case rest =>
      clear HC5
      clear c4b0
      obtain ⟨kq, x46_4, rfl, HA, HJ4, ⟨mc4, rfl⟩⟩ := hcut
      cases kq with
      | zero => exact absurd HA.out (by simp [q8.j1])
      | succ kj4 =>
       have H := HA.out
       clear HA
       simp only [q8.j1] at H
       by_cases c9 : x46_4 = true
       ·subst c9
        have H1 : (some false) = some r := by rw [if_pos rfl] at H; exact H
        clear H
        have H := H1
        clear H1
        obtain rfl := Option.some.inj H
        go_wp2
        repeat (go_quiet (fail); try go_wp2)
        go_ret
        exact ⟨by first | rfl | (simp; done) | (simp [*]; done), by repeat (first | exact Drawn0.refl _ | apply Drawn0.step)⟩
       ·replace c9 := Bool.eq_false_iff.mpr c9
        subst c9
        have H1 : (q8.l1 kj4 l0 l1 x5_1 0) = some r := by rw [if_neg (show ¬ (false = true) by decide)] at H; exact H
        clear H
        have H := H1
        clear H1
        have H' := q66.mk H
        clear H
        go_wp2
        repeat (go_quiet (fail); try go_wp2)
        go_loopg [6] kj4 (fun kq v6 w' => ∃ (x6_3 : Int), v6 = .int .i64 x6_3 ∧ q66 (q8.l1 kq l0 l1 x5_1 x6_3 = some r) ∧ q66 (kq ≤ kj4) ∧ Drawn0 w w')
        case atStart => exact ⟨(0), rf_, H', ⟨Nat.le_refl _⟩, by repeat (first | exact Drawn0.refl _ | apply Drawn0.step)⟩
        case round =>
         clear H'
         obtain ⟨x6_3, rfl, HA, HK3, ⟨m3, rfl⟩⟩ := hrel
         cases gk with
         | zero => exact absurd HA.out (by simp [q8.l1])
         | succ k3 =>
          have H := HA.out
          clear HA
          simp only [q8.l1] at H
          by_cases c10 : 0 ≤ x5_1
          ·rw [if_pos c10] at H
           have c10b0 := decide_eq_true c10
           clear c10
           by_cases c11 : x5_1 < (l0.length : Int)
           ·rw [if_pos c11] at H
            have c11b0 := decide_eq_true c11
            clear c11
            by_cases c12 : x6_3 < (((q91 l0 x5_1).f0).length : Int)
            ·rw [if_pos c12] at H
             have c12b0 := decide_eq_true c12
             clear c12
             by_cases c13 : 0 ≤ x6_3
             ·rw [if_pos c13] at H
              replace c13 := decide_eq_true c13
              by_cases c14 : x5_1 < (l1.length : Int)
              ·rw [if_pos c14] at H
               replace c14 := decide_eq_true c14
               by_cases c15 : x6_3 < (((q91 l1 x5_1).f0).length : Int)
               ·rw [if_pos c15] at H
                replace c15 := decide_eq_true c15
                by_cases c16 : (!((((q87 ((q91 l0 x5_1).f0) x6_3).f0).toList) == (((q87 ((q91 l1 x5_1).f0) x6_3).f0).toList)) || (!(((q87 ((q91 l0 x5_1).f0) x6_3).f1) == ((q87 ((q91 l1 x5_1).f0) x6_3).f1)))) = true
                ·rw [if_pos c16] at H
                 have c16b0 : (!((((q87 ((q91 l0 x5_1).f0) x6_3).f0).toList) == (((q87 ((q91 l1 x5_1).f0) x6_3).f0).toList)) || (!(((q87 ((q91 l0 x5_1).f0) x6_3).f1) == ((q87 ((q91 l1 x5_1).f0) x6_3).f1)))) = true := c16
                 clear c16
                 obtain rfl := Option.some.inj H
                 obtain ⟨ad349, A349_0, c349_0, A349_1, c349_1, e349, hx349_0, hx349_1, HC349_0, HR349_0, HC349_1, HR349_1, p349, q349⟩ := au_T54 HR0 ⟨Below.refl _ _⟩ (x5_1)
                 cases e349
                 obtain ⟨ad350, A350_0, c350_0, A350_1, c350_1, e350, hx350_0, hx350_1, HC350_0, HR350_0, HC350_1, HR350_1, p350, q350⟩ := au_T54 HR0 ⟨Below.refl _ _⟩ (x5_1)
                 obtain rfl : ad349 = ad350 := (by injection e350)
                 have ea_ := Option.some.inj (hx349_0.symm.trans hx350_0)
                 injection ea_ with ea_ en_ ec_
                 subst ea_
                 subst ec_
                 clear en_
                 have ea_ := Option.some.inj (hx349_1.symm.trans hx350_1)
                 injection ea_ with ea_ en_ ec_
                 subst ea_
                 subst ec_
                 clear en_
                 obtain ⟨ad351, e351, hx351_0, hx351_1, p351, q351⟩ := au_T103 HR350_0 ⟨Below.refl _ _⟩ (x6_3)
                 cases e351
                 obtain ⟨ad352, A352_0, c352_0, A352_1, c352_1, e352, hx352_0, hx352_1, HC352_0, HR352_0, HC352_1, HR352_1, p352, q352⟩ := au_T54 HR1 ⟨Below.refl _ _⟩ (x5_1)
                 cases e352
                 obtain ⟨ad353, e353, hx353_0, hx353_1, p353, q353⟩ := au_T103 HR352_0 ⟨Below.refl _ _⟩ (x6_3)
                 cases e353
                 go_wp2
                 repeat (go_quiet (fail); try go_wp2)
                 go_ret
                 exact ⟨by first | rfl | (simp; done) | (simp [*]; done), by repeat (first | exact Drawn0.refl _ | apply Drawn0.step)⟩
                ·rw [if_neg c16] at H
                 have c16b0 : (!((((q87 ((q91 l0 x5_1).f0) x6_3).f0).toList) == (((q87 ((q91 l1 x5_1).f0) x6_3).f0).toList)) || (!(((q87 ((q91 l0 x5_1).f0) x6_3).f1) == ((q87 ((q91 l1 x5_1).f0) x6_3).f1)))) = false := by simpa using c16
                 clear c16
                 have H' := q66.mk H
                 clear H
                 obtain ⟨ad349, A349_0, c349_0, A349_1, c349_1, e349, hx349_0, hx349_1, HC349_0, HR349_0, HC349_1, HR349_1, p349, q349⟩ := au_T54 HR0 ⟨Below.refl _ _⟩ (x5_1)
                 cases e349
                 obtain ⟨ad350, A350_0, c350_0, A350_1, c350_1, e350, hx350_0, hx350_1, HC350_0, HR350_0, HC350_1, HR350_1, p350, q350⟩ := au_T54 HR0 ⟨Below.refl _ _⟩ (x5_1)
                 obtain rfl : ad349 = ad350 := (by injection e350)
                 have ea_ := Option.some.inj (hx349_0.symm.trans hx350_0)
                 injection ea_ with ea_ en_ ec_
                 subst ea_
                 subst ec_
                 clear en_
                 have ea_ := Option.some.inj (hx349_1.symm.trans hx350_1)
                 injection ea_ with ea_ en_ ec_
                 subst ea_
                 subst ec_
                 clear en_
                 obtain ⟨ad351, e351, hx351_0, hx351_1, p351, q351⟩ := au_T103 HR350_0 ⟨Below.refl _ _⟩ (x6_3)
                 cases e351
                 obtain ⟨ad352, A352_0, c352_0, A352_1, c352_1, e352, hx352_0, hx352_1, HC352_0, HR352_0, HC352_1, HR352_1, p352, q352⟩ := au_T54 HR1 ⟨Below.refl _ _⟩ (x5_1)
                 cases e352
                 obtain ⟨ad353, e353, hx353_0, hx353_1, p353, q353⟩ := au_T103 HR352_0 ⟨Below.refl _ _⟩ (x6_3)
                 cases e353
                 go_wp2
                 repeat (go_quiet (fail); try go_wp2)
                 go_roundg k3
                 case measure => have := HK1.out; have := HJ4.out; have := HK3.out; omega
                 case rel => exact ⟨(wrap64 (x6_3 + 1)), rf_, H', ⟨by have := HK1.out; have := HJ4.out; have := HK3.out; omega⟩, by repeat (first | exact Drawn0.refl _ | apply Drawn0.step)⟩
               ·rw [if_neg c15] at H
                exact absurd H (by simp)
              ·rw [if_neg c14] at H
               exact absurd H (by simp)
             ·rw [if_neg c13] at H
              exact absurd H (by simp)
            ·rw [if_neg c12] at H
             have c12b0 := decide_eq_false c12
             clear c12
             have H' := q66.mk H
             clear H
             obtain ⟨ad349, A349_0, c349_0, A349_1, c349_1, e349, hx349_0, hx349_1, HC349_0, HR349_0, HC349_1, HR349_1, p349, q349⟩ := au_T54 HR0 ⟨Below.refl _ _⟩ (x5_1)
             cases e349
             go_wp2
             repeat (go_quiet (fail); try go_wp2)
             go_loopg [7] k3 (fun kq v7 w' => ∃ (x7_4 : Int), v7 = .int .i64 x7_4 ∧ q66 (q8.l2 kq l0 l1 x5_1 x7_4 = some r) ∧ q66 (kq ≤ k3) ∧ Drawn0 w w')
             case atStart => exact ⟨(0), rf_, H', ⟨Nat.le_refl _⟩, by repeat (first | exact Drawn0.refl _ | apply Drawn0.step)⟩
             case round =>
              clear H'
              clear c10b0 c11b0 c12b0 hx349_0 hx349_1 p349 q349
              obtain ⟨x7_4, rfl, HA, HK4, ⟨m4, rfl⟩⟩ := hrel
              cases gk with
              | zero => exact absurd HA.out (by simp [q8.l2])
              | succ k4 =>
               have H := HA.out
               clear HA
               simp only [q8.l2] at H
               by_cases c17 : 0 ≤ x5_1
               ·rw [if_pos c17] at H
                replace c17 := decide_eq_true c17
                by_cases c18 : x5_1 < (l0.length : Int)
                ·rw [if_pos c18] at H
                 replace c18 := decide_eq_true c18
                 by_cases c19 : x7_4 < (((q91 l0 x5_1).f1).length : Int)
                 ·rw [if_pos c19] at H
                  replace c19 := decide_eq_true c19
                  by_cases c20 : 0 ≤ x7_4
                  ·rw [if_pos c20] at H
                   replace c20 := decide_eq_true c20
                   by_cases c21 : x5_1 < (l1.length : Int)
                   ·rw [if_pos c21] at H
                    replace c21 := decide_eq_true c21
                    by_cases c22 : x7_4 < (((q91 l1 x5_1).f1).length : Int)
                    ·rw [if_pos c22] at H
                     replace c22 := decide_eq_true c22
                     by_cases c23 : (!((((q90 ((q91 l0 x5_1).f1) x7_4).f0).toList) == (((q90 ((q91 l1 x5_1).f1) x7_4).f0).toList)) || (!((((q90 ((q91 l0 x5_1).f1) x7_4).f1).toList) == (((q90 ((q91 l1 x5_1).f1) x7_4).f1).toList)) || (!(((q90 ((q91 l0 x5_1).f1) x7_4).f2) == ((q90 ((q91 l1 x5_1).f1) x7_4).f2))))) = true
                     ·rw [if_pos c23] at H
                      have c23b0 : (!((((q90 ((q91 l0 x5_1).f1) x7_4).f0).toList) == (((q90 ((q91 l1 x5_1).f1) x7_4).f0).toList)) || (!((((q90 ((q91 l0 x5_1).f1) x7_4).f1).toList) == (((q90 ((q91 l1 x5_1).f1) x7_4).f1).toList)) || (!(((q90 ((q91 l0 x5_1).f1) x7_4).f2) == ((q90 ((q91 l1 x5_1).f1) x7_4).f2))))) = true := c23
                      clear c23
                      obtain rfl := Option.some.inj H
                      obtain ⟨ad354, A354_0, c354_0, A354_1, c354_1, e354, hx354_0, hx354_1, HC354_0, HR354_0, HC354_1, HR354_1, p354, q354⟩ := au_T54 HR0 ⟨Below.refl _ _⟩ (x5_1)
                      obtain rfl : ad349 = ad354 := (by injection e354)
                      obtain ⟨ad355, A355_0, c355_0, A355_1, c355_1, e355, hx355_0, hx355_1, HC355_0, HR355_0, HC355_1, HR355_1, p355, q355⟩ := au_T54 HR0 ⟨Below.refl _ _⟩ (x5_1)
                      obtain rfl : ad349 = ad355 := (by injection e355)
                      have ea_ := Option.some.inj (hx354_0.symm.trans hx355_0)
                      injection ea_ with ea_ en_ ec_
                      subst ea_
                      subst ec_
                      clear en_
                      have ea_ := Option.some.inj (hx354_1.symm.trans hx355_1)
                      injection ea_ with ea_ en_ ec_
                      subst ea_
                      subst ec_
                      clear en_
                      obtain ⟨ad356, e356, hx356_0, hx356_1, hx356_2, p356, q356⟩ := au_T50 HR355_1 ⟨Below.refl _ _⟩ (x7_4)
                      cases e356
                      obtain ⟨ad357, A357_0, c357_0, A357_1, c357_1, e357, hx357_0, hx357_1, HC357_0, HR357_0, HC357_1, HR357_1, p357, q357⟩ := au_T54 HR1 ⟨Below.refl _ _⟩ (x5_1)
                      cases e357
                      obtain ⟨ad358, e358, hx358_0, hx358_1, hx358_2, p358, q358⟩ := au_T50 HR357_1 ⟨Below.refl _ _⟩ (x7_4)
                      cases e358
                      go_wp2
                      repeat (go_quiet (fail); try go_wp2)
                      go_ret
                      exact ⟨by first | rfl | (simp; done) | (simp [*]; done), by repeat (first | exact Drawn0.refl _ | apply Drawn0.step)⟩
                     ·rw [if_neg c23] at H
                      have c23b0 : (!((((q90 ((q91 l0 x5_1).f1) x7_4).f0).toList) == (((q90 ((q91 l1 x5_1).f1) x7_4).f0).toList)) || (!((((q90 ((q91 l0 x5_1).f1) x7_4).f1).toList) == (((q90 ((q91 l1 x5_1).f1) x7_4).f1).toList)) || (!(((q90 ((q91 l0 x5_1).f1) x7_4).f2) == ((q90 ((q91 l1 x5_1).f1) x7_4).f2))))) = false := by simpa using c23
                      clear c23
                      have H' := q66.mk H
                      clear H
                      obtain ⟨ad354, A354_0, c354_0, A354_1, c354_1, e354, hx354_0, hx354_1, HC354_0, HR354_0, HC354_1, HR354_1, p354, q354⟩ := au_T54 HR0 ⟨Below.refl _ _⟩ (x5_1)
                      obtain rfl : ad349 = ad354 := (by injection e354)
                      obtain ⟨ad355, A355_0, c355_0, A355_1, c355_1, e355, hx355_0, hx355_1, HC355_0, HR355_0, HC355_1, HR355_1, p355, q355⟩ := au_T54 HR0 ⟨Below.refl _ _⟩ (x5_1)
                      obtain rfl : ad349 = ad355 := (by injection e355)
                      have ea_ := Option.some.inj (hx354_0.symm.trans hx355_0)
                      injection ea_ with ea_ en_ ec_
                      subst ea_
                      subst ec_
                      clear en_
                      have ea_ := Option.some.inj (hx354_1.symm.trans hx355_1)
                      injection ea_ with ea_ en_ ec_
                      subst ea_
                      subst ec_
                      clear en_
                      obtain ⟨ad356, e356, hx356_0, hx356_1, hx356_2, p356, q356⟩ := au_T50 HR355_1 ⟨Below.refl _ _⟩ (x7_4)
                      cases e356
                      obtain ⟨ad357, A357_0, c357_0, A357_1, c357_1, e357, hx357_0, hx357_1, HC357_0, HR357_0, HC357_1, HR357_1, p357, q357⟩ := au_T54 HR1 ⟨Below.refl _ _⟩ (x5_1)
                      cases e357
                      obtain ⟨ad358, e358, hx358_0, hx358_1, hx358_2, p358, q358⟩ := au_T50 HR357_1 ⟨Below.refl _ _⟩ (x7_4)
                      cases e358
                      go_wp2
                      repeat (go_quiet (fail); try go_wp2)
                      go_roundg k4
                      case measure => have := HK1.out; have := HJ4.out; have := HK3.out; have := HK4.out; omega
                      case rel => exact ⟨(wrap64 (x7_4 + 1)), rf_, H', ⟨by have := HK1.out; have := HJ4.out; have := HK3.out; have := HK4.out; omega⟩, by repeat (first | exact Drawn0.refl _ | apply Drawn0.step)⟩
                    ·rw [if_neg c22] at H
                     exact absurd H (by simp)
                   ·rw [if_neg c21] at H
                    exact absurd H (by simp)
                  ·rw [if_neg c20] at H
                   exact absurd H (by simp)
                 ·rw [if_neg c19] at H
                  replace c19 := decide_eq_false c19
                  have H' := q66.mk H
                  clear H
                  obtain ⟨ad354, A354_0, c354_0, A354_1, c354_1, e354, hx354_0, hx354_1, HC354_0, HR354_0, HC354_1, HR354_1, p354, q354⟩ := au_T54 HR0 ⟨Below.refl _ _⟩ (x5_1)
                  obtain rfl : ad349 = ad354 := (by injection e354)
                  go_wp2
                  repeat (go_quiet (fail); try go_wp2)
                  go_roundg k4
                  case measure => have := HK1.out; have := HJ4.out; have := HK3.out; have := HK4.out; omega
                  case rel => exact ⟨(wrap64 (x5_1 + 1)), rf_, H', ⟨by have := HK1.out; have := HJ4.out; have := HK3.out; have := HK4.out; omega⟩, by repeat (first | exact Drawn0.refl _ | apply Drawn0.step)⟩
                ·rw [if_neg c18] at H
                 exact absurd H (by simp)
               ·rw [if_neg c17] at H
                exact absurd H (by simp)
           ·rw [if_neg c11] at H
            exact absurd H (by simp)
          ·rw [if_neg c10] at H
           exact absurd H (by simp)
    ·rw [if_neg c4] at H
     have c4b0 := decide_eq_false c4
     clear c4
     obtain rfl := Option.some.inj H
     go_wp2
     repeat (go_quiet (fail); try go_wp2)
     go_ret
     exact ⟨by first | rfl | (simp; done) | (simp [*]; done), by repeat (first | exact Drawn0.refl _ | apply Drawn0.step)⟩
 ·rw [if_neg c3] at H
  have c3b0 : ((l0.length : Int) == (l1.length : Int)) = false := beq_eq_false_iff_ne.mpr c3
  have c3b1 : ((l0.length : Int) != (l1.length : Int)) = true := bne_iff_ne.mpr c3
  have c3b2 : (l0.length == l1.length) = false := by first | simpa using c3 | (simp at c3 ⊢; omega)
  obtain rfl := Option.some.inj H
  go_enter Try.func78, Try.ntmps78
  go_wp2
  repeat (go_quiet (fail); try go_wp2)
  go_ret
  exact ⟨by first | rfl | (simp; done) | (simp [*]; done), by repeat (first | exact Drawn0.refl _ | apply Drawn0.step)⟩
end Go.Proofs.Ytaiglhfmmdajdaa.Pm
end
