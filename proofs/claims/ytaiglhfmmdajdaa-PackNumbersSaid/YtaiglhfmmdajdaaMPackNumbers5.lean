/- Walks and plain laws on the way to the law PackNumbers: several texts of this workplace and of the kit's printer, merged; what is not used is struck, by a program. No condition. -/
import Derived.Test.YtaiglhfmmdajdaaMPackNumbers1
import Derived.Test.YtaiglhfmmdajdaaMPackNumbers2
import Derived.Test.YtaiglhfmmdajdaaMPackNumbers4
import Derived.Test.YtaiglhfmmdajdaaMPackNumbers0
import Derived.Lib.Hide
import Derived.Lib.UnsafeStr
import Derived.Lib.AppendStr
import Derived.Lib.SliceRun
import Derived.Laws.Strings
import Derived.Lib.EndianBits
import Derived.Lib.RabinKarpLaws
section
namespace Go.Proofs.Ytaiglhfmmdajdaa.Pm
open Go.RowKit Go.Proofs.YtaiglhfmmdajdaaW.PrintWords Go.Proofs.YtaiglhfmmdajdaaW.PrintLast Go.Proofs.YtaiglhfmmdajdaaW.PrintMore
attribute [local go_sem] max2_int min2_int max_two min_two max_three min_three max_four min_four   -- for this text's walks alone
set_option linter.unusedVariables false
set_option linter.unusedSimpArgs false
theorem rd_in (l : List (S48)) (i : Nat) (h : i < l.length) : rd_T48 l (i : Int) = l[i] := by simp [rd_T48, List.getD_eq_getElem?_getD, List.getElem?_eq_getElem h]
theorem rd_getD (l : List (S48)) (i : Nat) : rd_T48 l (i : Int) = l.getD i z48 := rfl
theorem placeI_congr (l : List (S48)) (a b : ByteArray) (h : a.toList = b.toList) : placeI l a = placeI l b := by
  unfold placeI
  have : model_Place.p a = model_Place.p b := by funext x; unfold model_Place.p; rw [h]
  rw [this]
theorem placeI_at (l : List (S48)) (id : ByteArray) (p : Nat) (h : placeI l id = p) : p < l.length ∧ (nmA l p).toList = id.toList := by
  unfold placeI fidx at h
  cases e : l.findIdx? (model_Place.p id) with
  | none => rw [e] at h; simp only at h; omega
  | some q =>
    rw [e] at h
    simp only at h
    obtain rfl : q = p := by omega
    obtain ⟨hq, hp, _⟩ := List.findIdx?_eq_some_iff_getElem.1 e
    refine ⟨hq, ?_⟩
    unfold nmA
    rw [rd_in l q hq]
    unfold model_Place.p at hp
    simpa using hp
/-- An item's name stands first where it stands, just if no item ahead has it. -/
theorem placeI_self (l : List (S48)) (i : Nat) (hi : i < l.length) : decide (placeI l (nmA l i) = i) = !memB ((l.map (·.f0)).take i) (rdOf ByteArray.empty (l.map (·.f0)) (i : Int)) := by
  have hr : rdOf ByteArray.empty (l.map (·.f0)) (i : Int) = nmA l i := by
    rw [rdOf_get _ _ _ (by simpa using hi)]
    unfold nmA
    rw [rd_in l i hi]; simp
  rw [hr]
  cases hm : memB ((l.map (·.f0)).take i) (nmA l i) with
  | false =>
    have : placeI l (nmA l i) = i := by
      unfold placeI
      refine fidx_hit _ l i z48 hi ?_ (fun j hj => ?_)
      · rw [← rd_getD]; unfold model_Place.p; simp
      · unfold memB at hm
        rw [List.any_eq_false] at hm
        have hjl : j < l.length := by omega
        have hmem : l[j].f0 ∈ (l.map (·.f0)).take i := by
          rw [List.mem_take_iff_getElem]
          exact ⟨j, by rw [List.length_map]; omega, by simp⟩
        have := hm _ hmem
        rw [← rd_getD, rd_in l j hjl]
        unfold model_Place.p
        have hne : (nmA l i).toList ≠ l[j].f0.toList := by simpa using this
        simpa using Ne.symm hne
    rw [this]; simp
  | true =>
    unfold memB at hm
    obtain ⟨x, hx, he⟩ := List.any_eq_true.1 hm
    obtain ⟨j, hj, hjx⟩ := List.mem_take_iff_getElem.1 hx
    rw [List.length_map] at hj
    have hjl : j < l.length := by omega
    have : placeI l (nmA l i) ≠ i := by
      intro h
      unfold placeI fidx at h
      cases e : l.findIdx? (model_Place.p (nmA l i)) with
      | none => rw [e] at h; simp only at h; omega
      | some q =>
        rw [e] at h
        simp only at h
        obtain ⟨_, _, hno⟩ := List.findIdx?_eq_some_iff_getElem.1 e
        have := hno j (by omega)
        apply this
        unfold model_Place.p
        have hx2 : x = l[j].f0 := by rw [← hjx]; simp
        have he2 : (nmA l i).toList = x.toList := by simpa using he
        rw [hx2] at he2
        simp [he2]
    simp [this]
/-- The names of the way from the first item down to one. -/
inductive Pth (l : List (S48)) : Nat → List ByteArray → Prop
  | root : Pth l 0 [nmA l 0]
  | kid (p i : Nat) (st : List ByteArray) : Pth l p st → placeI l (paA l i) = p → p < i → Pth l i (st ++ [nmA l i])
theorem Pth.len {l : List (S48)} {i : Nat} {st : List ByteArray} (h : Pth l i st) : st.length ≤ i + 1 ∧ 0 < st.length := by
  induction h with
  | root => simp
  | kid p i st hp e hlt ih => simp only [List.length_append, List.length_singleton]; omega
theorem Pth.head {l : List (S48)} {i : Nat} {st : List ByteArray} (h : Pth l i st) : ∀ m, 0 < m → m ≤ st.length → ∃ q, q ≤ i ∧ Pth l q (st.take m) ∧ st[m-1]? = some (nmA l q) := by
  induction h with
  | root =>
    intro m h0 hm
    simp only [List.length_singleton] at hm
    obtain rfl : m = 1 := by omega
    exact ⟨0, Nat.le_refl _, Pth.root, rfl⟩
  | kid p i st hp e hlt ih =>
    intro m h0 hm
    simp only [List.length_append, List.length_singleton] at hm
    by_cases hq : m ≤ st.length
    · obtain ⟨q, hq1, hq2, hq3⟩ := ih m h0 hq
      refine ⟨q, by omega, ?_, ?_⟩
      · rw [List.take_append_of_le_length hq]; exact hq2
      · rw [List.getElem?_append_left (by omega)]; exact hq3
    · obtain rfl : m = st.length + 1 := by omega
      refine ⟨i, Nat.le_refl _, ?_, ?_⟩
      · rw [List.take_of_length_le (by simp)]
        exact Pth.kid p i st hp e hlt
      · simp
theorem Pth.wn {l : List (S48)} (h0 : placeI l (paA l 0) = -1) (id : ByteArray) {i : Nat} {st : List ByteArray} (h : Pth l i st) : ∀ d, st.length ≤ d → wnF l id d i = st.any (idxP id) := by
  induction h with
  | root =>
    intro d hd
    simp only [List.length_singleton] at hd
    obtain ⟨d, rfl⟩ : ∃ m, d = m + 1 := ⟨d - 1, by omega⟩
    unfold wnF
    rw [if_pos (by omega)]
    by_cases he : (nmA l 0).toList = id.toList
    · rw [if_pos (by exact he)]
      simp [idxP, he]
    · rw [if_neg (by exact he), show ((0 : Nat) : Int) = 0 from rfl, h0]
      have : wnF l id d (-1) = false := by cases d <;> simp [wnF]
      rw [this]
      simp [idxP, Ne.symm he]
  | kid p i st hp e hlt ih =>
    intro d hd
    simp only [List.length_append, List.length_singleton] at hd
    obtain ⟨d, rfl⟩ : ∃ m, d = m + 1 := ⟨d - 1, by omega⟩
    unfold wnF
    rw [if_pos (by omega), List.any_append]
    by_cases he : (nmA l i).toList = id.toList
    · rw [if_pos (by exact he)]
      simp [idxP, he]
    · rw [if_neg (by exact he), e, ih d (by omega)]
      simp [idxP, Ne.symm he]
theorem Pth.dp {l : List (S48)} {i : Nat} {st : List ByteArray} (h : Pth l i st) : ∀ d (c : Int), st.length ≤ d → dpF l d i c = c + st.length - 1 := by
  induction h with
  | root =>
    intro d c hd
    simp only [List.length_singleton] at hd
    obtain ⟨d, rfl⟩ : ∃ m, d = m + 1 := ⟨d - 1, by omega⟩
    simp [dpF]
  | kid p i st hp e hlt ih =>
    intro d c hd
    simp only [List.length_append, List.length_singleton] at hd ⊢
    obtain ⟨d, rfl⟩ : ∃ m, d = m + 1 := ⟨d - 1, by omega⟩
    unfold dpF
    rw [if_pos (by omega), e, ih d _ (by omega)]
    omega
/-- Where names stand once each, the stacks stand just if each item stands where it may. -/
theorem stk_places (l : List (S48)) (hD : ∀ i : Nat, i < l.length → placeI l (nmA l i) = i ∧ (nmA l i).toList ≠ []) (h0 : (paA l 0).toList = []) : ∀ i : Nat, i < l.length → (match stk l (i + 1) with | some st => Pth l i st ∧ ∀ q, q ≤ i → 0 < q → rplace l q = true | none => ∃ q, q ≤ i ∧ 0 < q ∧ rplace l q = false) := by
  have hroot : placeI l (paA l 0) = -1 := by
    unfold placeI
    refine fidx_miss _ l z48 (fun j hj => ?_)
    rw [← rd_getD]
    unfold model_Place.p
    have := (hD j hj).2
    rw [h0]
    simpa using this
  intro i
  induction i with
  | zero =>
    intro hi
    have : stk l (0 + 1) = some [nmA l 0] := by simp [stk, stkStep]
    rw [this]
    exact ⟨Pth.root, fun q h1 h2 => by omega⟩
  | succ i ih =>
    intro hi
    have hi' := ih (by omega)
    have hstk : stk l (i + 1 + 1) = (stk l (i + 1)).bind (stkStep l (i + 1)) := rfl
    rw [hstk]
    cases hs : stk l (i + 1) with
    | none =>
      rw [hs] at hi'
      obtain ⟨q, h1, h2, h3⟩ := hi'
      exact ⟨q, by omega, h2, h3⟩
    | some st =>
      rw [hs] at hi'
      obtain ⟨hp, hall⟩ := hi'
      rw [Option.bind_some]
      obtain ⟨a, ha⟩ : ∃ a, a = paA l ((i + 1 : Nat) : Int) := ⟨_, rfl⟩
      have hlen := hp.len
      have hwn : wnF l a (l.length + 1) ((i + 1 : Nat) - 1) = st.any (idxP a) := by
        have := hp.wn hroot a (l.length + 1) (by omega)
        rw [show (((i + 1 : Nat) : Int) - 1) = (i : Int) by omega]
        exact this
      have hrp : rplace l (i + 1) = (!decide (a.toList = []) && (decide (0 ≤ placeI l a ∧ placeI l a < ((i + 1 : Nat) : Int) ∧ kdA l (placeI l a) = 1) && (wnF l a (l.length + 1) (((i + 1 : Nat) : Int) - 1) && decide (1 ≤ dpF l (l.length + 1) ((i + 1 : Nat) : Int) 0 ∧ dpF l (l.length + 1) ((i + 1 : Nat) : Int) 0 ≤ 5)))) := by
        unfold rplace
        rw [if_neg (by omega), ha]
      rw [hwn] at hrp
      have hst : stkStep l (i + 1) st = if (st.take (fidx (idxP a) st + 1).toNat).length = 0 ∨ 5 < (st.take (fidx (idxP a) st + 1).toNat).length ∨ kdA l (placeI l a) ≠ 1 then none else some (st.take (fidx (idxP a) st + 1).toNat ++ [nmA l ((i + 1 : Nat) : Int)]) := by
        unfold stkStep
        rw [if_neg (by omega), ha]
      rw [hst]
      have hfl := fidx_lt (idxP a) st
      have hfa := fidx_any (idxP a) st
      by_cases hin : st.any (idxP a) = true
      case neg =>
        have hin2 : st.any (idxP a) = false := by simpa using hin
        have hneg : fidx (idxP a) st = -1 := fidx_neg _ _ (by rw [hin2] at hfa; have := of_decide_eq_false hfa; omega)
        rw [hneg, if_pos (Or.inl (by simp))]
        refine ⟨i + 1, Nat.le_refl _, by omega, ?_⟩
        rw [hrp, hin2]; simp
      rw [hin] at hrp hfa
      have hge : fidx (idxP a) st ≥ 0 := of_decide_eq_true hfa
      obtain ⟨m, hm⟩ : ∃ m : Nat, fidx (idxP a) st = m := ⟨(fidx (idxP a) st).toNat, by omega⟩
      rw [hm] at hfl ⊢
      rw [show ((m : Int) + 1).toNat = m + 1 by omega]
      obtain ⟨q, hq1, hq2, hq3⟩ := hp.head (m + 1) (by omega) (by omega)
      have hna : (nmA l q).toList = a.toList := by
        unfold fidx at hm
        cases e : st.findIdx? (idxP a) with
        | none => rw [e] at hm; simp only at hm; omega
        | some j =>
          rw [e] at hm
          simp only at hm
          obtain rfl : j = m := by omega
          obtain ⟨hj, hpj, _⟩ := List.findIdx?_eq_some_iff_getElem.1 e
          have : st[j] = nmA l q := by
            have h := hq3
            rw [show j + 1 - 1 = j by omega, List.getElem?_eq_getElem hj] at h
            exact Option.some.inj h
          unfold idxP at hpj
          rw [this] at hpj
          exact (by simpa using hpj : a.toList = (nmA l q).toList).symm
      have hpq : placeI l a = q := by rw [← placeI_congr l _ _ hna]; exact (hD q (by omega)).1
      have hne : ¬ a.toList = [] := by rw [← hna]; exact (hD q (by omega)).2
      have hpi : placeI l (paA l ((i + 1 : Nat) : Int)) = q := by rw [← ha]; exact hpq
      have hk := Pth.kid q (i + 1) _ hq2 hpi (by omega)
      have htl : (st.take (m + 1)).length = m + 1 := by rw [List.length_take]; omega
      have hd := hk.dp (l.length + 1) 0 (by rw [List.length_append, htl, List.length_singleton]; omega)
      rw [List.length_append, htl, List.length_singleton] at hd
      rw [hd, decide_eq_false hne, hpq] at hrp
      rw [htl, hpq]
      by_cases hc : (m + 1 = 0 ∨ 5 < m + 1 ∨ kdA l q ≠ 1)
      · rw [if_pos hc]
        refine ⟨i + 1, Nat.le_refl _, by omega, ?_⟩
        rw [hrp]
        rcases hc with hc | hc | hc
        · omega
        · rw [decide_eq_false (p := (1 ≤ (0 : Int) + ((m + 1 + 1 : Nat) : Int) - 1 ∧ _)) (by omega)]; simp
        · simp [hc]
      · rw [if_neg hc]
        have hk1 : kdA l q = 1 := by
          by_cases h : kdA l q = 1
          · exact h
          · exact absurd (Or.inr (Or.inr h)) hc
        refine ⟨hk, fun r hr h0 => ?_⟩
        by_cases e : r = i + 1
        · rw [e, hrp, decide_eq_true (p := 0 ≤ (q : Int) ∧ _) ⟨by omega, by omega, hk1⟩, decide_eq_true (p := (1 ≤ (0 : Int) + ((m + 1 + 1 : Nat) : Int) - 1 ∧ _)) (by omega)]
          rfl
        · exact hall r (by omega) h0
theorem stands_places (l : List (S48)) (hn : 0 < l.length) (hD : ∀ i : Nat, i < l.length → placeI l (nmA l i) = i ∧ (nmA l i).toList ≠ []) (h0 : (paA l 0).toList = []) : standsB l = true ↔ ∀ q, q < l.length → 0 < q → rplace l q = true := by
  have h := stk_places l hD h0 (l.length - 1) (by omega)
  rw [show l.length - 1 + 1 = l.length by omega] at h
  unfold standsB
  cases hs : stk l l.length with
  | none =>
    rw [hs] at h
    obtain ⟨q, h1, h2, h3⟩ := h
    constructor
    · intro h; simp at h
    · intro h
      rw [h q (by omega) h2] at h3
      simp at h3
  | some st =>
    rw [hs] at h
    constructor
    · intro _ q hq h0; exact h.2 q (by omega) h0
    · intro _; rfl
theorem nameB_ne (s : ByteArray) (h : nameB s = true) : s.toList ≠ [] := by
  unfold nameB at h
  simp only [Bool.and_eq_true, decide_eq_true_eq] at h
  intro he
  have := empty_size s
  rw [he] at this
  have h2 := of_decide_eq_true (this.symm.trans rfl)
  omega
theorem names_at (l : List (S48)) (i : Nat) (hi : i < l.length) : nameOk (l.map (·.f0)) i = (nameB (nmA l i) && decide (placeI l (nmA l i) = i)) := by
  unfold nameOk
  rw [placeI_self l i hi]
  have hr : rdOf ByteArray.empty (l.map (·.f0)) (i : Int) = nmA l i := by
    rw [rdOf_get _ _ _ (by simpa using hi)]
    unfold nmA
    rw [rd_in l i hi]; simp
  rw [hr]
theorem all_range {l : List (S48)} (p : S48 → Bool) : l.all p = true ↔ ∀ i : Nat, i < l.length → p (rd_T48 l i) = true := by
  rw [List.all_eq_true]
  constructor
  · intro h i hi; rw [rd_in l i hi]; exact h _ (List.getElem_mem hi)
  · intro h x hx
    obtain ⟨i, hi, rfl⟩ := List.getElem_of_mem hx
    rw [← rd_in l i hi]; exact h i hi
theorem itemB_eq (fs : List ByteArray) (l : List (S48)) (x : S48) : itemB fs l x.f1 x.f3 x.f4 x.f5 x.f6 = (rown x && (sentsB fs l x.f5 && sentsB fs l x.f6)) := by
  unfold itemB rown
  by_cases h1 : 1 ≤ x.f1 ∧ x.f1 ≤ 5
  · have h4 : decide (x.f1 = 4 ∨ x.f1 = 5) = decide (x.f1 ≥ 4) := by rw [decide_eq_decide]; omega
    rw [h4]
    generalize decide (x.f1 ≥ 4) = A
    generalize sentsB fs l x.f5 = B
    generalize sentsB fs l x.f6 = C
    generalize (if x.f1 = 5 then decide (1 ≤ x.f4 ∧ x.f4 ≤ 100) else decide (x.f4 = 0)) = D
    generalize decide (1 ≤ x.f1 ∧ x.f1 ≤ 5) = E
    generalize (x.f3 || decide (0 < x.f5.length)) = F
    cases A <;> cases B <;> cases C <;> cases D <;> cases E <;> cases F <;> rfl
  · rw [decide_eq_false h1]; simp
theorem ris_eq (fs : List ByteArray) (l : List (S48)) : risB fs l = isB fs l := by
  unfold risB isB
  by_cases hb : fs.length ≤ 6 ∧ 1 ≤ l.length ∧ l.length ≤ 16
  case neg => rw [decide_eq_false hb]; simp
  rw [decide_eq_true hb, Bool.true_and, Bool.true_and]
  congr 1
  rw [Bool.eq_iff_iff]
  have hR : rplace l 0 = planB (rd_T48 l 0).f1 (rd_T48 l 0).f2 (rd_T48 l 0).f3 (rd_T48 l 0).f5.length (rd_T48 l 0).f6.length := rfl
  have hn : namesB (l.map (·.f0)) = true ↔ ∀ i : Nat, i < l.length → nameB (nmA l i) = true ∧ placeI l (nmA l i) = i := by
    unfold namesB
    rw [List.all_eq_true]
    constructor
    · intro h i hi
      have := h i (List.mem_range.2 (by simpa using hi))
      rw [names_at l i hi] at this
      simpa using this
    · intro h i hi
      have hi' : i < l.length := by simpa using List.mem_range.1 hi
      rw [names_at l i hi']
      simpa using h i hi'
  rw [← hR]
  have hany : (!l.any fun x => !itemB fs l x.f1 x.f3 x.f4 x.f5 x.f6) = l.all (fun x => rown x && (sentsB fs l x.f5 && sentsB fs l x.f6)) := by
    rw [List.not_any_eq_all_not]
    congr 1
    funext x
    rw [Bool.not_not, itemB_eq]
  rw [hany]
  have h0 : rplace l 0 = true → (paA l 0).toList = [] := by
    intro h
    rw [hR] at h
    unfold planB at h
    simp only [Bool.and_eq_true, decide_eq_true_eq] at h
    exact h.2.1
  constructor
  · intro h
    rw [Bool.and_eq_true] at h
    obtain ⟨h1, h2⟩ := h
    have hi : ∀ i : Nat, i < l.length → nameB (nmA l i) = true ∧ placeI l (nmA l i) = i ∧ rown (rd_T48 l i) = true ∧ rplace l i = true := by
      intro i hi
      have := List.all_eq_true.1 h1 i (List.mem_range.2 hi)
      unfold ritem at this
      simpa using this
    have hp0 := (hi 0 (by omega)).2.2.2
    rw [Bool.and_eq_true, Bool.and_eq_true, Bool.and_eq_true]
    refine ⟨hn.2 (fun i h => ⟨(hi i h).1, (hi i h).2.1⟩), hp0, (stands_places l (by omega) (fun i h => ⟨(hi i h).2.1, nameB_ne _ (hi i h).1⟩) (h0 hp0)).2 (fun q hq _ => (hi q hq).2.2.2), ?_⟩
    rw [all_range] at h2 ⊢
    intro i h
    rw [(hi i h).2.2.1, Bool.true_and]
    exact h2 i h
  · intro h
    rw [Bool.and_eq_true, Bool.and_eq_true, Bool.and_eq_true] at h
    obtain ⟨h1, h2, h3, h4⟩ := h
    have hnm := hn.1 h1
    have hst := (stands_places l (by omega) (fun i h => ⟨(hnm i h).2, nameB_ne _ (hnm i h).1⟩) (h0 h2)).1 h3
    rw [all_range] at h4
    rw [Bool.and_eq_true]
    refine ⟨List.all_eq_true.2 (fun i hi => ?_), (all_range _).2 (fun i hi => ?_)⟩
    · have hi := List.mem_range.1 hi
      have := h4 i hi
      rw [Bool.and_eq_true] at this
      unfold ritem
      rw [(hnm i hi).1, (hnm i hi).2, this.1, Bool.true_and, decide_eq_true rfl, Bool.true_and, Bool.true_and]
      by_cases e : i = 0
      · rw [e]; exact h2
      · exact hst i hi (by omega)
    · have := h4 i hi
      rw [Bool.and_eq_true] at this
      exact this.2
end Go.Proofs.Ytaiglhfmmdajdaa.Pm
end
section
namespace Go.Proofs.Ytaiglhfmmdajdaa.Pm
open Go.RowKit Go.Proofs.YtaiglhfmmdajdaaW.PrintWords Go.Proofs.YtaiglhfmmdajdaaW.PrintLast Go.Proofs.YtaiglhfmmdajdaaW.PrintMore
attribute [local go_sem] max2_int min2_int max_two min_two max_three min_three max_four min_four   -- for this text's walks alone
set_option linter.unusedVariables false
set_option linter.unusedSimpArgs false
theorem legal_parts (fs : List ByteArray) (l : List (S48)) (h : isB fs l = true) : (fs.length ≤ 6 ∧ 1 ≤ l.length ∧ l.length ≤ 16) ∧ namesB fs = true ∧ (∀ i : Nat, i < l.length → ritem l i = true) ∧ (∀ i : Nat, i < l.length → sentsB fs l (rd_T48 l i).f5 = true ∧ sentsB fs l (rd_T48 l i).f6 = true) := by
  rw [← ris_eq] at h
  unfold risB at h
  rw [Bool.and_eq_true, Bool.and_eq_true, Bool.and_eq_true, decide_eq_true_eq, all_range] at h
  obtain ⟨h1, h2, h3, h4⟩ := h
  refine ⟨h1, h2, fun i hi => List.all_eq_true.1 h3 i (List.mem_range.2 hi), fun i hi => ?_⟩
  have := h4 i hi
  rw [Bool.and_eq_true] at this
  exact this
theorem legal_facts (fs : List ByteArray) (l : List (S48)) (h : isB fs l = true) : fs.length ≤ 6 ∧ 1 ≤ l.length ∧ l.length ≤ 16 ∧ (∀ i : Nat, i < l.length → placeI l (nmA l i) = i ∧ (nmA l i).toList ≠ []) ∧ (paA l 0).toList = [] ∧ ∀ q : Nat, 0 < q → q < l.length → ∃ p : Nat, p < q ∧ placeI l (paA l q) = p ∧ (paA l q).toList ≠ [] ∧ kdA l p = 1 := by
  obtain ⟨⟨h1, h2, h3⟩, -, hi, -⟩ := legal_parts fs l h
  have hr : ∀ i : Nat, i < l.length → nameB (nmA l i) = true ∧ placeI l (nmA l i) = i ∧ rplace l i = true := by
    intro i hl
    have := hi i hl
    unfold ritem at this
    rw [Bool.and_eq_true, Bool.and_eq_true, Bool.and_eq_true, decide_eq_true_eq] at this
    exact ⟨this.1, this.2.1, this.2.2.2⟩
  refine ⟨h1, h2, h3, fun i hl => ⟨(hr i hl).2.1, nameB_ne _ (hr i hl).1⟩, ?_, fun q h0 hq => ?_⟩
  · have := (hr 0 (by omega)).2.2
    rw [show rplace l 0 = planB (rd_T48 l 0).f1 (rd_T48 l 0).f2 (rd_T48 l 0).f3 (rd_T48 l 0).f5.length (rd_T48 l 0).f6.length from rfl] at this
    unfold planB at this
    simp only [Bool.and_eq_true, decide_eq_true_eq] at this
    exact this.2.1
  · have := (hr q hq).2.2
    unfold rplace at this
    rw [if_neg (by omega), Bool.and_eq_true, Bool.and_eq_true, decide_eq_true_eq, Bool.not_eq_true', decide_eq_false_iff_not] at this
    obtain ⟨e, ⟨a, b, c⟩, -⟩ := this
    obtain ⟨p, hp⟩ := Int.eq_ofNat_of_zero_le a
    rw [hp] at b c
    exact ⟨p, by omega, hp, e, c⟩
theorem fits_of (fs : List ByteArray) (l : List (S48)) (hf : fs.length ≤ 140737488351232) (hl : l.length ≤ 140737488351232) (hg : ∀ x ∈ l, goodItem x) : Fits fs l :=
  ⟨by omega, by omega, fun x hx => by
    obtain ⟨_, _, h5, h6, s5, s6⟩ := hg x hx
    exact ⟨⟨by omega, fun s hs => by obtain ⟨a, b⟩ := s5 s hs; constructor <;> omega⟩, ⟨by omega, fun s hs => by obtain ⟨a, b⟩ := s6 s hs; constructor <;> omega⟩⟩⟩
end Go.Proofs.Ytaiglhfmmdajdaa.Pm
end
section
namespace Go.Proofs.Ytaiglhfmmdajdaa.Pm
open Go.RowKit Go.Proofs.YtaiglhfmmdajdaaW.PrintWords Go.Proofs.YtaiglhfmmdajdaaW.PrintLast Go.Proofs.YtaiglhfmmdajdaaW.PrintMore
attribute [local go_sem] max2_int min2_int max_two min_two max_three min_three max_four min_four   -- for this text's walks alone
set_option linter.unusedVariables false
set_option linter.unusedSimpArgs false
end Go.Proofs.Ytaiglhfmmdajdaa.Pm
end
section
namespace Go.Proofs.Ytaiglhfmmdajdaa.Pm
open Go.RowKit Go.Proofs.YtaiglhfmmdajdaaW.PrintWords Go.Proofs.YtaiglhfmmdajdaaW.PrintLast Go.Proofs.YtaiglhfmmdajdaaW.PrintMore
attribute [local go_sem] max2_int min2_int max_two min_two max_three min_three max_four min_four   -- for this text's walks alone
set_option linter.unusedVariables false
set_option linter.unusedSimpArgs false
def pack_Sum.l0 : Nat → Int → Int → List Int → Int → Int → Option (Int)
 | 0, _, _, _, _, _ => none
 | k + 1, x3, x4, x7, x8, x9 => if x9 < x8 then (if 0 ≤ x9 then (if x9 < (x7.length : Int) then (pack_Sum.l0 k (((x3 + ((rd x7 x9) % 4294967296)) % 4294967296) % 65521) (((x4 + (((x3 + ((rd x7 x9) % 4294967296)) % 4294967296) % 65521)) % 4294967296) % 65521) x7 x8 (wrap64 (x9 + 1))) else (none)) else (none)) else (some (Go.bits .or .u32 ((x4 * 65536) % 4294967296) x3))
def pack_Sum.f (k : Nat) (l0 : List Int) : Option (Int) := pack_Sum.l0 k 1 0 l0 (l0.length : Int) 0
theorem pack_Sum.mono_l : ∀ k, (∀ y0 y1 y2 y3 y4, LeO (pack_Sum.l0 k y0 y1 y2 y3 y4) (pack_Sum.l0 (k + 1) y0 y1 y2 y3 y4))
 | 0 => fun _ _ _ _ _ r h => by simp [pack_Sum.l0] at h
 | k + 1 => by
  have ih0 := pack_Sum.mono_l k
  ·intro y0 y1 y2 y3 y4
   unfold pack_Sum.l0
   repeat' first
   | (with_reducible exact ih0 _ _ _ _ _)
   | (with_reducible exact LeO.refl _)
   | (with_reducible exact LeO.none _)
   | (with_reducible refine LeO.ite ?_ ?_)
   | (with_reducible refine LeO.bind ?_ (fun _ => ?_))
   | exact ih0 _ _ _ _ _
   | exact LeO.none _
   | refine LeO.ite ?_ ?_
   | refine LeO.bind ?_ (fun _ => ?_)
theorem pack_Sum.mono : ∀ a0 k, LeO (pack_Sum.f k a0) (pack_Sum.f (k + 1) a0) := by
 intro a0 k
 have ih0 := pack_Sum.mono_l k
 unfold pack_Sum.f
 repeat' first
   | (with_reducible exact ih0 _ _ _ _ _)
   | (with_reducible exact LeO.refl _)
   | (with_reducible exact LeO.none _)
   | (with_reducible refine LeO.ite ?_ ?_)
   | (with_reducible refine LeO.bind ?_ (fun _ => ?_))
   | exact ih0 _ _ _ _ _
   | exact LeO.none _
   | refine LeO.ite ?_ ?_
   | refine LeO.bind ?_ (fun _ => ?_)
set_option maxHeartbeats 8000000 in
set_option maxRecDepth 100000 in
theorem pack_Sum.calls (k : Nat) (A0 : Option Addr) (c0 : Nat) (l0 : List Int) (r : Int) (w : World) (hr0 : Kd.C (Kd.int .u8) w A0 l0.length l0) (hc0 : l0.length ≤ c0) (h : pack_Sum.f k l0 = some r) :
  Calls Try.prog 16 #[.slice A0 l0.length c0] w fun e w' => e = .returned (.int .u32 r) ∧ Drawn0 w w' := by
 have HR0 := Aside0.mk hr0
 have HC0 := Aside0.mk hc0
 clear hr0 hc0
 have H : (pack_Sum.l0 k 1 0 l0 (l0.length : Int) 0) = some r := h
 clear h
 have H' := Aside0.mk H
 clear H
 go_enter Try.func16, Try.ntmps16
 go_wp2
 go_loopg [3, 4, 9] k (fun kq v3 v4 v9 w' => ∃ (x3_1 : Int) (x4_1 : Int) (x9_1 : Int), v3 = .int .u32 x3_1 ∧ v4 = .int .u32 x4_1 ∧ v9 = .int .i64 x9_1 ∧ Aside0 (pack_Sum.l0 kq x3_1 x4_1 l0 (l0.length : Int) x9_1 = some r) ∧ Aside0 (kq ≤ k) ∧ Drawn0 w w')
 case atStart => exact ⟨(1), (0), (0), (by first | rfl | (simp; done) | (simp [*]; done)), (by first | rfl | (simp; done) | (simp [*]; done)), (by first | rfl | (simp; done) | (simp [*]; done)), H', ⟨Nat.le_refl _⟩, by repeat (first | exact Drawn0.refl _ | apply Drawn0.step)⟩
 case round =>
  clear H'
  try clear c1
  obtain ⟨x3_1, x4_1, x9_1, rfl, rfl, rfl, HA, HK1, ⟨m1, rfl⟩⟩ := hrel
  cases gk with
  | zero => exact absurd HA.out (by simp [pack_Sum.l0])
  | succ k1 =>
   have H := HA.out
   clear HA
   simp only [pack_Sum.l0] at H
   by_cases c2 : x9_1 < (l0.length : Int)
   ·rw [if_pos c2] at H
    have c2b0 : decide (x9_1 < (l0.length : Int)) = true := decide_eq_true c2
    clear c2
    by_cases c3 : 0 ≤ x9_1
    ·rw [if_pos c3] at H
     have c3b0 : decide (0 ≤ x9_1) = true := decide_eq_true c3
     clear c3
     by_cases c4 : x9_1 < (l0.length : Int)
     ·rw [if_pos c4] at H
      have c4b0 : decide (x9_1 < (l0.length : Int)) = true := decide_eq_true c4
      clear c4
      have H' := Aside0.mk H
      clear H
      have p305 : 0 ≤ (x9_1 : Int) := od_
      have q305 : x9_1 < (l0.length : Int) := od_
      obtain ⟨ad305, e305, hx305_0⟩ := Kd.at_int HR0.out x9_1 p305 q305
      cases e305
      replace p305 := eq_true p305
      replace q305 := eq_true q305
      go_wp2
      go_roundg k1
      case measure => have := HK1.out; omega
      case rel => exact ⟨(((x3_1 + ((rd l0 x9_1) % 4294967296)) % 4294967296) % 65521), (((x4_1 + (((x3_1 + ((rd l0 x9_1) % 4294967296)) % 4294967296) % 65521)) % 4294967296) % 65521), (wrap64 (x9_1 + 1)), (by first | rfl | (simp; done) | (simp [*]; done)), (by first | rfl | (simp; done) | (simp [*]; done)), (by first | rfl | (simp; done) | (simp [*]; done)), H', ⟨by have := HK1.out; omega⟩, by repeat (first | exact Drawn0.refl _ | apply Drawn0.step)⟩
     ·rw [if_neg c4] at H
      exact absurd H (by simp)
    ·rw [if_neg c3] at H
     exact absurd H (by simp)
   ·rw [if_neg c2] at H
    have c2b0 : decide (x9_1 < (l0.length : Int)) = false := decide_eq_false c2
    clear c2
    obtain rfl := Option.some.inj H
    go_wp2
    go_ret
    exact ⟨by first | rfl | (simp; done) | (simp [*]; done), by repeat (first | exact Drawn0.refl _ | apply Drawn0.step)⟩
end Go.Proofs.Ytaiglhfmmdajdaa.Pm
end
section
namespace Go.Proofs.Ytaiglhfmmdajdaa.Pm
open Go.RowKit Go.Proofs.YtaiglhfmmdajdaaW.PrintWords Go.Proofs.YtaiglhfmmdajdaaW.PrintLast Go.Proofs.YtaiglhfmmdajdaaW.PrintMore
attribute [local go_sem] max2_int min2_int max_two min_two max_three min_three max_four min_four   -- for this text's walks alone
set_option linter.unusedVariables false
set_option linter.unusedSimpArgs false
def model_Is.f (l0_0 : List ByteArray) (l0_1 : List (S48)) : Option Bool := some (isB l0_0 l0_1)
theorem model_Is.eg : ∀ args w, (callFunc 44 args).run Try.prog w = .ok (.enter 44 args) w := enters_of Try.func44 (by kernel_rfl) rfl
set_option maxHeartbeats 4000000 in
theorem model_Is.closure (b : Nat) (A0_0 : Option Addr) (c0_0 : Nat) (l0_0 : List ByteArray) (A0_1 : Option Addr) (c0_1 : Nat) (l0_1 : List (S48)) (W : World) (hm0 : W.cell? ⟨b, 0, none⟩ = some (.slice A0_0 l0_0.length c0_0)) (hm1 : W.cell? ⟨b, 1, none⟩ = some (.slice A0_1 l0_1.length c0_1))
    (hr0_0 : Kd.C Kd.string W A0_0 l0_0.length l0_0) (hc0_0 : l0_0.length ≤ c0_0) (hr0_1 : Kd.C k48 W A0_1 l0_1.length l0_1) (hc0_1 : l0_1.length ≤ c0_1) (x : S48) (cs : List Value) (hK : Kd.K k48 W x cs) :
    Calls Try.prog 44 (#[.agg cs.toArray] ++ #[.pointer (some ⟨b, 0, none⟩)]) W fun e w' => e = .returned (.bool (!itemB l0_0 l0_1 x.f1 x.f3 x.f4 x.f5 x.f6)) ∧ Below W.heap.size W w' := by
  obtain ⟨A5, c5, A6, c6, rfl, g5, h5, g6, h6⟩ := k48_open hK
  have hb := World.block_lt_of_cell? W _ hm0
  simp only at hb
  have hW1 := below_alloc (Below.refl W.heap.size W) (.cells #[.string x.f0, .int .i64 x.f1, .string x.f2, .bool x.f3, .int .i64 x.f4, .slice A5 x.f5.length c5, .slice A6 x.f6.length c6] 48)
  have hif := model_isItem.calls 1 A0_0 c0_0 l0_0 A0_1 c0_1 l0_1 x.f0 x.f1 x.f2 x.f3 x.f4 A5 c5 x.f5 A6 c6 x.f6 _ _ (Kd.C_below hr0_0 hW1) hc0_0 (Kd.C_below hr0_1 hW1) hc0_1 (Kd.C_below h5 hW1) g5 (Kd.C_below h6 hW1) g6 (isItem_eq l0_0 l0_1 x.f0 x.f1 x.f2 x.f3 x.f4 x.f5 x.f6)
  have HW := Lib.hid hW1
  clear hr0_0 hr0_1 hW1 hK h5 h6
  obtain ⟨T, hT⟩ : ∃ T, T = itemB l0_0 l0_1 x.f1 x.f3 x.f4 x.f5 x.f6 := ⟨_, rfl⟩
  rw [← hT] at hif ⊢
  clear hT
  have hu36 := Try.underlying25
  have hu32 := Try.underlying48
  go_enter Try.func44, Try.ntmps44
  go_wp2_with (go_at_call 45; refine hif.mono ?_; rintro e w' ⟨rfl, hb'⟩)
  go_ret
  exact ⟨rfl, keepb hb' HW.out⟩
set_option maxHeartbeats 8000000 in
set_option maxRecDepth 100000 in
theorem model_Is.calls (A0_0 : Option Addr) (c0_0 : Nat) (l0_0 : List ByteArray) (A0_1 : Option Addr) (c0_1 : Nat) (l0_1 : List (S48)) (r : Bool) (w : World) (hr0_0 : Kd.C Kd.string w A0_0 l0_0.length l0_0) (hc0_0 : l0_0.length ≤ c0_0) (hr0_1 : Kd.C k48 w A0_1 l0_1.length l0_1) (hc0_1 : l0_1.length ≤ c0_1) (h : model_Is.f l0_0 l0_1 = some r) :
    Calls Try.prog 24 #[.agg #[.slice A0_0 l0_0.length c0_0, .slice A0_1 l0_1.length c0_1]] w fun e w' => e = .returned (.bool r) ∧ Below w.heap.size w w' := by
  obtain rfl := Option.some.inj h
  clear h
  have hu36 := Try.underlying25
  have hu32 := Try.underlying48
  have HR := Lib.hid (And.intro hr0_0 hr0_1)
  clear hr0_0 hr0_1
  have W1 := below_alloc (Below.refl w.heap.size w) (.cells #[.slice A0_0 l0_0.length c0_0, .slice A0_1 l0_1.length c0_1] 25)
  have HW1 := Lib.hid W1
  clear W1
  by_cases hA : 6 < l0_0.length
  · have e : isB l0_0 l0_1 = false := by simp [isB]; omega
    rw [e]
    have hA' : (6 : Int) < l0_0.length := by omega
    clear e
    go_enter Try.func24, Try.ntmps24
    go_wp2
    go_ret
    exact ⟨rfl, HW1.out⟩
  have hA' : ¬ (6 : Int) < l0_0.length := by omega
  by_cases hB : l0_1.length < 1
  · have e : isB l0_0 l0_1 = false := by simp [isB]; omega
    rw [e]
    have hB' : (l0_1.length : Int) < 1 := by omega
    clear e
    go_enter Try.func24, Try.ntmps24
    go_wp2
    go_ret
    exact ⟨rfl, HW1.out⟩
  have hB' : ¬ (l0_1.length : Int) < 1 := by omega
  by_cases hC : 16 < l0_1.length
  · have e : isB l0_0 l0_1 = false := by simp [isB]; omega
    rw [e]
    have hC' : (16 : Int) < l0_1.length := by omega
    clear e
    go_enter Try.func24, Try.ntmps24
    go_wp2
    go_ret
    exact ⟨rfl, HW1.out⟩
  have hC' : ¬ (16 : Int) < l0_1.length := by omega
  have hd : decide (l0_0.length ≤ 6 ∧ 1 ≤ l0_1.length ∧ l0_1.length ≤ 16) = true := decide_eq_true (by omega)
  obtain ⟨P0, hP0⟩ : ∃ P, P = planB (rd_T48 l0_1 0).f1 (rd_T48 l0_1 0).f2 (rd_T48 l0_1 0).f3 (rd_T48 l0_1 0).f5.length (rd_T48 l0_1 0).f6.length := ⟨_, rfl⟩
  obtain ⟨T0, hT0⟩ : ∃ T, T = l0_1.any (fun x => !itemB l0_0 l0_1 x.f1 x.f3 x.f4 x.f5 x.f6) := ⟨_, rfl⟩
  have hI : isB l0_0 l0_1 = (namesB l0_0 && (namesB (l0_1.map (·.f0)) && (P0 && (standsB l0_1 && !T0)))) := by
    unfold isB
    rw [hd, ← hP0, ← hT0]; rfl
  have HI := Lib.hid hI
  have HP := Lib.hid (And.intro hP0 hT0)
  clear hI hd hP0 hT0
  -- the world behind the box
  obtain ⟨W1, hW1⟩ : ∃ W, W = w.alloc (.cells #[.slice A0_0 l0_0.length c0_0, .slice A0_1 l0_1.length c0_1] 25) := ⟨_, rfl⟩
  have hm0 : W1.cell? ⟨w.heap.size, 0, none⟩ = some (.slice A0_0 l0_0.length c0_0) := by rw [hW1]; simp
  have hm1 : W1.cell? ⟨w.heap.size, 1, none⟩ = some (.slice A0_1 l0_1.length c0_1) := by rw [hW1]; simp
  have hb1 : Below w.heap.size w W1 := by rw [hW1]; exact HW1.out
  have H1 := Lib.hid (And.intro hm0 (And.intro hm1 hb1))
  have HE1 := Lib.hid hW1
  have hn1 := fun (W : World) (hb : Below w.heap.size w W) => model_areNames.calls A0_0 c0_0 l0_0 _ W (Kd.C_below HR.out.1 hb) hc0_0 rfl
  have hn1' := hn1 W1 hb1
  clear hn1 hW1 hm0 hm1 hb1
  go_enter Try.func24, Try.ntmps24
  go_wp2_with fail
  rw [← HE1.out]
  go_at_call 39
  cases hq1 : namesB l0_0 with
  | false =>
    rw [hq1] at hn1' HI
    have HI2 : Hid (isB l0_0 l0_1 = false) := Lib.hid (by rw [HI.out]; rfl)
    clear hq1 HI
    refine hn1'.mono ?_
    rintro e w2 ⟨rfl, hb2⟩
    have HB := Lib.hid (keepb hb2 H1.out.2.2)
    clear hn1' hb2
    go_wp2
    go_ret
    exact ⟨by rw [HI2.out]; rfl, HB.out⟩
  | true =>
  rw [hq1] at hn1' HI
  clear hq1
  refine hn1'.mono ?_
  rintro e w2 ⟨rfl, hb2⟩
  have hm0 := keepc hb2 H1.out.1
  have hm1 := keepc hb2 H1.out.2.1
  have HB2 := Lib.hid (And.intro (keepb hb2 H1.out.2.2) (And.intro hm0 hm1))
  clear hn1' hb2
  have hids := model_ids.calls (l0_1.length + 1) A0_0 c0_0 l0_0 A0_1 c0_1 l0_1 _ w2 (Kd.C_below HR.out.1 HB2.out.1) hc0_0 (Kd.C_below HR.out.2 HB2.out.1) hc0_1 (ids_eq l0_0 l0_1 (by omega) (l0_1.length + 1) (by omega))
  go_wp2_with fail
  go_at_call 40
  refine hids.mono ?_
  rintro e w3 ⟨v3, rfl, hR3, hb3⟩
  obtain ⟨A3, c3, rfl, hl3, hC3⟩ := Kd.R_reads hR3
  have hn2 := model_areNames.calls A3 c3 (l0_1.map (·.f0)) _ w3 hC3 hl3 rfl
  rw [List.length_map] at hn2
  have hm03 := keepc hb3 hm0
  have hm13 := keepc hb3 hm1
  have HB3 := Lib.hid (And.intro (keepb hb3 HB2.out.1) (And.intro hm03 hm13))
  clear hids hR3 hb3 hC3 hm0 hm1
  go_wp2_with fail
  go_at_call 39
  cases hq2 : namesB (l0_1.map (·.f0)) with
  | false =>
    rw [hq2] at hn2 HI
    have HI2 : Hid (isB l0_0 l0_1 = false) := Lib.hid (by rw [HI.out]; rfl)
    clear hq2 HI
    refine hn2.mono ?_
    rintro e w4 ⟨rfl, hb4⟩
    have HB := Lib.hid (keepb hb4 HB3.out.1)
    clear hn2 hb4
    go_wp2
    go_ret
    exact ⟨by rw [HI2.out]; rfl, HB.out⟩
  | true =>
  rw [hq2] at hn2 HI
  clear hq2
  refine hn2.mono ?_
  rintro e w4 ⟨rfl, hb4⟩
  have hm04 := keepc hb4 hm03
  have hm14 := keepc hb4 hm13
  have HB4 := Lib.hid (And.intro (keepb hb4 HB3.out.1) (And.intro hm04 hm14))
  obtain ⟨ad, B5, d5, B6, d6, e, hx0, hx1, hx2, hx3, hx4, hx5, hx6, g5, h5, g6, h6⟩ := at_T48 HR.out.2 (0 : Int) (by omega) (by omega)
  cases e
  obtain ⟨x, hx⟩ : ∃ x, x = rd_T48 l0_1 (0 : Int) := ⟨_, rfl⟩
  rw [← hx] at hx0 hx1 hx2 hx3 hx4 hx5 hx6 g5 h5 g6 h6 HP
  have hip := model_isPlan.calls x.f0 x.f1 x.f2 x.f3 x.f4 B5 d5 x.f5 B6 d6 x.f6 _ w4 (Kd.C_below h5 HB4.out.1) g5 (Kd.C_below h6 HB4.out.1) g6 (isPlan_eq x.f0 x.f1 x.f2 x.f3 x.f4 x.f5 x.f6 h5.2.1 h6.2.1)
  rw [← HP.out.1] at hip
  replace hx0 := keepc HB4.out.1 hx0
  replace hx1 := keepc HB4.out.1 hx1
  replace hx2 := keepc HB4.out.1 hx2
  replace hx3 := keepc HB4.out.1 hx3
  replace hx4 := keepc HB4.out.1 hx4
  replace hx5 := keepc HB4.out.1 hx5
  replace hx6 := keepc HB4.out.1 hx6
  rw [show (0 : Int).toNat * 7 = 0 by rfl, show ad.add 0 = ad by simp [Addr.add]] at hx0 hx1 hx2 hx3 hx4 hx5 hx6
  have hl0 : (0 : Int) < l0_1.length := by omega
  clear hx hn2 hb4 hm03 hm13 h5 h6 g5 g6
  go_wp2_with fail
  go_at_call 41
  have HBox := Lib.hid (And.intro hm04 hm14)
  clear hx0 hx1 hx2 hx3 hx4 hx5 hx6
  cases P0 with
  | false =>
    have HI2 : Hid (isB l0_0 l0_1 = false) := Lib.hid (by rw [HI.out]; rfl)
    clear HI
    refine hip.mono ?_
    rintro e w5 ⟨rfl, hb5⟩
    have HB := Lib.hid (keepb hb5 HB4.out.1)
    clear hip hb5
    go_wp2
    go_ret
    exact ⟨by rw [HI2.out]; rfl, HB.out⟩
  | true =>
  refine hip.mono ?_
  rintro e w5 ⟨rfl, hb5⟩
  have hm05 := keepc hb5 HBox.out.1
  have hm15 := keepc hb5 HBox.out.2
  have hb5w := keepb hb5 HB4.out.1
  have hst := model_stands.calls A0_0 c0_0 l0_0 (some ad) c0_1 l0_1 _ w5 (Kd.C_below HR.out.1 hb5w) hc0_0 (Kd.C_below HR.out.2 hb5w) hc0_1 rfl
  have HB5 := Lib.hid hb5w
  clear hip hb5 hm04 hm14 hb5w
  go_wp2_with fail
  go_at_call 42
  have HBox5 := Lib.hid (And.intro hm05 hm15)
  cases hq3 : standsB l0_1 with
  | false =>
    rw [hq3] at hst HI
    have HI2 : Hid (isB l0_0 l0_1 = false) := Lib.hid (by rw [HI.out]; rfl)
    clear HI hq3
    refine hst.mono ?_
    rintro e w6 ⟨rfl, hb6⟩
    have HB := Lib.hid (keepb hb6 HB5.out)
    clear hst hb6
    go_wp2
    go_ret
    exact ⟨by rw [HI2.out]; rfl, HB.out⟩
  | true =>
  rw [hq3] at hst HI
  clear hq3
  refine hst.mono ?_
  rintro e w6 ⟨rfl, hb6⟩
  have hm06 := keepc hb6 hm05
  have hm16 := keepc hb6 hm15
  have hb6w := keepb hb6 HB5.out
  have hany := anyItem (some ad) c0_1 l0_1 w6 (Kd.C_below HR.out.2 hb6w) hc0_1 44 #[.pointer (some ⟨w.heap.size, 0, none⟩)] model_Is.eg (fun x => !itemB l0_0 l0_1 x.f1 x.f3 x.f4 x.f5 x.f6) (fun W x cs hx hb hK => model_Is.closure w.heap.size A0_0 c0_0 l0_0 (some ad) c0_1 l0_1 W (keepc hb hm06) (keepc hb hm16) (Kd.C_below (Kd.C_below HR.out.1 hb6w) hb) hc0_0 (Kd.C_below (Kd.C_below HR.out.2 hb6w) hb) hc0_1 x cs hK)
  rw [← HP.out.2] at hany
  have HB6 := Lib.hid hb6w
  clear hst hb6 hm05 hm15 hb6w
  go_wp2_with fail
  go_at_call 43
  refine hany.mono ?_
  rintro e w7 ⟨rfl, hb7⟩
  have HB := Lib.hid (keepb hb7 HB6.out)
  clear hany hb7
  go_wp2
  go_ret
  exact ⟨by rw [HI.out]; rfl, HB.out⟩
end Go.Proofs.Ytaiglhfmmdajdaa.Pm
end
section
namespace Go.Proofs.Ytaiglhfmmdajdaa.Pm
open Go.RowKit Go.Proofs.YtaiglhfmmdajdaaW.PrintWords Go.Proofs.YtaiglhfmmdajdaaW.PrintLast Go.Proofs.YtaiglhfmmdajdaaW.PrintMore
attribute [local go_sem] max2_int min2_int max_two min_two max_three min_three max_four min_four   -- for this text's walks alone
set_option linter.unusedVariables false
set_option linter.unusedSimpArgs false
def sentryref6_Sum.l0 : Nat → List Int → Int → Int → Int → Option (Int)
 | 0, _, _, _, _ => none
 | k + 1, x0, x3, x4, x5 => if x5 < (x0.length : Int) then (if 0 ≤ x5 then (sentryref6_Sum.l0 k x0 (((x3 + ((rd x0 x5) % 4294967296)) % 4294967296) % 65521) (((x4 + (((x3 + ((rd x0 x5) % 4294967296)) % 4294967296) % 65521)) % 4294967296) % 65521) (wrap64 (x5 + 1))) else (none)) else (some (Go.bits .or .u32 ((x4 * 65536) % 4294967296) x3))
def sentryref6_Sum.f (k : Nat) (l0 : List Int) : Option (Int) := sentryref6_Sum.l0 k l0 1 0 0
theorem sentryref6_Sum.mono_l : ∀ k, (∀ y0 y1 y2 y3, LeO (sentryref6_Sum.l0 k y0 y1 y2 y3) (sentryref6_Sum.l0 (k + 1) y0 y1 y2 y3))
 | 0 => fun _ _ _ _ r h => by simp [sentryref6_Sum.l0] at h
 | k + 1 => by
  have ih0 := sentryref6_Sum.mono_l k
  ·intro y0 y1 y2 y3
   unfold sentryref6_Sum.l0
   repeat' first
   | (with_reducible exact ih0 _ _ _ _)
   | (with_reducible exact LeO.refl _)
   | (with_reducible exact LeO.none _)
   | (with_reducible refine LeO.ite ?_ ?_)
   | (with_reducible refine LeO.bind ?_ (fun _ => ?_))
   | exact ih0 _ _ _ _
   | exact LeO.none _
   | refine LeO.ite ?_ ?_
   | refine LeO.bind ?_ (fun _ => ?_)
theorem sentryref6_Sum.mono : ∀ a0 k, LeO (sentryref6_Sum.f k a0) (sentryref6_Sum.f (k + 1) a0) := by
 intro a0 k
 have ih0 := sentryref6_Sum.mono_l k
 unfold sentryref6_Sum.f
 repeat' first
   | (with_reducible exact ih0 _ _ _ _)
   | (with_reducible exact LeO.refl _)
   | (with_reducible exact LeO.none _)
   | (with_reducible refine LeO.ite ?_ ?_)
   | (with_reducible refine LeO.bind ?_ (fun _ => ?_))
   | exact ih0 _ _ _ _
   | exact LeO.none _
   | refine LeO.ite ?_ ?_
   | refine LeO.bind ?_ (fun _ => ?_)
set_option maxHeartbeats 8000000 in
set_option maxRecDepth 100000 in
theorem sentryref6_Sum.calls (k : Nat) (A0 : Option Addr) (c0 : Nat) (l0 : List Int) (r : Int) (w : World) (hr0 : Kd.C (Kd.int .u8) w A0 l0.length l0) (hc0 : l0.length ≤ c0) (h : sentryref6_Sum.f k l0 = some r) :
  Calls Try.prog 17 #[.slice A0 l0.length c0] w fun e w' => e = .returned (.int .u32 r) ∧ Drawn0 w w' := by
 have HR0 := Aside0.mk hr0
 have HC0 := Aside0.mk hc0
 clear hr0 hc0
 have H : (sentryref6_Sum.l0 k l0 1 0 0) = some r := h
 clear h
 have H' := Aside0.mk H
 clear H
 go_enter Try.func17, Try.ntmps17
 go_wp2
 go_loopg [3, 4, 5] k (fun kq v3 v4 v5 w' => ∃ (x3_1 : Int) (x4_1 : Int) (x5_1 : Int), v3 = .int .u32 x3_1 ∧ v4 = .int .u32 x4_1 ∧ v5 = .int .i64 x5_1 ∧ Aside0 (sentryref6_Sum.l0 kq l0 x3_1 x4_1 x5_1 = some r) ∧ Aside0 (kq ≤ k) ∧ Drawn0 w w')
 case atStart => exact ⟨(1), (0), (0), (by first | rfl | (simp; done) | (simp [*]; done)), (by first | rfl | (simp; done) | (simp [*]; done)), (by first | rfl | (simp; done) | (simp [*]; done)), H', ⟨Nat.le_refl _⟩, by repeat (first | exact Drawn0.refl _ | apply Drawn0.step)⟩
 case round =>
  clear H'
  try clear c1
  obtain ⟨x3_1, x4_1, x5_1, rfl, rfl, rfl, HA, HK1, ⟨m1, rfl⟩⟩ := hrel
  cases gk with
  | zero => exact absurd HA.out (by simp [sentryref6_Sum.l0])
  | succ k1 =>
   have H := HA.out
   clear HA
   simp only [sentryref6_Sum.l0] at H
   by_cases c2 : x5_1 < (l0.length : Int)
   ·rw [if_pos c2] at H
    have c2b0 : decide (x5_1 < (l0.length : Int)) = true := decide_eq_true c2
    clear c2
    by_cases c3 : 0 ≤ x5_1
    ·rw [if_pos c3] at H
     have c3b0 : decide (0 ≤ x5_1) = true := decide_eq_true c3
     clear c3
     have H' := Aside0.mk H
     clear H
     have p155 : 0 ≤ (x5_1 : Int) := od_
     have q155 : x5_1 < (l0.length : Int) := od_
     obtain ⟨ad155, e155, hx155_0⟩ := Kd.at_int HR0.out x5_1 p155 q155
     cases e155
     replace p155 := eq_true p155
     replace q155 := eq_true q155
     go_wp2
     go_roundg k1
     case measure => have := HK1.out; omega
     case rel => exact ⟨(((x3_1 + ((rd l0 x5_1) % 4294967296)) % 4294967296) % 65521), (((x4_1 + (((x3_1 + ((rd l0 x5_1) % 4294967296)) % 4294967296) % 65521)) % 4294967296) % 65521), (wrap64 (x5_1 + 1)), (by first | rfl | (simp; done) | (simp [*]; done)), (by first | rfl | (simp; done) | (simp [*]; done)), (by first | rfl | (simp; done) | (simp [*]; done)), H', ⟨by have := HK1.out; omega⟩, by repeat (first | exact Drawn0.refl _ | apply Drawn0.step)⟩
    ·rw [if_neg c3] at H
     exact absurd H (by simp)
   ·rw [if_neg c2] at H
    have c2b0 : decide (x5_1 < (l0.length : Int)) = false := decide_eq_false c2
    clear c2
    obtain rfl := Option.some.inj H
    go_wp2
    go_ret
    exact ⟨by first | rfl | (simp; done) | (simp [*]; done), by repeat (first | exact Drawn0.refl _ | apply Drawn0.step)⟩
end Go.Proofs.Ytaiglhfmmdajdaa.Pm
end
section
namespace Go.Proofs.Ytaiglhfmmdajdaa.Pm
open Go.RowKit Go.Proofs.YtaiglhfmmdajdaaW.PrintWords Go.Proofs.YtaiglhfmmdajdaaW.PrintLast Go.Proofs.YtaiglhfmmdajdaaW.PrintMore
attribute [local go_sem] max2_int min2_int max_two min_two max_three min_three max_four min_four   -- for this text's walks alone
set_option linter.unusedVariables false
set_option linter.unusedSimpArgs false
def sumSt : List Int → Int → Int → Int × Int
  | [], a, c => (a, c)
  | x :: l, a, c => sumSt l (((a + (x % 4294967296)) % 4294967296) % 65521) (((c + (((a + (x % 4294967296)) % 4294967296) % 65521)) % 4294967296) % 65521)
def sumL (l : List Int) : Int := Go.bits .or .u32 (((sumSt l 1 0).2 * 65536) % 4294967296) (sumSt l 1 0).1
theorem ref_sum_at (l : List Int) (hn : l.length ≤ 9223372036854775806) (d : Nat) : ∀ (i k : Nat) (a c : Int), i + d = l.length → d < k → sentryref6_Sum.l0 k l a c i = some (Go.bits .or .u32 (((sumSt (l.drop i) a c).2 * 65536) % 4294967296) (sumSt (l.drop i) a c).1) := by
  induction d with
  | zero =>
    intro i k a c hi hk
    obtain ⟨k, rfl⟩ : ∃ m, k = m + 1 := ⟨k - 1, by omega⟩
    simp only [sentryref6_Sum.l0]
    rw [if_neg (by omega), List.drop_eq_nil_of_le (by omega)]
    rfl
  | succ d ih =>
    intro i k a c hi hk
    obtain ⟨k, rfl⟩ : ∃ m, k = m + 1 := ⟨k - 1, by omega⟩
    simp only [sentryref6_Sum.l0]
    rw [if_pos (by omega), if_pos (by omega), List.drop_eq_getElem_cons (by omega)]
    have hw : wrap64 ((i : Int) + 1) = ((i + 1 : Nat) : Int) := by unfold wrap64; omega
    have hr : rd l (i : Int) = l[i] := by simp [rd, List.getD_eq_getElem?_getD, List.getElem?_eq_getElem (show i < l.length by omega)]
    rw [hw, hr, ih (i + 1) k _ _ (by omega) (by omega)]
    rfl
theorem ref_sum (l : List Int) (hn : l.length ≤ 9223372036854775806) (k : Nat) (hk : l.length < k) : sentryref6_Sum.f k l = some (sumL l) := ref_sum_at l hn l.length 0 k 1 0 (by omega) hk
def sealL (l : List Int) : List Int := [83, 78, 84, 49] ++ [(sumL l / 16777216) % 256, (sumL l / 65536) % 256, (sumL l / 256) % 256, sumL l % 256] ++ l
/-- The world behind a conversion of bytes to bytes. -/
def markW (W : World) (a : Addr) : World := match W.shape? a.block with | some (_, n) => W.freeze ⟨a.block, n, none⟩ 1 | none => W
theorem kcv {P : Program} (t e : TypeId) (ht : P.underlying t = some (.slice e)) (he : P.underlying e = some (.int .u8)) (W : World) (a : Addr) (n c : Nat) : (convert t t (.slice (some a) n c)).run P W = .ok (.slice (some a) n c) (markW W a) := by
  unfold markW
  cases hs : W.shape? a.block with
  | none => simp [convert, run_underlying ht, run_underlying he, markStringish, hs, Result.andThen]
  | some p =>
    obtain ⟨e', m⟩ := p
    simp [convert, run_underlying ht, run_underlying he, markStringish, hs, Result.andThen]
theorem mark_below {B : Nat} {w W : World} (h : Below B w W) {a : Addr} (ha : B ≤ a.block) : Below B w (markW W a) := by
  unfold markW
  split
  · exact Lib.below_freeze (p := ⟨a.block, _, none⟩) h ha 1
  · exact h
theorem mark_cell (W : World) (a b : Addr) : (markW W a).cell? b = W.cell? b := by
  unfold markW
  split
  · unfold World.freeze World.cell?
    simp only [Nat.succ_ne_zero, ↓reduceIte, Array.getElem?_modify]
    by_cases h : a.block = b.block
    · rw [if_pos h]
      cases W.heap[b.block]? with
      | none => rfl
      | some o => cases o <;> rfl
    · rw [if_neg h]
  · rfl
theorem mark_C {W : World} {a : Addr} {A : Option Addr} {n : Nat} {xs : List Int} (h : Kd.C (Kd.int .u8) W A n xs) : Kd.C (Kd.int .u8) (markW W a) A n xs := by
  obtain ⟨h1, h2, h3⟩ := h
  refine ⟨h1, h2, fun hp => ?_⟩
  obtain ⟨ad, e, hc⟩ := h3 hp
  refine ⟨ad, e, fun j p hj => ?_⟩
  obtain ⟨c, hl, hK, hcc⟩ := hc j p hj
  exact ⟨c, hl, hK, fun i u hu => (mark_cell _ _ _).trans (hcc i u hu)⟩
theorem lit_reads (W : World) (b : Nat) (hb : b = W.heap.size) (e : TypeId) (xs : List Int) (hl : xs.length ≤ 9223372036854775807) : Kd.C (Kd.int .u8) (W.alloc (.cells (nums .u8 xs).toArray e)) (some ⟨b, 0, none⟩) xs.length xs := by
  subst hb
  refine ⟨rfl, hl, fun _ => ⟨_, rfl, fun j p hj => ⟨[.int .u8 p], rfl, rfl, fun i u hu => ?_⟩⟩⟩
  cases i with
  | succ i => simp at hu
  | zero =>
    cases hu
    rw [add_plain]
    have : j < xs.length := (List.getElem?_eq_some_iff.1 hj).1
    have e2 : xs[j]? = some p := hj
    show (W.alloc (.cells (nums .u8 xs).toArray e)).cell? ⟨W.heap.size, j * 1 + 0, none⟩ = _
    unfold World.cell?
    rw [show (⟨W.heap.size, j * 1 + 0, none⟩ : Addr).block = W.heap.size from rfl, heap_alloc_new]
    simp [nums, e2]
/-- append to a row that is full and only read: a new row of one's own. -/
theorem append_read_k {ops : Array Oper} {Q : Exit → Act → World → Prop} {rest : List Oper} {o : Oper} {a : Act} {W : World} (hgd : o.guard = none) (s x : Operand) (ho : o.op = .call { callee := .builtin .append, args := #[s, x], argTypes := #[26, 26] }) (ad : Addr) (n : Nat) (xs : List Int) (A2 : Option Addr) (m c2 : Nat) (ys : List Int) (hs : a.eval s = .slice (some ad) n n) (hx : a.eval x = .slice A2 m c2)
    (h1 : Kd.C (Kd.int .u8) W (some ad) n xs) (h2 : Kd.C (Kd.int .u8) W A2 m ys) (hm : 0 < m) (hl : n + m ≤ 140737488355328) (B : Nat) (hB : B ≤ W.heap.size)
    (h : ∀ v' w', Kd.R (Kd.int .u8) 5 w' B (fun _ => True) v' (xs ++ ys) → Below W.heap.size W w' → wpList Try.prog ops Q rest (a.put o.dst v') w') : wpList Try.prog ops Q (o :: rest) a W := by
  obtain ⟨i0, hi0, hz0, hz1, hz2⟩ := info_parts info5
  have hc : ∀ {A : Option Addr} {n : Nat} {xs : List Int} (ad : Addr) (_ : A = some ad) (_ : Kd.C (Kd.int .u8) W A n xs), ∀ (j : Nat) (u : Value), (encs (Value.int .u8) xs)[j]? = some u → W.cell? (ad.add j) = some u := by
    intro A n xs ad e hC j u hj
    have hjl : j < xs.length := by simpa [encs] using (List.getElem?_eq_some_iff.1 hj).1
    have hn := hC.1
    obtain ⟨ad', c, e', _, hK, hcc⟩ := Kd.C_get hC (0 : Int) (j : Int) (by omega) (by omega)
    rw [e] at e'
    cases e'
    obtain rfl : c = [.int .u8 (xs.getD j 0)] := hK
    have h1 := hcc 0 _ rfl
    have hu : u = .int .u8 (xs.getD j 0) := by
      simp [encs, List.getElem?_map, List.getElem?_eq_getElem hjl] at hj
      rw [List.getD_eq_getElem?_getD, List.getElem?_eq_getElem hjl]
      exact hj.symm
    rw [hu]
    simpa [Kd.int, Kd.scalar] using h1
  obtain ⟨ad2, rfl, -⟩ := h2.2.2 hm
  have hl1 := h1.1
  have hl2 := h2.1
  obtain ⟨v', w', hr, how, hg⟩ := run_append_arg_grows (P := Try.prog) (w := W) 26 o.type 5 i0 (.int .u8 0) 1 1 Try.underlying26 hi0 hz0 hz1 hz2 rfl (by decide) ad n n (encs (Value.int .u8) xs) (by simp [encs, hl1]) (hc ad rfl h1) ad2 m c2 (encs (Value.int .u8) ys) (by simp [encs, hl2]) (hc ad2 rfl h2) (by omega) (by simp [maxLen]; omega) (by omega)
  have hrun : (execOp a.eval o).run Try.prog W = .ok (.value v') w' := by
    unfold execOp
    simp only [ho, resolve, invoke, builtin, Sem.run_bind, Sem.run_pure, Result.andThen_ok, List.map_toArray, List.map_cons, List.map_nil, hs, hx, hr]
  refine Kd.event_run hgd hrun (h v' w' ?_ ?_)
  · refine Kd.R_of_own (own_weaken (by rw [List.length_append, hl1, hl2]; simpa [encs] using how) (by omega)) (fun _ _ => trivial)
  · exact (Below.refl _ _).grown hg (Nat.le_refl _) (by simp)
def sentryref6_Seal.f (l0 : List Int) : Option (List Int) := if l0.length ≤ 140737488355000 then some (sealL l0) else none
set_option maxHeartbeats 4000000 in
set_option maxRecDepth 100000 in
theorem sentryref6_Seal.calls (A0 : Option Addr) (c0 : Nat) (l0 : List Int) (r : List Int) (w : World) (hr0 : Kd.C (Kd.int .u8) w A0 l0.length l0) (hc0 : l0.length ≤ c0) (h : sentryref6_Seal.f l0 = some r) :
    Calls Try.prog 23 #[.slice A0 l0.length c0] w fun e w' => ∃ v0_ : Value, e = .returned (v0_) ∧ Kd.R (Kd.int .u8) 5 w' w.heap.size (fun _ => True) v0_ r ∧ Below w.heap.size w w' := by
  unfold sentryref6_Seal.f at h
  split at h
  case isFalse => cases h
  rename_i hs
  obtain rfl := Option.some.inj h
  clear h
  have hsum := sentryref6_Sum.calls (l0.length + 1) A0 c0 l0 _ w hr0 hc0 (ref_sum l0 (by omega) _ (by omega))
  unfold sealL
  obtain ⟨s, hss⟩ : ∃ s, s = sumL l0 := ⟨_, rfl⟩
  rw [← hss] at hsum ⊢
  clear hss
  obtain ⟨n, hn⟩ : ∃ n, n = l0.length := ⟨_, rfl⟩
  have HR := Lib.hid hr0
  have HN := Lib.hid hn
  rw [← hn] at hsum hs hc0 ⊢
  clear hn hr0
  have kb := fun W a n c => kcv (P := Try.prog) 26 5 Try.underlying26 Try.underlying5 W a n c
  go_enter Try.func23, Try.ntmps23
  go_wp2_with fail
  refine hsum.mono ?_
  rintro e w1 ⟨rfl, ⟨nd, rfl⟩⟩
  have HB := Lib.hid (pw_below_drewN (Below.refl w.heap.size w) nd)
  clear hsum
  generalize w.drewN nd = w1 at HB ⊢
  go_wp2_with (first | ((with_reducible refine gate_builtin (b := .append) (xs := #[.tmp 7, .tmp 19]) rfl ?_); at_builtin; refine append_read_k rfl (.tmp 7) (.tmp 19) rfl ⟨w1.heap.size, 0, none⟩ 4 [83, 78, 84, 49] _ _ _ [(s / 16777216) % 256, (s / 65536) % 256, (s / 256) % 256, s % 256] rfl rfl (Kd.C_alloc (mark_C (lit_reads w1 _ rfl 5 [83, 78, 84, 49] (by decide))) _) (lit_reads _ _ rfl 5 [(s / 16777216) % 256, (s / 65536) % 256, (s / 256) % 256, s % 256] (by simp)) (by decide) (by decide) w.heap.size (below_alloc (mark_below (below_alloc HB.out _) HB.out.size) _).size ?_; intro v2 w2 hR2 hB2; have hBB := keepb hB2 (below_alloc (mark_below (below_alloc HB.out _) HB.out.size) _)) | ((with_reducible refine gate_builtin (b := .append) (xs := #[.tmp 20, .tmp 21]) rfl ?_); at_builtin; refine Kd.R_append_rows (Kd.int .u8) (w0 := w) w.heap.size rfl (.tmp 20) (.tmp 21) 26 5 (.int .u8 0) 1 rfl Try.underlying26 info5 rfl (by decide) (by omega) v2 ([83, 78, 84, 49] ++ [(s / 16777216) % 256, (s / 65536) % 256, (s / 256) % 256, s % 256]) l0 _ _ _ (fun _ => True) (fun _ => False) rfl rfl hR2 ?aR (fun _ _ h => h) (fun _ h => h.elim) (fun _ _ => trivial) hBB hBB.size ?aL ?_; (case aR => exact HN.out ▸ Kd.C_below HR.out hBB); (case aL => simp only [List.length_append, List.length_cons, List.length_nil]; omega); intro v3 w3 hR3 hB3 hg1 hg2; clear hg1 hg2))
  go_ret
  exact ⟨_, rfl, hR3, hB3⟩
end Go.Proofs.Ytaiglhfmmdajdaa.Pm
end
section
namespace Go.Proofs.Ytaiglhfmmdajdaa.Pm
open Go.RowKit Go.Proofs.YtaiglhfmmdajdaaW.PrintWords Go.Proofs.YtaiglhfmmdajdaaW.PrintLast Go.Proofs.YtaiglhfmmdajdaaW.PrintMore
attribute [local go_sem] max2_int min2_int max_two min_two max_three min_three max_four min_four   -- for this text's walks alone
set_option linter.unusedVariables false
set_option linter.unusedSimpArgs false
def pack_ops.f  : Option (List ByteArray) := some (([(⟨#[60]⟩ : ByteArray), (⟨#[60, 61]⟩ : ByteArray), (⟨#[61]⟩ : ByteArray), (⟨#[33, 61]⟩ : ByteArray), (⟨#[62, 61]⟩ : ByteArray), (⟨#[62]⟩ : ByteArray)] : List ByteArray))
set_option maxHeartbeats 8000000 in
set_option maxRecDepth 100000 in
theorem pack_ops.calls  (r : List ByteArray) (w : World) (h : pack_ops.f  = some r) :
  Calls Try.prog 73 #[] w fun e w' => ∃ v0_ : Value, e = .returned (v0_) ∧ Kd.R Kd.string 9 w' w.heap.size (fun _ => True) v0_ r ∧ Below w.heap.size w w' := by
 have HB := Aside0.mk (Below.refl w.heap.size w)
 have H : (some (([(⟨#[60]⟩ : ByteArray), (⟨#[60, 61]⟩ : ByteArray), (⟨#[61]⟩ : ByteArray), (⟨#[33, 61]⟩ : ByteArray), (⟨#[62, 61]⟩ : ByteArray), (⟨#[62]⟩ : ByteArray)] : List ByteArray))) = some r := h
 clear h
 obtain ⟨y378, hy378⟩ : ∃ y_ : List ByteArray, y_ = (([(⟨#[60]⟩ : ByteArray), (⟨#[60, 61]⟩ : ByteArray), (⟨#[61]⟩ : ByteArray), (⟨#[33, 61]⟩ : ByteArray), (⟨#[62, 61]⟩ : ByteArray), (⟨#[62]⟩ : ByteArray)] : List ByteArray)) := ⟨_, rfl⟩
 replace H : (some y378) = some r := by first | (rw [hy378]; with_reducible exact H) | (have H2_ := (Option.bind_some _ _).symm.trans H; rw [hy378]; with_reducible exact H2_) | (have H2_ := (Option.bind_some _ _).symm.trans H; with_reducible exact H2_) | with_reducible exact H | (rw [hy378]; exact H) | exact H
 have Ny378 := Aside0.mk hy378
 clear hy378
 obtain rfl := Option.some.inj H
 go_enter Try.func73, Try.ntmps73
 go_wp2_with (first | ((with_reducible refine gate_dst (N := 1) rfl ?_); refine Kd.R_lit Kd.string _ 9 ?hg (N := 1) ?hd (xs := ([(⟨#[60]⟩ : ByteArray), (⟨#[60, 61]⟩ : ByteArray), (⟨#[61]⟩ : ByteArray), (⟨#[33, 61]⟩ : ByteArray), (⟨#[62, 61]⟩ : ByteArray), (⟨#[62]⟩ : ByteArray)] : List ByteArray)) (inner := [.string (⟨#[60]⟩ : ByteArray), .string (⟨#[60, 61]⟩ : ByteArray), .string (⟨#[61]⟩ : ByteArray), .string (⟨#[33, 61]⟩ : ByteArray), .string (⟨#[62, 61]⟩ : ByteArray), .string (⟨#[62]⟩ : ByteArray)]) (ok := fun _ => True) (okp := fun _ => True) ?hr ?hp (fun _ hk => hk) trivial (Below.refl _ _) (Nat.le_refl _) (by simp) ?_; (case hd => rfl); (case hg => rfl); (case hr => first | (go_simp; done) | (go_simp; rfl)); (case hp => exact (Reps.one (show Kd.M Kd.string _ _ _ (⟨#[60]⟩ : ByteArray) [.string (⟨#[60]⟩ : ByteArray)] from rfl) (Reps.one (show Kd.M Kd.string _ _ _ (⟨#[60, 61]⟩ : ByteArray) [.string (⟨#[60, 61]⟩ : ByteArray)] from rfl) (Reps.one (show Kd.M Kd.string _ _ _ (⟨#[61]⟩ : ByteArray) [.string (⟨#[61]⟩ : ByteArray)] from rfl) (Reps.one (show Kd.M Kd.string _ _ _ (⟨#[33, 61]⟩ : ByteArray) [.string (⟨#[33, 61]⟩ : ByteArray)] from rfl) (Reps.one (show Kd.M Kd.string _ _ _ (⟨#[62, 61]⟩ : ByteArray) [.string (⟨#[62, 61]⟩ : ByteArray)] from rfl) (Reps.one (show Kd.M Kd.string _ _ _ (⟨#[62]⟩ : ByteArray) [.string (⟨#[62]⟩ : ByteArray)] from rfl) (Reps.none _ _)))))))); intro v379 w1 ho2 hb hg_ hnew_; clear hg_ hnew_; (first | rw [← Ny378.out] at ho2 | (simp only [Int.reduceToNat] at ho2; rw [← Ny378.out] at ho2)); have n0_ := Aside0.mk (Kd.R_lower ho2 (below_size (by repeat (first | (with_reducible first | exact HB.out | apply below_alloc | apply pw_below_drewN | apply below_drew1) | exact HB.out)))); have n1_ := hb_ HB hb; clear HB; have HO380 := n0_; have HB := n1_; clear n0_ n1_; clear hb ho2))
 go_ret
 exact ⟨_, by first | rfl | (simp [errW_none, errW_some] <;> rfl) | (simp [*, errW_none, errW_some] <;> rfl), by (with_reducible repeat (first | apply Kd.R_alloc | apply Kd.R_drewN | apply Kd.R_drew)); exact HO380.out, by repeat (first | (with_reducible first | exact HB.out | apply below_alloc | apply pw_below_drewN | apply below_drew1) | exact HB.out)⟩
end Go.Proofs.Ytaiglhfmmdajdaa.Pm
end
section
namespace Go.Proofs.Ytaiglhfmmdajdaa.Pm
open Go.RowKit Go.Proofs.YtaiglhfmmdajdaaW.PrintWords Go.Proofs.YtaiglhfmmdajdaaW.PrintLast Go.Proofs.YtaiglhfmmdajdaaW.PrintMore
attribute [local go_sem] max2_int min2_int max_two min_two max_three min_three max_four min_four   -- for this text's walks alone
set_option linter.unusedVariables false
set_option linter.unusedSimpArgs false
def bits (n m : Nat) : Array Bool := ((List.range n).map (fun i => m.testBit i)).toArray
section
variable {P : Program} {md : Region.Mode} {ops : Array Oper} {Q : Exit → Act → World → Prop} {S : World → Prop} {ds : List Nat}
theorem st_ {id : Nat} {a : Act} {w : World} (S : World → Prop) (n : Nat) (hS : S w.drew) (h : S w.drew → wpAnyLast P .any ops Q S [] n (bits n 0) a w.drew)
    (hm : P.follows .mixedOrders = true := by kernel_rfl) (hn : ops.size = n := by exact rfl) (hl : Array.replicate n false = bits n 0 := by kernel_rfl) : (Code.region id ops true).wp P Q a w :=
  start_ (bits n 0) hm hn hl hS h
theorem pu_ {n m fuel : Nat} {oi : Oper} {v : Value} {a a' : Act} {w : World} (i : Nat) (N : Option Tmp) (h : wpAnyLast P md ops Q S ds fuel (bits n (m ||| 1 <<< i)) a' w)
    (hi : ops[i]? = some oi := by exact rfl) (hN : oi.dst = N := by exact rfl) (hc : anyB md ops (bits n m) (bits n (m ||| 1 <<< i)) i = true := by kernel_rfl)
    (hw : Region.wanted oi (yielded ops a.tmps) = true := by exact rfl) (hy : ∀ w', (execOp a.eval oi).run P w' = .ok (.value v) w' := by (intro w'; go_simp; with_reducible rfl))
    (ha : a.put N v = a' := by (simp only [Act.put, List.setIfInBounds_toArray, List.set_cons_zero, List.set_cons_succ, i64_w, i32_w]; rfl))
    (hQ : ∀ c a w, Q (.panic c) (a.put oi.dst v) w → Q (.panic c) a w := by exact fun _ _ _ h => h) : wpAnyLast P md ops Q S ds (fuel + 1) (bits n m) a w :=
  pure_ _ hi hN hc hQ (Or.inl ⟨hw, hy⟩) ha h
theorem tk_ {n m fuel : Nat} {oi : Oper} {v : Value} {a a' : Act} {w : World} (i : Nat) (N : Option Tmp) (hS : S w) (h : wpAnyLast P md ops Q S ds fuel (bits n (m ||| 1 <<< i)) a' w)
    (hi : ops[i]? = some oi := by exact rfl) (hN : oi.dst = N := by exact rfl) (hc : takeB md ops ds (bits n m) (bits n (m ||| 1 <<< i)) i = true := by kernel_rfl)
    (hw : Region.wanted oi (yielded ops a.tmps) = true := by exact rfl) (hy : ∀ w', S w' → (execOp a.eval oi).run P w' = .ok (.value v) w')
    (ha : a.put N v = a' := by (simp only [Act.put, List.setIfInBounds_toArray, List.set_cons_zero, List.set_cons_succ, i64_w, i32_w]; rfl))
    (hQ : ∀ c a w, Q (.panic c) (a.put oi.dst v) w → Q (.panic c) a w := by exact fun _ _ _ h => h) : wpAnyLast P md ops Q S ds (fuel + 1) (bits n m) a w :=
  take_ _ hi hN hc hQ (Or.inl ⟨hw, hy⟩) hS ha h
/-- A call that alone may come up: its contract gives the answer v and a world in which S holds. -/
theorem ca_ {n m fuel : Nat} {oi : Oper} {a : Act} {w : World} {f : FuncId} {fn : Func} {os : Array Operand} {ts : Array TypeId} (i : Nat) (N : Option Tmp) (hf : P.funcs[f]? = some fn) (args : Array Value)
    (h : Calls P f args w fun e w' => ∃ v, e = .returned v ∧ S w' ∧ (S w' → ∃ a', a.put N v = a' ∧ wpAnyLast P md ops Q S ds fuel (bits n (m ||| 1 <<< i)) a' w'))
    (hi : ops[i]? = some oi := by exact rfl) (hN : oi.dst = N := by exact rfl) (hc : readyB md ops (bits n m) (bits n (m ||| 1 <<< i)) i = true := by kernel_rfl) (hd : i ∉ ds := by decide)
    (hop : oi.op = .call { callee := .value (.func f), args := os, argTypes := ts } := by exact rfl) (hargs : os.map a.eval = args := by ((try simp only [List.map_toArray, List.map_cons, List.map_nil]); first | done | rfl))
    (hw : Region.wanted oi (yielded ops a.tmps) = true := by exact rfl)
    (hname : (fn.name == "runtime.NumGoroutine") = false := by kernel_rfl) (hb : fn.body.isSome = true := by exact rfl) : wpAnyLast P md ops Q S ds (fuel + 1) (bits n m) a w :=
  one_ _ hi hN hc hd fun K hK => goes_ hf hname hb args hw hN hop hargs (h.mono fun e w' hh => by
    obtain ⟨v, rfl, hS, hW⟩ := hh
    refine ⟨v, rfl, hK.out _ _ hS fun hs => ?_⟩
    obtain ⟨a', rfl, h'⟩ := hW hs
    exact h')
theorem dn_ {n m : Nat} {a : Act} {w : World} {k : Nat} (h : Q .normal a w) (hr : (Region.ready md ops (bits n m) == []) = true := by kernel_rfl) : wpAnyLast P md ops Q S ds k (bits n m) a w := done_ hr h
end
end Go.Proofs.Ytaiglhfmmdajdaa.Pm
end
section
namespace Go.Proofs.Ytaiglhfmmdajdaa.Pm
open Go.RowKit Go.Proofs.YtaiglhfmmdajdaaW.PrintWords Go.Proofs.YtaiglhfmmdajdaaW.PrintLast Go.Proofs.YtaiglhfmmdajdaaW.PrintMore
attribute [local go_sem] max2_int min2_int max_two min_two max_three min_three max_four min_four   -- for this text's walks alone
set_option linter.unusedVariables false
set_option linter.unusedSimpArgs false
def Wr (w : World) (g base : Nat) (ok : Nat → Prop) (xs : List Int) : Prop := ∃ v, w.heap[g]? = some (.cells #[v] 58 (0, 0)) ∧ Kd.R (Kd.int .u8) 5 w base ok v xs
def WPost (w0 w : World) (g : Nat) (ok : Nat → Prop) (xs : List Int) (e : Ending) (w' : World) : Prop :=
  e = .returned (.tuple #[]) ∧ Wr w' g w0.heap.size ok xs ∧ Below w0.heap.size w0 w' ∧ Kept w w' (fun k => ok k ∨ k = g)
def byteW (n : Int) : Int := Go.bits .or .u8 (n % 256) 128
def numW : Nat → Int → List Int
  | 0, _ => []
  | d + 1, n => if n ≥ 128 then byteW n :: numW d (n / 128) else [n % 256]
theorem numW_length (d : Nat) : ∀ n, (numW d n).length ≤ d := by
  induction d with
  | zero => intro n; exact Nat.le_refl _
  | succ d ih =>
    intro n
    simp only [numW]
    split
    · rw [List.length_cons]; have := ih (n / 128); omega
    · simp
theorem flat_length (l : List Int) : (l.flatMap (numW 10)).length ≤ 10 * l.length := by
  induction l with
  | nil => simp
  | cons a l ih =>
    rw [List.flatMap_cons, List.length_append, List.length_cons]
    have := numW_length 10 a
    omega
theorem C_stay {α : Type} {enc : α → Value} {h1 : ∀ x, (enc x).oneCell' = true} {w w' : World} {A : Option Addr} {n : Nat} {xs : List α} (h : Kd.C (Kd.scalar enc h1) w A n xs) (hb : ∀ ad, A = some ad → w'.heap[ad.block]? = w.heap[ad.block]?) : Kd.C (Kd.scalar enc h1) w' A n xs := by
  obtain ⟨h1, h2, h3⟩ := h
  refine ⟨h1, h2, fun hp => ?_⟩
  obtain ⟨ad, rfl, hc⟩ := h3 hp
  refine ⟨ad, rfl, fun j p hj => ?_⟩
  obtain ⟨c, hl, hK, hcc⟩ := hc j p hj
  refine ⟨c, hl, hK, fun i u hu => ?_⟩
  have := hcc i u hu
  have hblk : ∀ m, (ad.add m).block = ad.block := fun m => by unfold Addr.add; split <;> rfl
  unfold World.cell? at this ⊢
  rw [hblk] at this ⊢
  rw [hb ad rfl]
  exact this
/-- One byte more: the walk's own rows from the load to the store, as_ facts. -/
theorem wr_put {w w1 : World} {g base : Nat} {ok : Nat → Prop} {v v1 : Value} {xs : List Int} (hg : w.heap[g]? = some (.cells #[v] 58 (0, 0))) (hok : ∀ k, ok k → k ≠ g) (hR : Kd.R (Kd.int .u8) 5 w1 base ok v1 xs) (hg1 : w1.heap[g]? = some (.cells #[v] 58 (0, 0))) : Wr (w1.setCell ⟨g, 0, none⟩ v1) g base ok xs :=
  ⟨v1, blk_put hg1 0 v1 rfl, Kd.R_far (p := ⟨g, 0, none⟩) hR (fun k hk => hok k hk) v1⟩
set_option maxHeartbeats 8000000 in
set_option maxRecDepth 100000 in
theorem num_any (w0 w : World) (g : Nat) (ok : Nat → Prop) (xs : List Int) (A : Option Addr) (c : Nat) (l : List Int) (hB : Below w0.heap.size w0 w) (hg0 : w0.heap.size ≤ g) (hok : ∀ k, ok k → k ≠ g) (hfr : ∀ k, w.heap.size ≤ k → ok k) (hW : Wr w g w0.heap.size ok xs)
    (hC : Kd.C (Kd.int .i64) w A l.length l) (hA : ∀ ad, A = some ad → ad.block < w.heap.size ∧ ¬ ok ad.block ∧ ad.block ≠ g) (hlim : xs.length + 10 * l.length ≤ 140737488000000) (hl : ∀ n ∈ l, n < 9223372036854775808) :
    Calls Try.prog 47 #[.pointer (some ⟨g, 0, none⟩), .slice A l.length c] w (WPost w0 w g ok (xs ++ l.flatMap (numW 10))) := by
  have HW := Lib.hid hW
  have HC := Lib.hid hC
  have HB := Lib.hid hB
  have HFR := Lib.hid hfr
  have HOK := Lib.hid hok
  have HA := Lib.hid hA
  have HL := Lib.hid hl
  obtain ⟨n, hn⟩ : ∃ n, n = l.length := ⟨_, rfl⟩
  rw [← hn] at hlim ⊢
  have HN := Lib.hid hn
  clear hW hC hB hfr hok hA hl hn
  go_enter Try.func47, Try.ntmps47
  go_wp2
  go_loopg [8] n (fun gg s8 wr => ∃ (i : Nat), s8 = .int .i64 i ∧ i ≤ n ∧ n - i ≤ gg ∧ Hid (Wr wr g w0.heap.size ok (xs ++ (l.take i).flatMap (numW 10)) ∧ Below w0.heap.size w0 wr ∧ Kept w wr (fun k => ok k ∨ k = g)))
  case atStart => exact ⟨0, rfl, Nat.zero_le _, by omega, Lib.hid ⟨by simpa using HW.out, HB.out, Kept.refl _ _⟩⟩
  case round =>
    obtain ⟨i, rfl, hin, hig, X⟩ := hrel
    by_cases hlt : i < n
    case neg =>
      have hltz : ¬ (i : Int) < (n : Int) := by omega
      obtain rfl : n = i := by omega
      go_wp2
      go_end0
      rw [HN.out, List.take_length] at X
      exact ⟨rfl, X.out.1, X.out.2.1, X.out.2.2⟩
    have hltz : (i : Int) < (n : Int) := by omega
    have hCr := C_stay (w' := wr) HC.out (fun ad e => X.out.2.2.2 _ (HA.out ad e).1 (fun h => h.elim (HA.out ad e).2.1 (HA.out ad e).2.2))
    obtain ⟨ad, cs, e, _, hK, hcc⟩ := Kd.C_get hCr (0 : Int) (i : Int) (by omega) (by have := HN.out; omega)
    cases e
    obtain rfl : cs = [.int .i64 (l.getD i 0)] := hK
    have hx0 : wr.cell? (ad.add i) = some (.int .i64 (l.getD i 0)) := by have := hcc 0 _ rfl; simpa [Kd.int, Kd.scalar] using this
    clear hcc
    obtain ⟨m, hm⟩ : ∃ m, m = l.getD i 0 := ⟨_, rfl⟩
    rw [← hm] at hx0
    have HM := Lib.hid hm
    clear hm hCr
    obtain ⟨pre, hpre⟩ : ∃ p, p = xs ++ (l.take i).flatMap (numW 10) := ⟨_, rfl⟩
    have hpl : pre.length ≤ 140737488000000 - 10 := by
      rw [hpre, List.length_append]
      have h1 := flat_length (l.take i)
      rw [List.length_take] at h1
      have := HN.out
      omega
    have HP := Lib.hid hpl
    have HPRE := Lib.hid hpre
    rw [← hpre] at X
    have hm63 : m < 9223372036854775808 := by
      have := HN.out
      rw [HM.out]
      refine HL.out _ ?_
      rw [List.getD_eq_getElem?_getD, List.getElem?_eq_getElem (by omega)]
      exact List.getElem_mem _
    have HM63 := Lib.hid hm63
    clear hpl hpre hm63
    go_wp2
    go_loopg [5] 10 (fun gg s5 wr => ∃ (m' : Int) (d : Nat) (ys : List Int), s5 = .int .i64 m' ∧ 1 ≤ d ∧ d ≤ gg ∧ Hid (numW 10 m = ys ++ numW d m' ∧ m' < (128 : Int) ^ d ∧ ys.length + d = 10 ∧ Wr wr g w0.heap.size ok (pre ++ ys) ∧ Below w0.heap.size w0 wr ∧ Kept w wr (fun k => ok k ∨ k = g)))
    case atStart =>
      have h128 : (128 : Int) ^ 10 = 1180591620717411303424 := by decide
      exact ⟨m, 10, [], rfl, by omega, by omega, Lib.hid ⟨rfl, by rw [h128]; have := HM63.out; omega, rfl, by rw [List.append_nil]; exact X.out.1, X.out.2.1, X.out.2.2⟩⟩
    case round =>
      obtain ⟨m', d, ys, rfl, hd1, hdg, Z⟩ := hrel
      obtain ⟨d, rfl⟩ : ∃ e, d = e + 1 := ⟨d - 1, by omega⟩
      have hnum : numW 10 m = ys ++ (if m' ≥ 128 then byteW m' :: numW d (m' / 128) else [m' % 256]) := Z.out.1
      have hpow := Z.out.2.1
      by_cases h128 : m' ≥ 128
      case pos =>
        rw [if_pos h128] at hnum
        have hd : 1 ≤ d := by
          rcases Nat.eq_zero_or_pos d with rfl | h'
          · simp at hpow; omega
          · exact h'
        have hpow' : m' / 128 < (128 : Int) ^ d := by
          rw [Int.pow_succ] at hpow
          omega
        have HNUM := Lib.hid hnum
        have HPOW := Lib.hid hpow'
        clear hnum hpow hpow'
        obtain ⟨v, hg, hR⟩ := Z.out.2.2.2.1
        obtain ⟨Av, cv, rfl⟩ := Kd.R_slice hR
        obtain ⟨zs, hzs⟩ : ∃ zs, zs = pre ++ ys := ⟨_, rfl⟩
        rw [← hzs] at hg hR
        obtain ⟨lv, hlv⟩ : ∃ lv, lv = zs.length := ⟨_, rfl⟩
        rw [← hlv] at hg hR
        have hlz : (zs.length + 1) * 1 ≤ 140737488355328 := by
          have := Z.out.2.2.1
          rw [hzs, List.length_append]
          have := HP.out
          omega
        have hne : some g ≠ (Value.slice Av lv cv).ownBlock := Kd.R_away hR (fun k hk => HOK.out k hk)
        have hcv : wr.cell? ⟨g, 0, none⟩ = some (.slice Av lv cv) := (blk_cell hg 0).trans rfl
        have HLZ := Lib.hid hlz
        have HNE := Lib.hid (fun h => hne h)
        have HGL := Lib.hid (blk_lt hg)
        have HG := Lib.hid hg
        have HRv := Lib.hid hR
        have HBr := Lib.hid Z.out.2.2.2.2.1
        have HKr := Lib.hid Z.out.2.2.2.2.2
        have HF := Lib.hid (fun k (hk : wr.heap.size ≤ k) => HFR.out k (Nat.le_trans Z.out.2.2.2.2.2.1 hk))
        have HZS := Lib.hid hzs
        clear hg hR hlz hne hzs hlv
        go_wp2_with (first | ((with_reducible refine gate_builtin (b := .append) (xs := #[.tmp 20, .tmp 24]) rfl ?_); at_builtin; refine Kd.R_append (Kd.int .u8) (w0 := w0) w0.heap.size rfl (.tmp 20) (.tmp 24) 26 5 (.int .u8 0) 1 rfl Try.underlying26 info5 rfl (by decide) (by omega) (.slice Av lv cv) zs (byteW m') [.int .u8 (byteW m')] ok (fun _ => False) rfl rfl rfl (fun _ h => h.elim) HF.out HRv.out HBr.out HBr.out.size HLZ.out ?_; intro v1 w1 hR1 hB1 hgr hat; obtain ⟨A1, c1, rfl⟩ := Kd.R_slice hR1; have hg1 := (hgr.block g HGL.out HNE.out).trans HG.out; have hcz := (blk_cell hg1 0).trans rfl; have hfz := blk_frozen hg1 0; have HR1 := Lib.hid hR1; have HB1 := Lib.hid hB1; have HG1 := Lib.hid hg1; have HGR := Lib.hid hgr; clear hR1 hB1 hg1 hgr hat))
        have hwr := wr_put HG.out HOK.out HR1.out HG1.out
        rw [List.length_append, List.length_singleton] at hwr
        have HWR := Lib.hid hwr
        have HKK := Lib.hid ((Kept.of_grown HGR.out HKr.out (fun k e => .inl (.inl (HRv.out.1 k e)))).setCell (p := ⟨g, 0, none⟩) (.inl (.inr rfl)) (.slice A1 (zs.length + 1) c1))
        have HBB := Lib.hid (HB1.out.setCell hg0 (.slice A1 (zs.length + 1) c1) : Below w0.heap.size w0 (w1.setCell ⟨g, 0, none⟩ (.slice A1 (zs.length + 1) c1)))
        clear hwr
        go_roundg d
        case measure => omega
        case rel => exact ⟨m' / 128, d, ys ++ [byteW m'], rfl, hd, by omega, Lib.hid ⟨by rw [HNUM.out, List.append_assoc]; rfl, HPOW.out, by have := Z.out.2.2.1; rw [List.length_append, List.length_singleton]; omega, by rw [← List.append_assoc, ← HZS.out]; exact HWR.out, HBB.out, HKK.out⟩⟩
      case neg =>
        rw [if_neg h128] at hnum
        have HNUM := Lib.hid hnum
        clear hnum hpow
        obtain ⟨v, hg, hR⟩ := Z.out.2.2.2.1
        obtain ⟨Av, cv, rfl⟩ := Kd.R_slice hR
        obtain ⟨zs, hzs⟩ : ∃ zs, zs = pre ++ ys := ⟨_, rfl⟩
        rw [← hzs] at hg hR
        obtain ⟨lv, hlv⟩ : ∃ lv, lv = zs.length := ⟨_, rfl⟩
        rw [← hlv] at hg hR
        have hlz : (zs.length + 1) * 1 ≤ 140737488355328 := by
          have := Z.out.2.2.1
          rw [hzs, List.length_append]
          have := HP.out
          omega
        have hne : some g ≠ (Value.slice Av lv cv).ownBlock := Kd.R_away hR (fun k hk => HOK.out k hk)
        have hcv : wr.cell? ⟨g, 0, none⟩ = some (.slice Av lv cv) := (blk_cell hg 0).trans rfl
        have HLZ := Lib.hid hlz
        have HNE := Lib.hid (fun h => hne h)
        have HGL := Lib.hid (blk_lt hg)
        have HG := Lib.hid hg
        have HRv := Lib.hid hR
        have HBr := Lib.hid Z.out.2.2.2.2.1
        have HKr := Lib.hid Z.out.2.2.2.2.2
        have HF := Lib.hid (fun k (hk : wr.heap.size ≤ k) => HFR.out k (Nat.le_trans Z.out.2.2.2.2.2.1 hk))
        have HZS := Lib.hid hzs
        clear hg hR hlz hne hzs hlv
        go_wp2_with (first | ((with_reducible refine gate_builtin (b := .append) (xs := #[.tmp 32, .tmp 35]) rfl ?_); at_builtin; refine Kd.R_append (Kd.int .u8) (w0 := w0) w0.heap.size rfl (.tmp 32) (.tmp 35) 26 5 (.int .u8 0) 1 rfl Try.underlying26 info5 rfl (by decide) (by omega) (.slice Av lv cv) zs (m' % 256) [.int .u8 (m' % 256)] ok (fun _ => False) rfl rfl rfl (fun _ h => h.elim) HF.out HRv.out HBr.out HBr.out.size HLZ.out ?_; intro v1 w1 hR1 hB1 hgr hat; obtain ⟨A1, c1, rfl⟩ := Kd.R_slice hR1; have hg1 := (hgr.block g HGL.out HNE.out).trans HG.out; have hcz := (blk_cell hg1 0).trans rfl; have hfz := blk_frozen hg1 0; have HR1 := Lib.hid hR1; have HB1 := Lib.hid hB1; have HG1 := Lib.hid hg1; have HGR := Lib.hid hgr; clear hR1 hB1 hg1 hgr hat))
        have hwr := wr_put HG.out HOK.out HR1.out HG1.out
        rw [List.length_append, List.length_singleton] at hwr
        have HWR := Lib.hid hwr
        have HKK := Lib.hid ((Kept.of_grown HGR.out HKr.out (fun k e => .inl (.inl (HRv.out.1 k e)))).setCell (p := ⟨g, 0, none⟩) (.inl (.inr rfl)) (.slice A1 (zs.length + 1) c1))
        have HBB := Lib.hid (HB1.out.setCell hg0 (.slice A1 (zs.length + 1) c1) : Below w0.heap.size w0 (w1.setCell ⟨g, 0, none⟩ (.slice A1 (zs.length + 1) c1)))
        clear hwr
        have HT : Hid (zs ++ [m' % 256] = xs ++ (l.take (i + 1)).flatMap (numW 10)) := Lib.hid (by
          have e1 : l.take (i + 1) = l.take i ++ [m] := by
            have := HN.out
            rw [List.take_add_one, HM.out, List.getD_eq_getElem?_getD, List.getElem?_eq_getElem (by omega)]
            rfl
          rw [e1, List.flatMap_append, ← List.append_assoc, ← HPRE.out, HZS.out, List.append_assoc, ← HNUM.out]
          simp)
        go_roundg (n - (i + 1))
        case measure => omega
        case rel => exact ⟨i + 1, by go_num, by omega, by omega, Lib.hid ⟨by rw [← HT.out]; exact HWR.out, HBB.out, HKK.out⟩⟩
end Go.Proofs.Ytaiglhfmmdajdaa.Pm
end
section
namespace Go.Proofs.Ytaiglhfmmdajdaa.Pm
open Go.RowKit Go.Proofs.YtaiglhfmmdajdaaW.PrintWords Go.Proofs.YtaiglhfmmdajdaaW.PrintLast Go.Proofs.YtaiglhfmmdajdaaW.PrintMore
attribute [local go_sem] max2_int min2_int max_two min_two max_three min_three max_four min_four   -- for this text's walks alone
set_option linter.unusedVariables false
set_option linter.unusedSimpArgs false
theorem lit_ints (W : World) (b : Nat) (hb : b = W.heap.size) (e : TypeId) (xs : List Int) (hl : xs.length ≤ 9223372036854775807) : Kd.C (Kd.int .i64) (W.alloc (.cells (nums .i64 xs).toArray e)) (some ⟨b, 0, none⟩) xs.length xs := by
  subst hb
  refine ⟨rfl, hl, fun _ => ⟨_, rfl, fun j p hj => ⟨[.int .i64 p], rfl, rfl, fun i u hu => ?_⟩⟩⟩
  cases i with
  | succ i => simp at hu
  | zero =>
    cases hu
    rw [add_plain]
    have e2 : xs[j]? = some p := hj
    show (W.alloc (.cells (nums .i64 xs).toArray e)).cell? ⟨W.heap.size, j * 1 + 0, none⟩ = _
    unfold World.cell?
    rw [show (⟨W.heap.size, j * 1 + 0, none⟩ : Addr).block = W.heap.size from rfl, heap_alloc_new]
    simp [nums, e2]
theorem Wr.mono {w : World} {g base : Nat} {ok ok' : Nat → Prop} {xs : List Int} (h : Wr w g base ok xs) (hok : ∀ k, ok k → ok' k) : Wr w g base ok' xs := by
  obtain ⟨v, hg, hR⟩ := h
  exact ⟨v, hg, Kd.R_mono hR hok⟩
theorem Wr.below {w w' : World} {g base : Nat} {ok : Nat → Prop} {xs : List Int} (h : Wr w g base ok xs) (hb : Below w.heap.size w w') : Wr w' g base ok xs := by
  obtain ⟨v, hg, hR⟩ := h
  exact ⟨v, blk_below hg hb, Kd.R_below hR hb⟩
theorem Wr.apart {w : World} {g base : Nat} {ok : Nat → Prop} {xs : List Int} (h : Wr w g base ok xs) (a : Nat) (ha : w.heap.size ≤ a) : Wr w g base (fun k => ok k ∧ k ≠ a) xs := by
  obtain ⟨v, hg, hR⟩ := h
  exact ⟨v, hg, Kd.R_elderB hR a ha⟩
theorem Wr.lt {w : World} {g base : Nat} {ok : Nat → Prop} {xs : List Int} (h : Wr w g base ok xs) : g < w.heap.size := by
  obtain ⟨v, hg, hR⟩ := h
  exact blk_lt hg
/-- num of a row that is made for it. -/
theorem num_call (w0 W : World) (g : Nat) (ok : Nat → Prop) (xs : List Int) (hB : Below w0.heap.size w0 W) (hg0 : w0.heap.size ≤ g) (hok : ∀ k, ok k → k ≠ g) (hfr : ∀ k, W.heap.size ≤ k → ok k) (hW : Wr W g w0.heap.size ok xs) (e : TypeId) (l : List Int) (hlim : xs.length + 10 * l.length ≤ 140737488000000) (hl : ∀ n ∈ l, n < 9223372036854775808) (b : Nat) (hb : b = W.heap.size) (m : Nat) (hm : m = l.length) :
    Calls Try.prog 47 #[.pointer (some ⟨g, 0, none⟩), .slice (some ⟨b, 0, none⟩) m m] (W.alloc (.cells (nums .i64 l).toArray e)) (WPost w0 W g ok (xs ++ l.flatMap (numW 10))) := by
  subst hb hm
  have hgl := hW.lt
  have hba := below_alloc (Below.refl W.heap.size W) (.cells (nums .i64 l).toArray e)
  have hsz : (W.alloc (.cells (nums .i64 l).toArray e)).heap.size = W.heap.size + 1 := by simp
  refine (num_any w0 (W.alloc (.cells (nums .i64 l).toArray e)) g (fun k => ok k ∧ k ≠ W.heap.size) xs _ _ l (below_then hB hB.size hba) hg0 (fun k h => hok k h.1) (fun k h => ⟨hfr k (by omega), by omega⟩) ((hW.apart _ (Nat.le_refl _)).below hba) (lit_ints W _ rfl e l (by omega)) (fun ad h => ?_) hlim hl).mono fun e' w' hp => ?_
  · cases h
    exact ⟨by rw [hsz]; exact Nat.lt_succ_self _, fun h => h.2 rfl, by show W.heap.size ≠ g; omega⟩
  · obtain ⟨h1, h2, h3, h4⟩ := hp
    refine ⟨h1, h2.mono (fun k h => h.1), h3, (Kept.of_below hba (fun k => ok k ∨ k = g)).then_ h4 (fun k h => ?_)⟩
    rcases h with h | h
    · exact .inl (.inl h.1)
    · exact .inl (.inr h)
def sgn (n : Int) : Int := if n < 0 then -2 * n - 1 else 2 * n
set_option maxHeartbeats 4000000 in
theorem signed_any (w0 w : World) (g : Nat) (ok : Nat → Prop) (xs : List Int) (x : Int) (hB : Below w0.heap.size w0 w) (hg0 : w0.heap.size ≤ g) (hok : ∀ k, ok k → k ≠ g) (hfr : ∀ k, w.heap.size ≤ k → ok k) (hW : Wr w g w0.heap.size ok xs) (hlim : xs.length + 10 ≤ 140737488000000) (hx : -1000000 ≤ x ∧ x ≤ 1000000) :
    Calls Try.prog 74 #[.pointer (some ⟨g, 0, none⟩), .int .i64 x] w (WPost w0 w g ok (xs ++ numW 10 (sgn x))) := by
  have hc := fun (l : List Int) (h1 : l.length = 1) (h2 : ∀ n ∈ l, n < 9223372036854775808) => num_call w0 w g ok xs hB hg0 hok hfr hW 3 l (by omega) h2 _ rfl 1 h1.symm
  by_cases h0 : x < 0
  · have hcc := hc [-2 * x - 1] rfl (by simp; omega)
    have e : sgn x = -2 * x - 1 := by unfold sgn; rw [if_pos h0]
    rw [e]
    have hw1 : wrap64 (-2 * x) = -2 * x := by unfold wrap64; omega
    have hw2 : wrap64 (-2 * x - 1) = -2 * x - 1 := by unfold wrap64; omega
    have HC := Lib.hid hcc
    clear hc hcc hB hok hfr hW e
    go_enter Try.func74, Try.ntmps74
    go_wp2_with fail
    refine HC.out.mono ?_
    rintro e w' ⟨rfl, h1, h2, h3⟩
    have HH := Lib.hid (And.intro h1 (And.intro h2 h3))
    clear h1 h2 h3 HC
    go_wp2
    go_end0
    exact ⟨rfl, by simpa using HH.out.1, HH.out.2.1, HH.out.2.2⟩
  · have hcc := hc [2 * x] rfl (by simp; omega)
    have e : sgn x = 2 * x := by unfold sgn; rw [if_neg h0]
    rw [e]
    have hw1 : wrap64 (2 * x) = 2 * x := by unfold wrap64; omega
    have HC := Lib.hid hcc
    clear hc hcc hB hok hfr hW e
    go_enter Try.func74, Try.ntmps74
    go_wp2_with fail
    refine HC.out.mono ?_
    rintro e w' ⟨rfl, h1, h2, h3⟩
    have HH := Lib.hid (And.intro h1 (And.intro h2 h3))
    clear h1 h2 h3 HC
    go_wp2
    go_end0
    exact ⟨rfl, by simpa using HH.out.1, HH.out.2.1, HH.out.2.2⟩
end Go.Proofs.Ytaiglhfmmdajdaa.Pm
end
section
namespace Go.Proofs.Ytaiglhfmmdajdaa.Pm
open Go.RowKit Go.Proofs.YtaiglhfmmdajdaaW.PrintWords Go.Proofs.YtaiglhfmmdajdaaW.PrintLast Go.Proofs.YtaiglhfmmdajdaaW.PrintMore
attribute [local go_sem] max2_int min2_int max_two min_two max_three min_three max_four min_four   -- for this text's walks alone
set_option linter.unusedVariables false
set_option linter.unusedSimpArgs false
def St (w0 w wr : World) (g : Nat) (ok : Nat → Prop) (xs : List Int) : Prop := Wr wr g w0.heap.size ok xs ∧ Below w0.heap.size w0 wr ∧ Kept w wr (fun k => ok k ∨ k = g)
def Fx (w0 w : World) (g : Nat) (ok : Nat → Prop) : Prop := w0.heap.size ≤ g ∧ (∀ k, ok k → k ≠ g) ∧ (∀ k, w.heap.size ≤ k → ok k)
section
variable {w0 w wr w2 : World} {g b : Nat} {ok : Nat → Prop} {xs ys : List Int}
theorem St.refl (hW : Wr w g w0.heap.size ok xs) (hB : Below w0.heap.size w0 w) : St w0 w w g ok xs := ⟨hW, hB, Kept.refl _ _⟩
theorem St.below (s : St w0 w wr g ok xs) (hb : Below wr.heap.size wr w2) : St w0 w w2 g ok xs := ⟨s.1.below hb, below_then s.2.1 s.2.1.size hb, s.2.2.below hb⟩
theorem Fx.le (f : Fx w0 w g ok) (s : St w0 w wr g ok xs) : Fx w0 wr g ok := ⟨f.1, f.2.1, fun k hk => f.2.2 k (Nat.le_trans s.2.2.1 hk)⟩
theorem num_st (f : Fx w0 w g ok) (s : St w0 w wr g ok xs) (e : TypeId) (l : List Int) (hlim : xs.length + 10 * l.length ≤ 140737488000000) (hl : ∀ n ∈ l, n < 9223372036854775808) (b : Nat) (hb : b = wr.heap.size) (m : Nat) (hm : m = l.length) :
    Calls Try.prog 47 #[.pointer (some ⟨g, 0, none⟩), .slice (some ⟨b, 0, none⟩) m m] (wr.alloc (.cells (nums .i64 l).toArray e)) fun e w' => e = .returned (.tuple #[]) ∧ St w0 w w' g ok (xs ++ l.flatMap (numW 10)) :=
  (num_call w0 wr g ok xs s.2.1 f.1 f.2.1 (f.le s).2.2 s.1 e l hlim hl b hb m hm).mono fun e' w' h => ⟨h.1, h.2.1, h.2.2.1, s.2.2.then_ h.2.2.2 (fun k hk => .inl hk)⟩
theorem signed_st (f : Fx w0 w g ok) (s : St w0 w wr g ok xs) (x : Int) (hlim : xs.length + 10 ≤ 140737488000000) (hx : -1000000 ≤ x ∧ x ≤ 1000000) :
    Calls Try.prog 74 #[.pointer (some ⟨g, 0, none⟩), .int .i64 x] wr fun e w' => e = .returned (.tuple #[]) ∧ St w0 w w' g ok (xs ++ numW 10 (sgn x)) :=
  (signed_any w0 wr g ok xs x s.2.1 f.1 f.2.1 (f.le s).2.2 s.1 hlim hx).mono fun e' w' h => ⟨h.1, h.2.1, h.2.2.1, s.2.2.then_ h.2.2.2 (fun k hk => .inl hk)⟩
theorem Fx.box (f : Fx w0 w g ok) (s : St w0 w wr g ok xs) (o : Obj) (hb : b = wr.heap.size) : Fx w0 (wr.alloc o) g (fun k => ok k ∧ k ≠ b) := by
  have hsz : (wr.alloc o).heap.size = wr.heap.size + 1 := by simp
  exact ⟨f.1, fun k h => f.2.1 k h.1, fun k hk => ⟨(f.le s).2.2 k (by omega), by omega⟩⟩
theorem St.box (s : St w0 w wr g ok xs) (o : Obj) (hb : b = wr.heap.size) : St w0 (wr.alloc o) (wr.alloc o) g (fun k => ok k ∧ k ≠ b) xs :=
  St.refl ((s.1.apart b (by omega)).below (below_alloc (Below.refl _ _) o)) (below_then s.2.1 s.2.1.size (below_alloc (Below.refl _ _) o))
theorem St.back {o : Obj} (s : St w0 w wr g ok xs) (t : St w0 (wr.alloc o) w2 g (fun k => ok k ∧ k ≠ b) ys) : St w0 w w2 g ok ys :=
  ⟨t.1.mono (fun k h => h.1), t.2.1, (s.2.2.alloc o).then_ t.2.2 (fun k hk => .inl (hk.elim (fun h => .inl h.1) .inr))⟩
theorem St.stay {a : Addr} {v : Value} (s : St w0 w wr g ok xs) (hc : w.cell? a = some v) (h1 : ¬ ok a.block) (h2 : a.block ≠ g) : wr.cell? a = some v := cell_kept hc s.2.2 (fun h => h.elim h1 h2)
variable {P : Program} {md : Region.Mode} {ops : Array Oper} {Q : Exit → Act → World → Prop} {S : World → Prop} {ds : List Nat}
theorem onS_ {n m fuel : Nat} {oi : Oper} {a : Act} {w : World} (i : Nat) (N : Option Tmp)
    (h : ∀ K : Act → World → Prop, Shut (∀ a' w', S w' → (S w' → wpAnyLast P md ops Q S ds fuel (bits n (m ||| 1 <<< i)) a' w') → K a' w') → if Region.wanted oi (yielded ops a.tmps) = true then Oper.wp P oi a w K Q else K (a.put N undef) w)
    (hi : ops[i]? = some oi := by exact rfl) (hN : oi.dst = N := by exact rfl) (hc : readyB md ops (bits n m) (bits n (m ||| 1 <<< i)) i = true := by kernel_rfl) (hd : i ∉ ds := by decide) : wpAnyLast P md ops Q S ds (fuel + 1) (bits n m) a w :=
  one_ _ hi hN hc hd h
end
def idxI (l : List ByteArray) (s : ByteArray) : Int := fidx (fun x => s.toList == x.toList) l
def onW (items : List (S48)) (x : S103) : List Int := numW 10 (placeI items x.f0) ++ numW 10 x.f1
def ifW (fs : List ByteArray) (c : S50) : List Int := numW 10 (idxI fs c.f0) ++ numW 10 (idxI opsL c.f1) ++ numW 10 (sgn c.f2)
def sentW (fs : List ByteArray) (items : List (S48)) (s : S54) : List Int := numW 10 s.f0.length ++ s.f0.flatMap (onW items) ++ numW 10 s.f1.length ++ s.f1.flatMap (ifW fs)
def sentsW (fs : List ByteArray) (items : List (S48)) (l : List (S54)) : List Int := numW 10 l.length ++ l.flatMap (sentW fs items)
def sOk (s : S54) : Prop := s.f0.length ≤ 3 ∧ s.f1.length ≤ 2 ∧ (∀ x ∈ s.f0, x.f1 < 9223372036854775808) ∧ ∀ c ∈ s.f1, -1000000 ≤ c.f2 ∧ c.f2 ≤ 1000000
theorem flat_le {α : Type} (f : α → List Int) (c : Nat) (l : List α) (h : ∀ x ∈ l, (f x).length ≤ c) : (l.flatMap f).length ≤ c * l.length := by
  induction l with
  | nil => simp
  | cons a l ih =>
    rw [List.flatMap_cons, List.length_append, List.length_cons, Nat.mul_succ]
    have h1 := h a (List.mem_cons_self ..)
    have h2 := ih (fun x hx => h x (List.mem_cons_of_mem _ hx))
    omega
theorem onW_le (items : List (S48)) (x : S103) : (onW items x).length ≤ 20 := by
  unfold onW
  rw [List.length_append]
  have := numW_length 10 (placeI items x.f0)
  have := numW_length 10 x.f1
  omega
theorem ifW_le (fs : List ByteArray) (c : S50) : (ifW fs c).length ≤ 30 := by
  unfold ifW
  rw [List.length_append, List.length_append]
  have := numW_length 10 (idxI fs c.f0)
  have := numW_length 10 (idxI opsL c.f1)
  have := numW_length 10 (sgn c.f2)
  omega
theorem sentW_le (fs : List ByteArray) (items : List (S48)) (s : S54) (h : sOk s) : (sentW fs items s).length ≤ 140 := by
  unfold sentW
  rw [List.length_append, List.length_append, List.length_append]
  have := numW_length 10 s.f0.length
  have := numW_length 10 s.f1.length
  have := flat_le (onW items) 20 s.f0 (fun x _ => onW_le items x)
  have := flat_le (ifW fs) 30 s.f1 (fun x _ => ifW_le fs x)
  have := h.1
  have := h.2.1
  omega
theorem take_flat {α : Type} (f : α → List Int) (l : List α) (i : Nat) (hi : i < l.length) : (l.take (i + 1)).flatMap f = (l.take i).flatMap f ++ f (l[i]) := by
  rw [List.take_add_one, List.getElem?_eq_getElem hi, List.flatMap_append]
  simp
theorem index_fidx (l : List ByteArray) (s : ByteArray) (hn : l.length ≤ 9223372036854775807) (d : Nat) : ∀ (i k : Nat), i + d = l.length → d < k → slices_Index_string_string.l0 k l s l.length i = some (match (l.drop i).findIdx? (fun x => s.toList == x.toList) with | some j => ((i + j : Nat) : Int) | none => -1) := by
  induction d with
  | zero =>
    intro i k hi hk
    obtain ⟨k, rfl⟩ : ∃ m, k = m + 1 := ⟨k - 1, by omega⟩
    simp only [slices_Index_string_string.l0]
    rw [if_neg (by omega), List.drop_of_length_le (by omega)]
    rfl
  | succ d ih =>
    intro i k hi hk
    obtain ⟨k, rfl⟩ : ∃ m, k = m + 1 := ⟨k - 1, by omega⟩
    have hlt : i < l.length := by omega
    simp only [slices_Index_string_string.l0]
    rw [if_pos (by omega), if_pos (by omega), if_pos (by omega), rdOf_get _ _ _ hlt, List.drop_eq_getElem_cons hlt, List.findIdx?_cons]
    by_cases he : s.toList = l[i].toList
    · rw [if_pos he]
      rw [show (s.toList == l[i].toList) = true by simpa using he]
      simp
    · rw [if_neg he, show (s.toList == l[i].toList) = false by simpa using he, wrap_lt (n := (l.length : Int)) (by omega) (by omega) (by omega)]
      have := ih (i + 1) k (by omega) (by omega)
      rw [show ((i : Int) + 1) = ((i + 1 : Nat) : Int) by omega, this]
      cases (List.drop (i + 1) l).findIdx? (fun x => s.toList == x.toList) with
      | none => rfl
      | some j => simp only [Option.map_some, Nat.add_assoc, Nat.add_comm 1 j]; rfl
theorem index_call (A : Option Addr) (c : Nat) (l : List ByteArray) (s : ByteArray) (w : World) (hr : Kd.C Kd.string w A l.length l) (hc : l.length ≤ c) :
    Calls Try.prog 69 #[.slice A l.length c, .string s] w fun e w' => e = .returned (.int .i64 (idxI l s)) ∧ Below w.heap.size w w' := by
  refine (slices_Index_string_string.calls (l.length + 1) A c l s (idxI l s) w hr hc ?_).mono fun e w' h => ⟨h.1, h.2.below⟩
  have := index_fidx l s hr.2.1 l.length 0 (l.length + 1) (by omega) (by omega)
  unfold slices_Index_string_string.f
  have e : ((0 : Nat) : Int) = 0 := rfl
  rw [e] at this
  rw [this]
  unfold idxI fidx
  rw [List.drop_zero]
  cases l.findIdx? (fun x => s.toList == x.toList) with
  | none => rfl
  | some j => simp
theorem ops_call (w : World) : Calls Try.prog 73 #[] w fun e w' => ∃ A c, e = .returned (.slice A 6 c) ∧ 6 ≤ c ∧ Kd.C Kd.string w' A 6 opsL ∧ Below w.heap.size w w' := by
  refine (pack_ops.calls opsL w rfl).mono fun e w' h => ?_
  obtain ⟨v, rfl, hR, hB⟩ := h
  obtain ⟨A, c, rfl, hl, hC⟩ := Kd.R_reads hR
  exact ⟨A, c, rfl, hl, hC, hB⟩
set_option maxHeartbeats 8000000 in
set_option maxRecDepth 100000 in
theorem sents_any (w0 w : World) (g : Nat) (ok : Nat → Prop) (xs : List Int) (A0 : Option Addr) (c0 : Nat) (fs : List ByteArray) (A1 : Option Addr) (c1 : Nat) (items : List (S48)) (A2 : Option Addr) (c2 : Nat) (l : List (S54))
    (F : Fx w0 w g ok) (s0 : St w0 w w g ok xs)
    (hr0 : Kd.C Kd.string w0 A0 fs.length fs) (hc0 : fs.length ≤ c0) (hr1 : Kd.C k48 w0 A1 items.length items) (hc1 : items.length ≤ c1) (hr2 : Kd.C k54 w0 A2 l.length l) (hc2 : l.length ≤ c2)
    (hl : l.length ≤ 3) (hs : ∀ s ∈ l, sOk s) (hlim : xs.length + 1000 ≤ 140737488000000) :
    Calls Try.prog 50 #[.pointer (some ⟨g, 0, none⟩), .agg #[.slice A0 fs.length c0, .slice A1 items.length c1], .slice A2 l.length c2] w fun e w' => e = .returned (.tuple #[]) ∧ St w0 w w' g ok (xs ++ sentsW fs items l) := by
  have hu25 := Try.underlying25
  have hu54 := Try.underlying54
  have hu103 := Try.underlying103
  have hu50 := Try.underlying50
  have F1 := Lib.hid (F.box (b := w.heap.size) s0 (.cells #[.slice A0 fs.length c0, .slice A1 items.length c1] 25) rfl)
  have s1 := s0.box (b := w.heap.size) (.cells #[.slice A0 fs.length c0, .slice A1 items.length c1] 25) rfl
  have HS0 := Lib.hid s0
  have HR := Lib.hid (And.intro hr0 (And.intro hr1 hr2))
  have HS := Lib.hid hs
  have hgl := s0.1.lt
  obtain ⟨n, hn⟩ : ∃ n, n = l.length := ⟨_, rfl⟩
  rw [← hn] at hl hc2 ⊢
  have HN := Lib.hid hn
  have HF := Lib.hid F
  clear s0 hr0 hr1 hr2 hs hn F
  go_enter Try.func50, Try.ntmps50
  go_wp2_with fail
  obtain ⟨W1, hW1⟩ : ∃ W1, W1 = w.alloc (.cells #[.slice A0 fs.length c0, .slice A1 items.length c1] 25) := ⟨_, rfl⟩
  have hb1 : W1.heap.size = w.heap.size + 1 := by rw [hW1]; simp
  have hm0 : W1.cell? ⟨w.heap.size, 0, none⟩ = some (.slice A0 fs.length c0) := by rw [hW1]; simp
  have hm1 : W1.cell? ⟨w.heap.size, 1, none⟩ = some (.slice A1 items.length c1) := by rw [hW1]; simp
  rw [← hW1] at F1 s1 ⊢
  have HW1 := Lib.hid hW1
  clear hW1
  have HM := Lib.hid (And.intro hm0 hm1)
  have HZ1 := Lib.hid hb1
  refine (num_st F1.out s1 3 [(n : Int)] (by simp; omega) (by simp; omega) (w.heap.size + 1) hb1.symm 1 rfl).mono ?_
  rintro e w2 ⟨rfl, s2⟩
  have HS2 := Lib.hid s2
  clear s1 s2 hb1 hm0 hm1
  go_wp2
  go_loopg [19] n (fun gg s19 wr => ∃ i : Nat, s19 = .int .i64 i ∧ i ≤ n ∧ n - i ≤ gg ∧ Hid (St w0 W1 wr g (fun k => ok k ∧ k ≠ w.heap.size) (xs ++ numW 10 n ++ (l.take i).flatMap (sentW fs items))))
  case atStart => exact ⟨0, rfl, Nat.zero_le _, by omega, Lib.hid (by simpa using HS2.out)⟩
  case round =>
    obtain ⟨i, rfl, hin, hig, X⟩ := hrel
    obtain ⟨wO, rfl⟩ : ∃ wO, wO = wr := ⟨_, rfl⟩
    by_cases hlt : i < n
    case neg =>
      have hltz : ¬ (i : Int) < (n : Int) := by omega
      obtain rfl : n = i := by omega
      go_wp2
      go_end0
      refine ⟨rfl, ?_⟩
      have h1 := X.out
      rw [HW1.out, show l.take n = l by rw [HN.out, List.take_length]] at h1
      have h2 := HS0.out.back h1
      unfold sentsW
      rw [← HN.out, ← List.append_assoc]
      exact h2
    have hltz : (i : Int) < (n : Int) := by omega
    obtain ⟨ad, B0, d0, B1, d1, e, hx0, hx1, hl0, hC0, hl1, hC1⟩ := at_T54 HR.out.2.2 (i : Int) (by omega) (by have := HN.out; omega)
    cases e
    simp only [Int.toNat_natCast] at hx0 hx1
    have hil : i < l.length := by have := HN.out; omega
    obtain ⟨s, hsx⟩ : ∃ s, s = rd_T54 l (i : Int) := ⟨_, rfl⟩
    have hsl : s = l[i] := by rw [hsx]; simp [rd_T54, List.getD_eq_getElem?_getD, List.getElem?_eq_getElem hil]
    rw [← hsx] at hx0 hx1 hC0 hC1 hl0 hl1
    have hsok : sOk s := by rw [hsl]; exact HS.out _ (List.getElem_mem _)
    have hnx := take_flat (sentW fs items) l i hil
    rw [← hsl] at hnx
    have hx0 := keepc X.out.2.1 hx0
    have hx1 := keepc X.out.2.1 hx1
    obtain ⟨ys, hys⟩ : ∃ ys, ys = xs ++ numW 10 n ++ (l.take i).flatMap (sentW fs items) := ⟨_, rfl⟩
    have hyl : ys.length + 500 ≤ 140737488000000 := by
      rw [hys, List.length_append, List.length_append]
      have h1 := numW_length 10 (n : Int)
      have h2 := flat_le (sentW fs items) 140 (l.take i) (fun x hx => sentW_le fs items x (HS.out x (List.mem_of_mem_take hx)))
      rw [List.length_take] at h2
      omega
    rw [← hys] at X
    have HYS := Lib.hid hys
    have HNX := Lib.hid hnx
    obtain ⟨n0, hn0⟩ : ∃ n0, n0 = s.f0.length := ⟨_, rfl⟩
    obtain ⟨n1, hn1⟩ : ∃ n1, n1 = s.f1.length := ⟨_, rfl⟩
    rw [← hn0] at hx0 hl0 hC0
    rw [← hn1] at hx1 hl1 hC1
    have hn03 : n0 ≤ 3 := by have := hsok.1; omega
    have hn12 : n1 ≤ 2 := by have := hsok.2.1; omega
    have HN0 := Lib.hid hn0
    have HN1 := Lib.hid hn1
    have HOK := Lib.hid hsok
    have HC0 := Lib.hid hC0
    have HC1 := Lib.hid hC1
    clear hys hnx hn0 hn1 hsok hC0 hC1 hsl hsx hil
    go_wp2_with fail
    clear hx0 hx1
    obtain ⟨W2, hW2⟩ : ∃ W2, W2 = wO.alloc (.cells #[.slice B0 n0 d0, .slice B1 n1 d1] 54) := ⟨_, rfl⟩
    have hwr1 : w.heap.size + 1 ≤ wO.heap.size := by have := X.out.2.2.1; have := HZ1.out; omega
    have hb2 : W2.heap.size = wO.heap.size + 1 := by rw [hW2]; simp
    have hs0 : W2.cell? ⟨wO.heap.size, 0, none⟩ = some (.slice B0 n0 d0) := by rw [hW2]; simp
    have hs1 : W2.cell? ⟨wO.heap.size, 1, none⟩ = some (.slice B1 n1 d1) := by rw [hW2]; simp
    have hgne : w.heap.size ≠ g := by omega
    have hm0 : W2.cell? ⟨w.heap.size, 0, none⟩ = some (.slice A0 fs.length c0) := by rw [hW2]; exact keepc (below_alloc (Below.refl _ _) _) (X.out.stay HM.out.1 (fun h => h.2 rfl) hgne)
    have hm1 : W2.cell? ⟨w.heap.size, 1, none⟩ = some (.slice A1 items.length c1) := by rw [hW2]; exact keepc (below_alloc (Below.refl _ _) _) (X.out.stay HM.out.2 (fun h => h.2 rfl) hgne)
    have F2 := F1.out.box (b := wO.heap.size) X.out (.cells #[.slice B0 n0 d0, .slice B1 n1 d1] 54) rfl
    have t2 := X.out.box (b := wO.heap.size) (.cells #[.slice B0 n0 d0, .slice B1 n1 d1] 54) rfl
    rw [← hW2] at F2 t2 ⊢
    have HW2 := Lib.hid hW2
    have HF2 := Lib.hid F2
    have HM2 := Lib.hid (And.intro hm0 (And.intro hm1 (And.intro hs0 hs1)))
    have HSZ := Lib.hid (And.intro hb2 hwr1)
    obtain ⟨ok2, hok2⟩ : ∃ ok2, ok2 = (fun k => (ok k ∧ k ≠ w.heap.size) ∧ k ≠ wO.heap.size) := ⟨_, rfl⟩
    rw [← hok2] at HF2 t2
    have hb2k : ∀ k, ok2 k → k ≠ w.heap.size ∧ k ≠ wO.heap.size := by rw [hok2]; exact fun k h => ⟨h.1.2, h.2⟩
    have HO2 := Lib.hid hok2
    have HK2 := Lib.hid hb2k
    clear hW2 F2 hm0 hm1 hs0 hs1 hok2 hb2k
    refine (num_st HF2.out t2 3 [(n0 : Int)] (by simp; omega) (by simp; omega) (wO.heap.size + 1) hb2.symm 1 rfl).mono ?_
    clear hb2
    rintro e w3 ⟨rfl, s3⟩
    have HS3 := Lib.hid s3
    clear s3 t2
    have hwg : wO.heap.size ≠ g := by have := HSZ.out.2; omega
    have hs0 := HS3.out.stay HM2.out.2.2.1 (fun h => (HK2.out _ h).2 rfl) hwg
    go_wp2
    clear hs0
    go_loopg [32] n0 (fun gg s32 wq => ∃ j : Nat, s32 = .int .i64 j ∧ j ≤ n0 ∧ n0 - j ≤ gg ∧ Hid (St w0 W2 wq g ok2 (ys ++ numW 10 n0 ++ (s.f0.take j).flatMap (onW items))))
    case atStart => exact ⟨0, rfl, Nat.zero_le _, by omega, Lib.hid (by simpa using HS3.out)⟩
    case round =>
      obtain ⟨j, rfl, hjn, hjg, Y⟩ := hrel
      obtain ⟨wq, rfl⟩ : ∃ wq, wq = wr := ⟨_, rfl⟩
      by_cases hlj : j < n0
      case pos =>
        have hltj : (j : Int) < (n0 : Int) := by omega
        obtain ⟨ao, e, hy0, hy1⟩ := at_T103 HC0.out (j : Int) (by omega) (by omega)
        cases e
        simp only [Int.toNat_natCast] at hy0 hy1
        have hjl : j < s.f0.length := by have := HN0.out; omega
        obtain ⟨x, hx⟩ : ∃ x, x = rd_T103 s.f0 (j : Int) := ⟨_, rfl⟩
        have hxl : x = s.f0[j] := by rw [hx]; simp [rd_T103, List.getD_eq_getElem?_getD, List.getElem?_eq_getElem hjl]
        rw [← hx] at hy0 hy1
        have hnx := take_flat (onW items) s.f0 j hjl
        rw [← hxl] at hnx
        have hx63 : x.f1 < 9223372036854775808 := by rw [hxl]; exact HOK.out.2.2.1 _ (List.getElem_mem _)
        have hy0 := keepc Y.out.2.1 hy0
        have hy1 := keepc Y.out.2.1 hy1
        have hs0 := Y.out.stay HM2.out.2.2.1 (fun h => (HK2.out _ h).2 rfl) hwg
        obtain ⟨zs, hzs⟩ : ∃ zs, zs = ys ++ numW 10 n0 ++ (s.f0.take j).flatMap (onW items) := ⟨_, rfl⟩
        have hzl : zs.length + 100 ≤ 140737488000000 := by
          rw [hzs, List.length_append, List.length_append]
          have h1 := numW_length 10 (n0 : Int)
          have h2 := flat_le (onW items) 20 (s.f0.take j) (fun x hx => onW_le items x)
          rw [List.length_take] at h2
          omega
        rw [← hzs] at Y
        have HZS := Lib.hid hzs
        have HNJ := Lib.hid hnx
        have HX63 := Lib.hid hx63
        have HZL := Lib.hid hzl
        clear hzs hnx hx hxl hjl hx63 hzl
        go_wp2
        clear hy0 hy1 hs0
        have hwq1 : W2.heap.size ≤ wq.heap.size := Y.out.2.2.1
        have hm0 := Y.out.stay HM2.out.1 (fun h => (HK2.out _ h).1 rfl) hgne
        have hm1 := Y.out.stay HM2.out.2.1 (fun h => (HK2.out _ h).1 rfl) hgne
        obtain ⟨W3, hW3⟩ : ∃ W3, W3 = wq.alloc (.cells #[.string x.f0, .int .i64 x.f1] 103) := ⟨_, rfl⟩
        have hb3 : W3.heap.size = wq.heap.size + 1 := by rw [hW3]; simp
        have hx0 : W3.cell? ⟨wq.heap.size, 0, none⟩ = some (.string x.f0) := by rw [hW3]; simp
        have hx1 : W3.cell? ⟨wq.heap.size, 1, none⟩ = some (.int .i64 x.f1) := by rw [hW3]; simp
        have hm0 := keepc (by rw [hW3]; exact below_alloc (Below.refl _ _) _ : Below wq.heap.size wq W3) hm0
        have hm1 := keepc (by rw [hW3]; exact below_alloc (Below.refl _ _) _ : Below wq.heap.size wq W3) hm1
        have F3 := (HF2.out.box (b := wq.heap.size) Y.out (.cells #[.string x.f0, .int .i64 x.f1] 103) rfl)
        have t3 := (Y.out.box (b := wq.heap.size) (.cells #[.string x.f0, .int .i64 x.f1] 103) rfl)
        rw [← hW3] at F3 t3 ⊢
        have HW3 := Lib.hid hW3
        have HF3 := Lib.hid F3
        have HB3 := Lib.hid hb3
        have HC3 := Lib.hid (And.intro hm0 (And.intro hm1 (And.intro hx0 hx1)))
        clear hW3 F3 hb3
        refine st_ (fun w' => w'.cell? ⟨w.heap.size, 0, none⟩ = some (.slice A0 fs.length c0) ∧ w'.cell? ⟨w.heap.size, 1, none⟩ = some (.slice A1 items.length c1) ∧ w'.cell? ⟨wq.heap.size, 0, none⟩ = some (.string x.f0) ∧ w'.cell? ⟨wq.heap.size, 1, none⟩ = some (.int .i64 x.f1)) 9 ⟨hm0, hm1, hx0, hx1⟩ (fun hHeld => ?_)
        clear hm0 hm1 hx0 hx1
        have t4 := t3.below (below_drew1 (Below.refl _ _))
        clear t3
        refine pu_ 0 (some 36) ?_
        refine tk_ 1 (some 37) hHeld ?_ (hy := by rintro w' ⟨s0, s1, s2, s3⟩; go_simp; with_reducible rfl)
        refine pu_ 2 (some 38) ?_
        refine tk_ 3 (some 39) hHeld ?_ (hy := by rintro w' ⟨s0, s1, s2, s3⟩; go_simp; with_reducible rfl)
        refine pu_ 5 (some 41) ?_
        refine tk_ 6 (some 42) hHeld ?_ (hy := by rintro w' ⟨s0, s1, s2, s3⟩; go_simp; with_reducible rfl)

        generalize W3.drew = wD at hHeld t4 ⊢
        refine ca_ 4 (some 40) Try.func48 #[.agg #[.slice A0 fs.length c0, .slice A1 items.length c1], .string x.f0] ?_
        refine (model_Place.calls A0 c0 fs A1 c1 items x.f0 (placeI items x.f0) wD (Kd.C_below HR.out.1 t4.2.1) hc0 (Kd.C_below HR.out.2.1 t4.2.1) hc1 rfl).mono ?_
        rintro e wP ⟨rfl, hbP⟩
        have t5 := t4.below hbP
        have hH5 : _ ∧ _ ∧ _ ∧ _ := ⟨keepc hbP hHeld.1, keepc hbP hHeld.2.1, keepc hbP hHeld.2.2.1, keepc hbP hHeld.2.2.2⟩
        clear hHeld t4
        refine ⟨_, rfl, hH5, fun _ => ⟨_, rfl, nz_ (some 40) ?_⟩⟩
        have hp63 : placeI items x.f0 < 9223372036854775808 := by have := placeI_lt items x.f0; have := HR.out.2.1.2.1; omega
        obtain ⟨p, hp⟩ : ∃ p, p = placeI items x.f0 := ⟨_, rfl⟩
        rw [← hp] at hp63 ⊢
        have HP := Lib.hid hp
        clear hp
        refine onS_ 7 (some 43) (fun K hK => ?_)
        go_simp
        refine hK.out _ _ ⟨keepc (below_alloc (Below.refl _ _) _) hH5.1, keepc (below_alloc (Below.refl _ _) _) hH5.2.1, keepc (below_alloc (Below.refl _ _) _) hH5.2.2.1, keepc (below_alloc (Below.refl _ _) _) hH5.2.2.2⟩ (fun _ => ?_)
        clear hK K
        have hnum := num_st HF3.out t5 3 [p, x.f1] (by have := HZL.out; simp; omega) (by have := HX63.out; simp; omega) wP.heap.size rfl 2 rfl
        refine ca_ 8 (some 44) Try.func47 #[.pointer (some ⟨g, 0, none⟩), .slice (some ⟨wP.heap.size, 0, none⟩) 2 2] ?_
        refine hnum.mono ?_
        rintro e w6 ⟨rfl, t6⟩
        have hqg : wq.heap.size ≠ g := by have := HSZ.out; omega
        refine ⟨_, rfl, ⟨t6.stay HC3.out.1 (fun h => (HK2.out _ h.1).1 rfl) hgne, t6.stay HC3.out.2.1 (fun h => (HK2.out _ h.1).1 rfl) hgne, t6.stay HC3.out.2.2.1 (fun h => h.2 rfl) hqg, t6.stay HC3.out.2.2.2 (fun h => h.2 rfl) hqg⟩, fun _ => ⟨_, rfl, nz_ (some 44) ?_⟩⟩
        refine dn_ ?_
        have HT := Lib.hid (Y.out.back (HW3.out ▸ t6))
        clear t5 t6 hH5 hnum hp63
        go_wp2
        go_roundg (n0 - (j + 1))
        case measure => omega
        case rel => exact ⟨j + 1, by go_num, by omega, by omega, Lib.hid (by rw [HNJ.out, ← List.append_assoc, ← HZS.out]; simpa [onW, HP.out] using HT.out)⟩
      have hltj : ¬ (j : Int) < (n0 : Int) := by omega
      obtain rfl : n0 = j := by omega
      have hs1 := Y.out.stay HM2.out.2.2.2 (fun h => (HK2.out _ h).2 rfl) hwg
      have hY := Y.out
      rw [show s.f0.take n0 = s.f0 by rw [HN0.out, List.take_length]] at hY
      obtain ⟨us, hus⟩ : ∃ us, us = ys ++ numW 10 n0 ++ s.f0.flatMap (onW items) := ⟨_, rfl⟩
      have hul : us.length + 200 ≤ 140737488000000 := by
        rw [hus, List.length_append, List.length_append]
        have h1 := numW_length 10 (n0 : Int)
        have h2 := flat_le (onW items) 20 s.f0 (fun x hx => onW_le items x)
        have := HN0.out
        omega
      rw [← hus] at hY
      have HUS := Lib.hid hus
      have HY := Lib.hid hY
      have HUL := Lib.hid hul
      clear hus hY hul Y
      go_wp2_with fail
      clear hs1
      refine (num_st HF2.out HY.out 3 [(n1 : Int)] (by have := HUL.out; simp; omega) (by simp; omega) wq.heap.size rfl 1 rfl).mono ?_
      rintro e w4 ⟨rfl, s4⟩
      have HS4 := Lib.hid s4
      clear s4 HY
      have hs1 := HS4.out.stay HM2.out.2.2.2 (fun h => (HK2.out _ h).2 rfl) hwg
      go_wp2
      clear hs1
      go_loopg [55] n1 (fun gg s55 wr => ∃ j : Nat, s55 = .int .i64 j ∧ j ≤ n1 ∧ n1 - j ≤ gg ∧ Hid (St w0 W2 wr g ok2 (us ++ numW 10 n1 ++ (s.f1.take j).flatMap (ifW fs))))
      case atStart => exact ⟨0, rfl, Nat.zero_le _, by omega, Lib.hid (by simpa using HS4.out)⟩
      case round =>
        obtain ⟨j, rfl, hjn, hjg, Y⟩ := hrel
        obtain ⟨wz, rfl⟩ : ∃ wz, wz = wr := ⟨_, rfl⟩
        by_cases hlk : j < n1
        case neg =>
          have hltj : ¬ (j : Int) < (n1 : Int) := by omega
          obtain rfl : n1 = j := by omega
          have hY := Y.out
          rw [show s.f1.take n1 = s.f1 by rw [HN1.out, List.take_length]] at hY
          have HT : Hid (St w0 W1 wz g (fun k => ok k ∧ k ≠ w.heap.size) (xs ++ numW 10 n ++ (l.take (i + 1)).flatMap (sentW fs items))) := Lib.hid (by
            rw [HO2.out, HW2.out] at hY
            have h2 := X.out.back hY
            rw [HNX.out, ← List.append_assoc, ← HYS.out]
            unfold sentW
            rw [← HN0.out, ← HN1.out, ← List.append_assoc, ← List.append_assoc, ← List.append_assoc, ← HUS.out]
            exact h2)
          clear hY
          go_wp2
          go_roundg (n - (i + 1))
          case measure => omega
          case rel => exact ⟨i + 1, by go_num, by omega, by omega, HT⟩
        have hltj : (j : Int) < (n1 : Int) := by omega
        obtain ⟨ao, e, hy0, hy1, hy2⟩ := at_T50 HC1.out (j : Int) (by omega) (by omega)
        cases e
        simp only [Int.toNat_natCast] at hy0 hy1 hy2
        have hjl : j < s.f1.length := by have := HN1.out; omega
        obtain ⟨x, hx⟩ : ∃ x, x = rd_T50 s.f1 (j : Int) := ⟨_, rfl⟩
        have hxl : x = s.f1[j] := by rw [hx]; simp [rd_T50, List.getD_eq_getElem?_getD, List.getElem?_eq_getElem hjl]
        rw [← hx] at hy0 hy1 hy2
        have hnx := take_flat (ifW fs) s.f1 j hjl
        rw [← hxl] at hnx
        have hxm : -1000000 ≤ x.f2 ∧ x.f2 ≤ 1000000 := by rw [hxl]; exact HOK.out.2.2.2 _ (List.getElem_mem _)
        have hy0 := keepc Y.out.2.1 hy0
        have hy1 := keepc Y.out.2.1 hy1
        have hy2 := keepc Y.out.2.1 hy2
        obtain ⟨zs, hzs⟩ : ∃ zs, zs = us ++ numW 10 n1 ++ (s.f1.take j).flatMap (ifW fs) := ⟨_, rfl⟩
        have hzl : zs.length + 100 ≤ 140737488000000 := by
          rw [hzs, List.length_append, List.length_append]
          have h1 := numW_length 10 (n1 : Int)
          have h2 := flat_le (ifW fs) 30 (s.f1.take j) (fun x hx => ifW_le fs x)
          rw [List.length_take] at h2
          have := HUL.out
          omega
        rw [← hzs] at Y
        have HZS := Lib.hid hzs
        have HNJ := Lib.hid hnx
        have HXM := Lib.hid hxm
        have HZL := Lib.hid hzl
        clear hzs hnx hx hxl hjl hxm hzl
        go_wp2
        clear hy0 hy1 hy2
        have hwq1 : W2.heap.size ≤ wz.heap.size := Y.out.2.2.1
        have hm0 := Y.out.stay HM2.out.1 (fun h => (HK2.out _ h).1 rfl) hgne
        obtain ⟨W3, hW3⟩ : ∃ W3, W3 = wz.alloc (.cells #[.string x.f0, .string x.f1, .int .i64 x.f2] 50) := ⟨_, rfl⟩
        have hb3 : W3.heap.size = wz.heap.size + 1 := by rw [hW3]; simp
        have hx0 : W3.cell? ⟨wz.heap.size, 0, none⟩ = some (.string x.f0) := by rw [hW3]; simp
        have hx1 : W3.cell? ⟨wz.heap.size, 1, none⟩ = some (.string x.f1) := by rw [hW3]; simp
        have hx2 : W3.cell? ⟨wz.heap.size, 2, none⟩ = some (.int .i64 x.f2) := by rw [hW3]; simp
        have hm0 := keepc (by rw [hW3]; exact below_alloc (Below.refl _ _) _ : Below wz.heap.size wz W3) hm0
        have F3 := (HF2.out.box (b := wz.heap.size) Y.out (.cells #[.string x.f0, .string x.f1, .int .i64 x.f2] 50) rfl)
        have t3 := (Y.out.box (b := wz.heap.size) (.cells #[.string x.f0, .string x.f1, .int .i64 x.f2] 50) rfl)
        rw [← hW3] at F3 t3 ⊢
        have HW3 := Lib.hid hW3
        have HF3 := Lib.hid F3
        have HB3 := Lib.hid hb3
        have HC3 := Lib.hid (And.intro hm0 (And.intro hx0 (And.intro hx1 hx2)))
        clear hW3 F3 hb3
        refine st_ (fun w' => w'.cell? ⟨w.heap.size, 0, none⟩ = some (.slice A0 fs.length c0) ∧ w'.cell? ⟨wz.heap.size, 0, none⟩ = some (.string x.f0) ∧ w'.cell? ⟨wz.heap.size, 1, none⟩ = some (.string x.f1) ∧ w'.cell? ⟨wz.heap.size, 2, none⟩ = some (.int .i64 x.f2)) 12 ⟨hm0, hx0, hx1, hx2⟩ (fun hHeld => ?_)
        clear hm0 hx0 hx1 hx2
        have t4 := t3.below (below_drew1 (Below.refl _ _))
        clear t3
        refine pu_ 0 (some 59) ?_
        refine pu_ 1 (some 60) ?_
        refine tk_ 2 (some 61) hHeld ?_ (hy := by rintro w' ⟨s0, s1, s2, s3⟩; go_simp; with_reducible rfl)
        refine pu_ 3 (some 62) ?_
        refine tk_ 4 (some 63) hHeld ?_ (hy := by rintro w' ⟨s0, s1, s2, s3⟩; go_simp; with_reducible rfl)
        refine pu_ 7 (some 66) ?_
        refine tk_ 8 (some 67) hHeld ?_ (hy := by rintro w' ⟨s0, s1, s2, s3⟩; go_simp; with_reducible rfl)
        generalize W3.drew = wD at hHeld t4 ⊢
        refine ca_ 5 (some 64) Try.func69 #[.slice A0 fs.length c0, .string x.f0] ?_
        refine (index_call A0 c0 fs x.f0 wD (Kd.C_below HR.out.1 t4.2.1) hc0).mono ?_
        rintro e wP ⟨rfl, hbP⟩
        have t5 := t4.below hbP
        have hH5 : _ ∧ _ ∧ _ ∧ _ := ⟨keepc hbP hHeld.1, keepc hbP hHeld.2.1, keepc hbP hHeld.2.2.1, keepc hbP hHeld.2.2.2⟩
        clear hHeld t4
        refine ⟨_, rfl, hH5, fun _ => ⟨_, rfl, nz_ (some 64) ?_⟩⟩
        refine ca_ 6 (some 65) Try.func73 #[] ?_
        refine (ops_call wP).mono ?_
        rintro e wQ ⟨Ao, co, rfl, hco, hCo, hbQ⟩
        have t6 := t5.below hbQ
        have hH6 : _ ∧ _ ∧ _ ∧ _ := ⟨keepc hbQ hH5.1, keepc hbQ hH5.2.1, keepc hbQ hH5.2.2.1, keepc hbQ hH5.2.2.2⟩
        clear hH5 t5
        refine ⟨_, rfl, hH6, fun _ => ⟨_, rfl, nz_ (some 65) ?_⟩⟩
        refine ca_ 9 (some 68) Try.func69 #[.slice Ao 6 co, .string x.f1] ?_
        refine (index_call Ao co opsL x.f1 wQ hCo hco).mono ?_
        rintro e wR ⟨rfl, hbR⟩
        have t7 := t6.below hbR
        have hH7 : _ ∧ _ ∧ _ ∧ _ := ⟨keepc hbR hH6.1, keepc hbR hH6.2.1, keepc hbR hH6.2.2.1, keepc hbR hH6.2.2.2⟩
        clear hH6 t6
        refine ⟨_, rfl, hH7, fun _ => ⟨_, rfl, nz_ (some 68) ?_⟩⟩
        have hp63 : idxI fs x.f0 < 9223372036854775808 := by have : idxI fs x.f0 < fs.length := fidx_lt _ _; have := HR.out.1.2.1; omega
        have hq63 : idxI opsL x.f1 < 9223372036854775808 := by have : idxI opsL x.f1 < opsL.length := fidx_lt _ _; have : opsL.length = 6 := rfl; omega
        obtain ⟨p, hp⟩ : ∃ p, p = idxI fs x.f0 := ⟨_, rfl⟩
        obtain ⟨q, hq⟩ : ∃ q, q = idxI opsL x.f1 := ⟨_, rfl⟩
        rw [← hp] at hp63 ⊢
        rw [← hq] at hq63 ⊢
        have HP := Lib.hid hp
        have HQ := Lib.hid hq
        clear hp hq
        refine onS_ 10 (some 69) (fun K hK => ?_)
        go_simp
        refine hK.out _ _ ⟨keepc (below_alloc (Below.refl _ _) _) hH7.1, keepc (below_alloc (Below.refl _ _) _) hH7.2.1, keepc (below_alloc (Below.refl _ _) _) hH7.2.2.1, keepc (below_alloc (Below.refl _ _) _) hH7.2.2.2⟩ (fun _ => ?_)
        clear hK K
        have hnum := num_st HF3.out t7 3 [p, q] (by have := HZL.out; simp; omega) (by simp; omega) wR.heap.size rfl 2 rfl
        refine ca_ 11 (some 70) Try.func47 #[.pointer (some ⟨g, 0, none⟩), .slice (some ⟨wR.heap.size, 0, none⟩) 2 2] ?_
        refine hnum.mono ?_
        rintro e w8 ⟨rfl, t8⟩
        have hqg : wz.heap.size ≠ g := by have := HSZ.out; omega
        refine ⟨_, rfl, ⟨t8.stay HC3.out.1 (fun h => (HK2.out _ h.1).1 rfl) hgne, t8.stay HC3.out.2.1 (fun h => h.2 rfl) hqg, t8.stay HC3.out.2.2.1 (fun h => h.2 rfl) hqg, t8.stay HC3.out.2.2.2 (fun h => h.2 rfl) hqg⟩, fun _ => ⟨_, rfl, nz_ (some 70) ?_⟩⟩
        refine dn_ ?_
        have hx2 := t8.stay HC3.out.2.2.2 (fun h => h.2 rfl) hqg
        have HT8 := Lib.hid t8
        clear t7 t8 hH7 hnum hp63 hq63 hCo hco
        go_wp2_with fail
        clear hx2
        refine (signed_st HF3.out HT8.out x.f2 (by have := HZL.out; have := numW_length 10 p; have := numW_length 10 q; simp; omega) HXM.out).mono ?_
        rintro e w9 ⟨rfl, t9⟩
        have HT := Lib.hid (Y.out.back (HW3.out ▸ t9))
        clear t9
        go_wp2
        go_roundg (n1 - (j + 1))
        case measure => omega
        case rel => exact ⟨j + 1, by go_num, by omega, by omega, Lib.hid (by rw [HNJ.out, ← List.append_assoc, ← HZS.out]; simpa [ifW, HP.out, HQ.out] using HT.out)⟩
end Go.Proofs.Ytaiglhfmmdajdaa.Pm
end
section
namespace Go.Proofs.Ytaiglhfmmdajdaa.Pm
open Go.RowKit Go.Proofs.YtaiglhfmmdajdaaW.PrintWords Go.Proofs.YtaiglhfmmdajdaaW.PrintLast Go.Proofs.YtaiglhfmmdajdaaW.PrintMore
attribute [local go_sem] max2_int min2_int max_two min_two max_three min_three max_four min_four   -- for this text's walks alone
set_option linter.unusedVariables false
set_option linter.unusedSimpArgs false
theorem R_void {α : Type} (d : Kd α) (e base : Nat) (w : World) (ok : Nat → Prop) (hok : ok w.heap.size) (hb : base ≤ w.heap.size) : d.R e (w.alloc (.cells #[] e)) base ok (.slice (some ⟨w.heap.size, 0, none⟩) 0 0) [] := by
  refine ⟨fun k hk => ?_, [], ?_, ⟨by simp, fun j p hj => by simp at hj⟩⟩
  · have : w.heap.size = k := by simpa [Value.ownBlock] using hk
    subst this
    exact hok
  · have h2 := World.ownsRow_lit (base := base) (e := e) (size := d.sz) w #[] 0 hb (by simp [maxLen]) (by simp)
    simpa using h2
theorem strCells_encs (s : ByteArray) : Lib.strCells s = encs (Value.int .u8) (bytesOf s) := by
  unfold Lib.strCells encs bytesOf
  rw [List.map_map]
  rfl
theorem bytesOf_length (s : ByteArray) : (bytesOf s).length = s.size := by
  unfold bytesOf
  rw [List.length_map, Array.length_toList]
  rfl
theorem own_str_run {P : Program} (w : World) (base : Nat) (t u ty e : TypeId) (i : TypeInfo) (ht : P.underlying t = some (.slice e)) (hu : P.underlying u = some .string) (hi : P.info? e = some i) (hz : i.zero = some (.int .u8 0)) (hsize : i.size = 1) (hby : i.bytes = 1)
    (v : Value) (n : Nat) (xs : List Value) (hown : w.ownsRow base e 1 v n xs) (s : ByteArray) (hbytes : n + s.size ≤ 140737488355328) (hbase : base ≤ w.heap.size) :
    ∃ v' w', (Builtin.append_ #[t, u] ty #[v, .string s]).run P w = .ok v' w' ∧ w'.ownsRow base e 1 v' (n + s.size) (xs ++ Lib.strCells s) ∧ w.grownBy w' v.ownBlock ∧ (v'.ownBlock = v.ownBlock ∨ ∃ b, v'.ownBlock = some b ∧ w.heap.size ≤ b) := by
  obtain ⟨v', w', hr, h2, h3, h4⟩ := Lib.run_append_own_string (P := P) w base t u ty e i ht hu hi hz hsize hby v n xs hown s (by simp [maxLen]; omega) hbytes hbase
  refine ⟨v', w', hr, h2, h3, ?_⟩
  rcases hown.2 with ⟨rfl, rfl⟩ | ⟨g, cap, cur, rfl, hbg, hg, hnc, hcm, hcs, htake⟩
  · by_cases hm : s.size = 0
    · rw [h4.2 ⟨rfl, hm⟩]
      exact .inl rfl
    · have hr' := run_append_nil_string (P := P) w t u ty e i (.int .u8 0) ht hu hi hz s (by omega) (by omega) (by rw [hby]; omega)
      rw [hr'] at hr
      simp only [Result.ok.injEq] at hr
      obtain ⟨rfl, -⟩ := hr
      exact .inr ⟨_, rfl, Nat.le_refl _⟩
  · by_cases hroom : n + s.size ≤ cap
    · have hr' := Lib.run_append_room_string (P := P) w t u ty e i ht hu hi hsize g n cap cur hg s hroom (by omega)
      rw [hr'] at hr
      simp only [Result.ok.injEq] at hr
      obtain ⟨rfl, -⟩ := hr
      exact .inl rfl
    · have hxl : xs.length = n := by simpa using hown.1
      have hr' := Lib.run_append_grow_string (P := P) w t u ty e i (.int .u8 0) ht hu hi hz ⟨g, 0, none⟩ n cap xs (by rw [hsize]; simpa using hxl) (hown.cells (g := g) rfl) s (by omega) (by omega) (by rw [hby]; exact growslice_fits (by omega) (by omega))
      rw [hr'] at hr
      simp only [Result.ok.injEq] at hr
      obtain ⟨rfl, -⟩ := hr
      exact .inr ⟨_, rfl, Nat.le_refl _⟩
/-- append(v, s...), s a text. -/
theorem append_str {ops : Array Oper} {Q : Exit → Act → World → Prop} {rest : List Oper} {o : Oper} {a : Act} {w0 W : World} (base : Nat) (hgd : o.guard = none) (s x : Operand)
    (ho : o.op = .call { callee := .builtin .append, args := #[s, x], argTypes := #[26, 9] })
    (v : Value) (xs : List Int) (z : ByteArray) (ok : Nat → Prop) (hs : a.eval s = v) (hx : a.eval x = .string z) (hfresh : ∀ k, W.heap.size ≤ k → ok k)
    (HO : Kd.R (Kd.int .u8) 5 W base ok v xs) (HB : Below base w0 W) (hbase : base ≤ W.heap.size) (hl : xs.length + z.size ≤ 140737488355328)
    (h : ∀ v1 w1, Kd.R (Kd.int .u8) 5 w1 base ok v1 (xs ++ bytesOf z) → Below base w0 w1 → W.grownBy w1 v.ownBlock → (v1.ownBlock = v.ownBlock ∨ ∃ b, v1.ownBlock = some b ∧ W.heap.size ≤ b) → wpList Try.prog ops Q rest (a.put o.dst v1) w1) :
    wpList Try.prog ops Q (o :: rest) a W := by
  obtain ⟨i0, hi0, hz0, hz1, hz2⟩ := info_parts info5
  obtain ⟨v1, w1, hr, h2, h3, h4⟩ := own_str_run (P := Try.prog) W base 26 9 o.type 5 i0 Try.underlying26 Try.underlying9 hi0 hz0 hz1 hz2 v xs.length _ (Kd.own_of_R HO) z hl hbase
  refine wpList_plain hgd fun K hK => ?_
  unfold Oper.wp execOp
  simp only [ho, resolve, invoke, builtin, Sem.run_bind, Sem.run_pure, Result.andThen_ok, List.map_toArray, List.map_cons, List.map_nil, hs, hx, hr]
  refine hK _ _ (h v1 w1 (Kd.R_of_own ?_ ?_) (HB.grown h3 hbase (Kd.R_base HO)) h3 h4)
  · rw [List.length_append, bytesOf_length]
    have e : encs (Value.int .u8) (xs ++ bytesOf z) = encs (Value.int .u8) xs ++ Lib.strCells z := by rw [strCells_encs]; unfold encs; rw [List.map_append]
    rw [e]
    exact h2
  · intro k hk
    rcases h4 with h4 | ⟨b, hb, hle⟩
    · exact HO.1 k (h4 ▸ hk)
    · rw [hb] at hk
      cases hk
      exact hfresh _ hle
set_option maxHeartbeats 2000000 in
set_option maxRecDepth 100000 in
theorem clone_call (w : World) (A : Option Addr) (c : Nat) (l : List ByteArray) (hr : Kd.C Kd.string w A l.length l) (hc : l.length ≤ c) (hl : l.length * 16 ≤ 140737488355328) :
    Calls Try.prog 46 #[.slice A l.length c] w fun e w' => ∃ v, e = .returned v ∧ Kd.R Kd.string 9 w' w.heap.size (fun _ => True) v l ∧ Below w.heap.size w w' := by
  cases A with
  | none =>
    have h0 : l = [] := by
      rcases l with _ | ⟨a, l⟩
      · rfl
      · obtain ⟨ad, e, _⟩ := hr.2.2 (by simp)
        cases e
    subst h0
    clear hr
    have hz : ∀ W, (binOp .eql 22 (.slice none 0 c) (.slice none 0 0)).run Try.prog W = .ok (.bool true) W := fun W => Lib.run_eql_slice_nil W 22 9 none 0 c 0 0 Try.underlying22
    go_enter Try.func46, Try.ntmps46
    go_wp2
    go_ret
    exact ⟨_, rfl, Kd.R_nil _ _ _ _ _, Below.refl _ _⟩
  | some ad =>
    have HR := Lib.hid hr
    obtain ⟨n, hn⟩ : ∃ n, n = l.length := ⟨_, rfl⟩
    have HN := Lib.hid hn
    rw [← hn] at hc hl ⊢
    clear hr hn
    have hz : ∀ W, (binOp .eql 22 (.slice (some ad) n c) (.slice none 0 0)).run Try.prog W = .ok (.bool false) W := fun W => Lib.run_eql_slice_nil W 22 9 (some ad) n c 0 0 Try.underlying22
    go_enter Try.func46, Try.ntmps46
    go_wp2_with (first | ((with_reducible refine gate_builtin (b := .append) (xs := #[.tmp 5, .tmp 6]) rfl ?_); at_builtin; refine Kd.R_append_rows Kd.string (w0 := w) w.heap.size rfl (.tmp 5) (.tmp 6) 22 9 (.string ⟨#[]⟩) 16 rfl Try.underlying22 info9 rfl (by decide) (by omega) (.slice (some ⟨w.heap.size, 0, none⟩) 0 0) [] l _ _ _ (fun _ => True) (fun _ => False) rfl rfl (R_void Kd.string 9 w.heap.size w _ trivial (Nat.le_refl _)) (HN.out ▸ Kd.C_alloc HR.out _) (fun _ _ h => h) (fun _ h => h.elim) (fun _ _ => trivial) (below_alloc (Below.refl _ _) _) (below_alloc (Below.refl _ _) _).size (by simpa using hl) ?_; intro v2 w2 hR2 hB2 hg1 hg2; clear hg1 hg2))
    go_ret
    exact ⟨_, rfl, by simpa using hR2, hB2⟩
set_option maxHeartbeats 2000000 in
set_option maxRecDepth 100000 in
theorem grow_call (w : World) (n : Nat) (h0 : 0 < n) (hl : n ≤ 140737488355328) :
    Calls Try.prog 51 #[.slice none 0 0, .int .i64 n] w fun e w' => ∃ v, e = .returned v ∧ Kd.R (Kd.int .u8) 5 w' w.heap.size (fun _ => True) v [] ∧ Below w.heap.size w w' := by
  have h1 : ¬ (n : Int) < 0 := by omega
  have h2 : (n : Int) > 0 := by omega
  go_enter Try.func51, Try.ntmps51
  go_wp2_with (first | ((with_reducible refine gate_builtin (b := .append) (xs := #[.tmp 20, .tmp 21]) rfl ?_); at_builtin; refine Kd.R_append_zeros (Kd.int .u8) (w0 := w) w.heap.size rfl (.tmp 20) (.tmp 21) 26 3 5 (.int .u8 0) 1 rfl Try.underlying26 Try.underlying3 info5 rfl (by decide) (by omega) (.slice none 0 0) [] (0 : Int) n (fun _ => True) rfl rfl rfl (fun _ _ => trivial) (Kd.R_nil _ _ _ _ _) (by omega) (Below.refl _ _) (Nat.le_refl _) (by simpa using hl) ?_; intro v1 w1 hR1 hB1 hg1 hg2; clear hg1 hg2; obtain ⟨A1, c1, rfl⟩ := Kd.R_slice hR1; have hRT := Kd.R_take hR1 (Nat.zero_le _)))
  go_ret
  exact ⟨_, rfl, by simpa using hRT, hB1⟩
def totN (f : Nat → Nat) : Nat → Nat
  | 0 => 0
  | i + 1 => totN f i + f i
def catL (bs : Nat → List Int) : Nat → List Int
  | 0 => []
  | i + 1 => catL bs i ++ bs i
theorem catL_length (bs : Nat → List Int) (i : Nat) : (catL bs i).length = totN (fun k => (bs k).length) i := by
  induction i with
  | zero => rfl
  | succ i ih => simp only [catL, totN, List.length_append, ih]
theorem totN_le (f : Nat → Nat) {i j : Nat} (h : i ≤ j) : totN f i ≤ totN f j := by
  induction j with
  | zero => obtain rfl : i = 0 := by omega
            exact Nat.le_refl _
  | succ j ih =>
    rcases Nat.lt_or_ge j i with h' | h'
    · obtain rfl : i = j + 1 := by omega
      exact Nat.le_refl _
    · have := ih h'
      simp only [totN]
      omega
set_option maxHeartbeats 4000000 in
set_option maxRecDepth 100000 in
theorem concat_call (w : World) (rw_ : Addr) (m : Nat) (A : Nat → Option Addr) (c : Nat → Nat) (bs : Nat → List Int)
    (hcell : ∀ i, i < m → w.cell? (rw_.add i) = some (.slice (A i) (bs i).length (c i))) (hC : ∀ i, i < m → Kd.C (Kd.int .u8) w (A i) (bs i).length (bs i)) (hm : m ≤ 1000) (h0 : 0 < totN (fun k => (bs k).length) m) (hl : totN (fun k => (bs k).length) m ≤ 140737488355328) :
    Calls Try.prog 26 #[.slice (some rw_) m m] w fun e w' => ∃ v, e = .returned v ∧ Kd.R (Kd.int .u8) 5 w' w.heap.size (fun _ => True) v (catL bs m) ∧ Below w.heap.size w w' := by
  have HC := Lib.hid hC
  have HCell := Lib.hid hcell
  clear hC hcell
  go_enter Try.func26, Try.ntmps26
  go_wp2
  go_loopg [3, 11] m (fun gg s3 s11 wr => ∃ i : Nat, s3 = .int .i64 (totN (fun k => (bs k).length) i : Nat) ∧ s11 = .int .i64 i ∧ i ≤ m ∧ m - i ≤ gg ∧ wr = w)
  case atStart => exact ⟨0, rfl, rfl, Nat.zero_le _, by omega, rfl⟩
  case round =>
    obtain ⟨i, rfl, rfl, him, hig, rfl⟩ := hrel
    obtain ⟨w0_, rfl⟩ : ∃ w0_, w0_ = wr := ⟨_, rfl⟩
    by_cases hlt : i < m
    case pos =>
      have hltz : (i : Int) < (m : Int) := by omega
      have hx0 := HCell.out i hlt
      have hle := totN_le (fun k => (bs k).length) (show i + 1 ≤ m by omega)
      have hsum : totN (fun k => (bs k).length) (i + 1) = totN (fun k => (bs k).length) i + (bs i).length := rfl
      obtain ⟨n, hn⟩ : ∃ n, n = (bs i).length := ⟨_, rfl⟩
      obtain ⟨t, ht⟩ : ∃ t, t = totN (fun k => (bs k).length) i := ⟨_, rfl⟩
      rw [← hn] at hx0 hsum
      rw [← ht] at hsum ⊢
      have HS := Lib.hid hsum
      have htn : t + n ≤ 140737488355328 := by omega
      have hneg : ¬ (t : Int) + (n : Int) < 0 := by omega
      have hw : wrap64 ((t : Int) + (n : Int)) = (t : Int) + (n : Int) := by unfold wrap64; omega
      clear hn ht hle hsum
      go_wp2
      go_roundg (m - (i + 1))
      case measure => omega
      case rel => exact ⟨i + 1, by rw [HS.out]; go_num, by go_num, by omega, by omega, rfl⟩
    have hltz : ¬ (i : Int) < (m : Int) := by omega
    obtain rfl : m = i := by omega
    obtain ⟨t, ht⟩ : ∃ t, t = totN (fun k => (bs k).length) m := ⟨_, rfl⟩
    rw [← ht] at h0 hl ⊢
    have HT := Lib.hid ht
    clear ht
    go_wp2_with fail
    refine (grow_call w0_ t h0 hl).mono ?_
    rintro e w1 ⟨v1, rfl, hR1, hB1⟩
    have HR1 := Lib.hid hR1
    have HB1 := Lib.hid hB1
    clear hR1 hB1
    go_wp2
    go_loopg [6, 27] m (fun gg s6 s27 wq => ∃ i : Nat, s27 = .int .i64 i ∧ i ≤ m ∧ m - i ≤ gg ∧ Hid (Kd.R (Kd.int .u8) 5 wq w0_.heap.size (fun _ => True) s6 (catL bs i) ∧ Below w0_.heap.size w0_ wq))
    case atStart => exact ⟨0, rfl, Nat.zero_le _, by omega, Lib.hid ⟨HR1.out, HB1.out⟩⟩
    case round =>
      obtain ⟨i, rfl, hin, hjg, Y⟩ := hrel
      obtain ⟨wz, rfl⟩ : ∃ wz, wz = wr := ⟨_, rfl⟩
      obtain ⟨hR, hB⟩ := Y.out
      obtain ⟨Av, cv, rfl⟩ := Kd.R_slice hR
      by_cases hlk : i < m
      case neg =>
        have hltj : ¬ (i : Int) < (m : Int) := by omega
        obtain rfl : m = i := by omega
        have HR := Lib.hid hR
        have HB := Lib.hid hB
        clear hR hB Y
        go_wp2
        go_ret
        exact ⟨_, rfl, HR.out, HB.out⟩
      have hltj : (i : Int) < (m : Int) := by omega
      have hx0 := keepc hB (HCell.out i hlk)
      have hle := totN_le (fun k => (bs k).length) (show i + 1 ≤ m by omega)
      have hsum : totN (fun k => (bs k).length) (i + 1) = totN (fun k => (bs k).length) i + (bs i).length := rfl
      have hcl := catL_length bs i
      have hCi := Kd.C_below (HC.out i hlk) hB
      obtain ⟨n, hn⟩ : ∃ n, n = (bs i).length := ⟨_, rfl⟩
      obtain ⟨lv, hlv⟩ : ∃ lv, lv = (catL bs i).length := ⟨_, rfl⟩
      rw [← hn] at hx0 hsum hCi
      have hfit : ((catL bs i).length + n) * 1 ≤ 140737488355328 := by have := HT.out; omega
      rw [← hlv] at hR ⊢
      have HR := Lib.hid hR
      have HB := Lib.hid hB
      have HCI := Lib.hid hCi
      have HFIT := Lib.hid hfit
      clear hR hB Y hn hle hsum hcl hlv hCi hfit
      go_wp2_with (first | ((with_reducible refine gate_builtin (b := .append) (xs := #[.tmp 31, .tmp 32]) rfl ?_); at_builtin; refine Kd.R_append_rows (Kd.int .u8) (w0 := w0_) w0_.heap.size rfl (.tmp 31) (.tmp 32) 26 5 (.int .u8 0) 1 rfl Try.underlying26 info5 rfl (by decide) (by omega) (.slice Av lv cv) (catL bs i) (bs i) _ _ _ (fun _ => True) (fun _ => False) rfl rfl HR.out HCI.out (fun _ _ h => h) (fun _ h => h.elim) (fun _ _ => trivial) HB.out HB.out.size HFIT.out ?_; intro v2 w2 hR2 hB2 hg1 hg2; clear hg1 hg2; have HR2 := Lib.hid hR2; have HB2 := Lib.hid hB2; clear hR2 hB2))
      go_roundg (m - (i + 1))
      case measure => omega
      case rel => exact ⟨i + 1, by go_num, by omega, by omega, Lib.hid ⟨HR2.out, HB2.out⟩⟩
end Go.Proofs.Ytaiglhfmmdajdaa.Pm
end
section
namespace Go.Proofs.Ytaiglhfmmdajdaa.Pm
open Go.RowKit Go.Proofs.YtaiglhfmmdajdaaW.PrintWords Go.Proofs.YtaiglhfmmdajdaaW.PrintLast Go.Proofs.YtaiglhfmmdajdaaW.PrintMore
attribute [local go_sem] max2_int min2_int max_two min_two max_three min_three max_four min_four   -- for this text's walks alone
set_option linter.unusedVariables false
set_option linter.unusedSimpArgs false
def pack_truth.f (a0 : Bool) : Option (Int) := if a0 = true then (some 1) else (some 0)
set_option maxHeartbeats 8000000 in
set_option maxRecDepth 100000 in
theorem pack_truth.calls (a0 : Bool) (r : Int) (w : World) (h : pack_truth.f a0 = some r) :
  Calls Try.prog 49 #[.bool a0] w fun e w' => e = .returned (.int .i64 r) ∧ Drawn0 w w' := by
 have H : (if a0 = true then (some 1) else (some 0)) = some r := h
 clear h
 by_cases c2 : a0 = true
 ·subst c2
  have H1 : (some 1) = some r := by rw [if_pos rfl] at H; exact H
  clear H
  have H := H1
  clear H1
  obtain rfl := Option.some.inj H
  go_enter Try.func49, Try.ntmps49
  go_wp2
  go_ret
  exact ⟨by first | rfl | (simp; done) | (simp [*]; done), by repeat (first | exact Drawn0.refl _ | apply Drawn0.step)⟩
 ·replace c2 := Bool.eq_false_iff.mpr c2
  subst c2
  have H1 : (some 0) = some r := by rw [if_neg (show ¬ (false = true) by decide)] at H; exact H
  clear H
  have H := H1
  clear H1
  obtain rfl := Option.some.inj H
  go_enter Try.func49, Try.ntmps49
  go_wp2
  go_ret
  exact ⟨by first | rfl | (simp; done) | (simp [*]; done), by repeat (first | exact Drawn0.refl _ | apply Drawn0.step)⟩
end Go.Proofs.Ytaiglhfmmdajdaa.Pm
end
section
namespace Go.Proofs.Ytaiglhfmmdajdaa.Pm
open Go.RowKit Go.Proofs.YtaiglhfmmdajdaaW.PrintWords Go.Proofs.YtaiglhfmmdajdaaW.PrintLast Go.Proofs.YtaiglhfmmdajdaaW.PrintMore
attribute [local go_sem] max2_int min2_int max_two min_two max_three min_three max_four min_four   -- for this text's walks alone
set_option linter.unusedVariables false
set_option linter.unusedSimpArgs false
theorem sents_st {w0 w wr : World} {g : Nat} {ok : Nat → Prop} {xs : List Int} (A0 : Option Addr) (c0 : Nat) (fs : List ByteArray) (A1 : Option Addr) (c1 : Nat) (items : List (S48)) (A2 : Option Addr) (c2 : Nat) (l : List (S54))
    (F : Fx w0 w g ok) (s : St w0 w wr g ok xs)
    (hr0 : Kd.C Kd.string w0 A0 fs.length fs) (hc0 : fs.length ≤ c0) (hr1 : Kd.C k48 w0 A1 items.length items) (hc1 : items.length ≤ c1) (hr2 : Kd.C k54 w0 A2 l.length l) (hc2 : l.length ≤ c2)
    (hl : l.length ≤ 3) (hs : ∀ s ∈ l, sOk s) (hlim : xs.length + 1000 ≤ 140737488000000) :
    Calls Try.prog 50 #[.pointer (some ⟨g, 0, none⟩), .agg #[.slice A0 fs.length c0, .slice A1 items.length c1], .slice A2 l.length c2] wr fun e w' => e = .returned (.tuple #[]) ∧ St w0 w w' g ok (xs ++ sentsW fs items l) :=
  (sents_any w0 wr g ok xs A0 c0 fs A1 c1 items A2 c2 l (F.le s) (St.refl s.1 s.2.1) hr0 hc0 hr1 hc1 hr2 hc2 hl hs hlim).mono fun e' w' h => ⟨h.1, h.2.1, h.2.2.1, s.2.2.then_ h.2.2.2 (fun k hk => .inl hk)⟩
theorem alloc_sz (w : World) (o : Obj) : (w.alloc o).heap.size = w.heap.size + 1 := by simp
def textW (s : ByteArray) : List Int := numW 10 s.size ++ bytesOf s
def itemW (fs : List ByteArray) (items : List (S48)) (x : S48) : List Int := numW 10 x.f1 ++ numW 10 (placeI items x.f2 + 1) ++ numW 10 (if x.f3 = true then 1 else 0) ++ numW 10 x.f4 ++ sentsW fs items x.f5 ++ sentsW fs items x.f6
def textsOf (fs : List ByteArray) (items : List (S48)) : List ByteArray := fs ++ items.map (fun x => x.f0)
def modelW (fs : List ByteArray) (items : List (S48)) : List Int := numW 10 (textsOf fs items).length ++ (textsOf fs items).flatMap textW ++ numW 10 fs.length ++ items.flatMap (itemW fs items)
def iOk (x : S48) : Prop := x.f0.size ≤ 1000 ∧ x.f1 < 9223372036854775808 ∧ x.f4 < 9223372036854775808 ∧ (x.f5.length ≤ 3 ∧ ∀ s ∈ x.f5, sOk s) ∧ x.f6.length ≤ 3 ∧ ∀ s ∈ x.f6, sOk s
def MOk (fs : List ByteArray) (items : List (S48)) : Prop := fs.length ≤ 6 ∧ items.length ≤ 16 ∧ (∀ s ∈ fs, s.size ≤ 1000) ∧ ∀ x ∈ items, iOk x
theorem sentsW_le (fs : List ByteArray) (items : List (S48)) (l : List (S54)) (hl : l.length ≤ 3) (hs : ∀ s ∈ l, sOk s) : (sentsW fs items l).length ≤ 430 := by
  unfold sentsW
  rw [List.length_append]
  have := numW_length 10 l.length
  have := flat_le (sentW fs items) 140 l (fun x hx => sentW_le fs items x (hs x hx))
  omega
theorem itemW_le (fs : List ByteArray) (items : List (S48)) (x : S48) (h : iOk x) : (itemW fs items x).length ≤ 900 := by
  unfold itemW
  simp only [List.length_append]
  have := numW_length 10 x.f1
  have := numW_length 10 (placeI items x.f2 + 1)
  have := numW_length 10 (if x.f3 = true then 1 else 0)
  have := numW_length 10 x.f4
  have := sentsW_le fs items x.f5 h.2.2.2.1.1 h.2.2.2.1.2
  have := sentsW_le fs items x.f6 h.2.2.2.2.1 h.2.2.2.2.2
  omega
theorem textW_le (s : ByteArray) (h : s.size ≤ 1000) : (textW s).length ≤ 1010 := by
  unfold textW
  rw [List.length_append, bytesOf_length]
  have := numW_length 10 s.size
  omega
theorem texts_size {fs : List ByteArray} {items : List (S48)} (h : MOk fs items) : (∀ s ∈ textsOf fs items, s.size ≤ 1000) ∧ (textsOf fs items).length = fs.length + items.length := by
  unfold textsOf
  refine ⟨fun s hs => ?_, by rw [List.length_append, List.length_map]⟩
  rcases List.mem_append.1 hs with hs | hs
  · exact h.2.2.1 s hs
  · obtain ⟨x, hx, rfl⟩ := List.mem_map.1 hs
    exact (h.2.2.2 x hx).1
theorem fidx_ge {α : Type} (p : α → Bool) (l : List α) : -1 ≤ fidx p l := by
  unfold fidx
  cases l.findIdx? p with
  | none => show (-1 : Int) ≤ -1; omega
  | some i => show (-1 : Int) ≤ (i : Int); omega
theorem truth_call (b : Bool) (w : World) : Calls Try.prog 49 #[.bool b] w fun e w' => e = .returned (.int .i64 (if b = true then 1 else 0)) ∧ Below w.heap.size w w' :=
  (pack_truth.calls b _ w (by unfold pack_truth.f; cases b <;> rfl)).mono fun e w' h => ⟨h.1, h.2.below⟩
set_option maxHeartbeats 8000000 in
set_option maxRecDepth 100000 in
theorem model_any (w0 w : World) (g : Nat) (ok : Nat → Prop) (xs : List Int) (A0 : Option Addr) (c0 : Nat) (fs : List ByteArray) (A1 : Option Addr) (c1 : Nat) (items : List (S48))
    (F : Fx w0 w g ok) (s0 : St w0 w w g ok xs)
    (hr0 : Kd.C Kd.string w0 A0 fs.length fs) (hc0 : fs.length ≤ c0) (hr1 : Kd.C k48 w0 A1 items.length items) (hc1 : items.length ≤ c1)
    (hm : MOk fs items) (hlim : xs.length + 1000000 ≤ 140737488000000) :
    Calls Try.prog 25 #[.pointer (some ⟨g, 0, none⟩), .agg #[.slice A0 fs.length c0, .slice A1 items.length c1]] w fun e w' => e = .returned (.tuple #[]) ∧ St w0 w w' g ok (xs ++ modelW fs items) := by
  have hu25 := Try.underlying25
  have hu48 := Try.underlying48
  have hu58 := Try.underlying58
  have HS0 := Lib.hid s0
  have HR := Lib.hid (And.intro hr0 hr1)
  have hfl := hm.1
  have hil := hm.2.1
  have HMO := Lib.hid hm
  have hgl := s0.1.lt
  have HF := Lib.hid F
  clear s0 hr0 hr1 hm F
  go_enter Try.func25, Try.ntmps25
  go_wp2_with fail
  obtain ⟨W1, hW1⟩ : ∃ W1, W1 = w.alloc (.cells #[.slice A0 fs.length c0, .slice A1 items.length c1] 25) := ⟨_, rfl⟩
  have hb1 : W1.heap.size = w.heap.size + 1 := by rw [hW1]; simp
  have hbw : Below w.heap.size w W1 := by rw [hW1]; exact below_alloc (Below.refl _ _) _
  have hm0 : W1.cell? ⟨w.heap.size, 0, none⟩ = some (.slice A0 fs.length c0) := by rw [hW1]; simp
  have hm1 : W1.cell? ⟨w.heap.size, 1, none⟩ = some (.slice A1 items.length c1) := by rw [hW1]; simp
  rw [← hW1]
  have HBW1 := Lib.hid (below_then HS0.out.2.1 HS0.out.2.1.size hbw)
  have HBW := Lib.hid hbw
  clear hW1 hbw
  have HM := Lib.hid (And.intro hm0 hm1)
  have HZ1 := Lib.hid hb1
  clear hb1
  refine (clone_call W1 A0 c0 fs (Kd.C_below HR.out.1 HBW1.out) hc0 (by omega)).mono ?_
  rintro e w2 ⟨v2, rfl, hR2, hB2⟩
  have HR2 := Lib.hid hR2
  have HB2 := Lib.hid hB2
  have hm0 := keepc hB2 hm0
  have hm1 := keepc hB2 hm1
  clear hR2 hB2
  go_wp2
  clear hm0 hm1
  go_loopg [4, 17] items.length (fun gg s4 s17 wr => ∃ i : Nat, s17 = .int .i64 i ∧ i ≤ items.length ∧ items.length - i ≤ gg ∧ Hid (Kd.R Kd.string 9 wr W1.heap.size (fun _ => True) s4 (fs ++ (items.take i).map (fun x => x.f0)) ∧ Below W1.heap.size W1 wr))
  case atStart => exact ⟨0, rfl, Nat.zero_le _, by omega, Lib.hid ⟨by simpa using HR2.out, HB2.out⟩⟩
  case round =>
    obtain ⟨i, rfl, hin, hig, X⟩ := hrel
    obtain ⟨wO, rfl⟩ : ∃ wO, wO = wr := ⟨_, rfl⟩
    obtain ⟨hR, hB⟩ := X.out
    obtain ⟨Av, cv, rfl⟩ := Kd.R_slice hR
    by_cases hlt : i < items.length
    case pos =>
      have hltz : (i : Int) < (items.length : Int) := by omega
      obtain ⟨ad, B5, d5, B6, d6, e, hx0, hx1, hx2, hx3, hx4, hx5, hx6, -⟩ := at_T48 HR.out.2 (i : Int) (by omega) (by omega)
      cases e
      simp only [Int.toNat_natCast] at hx0 hx1 hx2 hx3 hx4 hx5 hx6
      obtain ⟨x, hx⟩ : ∃ x, x = rd_T48 items (i : Int) := ⟨_, rfl⟩
      have hxl : x = items[i] := by rw [hx]; simp [rd_T48, List.getD_eq_getElem?_getD, List.getElem?_eq_getElem hlt]
      rw [← hx] at hx0 hx1 hx2 hx3 hx4 hx5 hx6
      have hnx : (items.take (i + 1)).map (fun x => x.f0) = (items.take i).map (fun x => x.f0) ++ [x.f0] := by
        rw [List.take_add_one, List.getElem?_eq_getElem hlt, List.map_append, hxl]; rfl
      have HBX := Lib.hid (below_then HBW1.out HBW1.out.size hB)
      have hx0 := keepc HBX.out hx0
      have hx1 := keepc HBX.out hx1
      have hx2 := keepc HBX.out hx2
      have hx3 := keepc HBX.out hx3
      have hx4 := keepc HBX.out hx4
      have hx5 := keepc HBX.out hx5
      have hx6 := keepc HBX.out hx6
      obtain ⟨l0, hl0⟩ : ∃ l0, l0 = fs ++ (items.take i).map (fun x => x.f0) := ⟨_, rfl⟩
      have hfit : (l0.length + 1) * 16 ≤ 140737488355328 := by
        rw [hl0, List.length_append, List.length_map, List.length_take]
        omega
      rw [← hl0] at hR ⊢
      have HL0 := Lib.hid hl0
      have HNX := Lib.hid hnx
      have HFIT := Lib.hid hfit
      have HRr := Lib.hid (Kd.R_alloc hR (.cells #[.string x.f0, .int .i64 x.f1, .string x.f2, .bool x.f3, .int .i64 x.f4, .slice B5 x.f5.length d5, .slice B6 x.f6.length d6] 48))
      have HBr := Lib.hid (below_alloc hB (.cells #[.string x.f0, .int .i64 x.f1, .string x.f2, .bool x.f3, .int .i64 x.f4, .slice B5 x.f5.length d5, .slice B6 x.f6.length d6] 48))
      clear hl0 hnx hfit hR hB hx hxl X
      go_wp2_with (first | ((with_reducible refine gate_builtin (b := .append) (xs := #[.tmp 21, .tmp 24]) rfl ?_); at_builtin; refine Kd.R_append Kd.string (w0 := W1) W1.heap.size rfl (.tmp 21) (.tmp 24) 22 9 (.string ⟨#[]⟩) 16 rfl Try.underlying22 info9 rfl (by decide) (by omega) (.slice Av l0.length cv) l0 x.f0 [.string x.f0] (fun _ => True) (fun _ => False) rfl (by rw [alloc_sz]; rfl) rfl (fun _ h => h.elim) (fun _ _ => trivial) HRr.out HBr.out HBr.out.size HFIT.out ?_; intro v1 w1 hR1 hB1 hgr hat; clear hgr hat; have HR1 := Lib.hid hR1; have HB1 := Lib.hid hB1; clear hR1 hB1))
      go_roundg (items.length - (i + 1))
      case measure => omega
      case rel => exact ⟨i + 1, by go_num, by omega, by omega, Lib.hid ⟨by rw [HNX.out, ← List.append_assoc, ← HL0.out]; exact HR1.out, HB1.out⟩⟩
    have hltz : ¬ (i : Int) < (items.length : Int) := by omega
    obtain rfl : i = items.length := by omega
    rw [List.take_length] at hR
    change Kd.R Kd.string 9 wO W1.heap.size (fun _ => True) _ (textsOf fs items) at hR
    obtain ⟨hts, htl⟩ := texts_size HMO.out
    obtain ⟨T, hT⟩ : ∃ T, T = textsOf fs items := ⟨_, rfl⟩
    have hlen : (fs ++ (items.take items.length).map (fun x => x.f0)).length = T.length := by rw [hT, List.take_length]; rfl
    rw [hlen]
    rw [← hT] at hR hts htl
    have hT22 : T.length ≤ 22 := by omega
    clear htl
    have hTb := Kd.R_base hR
    have hTl := Kd.R_lt hR
    have hTC := (Kd.R_reads' hR).2.2
    obtain ⟨bT, hbT⟩ : ∃ bT, (w.heap.size ≤ bT ∧ bT < wO.heap.size ∧ ∀ ad, Av = some ad → ad.block = bT) := by
      cases Av with
      | none => exact ⟨w.heap.size, Nat.le_refl _, by have := hB.size; have := HZ1.out; omega, fun ad e => by cases e⟩
      | some ad => exact ⟨ad.block, by have := hTb ad.block (by simp [Value.ownBlock]); have := HZ1.out; omega, hTl ad.block (by simp [Value.ownBlock]), fun ad' e => by cases e; rfl⟩
    have hBO : Below w0.heap.size w0 wO := below_then HBW1.out HBW1.out.size hB
    have hBwO : Below w.heap.size w wO := below_then HBW.out HBW.out.size hB
    obtain ⟨ok2, hok2⟩ : ∃ ok2 : Nat → Prop, ok2 = (fun k => (ok k ∧ k ≠ w.heap.size) ∧ k ≠ bT) := ⟨_, rfl⟩
    have hb2k : ∀ k, ok2 k → ok k ∧ k ≠ w.heap.size ∧ k ≠ bT := by rw [hok2]; exact fun k h => ⟨h.1.1, h.1.2, h.2⟩
    have F2 : Fx w0 wO g ok2 := ⟨HF.out.1, fun k hk => HF.out.2.1 k (hb2k k hk).1, fun k hk => by rw [hok2]; exact ⟨⟨HF.out.2.2 k (by have := hBwO.size; omega), by have := hB.size; have := HZ1.out; omega⟩, by have := hbT.2.1; omega⟩⟩
    have t2 : St w0 wO wO g ok2 xs := by
      refine St.refl ?_ hBO
      rw [hok2]
      have h1 := HS0.out.1.apart w.heap.size (Nat.le_refl _)
      exact (h1.apart bT hbT.1).below hBwO
    have hback : ∀ w' ys, St w0 wO w' g ok2 ys → St w0 w w' g ok ys := fun w' ys s => ⟨s.1.mono (fun k h => (hb2k k h).1), s.2.1, (Kept.of_below hBwO _).then_ s.2.2 (fun k hk => hk.elim (fun h => .inl (.inl (hb2k k h).1)) (fun h => .inl (.inr h)))⟩
    have hm0 := keepc hB HM.out.1
    have hm1 := keepc hB HM.out.2
    have HF2 := Lib.hid F2
    have HBT := Lib.hid hbT
    have HBACK := Lib.hid hback
    have HK2 := Lib.hid hb2k
    have HMT := Lib.hid (And.intro hm0 hm1)
    have HTS := Lib.hid hts
    have HTE := Lib.hid hT
    have HTC := Lib.hid hTC
    have HOS := Lib.hid hBwO.size
    clear hR hlen hTb hTl hTC hbT hBO hBwO hok2 hb2k F2 hback hm0 hm1 hts hT X
    go_wp2_with fail
    refine (num_st HF2.out t2 3 [(T.length : Int)] (by simp; omega) (by simp; omega) wO.heap.size rfl 1 rfl).mono ?_
    rintro e w3 ⟨rfl, s3⟩
    have HS3 := Lib.hid s3
    clear s3 t2
    go_wp2
    go_loopg [34] T.length (fun gg s34 wr => ∃ i : Nat, s34 = .int .i64 i ∧ i ≤ T.length ∧ T.length - i ≤ gg ∧ Hid (St w0 wO wr g ok2 (xs ++ numW 10 T.length ++ (T.take i).flatMap textW)))
    case atStart => exact ⟨0, rfl, Nat.zero_le _, by omega, Lib.hid (by simpa using HS3.out)⟩
    case round =>
      obtain ⟨i, rfl, hin, hig, X⟩ := hrel
      obtain ⟨wq, rfl⟩ : ∃ wq, wq = wr := ⟨_, rfl⟩
      by_cases hlt : i < T.length
      case pos =>
        have hltz : (i : Int) < (T.length : Int) := by omega
        have hCr : Kd.C Kd.string wq Av T.length T := C_stay HTC.out (fun ad e => X.out.2.2.2 _ (by rw [HBT.out.2.2 ad e]; exact HBT.out.2.1) (fun h => h.elim (fun h => (HK2.out _ h).2.2 (HBT.out.2.2 ad e)) (fun h => by have := HBT.out.2.2 ad e; have := HBT.out.1; omega)))
        obtain ⟨ad, e, hx0⟩ := Kd.at_string hCr (i : Int) (by omega) (by omega)
        cases e
        simp only [Int.toNat_natCast] at hx0
        obtain ⟨z, hz⟩ : ∃ z, z = rdOf ByteArray.empty T (i : Int) := ⟨_, rfl⟩
        have hzl : z = T[i] := by rw [hz, rdOf_get _ _ _ hlt]
        rw [← hz] at hx0
        have hzs : z.size ≤ 1000 := by rw [hzl]; exact HTS.out _ (List.getElem_mem _)
        have hnx := take_flat textW T i hlt
        rw [← hzl] at hnx
        obtain ⟨pre, hpre⟩ : ∃ p, p = xs ++ numW 10 T.length ++ (T.take i).flatMap textW := ⟨_, rfl⟩
        have hpl : pre.length + 100000 ≤ 140737488000000 := by
          rw [hpre, List.length_append, List.length_append]
          have h1 := numW_length 10 T.length
          have h2 := flat_le textW 1010 (T.take i) (fun x hx => textW_le x (HTS.out x (List.mem_of_mem_take hx)))
          rw [List.length_take] at h2
          omega
        rw [← hpre] at X
        have HPRE := Lib.hid hpre
        have HNX := Lib.hid hnx
        have HPL := Lib.hid hpl
        have HZS := Lib.hid hzs
        clear hpre hnx hpl hzs hz hzl hCr
        go_wp2_with fail
        clear hx0
        refine (num_st HF2.out X.out 3 [(z.size : Int)] (by have := HPL.out; simp; omega) (by have := HZS.out; simp; omega) wq.heap.size rfl 1 rfl).mono ?_
        rintro e w4 ⟨rfl, s4⟩
        obtain ⟨v, hg, hR⟩ := s4.1
        obtain ⟨Ag, cg, rfl⟩ := Kd.R_slice hR
        obtain ⟨zs, hzs⟩ : ∃ zs, zs = pre ++ [(z.size : Int)].flatMap (numW 10) := ⟨_, rfl⟩
        rw [← hzs] at hg hR
        have hlz : zs.length + z.size ≤ 140737488355328 := by
          rw [hzs, List.length_append]
          have := numW_length 10 (z.size : Int)
          have := HPL.out
          have := HZS.out
          simp
          omega
        obtain ⟨lv, hlv⟩ : ∃ lv, lv = zs.length := ⟨_, rfl⟩
        rw [← hlv] at hg hR
        have hne : some g ≠ (Value.slice Ag lv cg).ownBlock := Kd.R_away hR (fun k hk => HF2.out.2.1 k hk)
        have hcv : w4.cell? ⟨g, 0, none⟩ = some (.slice Ag lv cg) := (blk_cell hg 0).trans rfl
        have HLZ := Lib.hid hlz
        have HNE := Lib.hid (fun h => hne h)
        have HGL := Lib.hid (blk_lt hg)
        have HG := Lib.hid hg
        have HRv := Lib.hid hR
        have HBr := Lib.hid s4.2.1
        have HKr := Lib.hid s4.2.2
        have HFf := Lib.hid (fun k (hk : w4.heap.size ≤ k) => HF2.out.2.2 k (Nat.le_trans s4.2.2.1 hk))
        have HZZ := Lib.hid hzs
        clear hg hR hlz hne hzs hlv s4
        go_wp2_with (first | ((with_reducible refine gate_builtin (b := .append) (xs := #[.tmp 47, .tmp 48]) rfl ?_); at_builtin; refine append_str (w0 := w0) w0.heap.size rfl (.tmp 47) (.tmp 48) rfl (.slice Ag lv cg) zs z ok2 rfl rfl HFf.out HRv.out HBr.out HBr.out.size HLZ.out ?_; intro v1 w1 hR1 hB1 hgr hat; obtain ⟨A1_, c1_, rfl⟩ := Kd.R_slice hR1; have hg1 := (hgr.block g HGL.out HNE.out).trans HG.out; have hcz := (blk_cell hg1 0).trans rfl; have hfz := blk_frozen hg1 0; have HR1 := Lib.hid hR1; have HB1 := Lib.hid hB1; have HG1 := Lib.hid hg1; have HGR := Lib.hid hgr; clear hR1 hB1 hg1 hgr hat))
        have hwr := wr_put HG.out HF2.out.2.1 HR1.out HG1.out
        rw [List.length_append] at hwr
        have HWR := Lib.hid hwr
        clear hwr
        have HKK := Lib.hid ((Kept.of_grown HGR.out HKr.out (fun k e => .inl (.inl (HRv.out.1 k e)))).setCell (p := ⟨g, 0, none⟩) (.inl (.inr rfl)) (.slice A1_ (zs.length + (bytesOf z).length) c1_))
        have HBB := Lib.hid (HB1.out.setCell HF2.out.1 (.slice A1_ (zs.length + (bytesOf z).length) c1_) : Below w0.heap.size w0 (w1.setCell ⟨g, 0, none⟩ (.slice A1_ (zs.length + (bytesOf z).length) c1_)))
        have HT : Hid (zs ++ bytesOf z = xs ++ numW 10 T.length ++ (T.take (i + 1)).flatMap textW) := Lib.hid (by rw [HNX.out, ← List.append_assoc, ← HPRE.out, HZZ.out]; simp [textW])
        go_roundg (T.length - (i + 1))
        case measure => omega
        case rel => exact ⟨i + 1, by go_num, by omega, by omega, Lib.hid ⟨by rw [← HT.out]; exact HWR.out, HBB.out, HKK.out⟩⟩
      have hltz : ¬ (i : Int) < (T.length : Int) := by omega
      obtain rfl : i = T.length := by omega
      have hgne : w.heap.size ≠ g := by omega
      have hmm : ∀ W ys, St w0 wO W g ok2 ys → W.cell? ⟨w.heap.size, 0, none⟩ = some (.slice A0 fs.length c0) ∧ W.cell? ⟨w.heap.size, 1, none⟩ = some (.slice A1 items.length c1) := fun W ys s => ⟨s.stay HMT.out.1 (fun h => (HK2.out _ h).2.1 rfl) hgne, s.stay HMT.out.2 (fun h => (HK2.out _ h).2.1 rfl) hgne⟩
      have HMM := Lib.hid hmm
      clear hmm
      obtain ⟨hm0, hm1⟩ := HMM.out _ _ X.out
      have hX := X.out
      rw [List.take_length] at hX
      obtain ⟨us, hus⟩ : ∃ us, us = xs ++ numW 10 T.length ++ T.flatMap textW := ⟨_, rfl⟩
      have hul : us.length + 500000 ≤ 140737488000000 := by
        rw [hus, List.length_append, List.length_append]
        have h1 := numW_length 10 T.length
        have h2 := flat_le textW 1010 T (fun x hx => textW_le x (HTS.out x hx))
        omega
      rw [← hus] at hX
      have HUS := Lib.hid hus
      have HUL := Lib.hid hul
      have HX := Lib.hid hX
      clear hus hul hX X
      go_wp2_with fail
      clear hm0 hm1
      refine (num_st HF2.out HX.out 3 [(fs.length : Int)] (by have := HUL.out; simp; omega) (by simp; omega) wq.heap.size rfl 1 rfl).mono ?_
      rintro e w5 ⟨rfl, s5⟩
      have HS5 := Lib.hid s5
      obtain ⟨hm0, hm1⟩ := HMM.out _ _ s5
      clear s5 HX
      go_wp2
      clear hm0 hm1
      go_loopg [62] items.length (fun gg s62 wr => ∃ j : Nat, s62 = .int .i64 j ∧ j ≤ items.length ∧ items.length - j ≤ gg ∧ Hid (St w0 wO wr g ok2 (us ++ numW 10 fs.length ++ (items.take j).flatMap (itemW fs items))))
      case atStart => exact ⟨0, rfl, Nat.zero_le _, by omega, Lib.hid (by simpa using HS5.out)⟩
      case round =>
        obtain ⟨j, rfl, hjn, hjg, Y⟩ := hrel
        obtain ⟨wz, rfl⟩ : ∃ wz, wz = wr := ⟨_, rfl⟩
        by_cases hlk : j < items.length
        case neg =>
          have hltj : ¬ (j : Int) < (items.length : Int) := by omega
          obtain rfl : j = items.length := by omega
          have HT : Hid (St w0 w wz g ok (xs ++ modelW fs items)) := Lib.hid (by
            have h1 := HBACK.out _ _ Y.out
            rw [List.take_length, HUS.out] at h1
            unfold modelW
            rw [← HTE.out, ← List.append_assoc, ← List.append_assoc, ← List.append_assoc]
            exact h1)
          go_wp2
          go_end0
          exact ⟨rfl, HT.out⟩
        have hltj : (j : Int) < (items.length : Int) := by omega
        obtain ⟨ad, B5, d5, B6, d6, e, hx0, hx1, hx2, hx3, hx4, hx5, hx6, hl5, hC5, hl6, hC6⟩ := at_T48 HR.out.2 (j : Int) (by omega) (by omega)
        cases e
        simp only [Int.toNat_natCast] at hx0 hx1 hx2 hx3 hx4 hx5 hx6
        obtain ⟨x, hx⟩ : ∃ x, x = rd_T48 items (j : Int) := ⟨_, rfl⟩
        have hxl : x = items[j] := by rw [hx]; simp [rd_T48, List.getD_eq_getElem?_getD, List.getElem?_eq_getElem hlk]
        rw [← hx] at hx0 hx1 hx2 hx3 hx4 hx5 hx6 hl5 hC5 hl6 hC6
        have hnx := take_flat (itemW fs items) items j hlk
        rw [← hxl] at hnx
        have hiok : iOk x := by rw [hxl]; exact HMO.out.2.2.2 _ (List.getElem_mem _)
        have HC5 := Lib.hid hC5
        have HC6 := Lib.hid hC6
        have HIOK := Lib.hid hiok
        have hx0 := keepc Y.out.2.1 hx0
        have hx1 := keepc Y.out.2.1 hx1
        have hx2 := keepc Y.out.2.1 hx2
        have hx3 := keepc Y.out.2.1 hx3
        have hx4 := keepc Y.out.2.1 hx4
        have hx5 := keepc Y.out.2.1 hx5
        have hx6 := keepc Y.out.2.1 hx6
        obtain ⟨zs, hzs⟩ : ∃ zs, zs = us ++ numW 10 fs.length ++ (items.take j).flatMap (itemW fs items) := ⟨_, rfl⟩
        have hzl : zs.length + 100000 ≤ 140737488000000 := by
          rw [hzs, List.length_append, List.length_append]
          have h1 := numW_length 10 (fs.length : Int)
          have h2 := flat_le (itemW fs items) 900 (items.take j) (fun x hx => itemW_le fs items x (HMO.out.2.2.2 x (List.mem_of_mem_take hx)))
          rw [List.length_take] at h2
          have := HUL.out
          omega
        rw [← hzs] at Y
        have HZS := Lib.hid hzs
        have HNJ := Lib.hid hnx
        have HZL := Lib.hid hzl
        clear hzs hnx hx hxl hzl hiok hC5 hC6
        go_wp2
        clear hx0 hx1 hx2 hx3 hx4 hx5 hx6
        have hwq1 : wO.heap.size ≤ wz.heap.size := Y.out.2.2.1
        obtain ⟨hm0, hm1⟩ := HMM.out _ _ Y.out
        obtain ⟨W3, hW3⟩ : ∃ W3, W3 = wz.alloc (.cells #[.string x.f0, .int .i64 x.f1, .string x.f2, .bool x.f3, .int .i64 x.f4, .slice B5 x.f5.length d5, .slice B6 x.f6.length d6] 48) := ⟨_, rfl⟩
        have hx1 : W3.cell? ⟨wz.heap.size, 1, none⟩ = some (.int .i64 x.f1) := by rw [hW3]; simp
        have hx2 : W3.cell? ⟨wz.heap.size, 2, none⟩ = some (.string x.f2) := by rw [hW3]; simp
        have hx3 : W3.cell? ⟨wz.heap.size, 3, none⟩ = some (.bool x.f3) := by rw [hW3]; simp
        have hx4 : W3.cell? ⟨wz.heap.size, 4, none⟩ = some (.int .i64 x.f4) := by rw [hW3]; simp
        have hx5 : W3.cell? ⟨wz.heap.size, 5, none⟩ = some (.slice B5 x.f5.length d5) := by rw [hW3]; simp
        have hx6 : W3.cell? ⟨wz.heap.size, 6, none⟩ = some (.slice B6 x.f6.length d6) := by rw [hW3]; simp
        have hm0 := keepc (by rw [hW3]; exact below_alloc (Below.refl _ _) _ : Below wz.heap.size wz W3) hm0
        have hm1 := keepc (by rw [hW3]; exact below_alloc (Below.refl _ _) _ : Below wz.heap.size wz W3) hm1
        have F3 := (HF2.out.box (b := wz.heap.size) Y.out (.cells #[.string x.f0, .int .i64 x.f1, .string x.f2, .bool x.f3, .int .i64 x.f4, .slice B5 x.f5.length d5, .slice B6 x.f6.length d6] 48) rfl)
        have t3 := (Y.out.box (b := wz.heap.size) (.cells #[.string x.f0, .int .i64 x.f1, .string x.f2, .bool x.f3, .int .i64 x.f4, .slice B5 x.f5.length d5, .slice B6 x.f6.length d6] 48) rfl)
        rw [← hW3] at F3 t3 ⊢
        have HW3 := Lib.hid hW3
        have HF3 := Lib.hid F3
        have hzg : wz.heap.size ≠ g := by have := HOS.out; omega
        have hcc : ∀ W ys, St w0 W3 W g (fun k => ok2 k ∧ k ≠ wz.heap.size) ys → (W.cell? ⟨w.heap.size, 0, none⟩ = some (.slice A0 fs.length c0) ∧ W.cell? ⟨w.heap.size, 1, none⟩ = some (.slice (some ad) items.length c1) ∧ W.cell? ⟨wz.heap.size, 1, none⟩ = some (.int .i64 x.f1) ∧ W.cell? ⟨wz.heap.size, 2, none⟩ = some (.string x.f2) ∧ W.cell? ⟨wz.heap.size, 3, none⟩ = some (.bool x.f3) ∧ W.cell? ⟨wz.heap.size, 4, none⟩ = some (.int .i64 x.f4)) ∧ W.cell? ⟨wz.heap.size, 5, none⟩ = some (.slice B5 x.f5.length d5) ∧ W.cell? ⟨wz.heap.size, 6, none⟩ = some (.slice B6 x.f6.length d6) := fun W ys s =>
          ⟨⟨s.stay hm0 (fun h => (HK2.out _ h.1).2.1 rfl) hgne, s.stay hm1 (fun h => (HK2.out _ h.1).2.1 rfl) hgne, s.stay hx1 (fun h => h.2 rfl) hzg, s.stay hx2 (fun h => h.2 rfl) hzg, s.stay hx3 (fun h => h.2 rfl) hzg, s.stay hx4 (fun h => h.2 rfl) hzg⟩, s.stay hx5 (fun h => h.2 rfl) hzg, s.stay hx6 (fun h => h.2 rfl) hzg⟩
        have HCC := Lib.hid hcc
        clear hW3 F3 hcc hm0 hm1 hx1 hx2 hx3 hx4 hx5 hx6
        refine st_ (fun w' => w'.cell? ⟨w.heap.size, 0, none⟩ = some (.slice A0 fs.length c0) ∧ w'.cell? ⟨w.heap.size, 1, none⟩ = some (.slice (some ad) items.length c1) ∧ w'.cell? ⟨wz.heap.size, 1, none⟩ = some (.int .i64 x.f1) ∧ w'.cell? ⟨wz.heap.size, 2, none⟩ = some (.string x.f2) ∧ w'.cell? ⟨wz.heap.size, 3, none⟩ = some (.bool x.f3) ∧ w'.cell? ⟨wz.heap.size, 4, none⟩ = some (.int .i64 x.f4)) 15 (HCC.out _ _ t3).1 (fun hHeld => ?_)
        have t4 := t3.below (below_drew1 (Below.refl _ _))
        clear t3
        refine pu_ 0 (some 66) ?_
        refine pu_ 1 (some 67) ?_
        refine tk_ 2 (some 68) hHeld ?_ (hy := by rintro w' ⟨s0, s1, s2, s3, s4, s5⟩; go_simp; with_reducible rfl)
        refine tk_ 3 (some 69) hHeld ?_ (hy := by rintro w' ⟨s0, s1, s2, s3, s4, s5⟩; go_simp; with_reducible rfl)
        refine pu_ 4 (some 70) ?_
        refine tk_ 5 (some 71) hHeld ?_ (hy := by rintro w' ⟨s0, s1, s2, s3, s4, s5⟩; go_simp; with_reducible rfl)
        refine pu_ 8 (some 74) ?_
        refine tk_ 9 (some 75) hHeld ?_ (hy := by rintro w' ⟨s0, s1, s2, s3, s4, s5⟩; go_simp; with_reducible rfl)
        refine pu_ 11 (some 77) ?_
        refine tk_ 12 (some 78) hHeld ?_ (hy := by rintro w' ⟨s0, s1, s2, s3, s4, s5⟩; go_simp; with_reducible rfl)
        generalize W3.drew = wD at hHeld t4 ⊢
        clear hHeld
        refine ca_ 6 (some 72) Try.func48 #[.agg #[.slice A0 fs.length c0, .slice (some ad) items.length c1], .string x.f2] ?_
        refine (model_Place.calls A0 c0 fs (some ad) c1 items x.f2 (placeI items x.f2) wD (Kd.C_below HR.out.1 t4.2.1) hc0 (Kd.C_below HR.out.2 t4.2.1) hc1 rfl).mono ?_
        rintro e wP ⟨rfl, hbP⟩
        have t5 := t4.below hbP
        clear t4
        refine ⟨_, rfl, (HCC.out _ _ t5).1, fun _ => ⟨_, rfl, nz_ (some 72) ?_⟩⟩
        have hp63 : placeI items x.f2 < 16 := by have := placeI_lt items x.f2; omega
        have hpm : -1 ≤ placeI items x.f2 := fidx_ge _ _
        obtain ⟨p, hp⟩ : ∃ p, p = placeI items x.f2 := ⟨_, rfl⟩
        rw [← hp] at hp63 hpm ⊢
        have HP := Lib.hid hp
        clear hp
        have hw : wrap64 (p + 1) = p + 1 := by unfold wrap64; omega
        refine pu_ 7 (some 73) ?_
        refine ca_ 10 (some 76) Try.func49 #[.bool x.f3] ?_
        refine (truth_call x.f3 wP).mono ?_
        rintro e wQ ⟨rfl, hbQ⟩
        have t6 := t5.below hbQ
        clear t5
        refine ⟨_, rfl, (HCC.out _ _ t6).1, fun _ => ⟨_, rfl, nz_ (some 76) ?_⟩⟩
        obtain ⟨q, hq⟩ : ∃ q : Int, q = if x.f3 = true then 1 else 0 := ⟨_, rfl⟩
        have hq63 : q < 2 := by rw [hq]; split <;> omega
        rw [← hq]
        have HQ := Lib.hid hq
        clear hq
        refine onS_ 13 (some 79) (fun K hK => ?_)
        go_simp
        refine hK.out _ _ (HCC.out _ _ (t6.below (below_alloc (Below.refl _ _) _))).1 (fun _ => ?_)
        clear hK K
        have hnum := num_st HF3.out t6 3 [x.f1, p + 1, q, x.f4] (by have := HZL.out; simp; omega) (by have := HIOK.out.2.1; have := HIOK.out.2.2.1; simp; omega) wQ.heap.size rfl 4 rfl
        refine ca_ 14 (some 80) Try.func47 #[.pointer (some ⟨g, 0, none⟩), .slice (some ⟨wQ.heap.size, 0, none⟩) 4 4] ?_
        refine hnum.mono ?_
        rintro e w8 ⟨rfl, t8⟩
        refine ⟨_, rfl, (HCC.out _ _ t8).1, fun _ => ⟨_, rfl, nz_ (some 80) ?_⟩⟩
        refine dn_ ?_
        obtain ⟨⟨hm0, hm1, -⟩, hx5, -⟩ := HCC.out _ _ t8
        have HT8 := Lib.hid t8
        clear t6 t8 hnum hp63 hpm hw hq63
        go_wp2_with fail
        clear hm0 hm1 hx5
        refine (sents_st A0 c0 fs _ c1 items B5 d5 x.f5 HF3.out HT8.out HR.out.1 hc0 HR.out.2 hc1 HC5.out hl5 HIOK.out.2.2.2.1.1 HIOK.out.2.2.2.1.2 (by have := HZL.out; have := numW_length 10 p; have := numW_length 10 x.f1; have := numW_length 10 (p + 1); have := numW_length 10 q; have := numW_length 10 x.f4; simp; omega)).mono ?_
        rintro e w9 ⟨rfl, t9⟩
        obtain ⟨⟨hm0, hm1, -⟩, -, hx6⟩ := HCC.out _ _ t9
        have HT9 := Lib.hid t9
        clear t9 HT8
        go_wp2_with fail
        clear hm0 hm1 hx6
        refine (sents_st A0 c0 fs _ c1 items B6 d6 x.f6 HF3.out HT9.out HR.out.1 hc0 HR.out.2 hc1 HC6.out hl6 HIOK.out.2.2.2.2.1 HIOK.out.2.2.2.2.2 (by have := HZL.out; have := numW_length 10 p; have := numW_length 10 x.f1; have := numW_length 10 (p + 1); have := numW_length 10 q; have := numW_length 10 x.f4; have := sentsW_le fs items x.f5 HIOK.out.2.2.2.1.1 HIOK.out.2.2.2.1.2; simp; omega)).mono ?_
        rintro e w10 ⟨rfl, t10⟩
        have HT := Lib.hid (Y.out.back (HW3.out ▸ t10))
        clear t10 HT9
        go_wp2
        go_roundg (items.length - (j + 1))
        case measure => omega
        case rel => exact ⟨j + 1, by go_num, by omega, by omega, Lib.hid (by rw [HNJ.out, ← List.append_assoc, ← HZS.out]; simpa [itemW, HP.out, HQ.out] using HT.out)⟩
end Go.Proofs.Ytaiglhfmmdajdaa.Pm
end
section
namespace Go.Proofs.Ytaiglhfmmdajdaa.Pm
open Go.RowKit Go.Proofs.YtaiglhfmmdajdaaW.PrintWords Go.Proofs.YtaiglhfmmdajdaaW.PrintLast Go.Proofs.YtaiglhfmmdajdaaW.PrintMore
attribute [local go_sem] max2_int min2_int max_two min_two max_three min_three max_four min_four   -- for this text's walks alone
set_option linter.unusedVariables false
set_option linter.unusedSimpArgs false
theorem pack_sum_at (l : List Int) (hn : l.length ≤ 9223372036854775806) (d : Nat) : ∀ (i k : Nat) (a c : Int), i + d = l.length → d < k → pack_Sum.l0 k a c l l.length i = some (Go.bits .or .u32 (((sumSt (l.drop i) a c).2 * 65536) % 4294967296) (sumSt (l.drop i) a c).1) := by
  induction d with
  | zero =>
    intro i k a c hi hk
    obtain ⟨k, rfl⟩ : ∃ m, k = m + 1 := ⟨k - 1, by omega⟩
    simp only [pack_Sum.l0]
    rw [if_neg (by omega), List.drop_eq_nil_of_le (by omega)]
    rfl
  | succ d ih =>
    intro i k a c hi hk
    obtain ⟨k, rfl⟩ : ∃ m, k = m + 1 := ⟨k - 1, by omega⟩
    simp only [pack_Sum.l0]
    rw [if_pos (by omega), if_pos (by omega), if_pos (by omega), List.drop_eq_getElem_cons (by omega)]
    have hw : wrap64 ((i : Int) + 1) = ((i + 1 : Nat) : Int) := by unfold wrap64; omega
    have hr : rd l (i : Int) = l[i] := by simp [rd, List.getD_eq_getElem?_getD, List.getElem?_eq_getElem (show i < l.length by omega)]
    rw [hw, hr, ih (i + 1) k _ _ (by omega) (by omega)]
    rfl
theorem pack_sum (l : List Int) (hn : l.length ≤ 9223372036854775806) (k : Nat) (hk : l.length < k) : pack_Sum.f k l = some (sumL l) := pack_sum_at l hn l.length 0 k 1 0 (by omega) hk
theorem sOk_of (fs : List ByteArray) (items : List (S48)) (ss : List (S54)) (h : sentsB fs items ss = true) : ss.length ≤ 3 ∧ ∀ s ∈ ss, sOk s := by
  unfold sentsB at h
  rw [Bool.and_eq_true, decide_eq_true_eq, Bool.not_eq_true', List.any_eq_false] at h
  refine ⟨h.1, fun s hs => ?_⟩
  have h2 := h.2 s hs
  rw [Bool.not_eq_true, Bool.not_eq_false'] at h2
  unfold sentryB at h2
  rw [Bool.and_eq_true, decide_eq_true_eq, Bool.and_eq_true, List.all_eq_true] at h2
  obtain ⟨⟨a, b, -⟩, c, d⟩ := h2
  refine ⟨a, b, fun x hx => ?_, fun y hy => ?_⟩
  · obtain ⟨i, hi, rfl⟩ := List.getElem_of_mem hx
    have := c i (List.mem_range.2 hi)
    unfold onOk at this
    rw [Bool.and_eq_true] at this
    have h3 := this.1
    have e : rd_T103 s.f0 (i : Int) = s.f0[i] := by simp [rd_T103, List.getD_eq_getElem?_getD, List.getElem?_eq_getElem hi]
    rw [e] at h3
    unfold onB legalB at h3
    split at h3
    · split at h3
      · omega
      · split at h3
        · omega
        · split at h3
          · omega
          · cases h3
    · cases h3
  · unfold ifsOk at d
    rw [Bool.not_eq_true', List.any_eq_false] at d
    have h3 := d y hy
    rw [Bool.not_eq_true, Bool.not_eq_false'] at h3
    unfold ifB at h3
    rw [Bool.and_eq_true, Bool.and_eq_true, decide_eq_true_eq] at h3
    exact h3.2.2
theorem name_size (l : List ByteArray) (h : namesB l = true) : ∀ s ∈ l, s.size ≤ 1000 := by
  intro s hs
  obtain ⟨i, hi, rfl⟩ := List.getElem_of_mem hs
  unfold namesB at h
  rw [List.all_eq_true] at h
  have := h i (List.mem_range.2 hi)
  unfold nameOk at this
  rw [rdOf_get _ _ _ hi, Bool.and_eq_true] at this
  have h1 := this.1
  unfold nameB at h1
  simp only [Bool.and_eq_true, decide_eq_true_eq] at h1
  omega
theorem MOk_of (fs : List ByteArray) (items : List (S48)) (h : isB fs items = true) : MOk fs items := by
  unfold isB at h
  rw [Bool.and_eq_true, Bool.and_eq_true, Bool.and_eq_true, Bool.and_eq_true, Bool.and_eq_true, decide_eq_true_eq, Bool.not_eq_true', List.any_eq_false] at h
  obtain ⟨⟨a, b, c⟩, d, e, -, -, f⟩ := h
  refine ⟨a, c, name_size fs d, fun x hx => ?_⟩
  have h2 := f x hx
  rw [Bool.not_eq_true, Bool.not_eq_false'] at h2
  unfold itemB at h2
  rw [Bool.and_eq_true, Bool.and_eq_true, Bool.and_eq_true, Bool.and_eq_true, decide_eq_true_eq] at h2
  obtain ⟨p, q, r, s, -⟩ := h2
  refine ⟨name_size _ e _ (List.mem_map_of_mem hx), by omega, ?_, sOk_of fs items _ q, sOk_of fs items _ r⟩
  split at s
  · rw [decide_eq_true_eq] at s; omega
  · rw [decide_eq_true_eq] at s; omega
theorem modelW_le (fs : List ByteArray) (items : List (S48)) (h : MOk fs items) : (modelW fs items).length ≤ 100000 := by
  unfold modelW
  rw [List.length_append, List.length_append, List.length_append]
  obtain ⟨hts, htl⟩ := texts_size h
  have := numW_length 10 (textsOf fs items).length
  have := numW_length 10 fs.length
  have := flat_le textW 1010 (textsOf fs items) (fun x hx => textW_le x (hts x hx))
  have := flat_le (itemW fs items) 900 items (fun x hx => itemW_le fs items x (h.2.2.2 x hx))
  have := h.1
  have := h.2.1
  omega
theorem mark_size (W : World) (a : Addr) : (markW W a).heap.size = W.heap.size := by
  unfold markW
  split
  · unfold World.freeze
    simp only [Nat.succ_ne_zero, ↓reduceIte, Array.size_modify]
  · rfl
def packL (fs : List ByteArray) (items : List (S48)) : List Int := sealL (modelW fs items)
def pack_Pack.f (l0_0 : List ByteArray) (l0_1 : List (S48)) : Option (List Int × Int) := if isB l0_0 l0_1 = true then some (packL l0_0 l0_1, 0) else some ([], 1)
set_option maxHeartbeats 8000000 in
set_option maxRecDepth 100000 in
theorem pack_Pack.calls (A0_0 : Option Addr) (c0_0 : Nat) (l0_0 : List ByteArray) (A0_1 : Option Addr) (c0_1 : Nat) (l0_1 : List (S48)) (r1 : List Int) (r2 : Int) (w : World) (hr0_0 : Kd.C Kd.string w A0_0 l0_0.length l0_0) (hc0_0 : l0_0.length ≤ c0_0) (hr0_1 : Kd.C k48 w A0_1 l0_1.length l0_1) (hc0_1 : l0_1.length ≤ c0_1) (h : pack_Pack.f l0_0 l0_1 = some (r1, r2)) :
    Calls Try.prog 14 #[.agg #[.slice A0_0 l0_0.length c0_0, .slice A0_1 l0_1.length c0_1]] w fun e w' => ∃ v0_ : Value, e = .returned (.tuple #[v0_, .int .i64 r2]) ∧ Kd.R (Kd.int .u8) 5 w' w.heap.size (fun _ => True) v0_ r1 ∧ Below w.heap.size w w' := by
  have hu25 := Try.underlying25
  have hu58 := Try.underlying58
  have hbw := below_alloc (Below.refl w.heap.size w) (.cells #[.slice A0_0 l0_0.length c0_0, .slice A0_1 l0_1.length c0_1] 25)
  have his := model_Is.calls A0_0 c0_0 l0_0 A0_1 c0_1 l0_1 (isB l0_0 l0_1) _ (Kd.C_below hr0_0 hbw) hc0_0 (Kd.C_below hr0_1 hbw) hc0_1 rfl
  have HR := Lib.hid (And.intro hr0_0 hr0_1)
  have HBW := Lib.hid hbw
  have HF : Hid (isB l0_0 l0_1 = true → MOk l0_0 l0_1) := Lib.hid (MOk_of _ _)
  unfold pack_Pack.f at h
  clear hr0_0 hr0_1 hbw
  obtain ⟨b, hb⟩ : ∃ b, b = isB l0_0 l0_1 := ⟨_, rfl⟩
  rw [← hb] at his h HF
  clear hb
  cases b with
  | false =>
    rw [if_neg (by decide)] at h
    cases h
    go_enter Try.func14, Try.ntmps14
    go_wp2_with fail
    refine his.mono ?_
    rintro e w2 ⟨rfl, hb2⟩
    have HB2 := Lib.hid (keepb hb2 HBW.out)
    clear his hb2
    go_wp2
    go_ret2
    exact ⟨_, rfl, Kd.R_nil _ _ _ _ _, HB2.out⟩
  | true =>
    rw [if_pos rfl] at h
    cases h
    have HM := Lib.hid (HF.out rfl)
    clear HF
    have hml := modelW_le l0_0 l0_1 HM.out
    unfold packL sealL
    obtain ⟨body, hbody⟩ : ∃ b, b = modelW l0_0 l0_1 := ⟨_, rfl⟩
    rw [← hbody] at hml ⊢
    obtain ⟨s, hss⟩ : ∃ s, s = sumL body := ⟨_, rfl⟩
    rw [← hss]
    have HBO := Lib.hid hbody
    have HSS := Lib.hid hss
    have HML := Lib.hid hml
    clear hbody hss hml
    go_enter Try.func14, Try.ntmps14
    go_wp2_with fail
    refine his.mono ?_
    rintro e w2 ⟨rfl, hb2⟩
    have HB2 := Lib.hid (keepb hb2 HBW.out)
    have hm0 := keepc hb2 (by simp : (w.alloc (.cells #[.slice A0_0 l0_0.length c0_0, .slice A0_1 l0_1.length c0_1] 25)).cell? ⟨w.heap.size, 0, none⟩ = some (.slice A0_0 l0_0.length c0_0))
    have hm1 := keepc hb2 (by simp : (w.alloc (.cells #[.slice A0_0 l0_0.length c0_0, .slice A0_1 l0_1.length c0_1] 25)).cell? ⟨w.heap.size, 1, none⟩ = some (.slice A0_1 l0_1.length c0_1))
    have hlt2 : w.heap.size < w2.heap.size := World.block_lt_of_cell? _ _ hm0
    clear his hb2
    go_wp2_with fail
    clear hm0 hm1
    obtain ⟨g, hg⟩ : ∃ g, g = w2.heap.size := ⟨_, rfl⟩
    obtain ⟨W2, hW2⟩ : ∃ W2, W2 = w2.alloc (.cells #[.slice none 0 0] 58) := ⟨_, rfl⟩
    have hgb : W2.heap[g]? = some (.cells #[.slice none 0 0] 58 (0, 0)) := by rw [hW2, hg]; exact heap_alloc_new w2 _
    have hbW : Below w2.heap.size w2 W2 := by rw [hW2]; exact below_alloc (Below.refl _ _) _
    have hsz : W2.heap.size = g + 1 := by rw [hW2, hg]; simp
    have F : Fx w2 W2 g (fun k => g < k) := ⟨by omega, fun k h => by omega, fun k h => by omega⟩
    have s0 : St w2 W2 W2 g (fun k => g < k) [] := St.refl ⟨_, hgb, Kd.R_nil _ _ _ _ _⟩ hbW
    rw [← hW2, ← hg]
    have HG2 := Lib.hid hg
    clear hW2 hg hgb hsz hbW hlt2
    refine (model_any w2 W2 g (fun k => g < k) [] A0_0 c0_0 l0_0 A0_1 c0_1 l0_1 F s0 (Kd.C_below HR.out.1 HB2.out) hc0_0 (Kd.C_below HR.out.2 HB2.out) hc0_1 HM.out (by simp)).mono ?_
    rintro e w3 ⟨rfl, s3⟩
    rw [List.nil_append] at s3
    clear F s0
    rw [← HBO.out] at s3
    obtain ⟨v, hg, hR⟩ := s3.1
    obtain ⟨Ag, cg, rfl⟩ := Kd.R_slice hR
    have hrd := Kd.R_reads' hR
    have hsum := pack_Sum.calls (body.length + 1) Ag cg body _ w3 hrd.2.2 (by have := hrd.2.1; omega) (pack_sum body (by have := HML.out; omega) _ (by omega))
    have hC3 := hrd.2.2
    obtain ⟨n, hn⟩ : ∃ n, n = body.length := ⟨_, rfl⟩
    rw [← hn] at hg hC3 hsum
    have hcv : w3.cell? ⟨g, 0, none⟩ = some (.slice Ag n cg) := (blk_cell hg 0).trans rfl
    have HB3 := Lib.hid (below_then HB2.out HB2.out.size s3.2.1)
    have HN := Lib.hid hn
    have HC3 := Lib.hid hC3
    rw [← HSS.out] at hsum
    have hml2 : n ≤ 100000 := by have := HML.out; omega
    have hgl : g < w3.heap.size := blk_lt hg
    have hgw : w.heap.size ≤ g := by rw [HG2.out]; exact HB2.out.size
    clear s3 hg hR hrd hn hC3
    have HCV := Lib.hid hcv
    go_wp2_with fail
    refine hsum.mono ?_
    rintro e w4 ⟨rfl, hd⟩
    have hb4 := hd.below
    have hcv := keepc hb4 HCV.out
    have HB4 := Lib.hid (below_then HB3.out HB3.out.size hb4)
    have HC4 := Lib.hid (Kd.C_below HC3.out hb4)
    have hg4 : g < w4.heap.size := by have := hb4.size; omega
    clear hd hb4 hsum
    have kb := fun W a n c => kcv (P := Try.prog) 26 5 Try.underlying26 Try.underlying5 W a n c
    have hmk := fun W a b => mark_cell W a b
    have hms := fun W a => mark_size W a
    have hg5 : g < w4.heap.size + 1 := by omega
    have hg6 : g < w4.heap.size + 1 + 1 := by omega
    go_wp2_with fail
    obtain ⟨Wa, hWa⟩ : ∃ Wa, Wa = markW (w4.alloc (.cells #[.int .u8 83, .int .u8 78, .int .u8 84, .int .u8 49] 5)) ⟨w4.heap.size, 0, none⟩ := ⟨_, rfl⟩
    have hsa : Wa.heap.size = w4.heap.size + 1 := by rw [hWa, mark_size]; simp
    have hba : Below w4.heap.size w4 Wa := by rw [hWa]; exact mark_below (below_alloc (Below.refl _ _) _) (Nat.le_refl _)
    have hca : Kd.C (Kd.int .u8) Wa (some ⟨w4.heap.size, 0, none⟩) 4 [83, 78, 84, 49] := by rw [hWa]; exact mark_C (lit_reads w4 _ rfl 5 [83, 78, 84, 49] (by decide))
    rw [← hWa]
    clear hWa
    obtain ⟨Wb, hWb⟩ : ∃ Wb, Wb = Wa.alloc (.cells #[.int .u8 ((s / 16777216) % 256), .int .u8 ((s / 65536) % 256), .int .u8 ((s / 256) % 256), .int .u8 (s % 256)] 5) := ⟨_, rfl⟩
    have hsb : Wb.heap.size = w4.heap.size + 1 + 1 := by rw [hWb, ← hsa]; simp
    have hbb : Below Wa.heap.size Wa Wb := by rw [hWb]; exact below_alloc (Below.refl _ _) _
    have hcb : Kd.C (Kd.int .u8) Wb (some ⟨w4.heap.size + 1, 0, none⟩) 4 [(s / 16777216) % 256, (s / 65536) % 256, (s / 256) % 256, s % 256] := by rw [hWb]; exact lit_reads Wa _ hsa.symm 5 [(s / 16777216) % 256, (s / 65536) % 256, (s / 256) % 256, s % 256] (by simp)
    rw [← hWb]
    clear hWb
    obtain ⟨Wc, hWc⟩ : ∃ Wc, Wc = Wb.alloc (.cells #[.slice (some ⟨w4.heap.size, 0, none⟩) 4 4, .slice (some ⟨w4.heap.size + 1, 0, none⟩) 4 4, .slice Ag n cg] 26) := ⟨_, rfl⟩
    have hbc : Below Wb.heap.size Wb Wc := by rw [hWc]; exact below_alloc (Below.refl _ _) _
    have hc0 : Wc.cell? ⟨w4.heap.size + 1 + 1, 0, none⟩ = some (.slice (some ⟨w4.heap.size, 0, none⟩) 4 4) := by rw [hWc, ← hsb]; simp
    have hc1 : Wc.cell? ⟨w4.heap.size + 1 + 1, 1, none⟩ = some (.slice (some ⟨w4.heap.size + 1, 0, none⟩) 4 4) := by rw [hWc, ← hsb]; simp
    have hc2 : Wc.cell? ⟨w4.heap.size + 1 + 1, 2, none⟩ = some (.slice Ag n cg) := by rw [hWc, ← hsb]; simp
    rw [← hWc]
    clear hWc
    have hb0c : Below w4.heap.size w4 Wc := below_then (below_then hba hba.size hbb) (below_then hba hba.size hbb).size hbc
    have HBC := Lib.hid (below_then HB4.out HB4.out.size hb0c)
    have hcc := concat_call Wc ⟨w4.heap.size + 1 + 1, 0, none⟩ 3
      (fun i => match i with | 0 => some ⟨w4.heap.size, 0, none⟩ | 1 => some ⟨w4.heap.size + 1, 0, none⟩ | _ => Ag)
      (fun i => match i with | 0 => 4 | 1 => 4 | _ => cg)
      (fun i => match i with | 0 => [83, 78, 84, 49] | 1 => [(s / 16777216) % 256, (s / 65536) % 256, (s / 256) % 256, s % 256] | _ => body)
      (fun i hi => match i, hi with
        | 0, _ => by rw [add_plain]; exact hc0
        | 1, _ => by rw [add_plain]; exact hc1
        | 2, _ => by rw [add_plain]; exact HN.out ▸ hc2)
      (fun i hi => match i, hi with
        | 0, _ => Kd.C_below (Kd.C_below hca hbb) hbc
        | 1, _ => Kd.C_below hcb hbc
        | 2, _ => HN.out ▸ Kd.C_below HC4.out hb0c)
      (by decide) (by simp [totN]; omega) (by have := HML.out; simp [totN]; omega)
    refine hcc.mono ?_
    rintro e w5 ⟨v5, rfl, hR5, hB5⟩
    have HR5 := Lib.hid (Kd.R_lower hR5 HBC.out.size)
    have HB5 := Lib.hid (below_then HBC.out HBC.out.size hB5)
    clear hcc hR5 hB5 hca hcb hc0 hc1 hc2 hba hbb hbc hb0c hsa hsb hcv kb hmk hms
    go_wp2
    go_ret2
    exact ⟨_, rfl, by simpa [catL, sealL] using HR5.out, HB5.out⟩
end Go.Proofs.Ytaiglhfmmdajdaa.Pm
end
section
namespace Go.Proofs.Ytaiglhfmmdajdaa.Pm
open Go.RowKit Go.Proofs.YtaiglhfmmdajdaaW.PrintWords Go.Proofs.YtaiglhfmmdajdaaW.PrintLast Go.Proofs.YtaiglhfmmdajdaaW.PrintMore
attribute [local go_sem] max2_int min2_int max_two min_two max_three min_three max_four min_four   -- for this text's walks alone
set_option linter.unusedVariables false
set_option linter.unusedSimpArgs false
def sentrylaw6_known.f : Option Bool := some true
def planItem : S48 := ⟨(⟨#[112]⟩ : ByteArray), 1, (⟨#[]⟩ : ByteArray), false, 0, [], []⟩
set_option maxRecDepth 100000 in
theorem isB_plan : isB [] [planItem] = true := by decide +kernel
set_option maxRecDepth 100000 in
theorem sum_abc : sumL [97, 98, 99] = 38600999 := by decide +kernel
theorem plan_C (W : World) (g : Nat) (hc : ∀ j u, [Value.string ⟨#[112]⟩, .int .i64 1, .string ⟨#[]⟩, .bool false, .int .i64 0, .slice none 0 0, .slice none 0 0][j]? = some u → W.cell? ((⟨g, 0, none⟩ : Addr).add j) = some u) : Kd.C k48 W (some ⟨g, 0, none⟩) [planItem].length [planItem] := by
  refine ⟨rfl, by decide, fun _ => ⟨_, rfl, fun j p hj => ?_⟩⟩
  obtain rfl : j = 0 := by
    have := (List.getElem?_eq_some_iff.1 hj).1
    simp at this
    exact this
  obtain rfl : planItem = p := by simpa using hj
  refine ⟨_, rfl, k48_mk W planItem (A5 := none) (c5 := 0) (Nat.le_refl _) (Kd.C_nil _ W) (A6 := none) (c6 := 0) (Nat.le_refl _) (Kd.C_nil _ W), fun i u hi => ?_⟩
  have h2 := hc i u hi
  rwa [show 0 * (Kd.sz k48) + i = i by omega]
theorem model_long (fs : List ByteArray) (l : List (S48)) : 1 ≤ (modelW fs l).length := by
  unfold modelW
  rw [List.length_append, List.length_append, List.length_append]
  have : 1 ≤ (numW 10 (textsOf fs l).length).length := by
    simp only [numW]
    split <;> simp
  omega
theorem pack_long (fs : List ByteArray) (l : List (S48)) : 9 ≤ (packL fs l).length := by
  have := model_long fs l
  unfold packL sealL
  rw [List.length_append, List.length_append]
  simp only [List.length_cons, List.length_nil]
  omega
theorem pack_take4 (fs : List ByteArray) (l : List (S48)) : (packL fs l).take 4 = [83, 78, 84, 49] := rfl
set_option maxHeartbeats 8000000 in
set_option maxRecDepth 100000 in
theorem sentrylaw6_known.calls (r : Bool) (w : World) (h : sentrylaw6_known.f = some r) :
    Calls Try.prog 18 #[] w fun e w' => e = .returned (.bool r) ∧ Below w.heap.size w w' := by
  obtain rfl := Option.some.inj h
  clear h
  have hu25 := Try.underlying25
  have hu48 := Try.underlying48
  have hC := plan_C (w.alloc (.cells #[.string ⟨#[112]⟩, .int .i64 1, .string ⟨#[]⟩, .bool false, .int .i64 0, .slice none 0 0, .slice none 0 0] 48)) w.heap.size (World.news_of_block (cs := #[.string ⟨#[112]⟩, .int .i64 1, .string ⟨#[]⟩, .bool false, .int .i64 0, .slice none 0 0, .slice none 0 0]) (t := 48) (fr := (0, 0)) (heap_alloc_new w _))
  have h3 := pack_Pack.calls none 0 [] (some ⟨w.heap.size, 0, none⟩) 1 [planItem] (packL [] [planItem]) 0 _ (Kd.C_nil _ _) (Nat.le_refl _) hC (Nat.le_refl _) (by unfold pack_Pack.f; rw [if_pos isB_plan])
  have hl := pack_long [] [planItem]
  have ht := pack_take4 [] [planItem]
  obtain ⟨L, hL⟩ : ∃ L, L = packL [] [planItem] := ⟨_, rfl⟩
  rw [← hL] at h3 hl ht
  clear hL hC
  have HB := Lib.hid (below_alloc (Below.refl w.heap.size w) (.cells #[.string ⟨#[112]⟩, .int .i64 1, .string ⟨#[]⟩, .bool false, .int .i64 0, .slice none 0 0, .slice none 0 0] 48))
  have HT := Lib.hid ht
  clear ht
  go_enter Try.func18, Try.ntmps18
  go_wp2_with fail
  refine h3.mono ?_
  rintro e w2 ⟨v, rfl, hR, hb2⟩
  obtain ⟨A, c, rfl⟩ := Kd.R_slice hR
  obtain ⟨hn, hlc, hC⟩ := Kd.R_reads' hR
  have hC4 := Kd.C_take hC (show 4 ≤ L.length by omega)
  rw [HT.out] at hC4
  obtain ⟨n, hnn⟩ : ∃ n, n = L.length := ⟨_, rfl⟩
  rw [← hnn] at hlc hl ⊢
  have hl8 : (n : Int) > 8 := by omega
  have hl4 : (4 : Int) ≤ n := by omega
  have hc4 : (4 : Int) ≤ c := by omega
  have HB2 := Lib.hid (below_then HB.out HB.out.size hb2)
  have HC4 := Lib.hid hC4
  clear hb2 hR h3 hC hC4 hn hnn
  have kb := fun W a n c => kcv (P := Try.prog) 26 5 Try.underlying26 Try.underlying5 W a n c
  go_wp2_with fail
  clear kb
  obtain ⟨Wa, hWa⟩ : ∃ Wa, Wa = markW (w2.alloc (.cells #[.int .u8 97, .int .u8 98, .int .u8 99] 5)) ⟨w2.heap.size, 0, none⟩ := ⟨_, rfl⟩
  have hba : Below w2.heap.size w2 Wa := by rw [hWa]; exact mark_below (below_alloc (Below.refl _ _) _) (Nat.le_refl _)
  have hca : Kd.C (Kd.int .u8) Wa (some ⟨w2.heap.size, 0, none⟩) 3 [97, 98, 99] := by rw [hWa]; exact mark_C (lit_reads w2 _ rfl 5 [97, 98, 99] (by decide))
  rw [← hWa]
  clear hWa
  have hsum := pack_Sum.calls 4 (some ⟨w2.heap.size, 0, none⟩) 3 [97, 98, 99] _ Wa hca (Nat.le_refl _) (pack_sum _ (by decide) _ (by decide))
  rw [sum_abc] at hsum
  refine hsum.mono ?_
  rintro e w3 ⟨rfl, hd⟩
  have hb3 := below_then hba hba.size hd.below
  have HB3 := Lib.hid (below_then HB2.out HB2.out.size hb3)
  have hks : (convert 26 9 (.slice A 4 c)).run Try.prog w3 = .ok (.string ⟨#[83, 78, 84, 49]⟩) w3 := Kd.C_string Try.underlying26 Try.underlying5 Try.underlying9 (Kd.C_below HC4.out hb3)
  clear hsum hba hca hd hb3
  go_wp2
  go_ret
  exact ⟨rfl, HB3.out⟩
end Go.Proofs.Ytaiglhfmmdajdaa.Pm
end
section
namespace Go.Proofs.Ytaiglhfmmdajdaa.Pm
open Go.RowKit Go.Proofs.YtaiglhfmmdajdaaW.PrintWords Go.Proofs.YtaiglhfmmdajdaaW.PrintLast Go.Proofs.YtaiglhfmmdajdaaW.PrintMore
attribute [local go_sem] max2_int min2_int max_two min_two max_three min_three max_four min_four   -- for this text's walks alone
set_option linter.unusedVariables false
set_option linter.unusedSimpArgs false
def Evb (g : Nat → Option Bool) (P : Prop) : Prop := ∃ r, Ev g r ∧ (r = true ↔ P)
theorem ba_ext' {a b : ByteArray} (h : a.toList = b.toList) : a = b := by
  rw [ByteArray.toList_eq, ByteArray.toList_eq] at h
  exact Go.WideShapes.bytes_inj h
theorem Evb.yes {P : Prop} (h : P) : Evb (fun _ => some true) P := ⟨true, Ev.now true, by simp [h]⟩
theorem Evb.no {P : Prop} (h : ¬ P) : Evb (fun _ => some false) P := ⟨false, Ev.now false, by simp [h]⟩
theorem Evb.iff {g : Nat → Option Bool} {P Q : Prop} (h : Evb g P) (e : P ↔ Q) : Evb g Q := by obtain ⟨r, h1, h2⟩ := h; exact ⟨r, h1, h2.trans e⟩
theorem Evb.step {f g : Nat → Option Bool} {P : Prop} (h : ∀ k, g (k + 1) = f k) (hf : Evb f P) : Evb g P := by obtain ⟨r, h1, h2⟩ := hf; exact ⟨r, Ev.step h h1, h2⟩
theorem Evb.congr {f g : Nat → Option Bool} {P : Prop} (h : ∀ k, g k = f k) (hf : Evb f P) : Evb g P := by obtain ⟨r, h1, h2⟩ := hf; exact ⟨r, Ev.congr h h1, h2⟩
theorem Evb.and {g n : Nat → Option Bool} {P Q : Prop} (hg : Evb g P) (hn : P → Evb n Q) : Evb (fun k => (g k).bind fun t => if t = true then n k else some false) (P ∧ Q) := by
  obtain ⟨r, h1, h2⟩ := hg
  cases r with
  | true =>
    obtain ⟨r, h3, h4⟩ := hn (h2.1 rfl)
    exact ⟨r, Ev.bind h1 (Ev.congr (fun k => if_pos rfl) h3), h4.trans ⟨fun h => ⟨h2.1 rfl, h⟩, fun h => h.2⟩⟩
  | false => exact ⟨false, Ev.bind h1 (Ev.congr (fun k => if_neg (by decide)) (Ev.now false)), by simp; intro h; exact absurd (h2.2 h) (by decide)⟩
theorem drop_iff {α : Type} {l m : List α} (h : l.length = m.length) (i : Nat) (hi : i < l.length) : l.drop i = m.drop i ↔ l[i] = m[i]'(h ▸ hi) ∧ l.drop (i + 1) = m.drop (i + 1) := by
  have hj : i < m.length := h ▸ hi
  rw [List.drop_eq_getElem_cons hi, List.drop_eq_getElem_cons hj, List.cons.injEq]
theorem evb_texts (l m : List ByteArray) (hn : l.length ≤ 9223372036854775806) : Evb (fun k => sentryref4_SameTexts.f k l m) (l = m) := by
  by_cases hl : l.length = m.length
  case neg => exact Evb.congr (fun k => by unfold sentryref4_SameTexts.f; exact if_neg (by omega)) (Evb.no (fun h => hl (by rw [h])))
  have main : ∀ (d i : Nat), i + d = l.length → Evb (fun k => sentryref4_SameTexts.l0 k l m (i : Int)) (l.drop i = m.drop i) := by
    intro d
    induction d with
    | zero =>
      intro i hi
      refine Evb.step (f := fun _ => some true) (fun k => ?_) (Evb.yes (by rw [List.drop_of_length_le (by omega), List.drop_of_length_le (by omega)]))
      simp only [sentryref4_SameTexts.l0]
      rw [if_neg (by omega)]
    | succ d ih =>
      intro i hi
      have h1 : i < l.length := by omega
      have h2 : i < m.length := by omega
      by_cases he : l[i].toList = m[i].toList
      · refine Evb.step (f := fun k => sentryref4_SameTexts.l0 k l m ((i + 1 : Nat) : Int)) (fun k => ?_) ((ih (i + 1) (by omega)).iff ?_)
        · simp only [sentryref4_SameTexts.l0]
          rw [if_pos (by omega), if_pos (by omega), if_pos (by omega), rdOf_get _ _ _ h1, rdOf_get _ _ _ h2, if_pos he, wrap_lt (n := (l.length : Int)) (by omega) (by omega) (by omega)]
          rfl
        · rw [drop_iff hl i h1]
          exact ⟨fun h => ⟨ba_ext' he, h⟩, fun h => h.2⟩
      · refine Evb.step (f := fun _ => some false) (fun k => ?_) (Evb.no ?_)
        · simp only [sentryref4_SameTexts.l0]
          rw [if_pos (by omega), if_pos (by omega), if_pos (by omega), rdOf_get _ _ _ h1, rdOf_get _ _ _ h2, if_neg he]
        · rw [drop_iff hl i h1]
          exact fun h => he (by rw [h.1])
  exact Evb.congr (fun k => by unfold sentryref4_SameTexts.f; exact if_pos (by omega)) (main l.length 0 (by omega))
theorem evb_s2 {Q : Prop} (l m : List (S54)) (i : Nat) (h1 : i < l.length) (h2 : i < m.length) (hl : l[i].f1.length = m[i].f1.length) (hn : l[i].f1.length ≤ 9223372036854775806) (hln : l.length ≤ 9223372036854775806) (hR : Evb (fun k => sentryref4_SameSentries.l0 k l m ((i + 1 : Nat) : Int)) Q) (d : Nat) : ∀ j : Nat, j + d = l[i].f1.length → Evb (fun k => sentryref4_SameSentries.l2 k l m (i : Int) (j : Int)) (l[i].f1.drop j = m[i].f1.drop j ∧ Q) := by
  have r1 : rd_T54 l (i : Int) = l[i] := by simp [rd_T54, List.getD_eq_getElem?_getD, List.getElem?_eq_getElem h1]
  have r2 : rd_T54 m (i : Int) = m[i] := by simp [rd_T54, List.getD_eq_getElem?_getD, List.getElem?_eq_getElem h2]
  induction d with
  | zero =>
    intro j hj
    refine Evb.step (f := fun k => sentryref4_SameSentries.l0 k l m ((i + 1 : Nat) : Int)) (fun k => ?_) (hR.iff ?_)
    · simp only [sentryref4_SameSentries.l2]
      rw [if_pos (by omega), if_pos (by omega), r1, if_neg (by omega), wrap_lt (n := (l.length : Int)) (by omega) (by omega) (by omega)]
      rfl
    · rw [List.drop_of_length_le (by omega), List.drop_of_length_le (by omega)]
      simp
  | succ d ih =>
    intro j hj
    have g1 : j < l[i].f1.length := by omega
    have g2 : j < m[i].f1.length := by omega
    have q1 : rd_T50 l[i].f1 (j : Int) = l[i].f1[j] := by simp [rd_T50, List.getD_eq_getElem?_getD, List.getElem?_eq_getElem g1]
    have q2 : rd_T50 m[i].f1 (j : Int) = m[i].f1[j] := by simp [rd_T50, List.getD_eq_getElem?_getD, List.getElem?_eq_getElem g2]
    have hb : (!((l[i].f1[j].f0.toList) == (m[i].f1[j].f0.toList)) || (!((l[i].f1[j].f1.toList) == (m[i].f1[j].f1.toList)) || (!(l[i].f1[j].f2 == m[i].f1[j].f2)))) = true ↔ l[i].f1[j] ≠ m[i].f1[j] := by
      generalize l[i].f1[j] = a
      generalize m[i].f1[j] = b
      obtain ⟨a0, a1, a2⟩ := a
      obtain ⟨b0, b1, b2⟩ := b
      simp only [Bool.or_eq_true, Bool.not_eq_true', beq_eq_false_iff_ne, ne_eq, S50.mk.injEq]
      constructor
      · rintro (h | h | h) ⟨e1, e2, e3⟩
        · exact h (by rw [e1])
        · exact h (by rw [e2])
        · exact h e3
      · intro h
        by_cases e1 : a0.toList = b0.toList
        · by_cases e2 : a1.toList = b1.toList
          · exact .inr (.inr (fun e3 => h ⟨ba_ext' e1, ba_ext' e2, e3⟩))
          · exact .inr (.inl e2)
        · exact .inl e1
    by_cases he : l[i].f1[j] = m[i].f1[j]
    · refine Evb.step (f := fun k => sentryref4_SameSentries.l2 k l m (i : Int) ((j + 1 : Nat) : Int)) (fun k => ?_) ((ih (j + 1) (by omega)).iff ?_)
      · simp only [sentryref4_SameSentries.l2]
        rw [if_pos (by omega), if_pos (by omega), r1, if_pos (by omega), if_pos (by omega), if_pos (by omega), r2, if_pos (by omega), q1, q2, if_neg (fun h => hb.1 h he), wrap_lt (n := (l[i].f1.length : Int)) (by omega) (by omega) (by omega)]
        rfl
      · rw [drop_iff hl j g1]
        exact ⟨fun h => ⟨⟨he, h.1⟩, h.2⟩, fun h => ⟨h.1.2, h.2⟩⟩
    · refine Evb.step (f := fun _ => some false) (fun k => ?_) (Evb.no ?_)
      · simp only [sentryref4_SameSentries.l2]
        rw [if_pos (by omega), if_pos (by omega), r1, if_pos (by omega), if_pos (by omega), if_pos (by omega), r2, if_pos (by omega), q1, q2, if_pos (hb.2 he)]
      · rw [drop_iff hl j g1]
        exact fun h => he h.1.1
theorem evb_s1 {Q : Prop} (l m : List (S54)) (i : Nat) (h1 : i < l.length) (h2 : i < m.length) (hl : l[i].f0.length = m[i].f0.length) (hl1 : l[i].f1.length = m[i].f1.length) (hn : l[i].f0.length ≤ 9223372036854775806) (hn1 : l[i].f1.length ≤ 9223372036854775806) (hln : l.length ≤ 9223372036854775806) (hR : Evb (fun k => sentryref4_SameSentries.l0 k l m ((i + 1 : Nat) : Int)) Q) (d : Nat) : ∀ j : Nat, j + d = l[i].f0.length → Evb (fun k => sentryref4_SameSentries.l1 k l m (i : Int) (j : Int)) (l[i].f0.drop j = m[i].f0.drop j ∧ l[i].f1 = m[i].f1 ∧ Q) := by
  have r1 : rd_T54 l (i : Int) = l[i] := by simp [rd_T54, List.getD_eq_getElem?_getD, List.getElem?_eq_getElem h1]
  have r2 : rd_T54 m (i : Int) = m[i] := by simp [rd_T54, List.getD_eq_getElem?_getD, List.getElem?_eq_getElem h2]
  induction d with
  | zero =>
    intro j hj
    refine Evb.step (f := fun k => sentryref4_SameSentries.l2 k l m (i : Int) ((0 : Nat) : Int)) (fun k => ?_) ((evb_s2 l m i h1 h2 hl1 hn1 hln hR l[i].f1.length 0 (by omega)).iff ?_)
    · simp only [sentryref4_SameSentries.l1]
      rw [if_pos (by omega), if_pos (by omega), r1, if_neg (by omega)]
      rfl
    · rw [List.drop_of_length_le (l := l[i].f0) (by omega), List.drop_of_length_le (l := m[i].f0) (by omega)]
      simp
  | succ d ih =>
    intro j hj
    have g1 : j < l[i].f0.length := by omega
    have g2 : j < m[i].f0.length := by omega
    have q1 : rd_T103 l[i].f0 (j : Int) = l[i].f0[j] := by simp [rd_T103, List.getD_eq_getElem?_getD, List.getElem?_eq_getElem g1]
    have q2 : rd_T103 m[i].f0 (j : Int) = m[i].f0[j] := by simp [rd_T103, List.getD_eq_getElem?_getD, List.getElem?_eq_getElem g2]
    have hb : (!((l[i].f0[j].f0.toList) == (m[i].f0[j].f0.toList)) || (!(l[i].f0[j].f1 == m[i].f0[j].f1))) = true ↔ l[i].f0[j] ≠ m[i].f0[j] := by
      generalize l[i].f0[j] = a
      generalize m[i].f0[j] = b
      obtain ⟨a0, a1⟩ := a
      obtain ⟨b0, b1⟩ := b
      simp only [Bool.or_eq_true, Bool.not_eq_true', beq_eq_false_iff_ne, ne_eq, S103.mk.injEq]
      constructor
      · rintro (h | h) ⟨e1, e2⟩
        · exact h (by rw [e1])
        · exact h e2
      · intro h
        by_cases e1 : a0.toList = b0.toList
        · exact .inr (fun e3 => h ⟨ba_ext' e1, e3⟩)
        · exact .inl e1
    by_cases he : l[i].f0[j] = m[i].f0[j]
    · refine Evb.step (f := fun k => sentryref4_SameSentries.l1 k l m (i : Int) ((j + 1 : Nat) : Int)) (fun k => ?_) ((ih (j + 1) (by omega)).iff ?_)
      · simp only [sentryref4_SameSentries.l1]
        rw [if_pos (by omega), if_pos (by omega), r1, if_pos (by omega), if_pos (by omega), if_pos (by omega), r2, if_pos (by omega), q1, q2, if_neg (fun h => hb.1 h he), wrap_lt (n := (l[i].f0.length : Int)) (by omega) (by omega) (by omega)]
        rfl
      · rw [drop_iff hl j g1]
        exact ⟨fun h => ⟨⟨he, h.1⟩, h.2⟩, fun h => ⟨h.1.2, h.2⟩⟩
    · refine Evb.step (f := fun _ => some false) (fun k => ?_) (Evb.no ?_)
      · simp only [sentryref4_SameSentries.l1]
        rw [if_pos (by omega), if_pos (by omega), r1, if_pos (by omega), if_pos (by omega), if_pos (by omega), r2, if_pos (by omega), q1, q2, if_pos (hb.2 he)]
      · rw [drop_iff hl j g1]
        exact fun h => he h.1.1
def fitS (l : List (S54)) : Prop := l.length ≤ 9223372036854775806 ∧ ∀ s ∈ l, s.f0.length ≤ 9223372036854775806 ∧ s.f1.length ≤ 9223372036854775806
theorem evb_sents (l m : List (S54)) (hn : fitS l) : Evb (fun k => sentryref4_SameSentries.f k l m) (l = m) := by
  by_cases hl : l.length = m.length
  case neg => exact Evb.congr (fun k => by unfold sentryref4_SameSentries.f; exact if_neg (by omega)) (Evb.no (fun h => hl (by rw [h])))
  have main : ∀ (d i : Nat), i + d = l.length → Evb (fun k => sentryref4_SameSentries.l0 k l m (i : Int)) (l.drop i = m.drop i) := by
    intro d
    induction d with
    | zero =>
      intro i hi
      refine Evb.step (f := fun _ => some true) (fun k => ?_) (Evb.yes (by rw [List.drop_of_length_le (by omega), List.drop_of_length_le (by omega)]))
      simp only [sentryref4_SameSentries.l0]
      rw [if_neg (by omega)]
    | succ d ih =>
      intro i hi
      have h1 : i < l.length := by omega
      have h2 : i < m.length := by omega
      have r1 : rd_T54 l (i : Int) = l[i] := by simp [rd_T54, List.getD_eq_getElem?_getD, List.getElem?_eq_getElem h1]
      have r2 : rd_T54 m (i : Int) = m[i] := by simp [rd_T54, List.getD_eq_getElem?_getD, List.getElem?_eq_getElem h2]
      have hb := hn.2 _ (List.getElem_mem h1)
      have hno : ∀ b, b = true → Evb (fun k => sentryref4_SameSentries.j1 k l m (i : Int) b) False := fun b e => Evb.step (f := fun _ => some false) (fun k => by simp [sentryref4_SameSentries.j1, e]) (Evb.no id)
      have hln := hn.1
      by_cases e0 : l[i].f0.length = m[i].f0.length
      · by_cases e1 : l[i].f1.length = m[i].f1.length
        · refine Evb.step (f := fun k => sentryref4_SameSentries.j1 k l m (i : Int) false) (fun k => ?_) (Evb.step (f := fun k => sentryref4_SameSentries.l1 k l m (i : Int) ((0 : Nat) : Int)) (fun k => ?_) ((evb_s1 l m i h1 h2 e0 e1 hb.1 hb.2 hn.1 (ih (i + 1) (by omega)) l[i].f0.length 0 (by omega)).iff ?_))
          · simp only [sentryref4_SameSentries.l0]
            rw [if_pos (by omega), if_pos (by omega), if_pos (by omega), r1, r2, if_pos (by omega), show (((l[i].f1.length : Nat) : Int) != (m[i].f1.length : Int)) = false by rw [e1]; simp]
          · simp only [sentryref4_SameSentries.j1]
            rw [if_neg (by decide)]
            rfl
          · rw [drop_iff hl i h1]
            constructor
            · rintro ⟨a, b, c⟩
              refine ⟨?_, c⟩
              simp only [List.drop_zero] at a
              revert a b
              generalize l[i] = x
              generalize m[i] = y
              obtain ⟨x0, x1⟩ := x
              obtain ⟨y0, y1⟩ := y
              intro a b
              simp only at a b
              rw [a, b]
            · rintro ⟨a, c⟩
              exact ⟨by rw [a], by rw [a], c⟩
        · refine Evb.step (f := fun k => sentryref4_SameSentries.j1 k l m (i : Int) true) (fun k => ?_) ((hno true rfl).iff ?_)
          · simp only [sentryref4_SameSentries.l0]
            rw [if_pos (by omega), if_pos (by omega), if_pos (by omega), r1, r2, if_pos (by omega), show (((l[i].f1.length : Nat) : Int) != (m[i].f1.length : Int)) = true by simp; omega]
          · rw [drop_iff hl i h1]
            exact ⟨False.elim, fun h => e1 (by rw [h.1])⟩
      · refine Evb.step (f := fun k => sentryref4_SameSentries.j1 k l m (i : Int) true) (fun k => ?_) ((hno true rfl).iff ?_)
        · simp only [sentryref4_SameSentries.l0]
          rw [if_pos (by omega), if_pos (by omega), if_pos (by omega), r1, r2, if_neg (by omega)]
        · rw [drop_iff hl i h1]
          exact ⟨False.elim, fun h => e0 (by rw [h.1])⟩
  exact Evb.congr (fun k => by unfold sentryref4_SameSentries.f; exact if_pos (by omega)) (main l.length 0 (by omega))
theorem evb_item (x y : S48) (h5 : fitS x.f5) (h6 : fitS x.f6) : Evb (fun k => sentryref4_SameItem.f k x.f0 x.f1 x.f2 x.f3 x.f4 x.f5 x.f6 y.f0 y.f1 y.f2 y.f3 y.f4 y.f5 y.f6) (x = y) := by
  obtain ⟨x0, x1, x2, x3, x4, x5, x6⟩ := x
  obtain ⟨y0, y1, y2, y3, y4, y5, y6⟩ := y
  simp only at h5 h6 ⊢
  unfold sentryref4_SameItem.f
  rw [show ((⟨x0, x1, x2, x3, x4, x5, x6⟩ : S48) = ⟨y0, y1, y2, y3, y4, y5, y6⟩) = (x0 = y0 ∧ x1 = y1 ∧ x2 = y2 ∧ x3 = y3 ∧ x4 = y4 ∧ x5 = y5 ∧ x6 = y6) by rw [S48.mk.injEq]]
  by_cases e0 : x0.toList = y0.toList
  case neg => exact Evb.congr (fun k => if_neg e0) (Evb.no (fun h => e0 (by rw [h.1])))
  by_cases e1 : x1 = y1
  case neg => exact Evb.congr (fun k => by rw [if_pos e0, if_neg e1]) (Evb.no (fun h => e1 h.2.1))
  by_cases e2 : x2.toList = y2.toList
  case neg => exact Evb.congr (fun k => by rw [if_pos e0, if_pos e1, if_neg e2]) (Evb.no (fun h => e2 (by rw [h.2.2.1])))
  by_cases e3 : x3 = y3
  case neg => exact Evb.congr (fun k => by rw [if_pos e0, if_pos e1, if_pos e2, if_neg (by simpa using e3)]) (Evb.no (fun h => e3 h.2.2.2.1))
  by_cases e4 : x4 = y4
  case neg => exact Evb.congr (fun k => by rw [if_pos e0, if_pos e1, if_pos e2, if_pos (by simpa using e3), if_neg e4]) (Evb.no (fun h => e4 h.2.2.2.2.1))
  refine Evb.congr (fun k => by rw [if_pos e0, if_pos e1, if_pos e2, if_pos (by simpa using e3), if_pos e4]) ((Evb.and (evb_sents x5 y5 h5) (fun _ => Evb.congr (fun k => ?_) (evb_sents x6 y6 h6))).iff ?_)
  · cases sentryref4_SameSentries.f k x6 y6 <;> rfl
  · exact ⟨fun h => ⟨ba_ext' e0, e1, ba_ext' e2, e3, e4, h.1, h.2⟩, fun h => ⟨h.2.2.2.2.2.1, h.2.2.2.2.2.2⟩⟩
theorem evb_items (l m : List (S48)) (hn : l.length ≤ 9223372036854775806) (hs : ∀ x ∈ l, fitS x.f5 ∧ fitS x.f6) : Evb (fun k => sentryref4_SameItems.f k l m) (l = m) := by
  by_cases hl : l.length = m.length
  case neg => exact Evb.congr (fun k => by unfold sentryref4_SameItems.f; exact if_neg (by omega)) (Evb.no (fun h => hl (by rw [h])))
  have main : ∀ (d i : Nat), i + d = l.length → Evb (fun k => sentryref4_SameItems.l0 k l m (i : Int)) (l.drop i = m.drop i) := by
    intro d
    induction d with
    | zero =>
      intro i hi
      refine Evb.step (f := fun _ => some true) (fun k => ?_) (Evb.yes (by rw [List.drop_of_length_le (by omega), List.drop_of_length_le (by omega)]))
      simp only [sentryref4_SameItems.l0]
      rw [if_neg (by omega)]
    | succ d ih =>
      intro i hi
      have h1 : i < l.length := by omega
      have h2 : i < m.length := by omega
      have r1 : rd_T48 l (i : Int) = l[i] := by simp [rd_T48, List.getD_eq_getElem?_getD, List.getElem?_eq_getElem h1]
      have r2 : rd_T48 m (i : Int) = m[i] := by simp [rd_T48, List.getD_eq_getElem?_getD, List.getElem?_eq_getElem h2]
      have hb := hs _ (List.getElem_mem h1)
      refine Evb.step (fun k => ?_) ((Evb.and (evb_item l[i] m[i] hb.1 hb.2) (fun _ => ih (i + 1) (by omega))).iff (drop_iff hl i h1).symm)
      simp only [sentryref4_SameItems.l0]
      rw [if_pos (by omega), if_pos (by omega), if_pos (by omega), r1, r2, wrap_lt (n := (l.length : Int)) (by omega) (by omega) (by omega)]
      rfl
  exact Evb.congr (fun k => by unfold sentryref4_SameItems.f; exact if_pos (by omega)) (main l.length 0 (by omega))
theorem ev_same (fs gs : List ByteArray) (l m : List (S48)) (hf : fs.length ≤ 9223372036854775806) (hn : l.length ≤ 9223372036854775806) (hs : ∀ x ∈ l, fitS x.f5 ∧ fitS x.f6) : Evb (fun k => sentryref4_Same.f k fs l gs m) (fs = gs ∧ l = m) := by
  unfold sentryref4_Same.f
  refine Evb.and (evb_texts fs gs hf) (fun _ => Evb.congr (fun k => ?_) (evb_items l m hn hs))
  cases sentryref4_SameItems.f k l m <;> rfl
end Go.Proofs.Ytaiglhfmmdajdaa.Pm
end
section
namespace Go.Proofs.Ytaiglhfmmdajdaa.Pm
open Go.RowKit Go.Proofs.YtaiglhfmmdajdaaW.PrintWords Go.Proofs.YtaiglhfmmdajdaaW.PrintLast Go.Proofs.YtaiglhfmmdajdaaW.PrintMore
attribute [local go_sem] max2_int min2_int max_two min_two max_three min_three max_four min_four   -- for this text's walks alone
set_option linter.unusedVariables false
set_option linter.unusedSimpArgs false
def TB (v : Bool) (W : World) (e : Ending) (w' : World) : Prop := e = .returned (.bool v) ∧ Below W.heap.size W w'
/-- A model that reads so in w. -/
def Md (w : World) (A0 : Option Addr) (c0 : Nat) (fs : List ByteArray) (A1 : Option Addr) (c1 : Nat) (l : List (S48)) : Prop := (Kd.C Kd.string w A0 fs.length fs ∧ fs.length ≤ c0 ∧ Kd.C k48 w A1 l.length l ∧ l.length ≤ c1) ∧ fs.length ≤ 140737488351232 ∧ l.length ≤ 140737488351232 ∧ ∀ x ∈ l, goodItem x
section
variable {w : World} {A0 : Option Addr} {c0 : Nat} {fs : List ByteArray} {A1 : Option Addr} {c1 : Nat} {l : List (S48)}
theorem Md.is (h : Md w A0 c0 fs A1 c1 l) : ∀ W, Below w.heap.size w W → Calls Try.prog 19 #[.agg #[.slice A0 fs.length c0, .slice A1 l.length c1]] W (TB (isB fs l) W) := by
  obtain ⟨⟨h0, h1, h2, h3⟩, h4, h5, h6⟩ := h
  obtain ⟨k, hk⟩ := ev_ris fs l (fits_of fs l h4 h5 h6)
  exact fun W hb => sentryref4_Is.calls k A0 c0 fs A1 c1 l _ W (Kd.C_below h0 hb) h1 (Kd.C_below h2 hb) h3 (by rw [← ris_eq]; exact hk k (Nat.le_refl _))
end
theorem fit_of {fs : List ByteArray} {l : List (S48)} (h : isB fs l = true) : fs.length ≤ 9223372036854775806 ∧ l.length ≤ 9223372036854775806 ∧ ∀ x ∈ l, fitS x.f5 ∧ fitS x.f6 := by
  have hm := MOk_of fs l h
  have h1 := hm.1
  have h2 := hm.2.1
  refine ⟨by omega, by omega, fun x hx => ?_⟩
  obtain ⟨-, -, -, h5, h6⟩ := hm.2.2.2 x hx
  exact ⟨⟨by omega, fun s hs => by have := (h5.2 s hs).1; have := (h5.2 s hs).2.1; constructor <;> omega⟩, ⟨by omega, fun s hs => by have := (h6.2 s hs).1; have := (h6.2 s hs).2.1; constructor <;> omega⟩⟩
theorem same_call (gs : List ByteArray) (m : List (S48)) (fs : List ByteArray) (l : List (S48)) (hf : gs.length ≤ 9223372036854775806 ∧ m.length ≤ 9223372036854775806 ∧ ∀ x ∈ m, fitS x.f5 ∧ fitS x.f6) : ∃ r : Bool, (r = true ↔ gs = fs ∧ m = l) ∧ ∀ (W : World) (A2 : Option Addr) (c2 : Nat) (A3 : Option Addr) (c3 : Nat) (A0 : Option Addr) (c0 : Nat) (A1 : Option Addr) (c1 : Nat), (Kd.C Kd.string W A2 gs.length gs ∧ gs.length ≤ c2 ∧ Kd.C k48 W A3 m.length m ∧ m.length ≤ c3) → (Kd.C Kd.string W A0 fs.length fs ∧ fs.length ≤ c0 ∧ Kd.C k48 W A1 l.length l ∧ l.length ≤ c1) →
    Calls Try.prog 20 #[.agg #[.slice A2 gs.length c2, .slice A3 m.length c3], .agg #[.slice A0 fs.length c0, .slice A1 l.length c1]] W (TB r W) := by
  obtain ⟨r, ⟨k, hk⟩, hr⟩ := ev_same gs fs m l hf.1 hf.2.1 hf.2.2
  exact ⟨r, hr, fun W A2 c2 A3 c3 A0 c0 A1 c1 h1 h2 => sentryref4_Same.calls k A2 c2 gs A3 c3 m A0 c0 fs A1 c1 l r W h1.1 h1.2.1 h1.2.2.1 h1.2.2.2 h2.1 h2.2.1 h2.2.2.1 h2.2.2.2 (hk k (Nat.le_refl _))⟩
theorem known_call (W : World) : Calls Try.prog 18 #[] W (TB true W) := sentrylaw6_known.calls true W rfl
end Go.Proofs.Ytaiglhfmmdajdaa.Pm
end
section
namespace Go.Proofs.Ytaiglhfmmdajdaa.Pm
open Go.RowKit Go.Proofs.YtaiglhfmmdajdaaW.PrintWords Go.Proofs.YtaiglhfmmdajdaaW.PrintLast Go.Proofs.YtaiglhfmmdajdaaW.PrintMore
attribute [local go_sem] max2_int min2_int max_two min_two max_three min_three max_four min_four   -- for this text's walks alone
set_option linter.unusedVariables false
set_option linter.unusedSimpArgs false
abbrev RSt := List Int × Bool
def Bytes (l : List Int) : Prop := ∀ x ∈ l, 0 ≤ x ∧ x ≤ 255
/-- What a reader in block g has left; the bytes are w0's. -/
def Rdr (w0 w : World) (g : Nat) (s : RSt) : Prop := ∃ A c, s.1.length ≤ c ∧ w.heap[g]? = some (.cells #[.slice A s.1.length c, .bool s.2] 71 (0, 0)) ∧ Kd.C (Kd.int .u8) w0 A s.1.length s.1 ∧ Bytes s.1 ∧ s.1.length ≤ 140737488351232
def Rs (w0 w wr : World) (g : Nat) (s : RSt) : Prop := Rdr w0 wr g s ∧ Below w0.heap.size w0 wr ∧ Kept w wr (fun k => k = g)
theorem set_size (w : World) (a : Addr) (v : Value) : (w.setCell a v).heap.size = w.heap.size := by simp [World.setCell]
theorem C_kept {α : Type} {enc : α → Value} {h1 : ∀ x, (enc x).oneCell' = true} {w w' : World} {A : Option Addr} {n : Nat} {xs : List α} {S : Nat → Prop} (h : Kd.C (Kd.scalar enc h1) w A n xs) (hk : Kept w w' S) (ha : ∀ ad, A = some ad → ad.block < w.heap.size ∧ ¬ S ad.block) : Kd.C (Kd.scalar enc h1) w' A n xs := C_stay h (fun ad e => hk.2 _ (ha ad e).1 (ha ad e).2)
section
variable {w0 w w1 w2 : World} {g : Nat} {s s' : RSt}
theorem Rs.refl (h : Rdr w0 w g s) (hB : Below w0.heap.size w0 w) : Rs w0 w w g s := ⟨h, hB, Kept.refl _ _⟩
theorem Rs.here (h : Rs w0 w w1 g s) : Rs w0 w1 w1 g s := ⟨h.1, h.2.1, Kept.refl _ _⟩
theorem Rdr.same (h : Rdr w0 w g s) (hb : w1.heap[g]? = w.heap[g]?) : Rdr w0 w1 g s := by
  obtain ⟨A, c, h1, h2, h3⟩ := h
  exact ⟨A, c, h1, hb.trans h2, h3⟩
theorem Rdr.lt (h : Rdr w0 w g s) : g < w.heap.size := by
  obtain ⟨A, c, -, h2, -⟩ := h
  exact blk_lt h2
theorem Rs.below (h : Rs w0 w w1 g s) (hb : Below w1.heap.size w1 w2) : Rs w0 w w2 g s := ⟨h.1.same (hb.block _ h.1.lt), below_then h.2.1 h.2.1.size hb, h.2.2.below hb⟩
theorem Rs.alloc (h : Rs w0 w w1 g s) (o : Obj) : Rs w0 w (w1.alloc o) g s := h.below (below_alloc (Below.refl _ _) o)
theorem Rs.drew (h : Rs w0 w w1 g s) : Rs w0 w w1.drew g s := h.below (below_drew1 (Below.refl _ _))
theorem Rs.then_ (h : Rs w0 w w1 g s) (k : Rs w0 w1 w2 g s') : Rs w0 w w2 g s' := ⟨k.1, k.2.1, h.2.2.then_ k.2.2 (fun _ e => .inl e)⟩
theorem Rs.stay {a : Addr} {v : Value} (h : Rs w0 w w1 g s) (hc : w.cell? a = some v) (hne : a.block ≠ g) : w1.cell? a = some v := cell_kept hc h.2.2 hne
theorem Rs.keep (h : Rs w0 w w1 g s) : KeepBut w w1 g none := ⟨h.2.2.1, fun k hk hne _ => h.2.2.2 k hk hne⟩
theorem Rs.blk {b : Nat} {o : Obj} (h : Rs w0 w w1 g s) (hb : w.heap[b]? = some o) (hne : b ≠ g) : w1.heap[b]? = some o := (h.2.2.2 b (blk_lt hb) hne).trans hb
/-- A row of one's own, newer than w, has grown. -/
theorem Rs.grown {row : Option Nat} (h : Rs w0 w w1 g s) (hg : w1.grownBy w2 row) (hr : ∀ k, row = some k → k ≠ g ∧ w.heap.size ≤ k ∧ w0.heap.size ≤ k) : Rs w0 w w2 g s :=
  ⟨h.1.same (hg.block g h.1.lt (fun e => (hr g e.symm).1 rfl)), h.2.1.grown hg h.2.1.size (fun k e => (hr k e).2.2), Kept.of_grown hg h.2.2 (fun k e => .inr (hr k e).2.1)⟩
/-- A store into a block of one's own, newer than w. -/
theorem Rs.set {p : Addr} (h : Rs w0 w w1 g s) (v : Value) (hp : p.block ≠ g ∧ w.heap.size ≤ p.block ∧ w0.heap.size ≤ p.block) : Rs w0 w (w1.setCell p v) g s :=
  ⟨h.1.same (Below.heap_setCell _ _ _ _ (fun e => hp.1 e.symm)), h.2.1.setCell hp.2.2 v, h.2.2.setCell (.inr hp.2.1) v⟩
/-- The first field is put: fewer bytes are left. -/
theorem Rdr.put0 {A : Option Addr} {c : Nat} {v0 : Value} {b : Bool} {xs : List Int} (hg : w.heap[g]? = some (.cells #[v0, .bool b] 71 (0, 0))) (hl : xs.length ≤ c) (hC : Kd.C (Kd.int .u8) w0 A xs.length xs) (h8 : Bytes xs) (h6 : xs.length ≤ 140737488351232) : Rdr w0 (w.setCell ⟨g, 0, none⟩ (.slice A xs.length c)) g (xs, b) :=
  ⟨A, c, hl, blk_put hg 0 _ rfl, hC, h8, h6⟩
/-- The second field is put. -/
theorem Rdr.put1 (h : Rdr w0 w g s) (b : Bool) : Rdr w0 (w.setCell ⟨g, 1, none⟩ (.bool b)) g (s.1, b) := by
  obtain ⟨A, c, hl, hg, hC, h8, h6⟩ := h
  exact ⟨A, c, hl, blk_put hg 1 _ rfl, hC, h8, h6⟩
theorem Rs.put {v : Value} {j : Nat} (h : Rs w0 w w1 g s) (hg : w0.heap.size ≤ g) (hs : Rdr w0 (w1.setCell ⟨g, j, none⟩ v) g s') : Rs w0 w (w1.setCell ⟨g, j, none⟩ v) g s' := ⟨hs, h.2.1.setCell hg v, h.2.2.setCell (p := ⟨g, j, none⟩) (.inl rfl) v⟩
end
def takeR (n : Nat) (s : RSt) : List Int × RSt := if s.2 = true ∨ s.1.length < n then ([], (s.1, true)) else (s.1.take n, (s.1.drop n, false))
/-- What a call answers that takes bytes: they lie in the reader's own row. -/
def TakePost (w0 w : World) (g : Nat) (r : List Int × RSt) (e : Ending) (w' : World) : Prop := ∃ A c, e = .returned (.slice A r.1.length c) ∧ r.1.length ≤ c ∧ Kd.C (Kd.int .u8) w0 A r.1.length r.1 ∧ Rs w0 w w' g r.2
set_option maxHeartbeats 4000000 in
set_option maxRecDepth 100000 in
theorem take_any (w0 w : World) (g : Nat) (s : RSt) (n : Nat) (hB : Below w0.heap.size w0 w) (hg0 : w0.heap.size ≤ g) (hR : Rdr w0 w g s) (hn : n ≤ 9223372036854775807) :
    Calls Try.prog 63 #[.pointer (some ⟨g, 0, none⟩), .int .i64 n] w (TakePost w0 w g (takeR n s)) := by
  have HR := Lib.hid hR
  have HB := Lib.hid hB
  obtain ⟨xs, b⟩ := s
  obtain ⟨A, c, hl, hg, hC, h8, h6⟩ := hR
  obtain ⟨m, hm⟩ : ∃ m, m = xs.length := ⟨_, rfl⟩
  simp only at hl hg hC h8 h6
  rw [← hm] at hl hg h6
  have hcv : w.cell? ⟨g, 0, none⟩ = some (.slice A m c) := (blk_cell hg 0).trans rfl
  have hbv : w.cell? ⟨g, 1, none⟩ = some (.bool b) := (blk_cell hg 1).trans rfl
  have hfz := blk_frozen hg 0
  have hfz1 := blk_frozen hg 1
  have HG := Lib.hid hg
  have HC := Lib.hid hC
  have H8 := Lib.hid h8
  have HM := Lib.hid hm
  clear hB hg hC h8 hm
  by_cases hbad : b = true ∨ m < n
  case pos =>
    have HT : Hid (takeR n (xs, b) = ([], (xs, true))) := Lib.hid (by
      unfold takeR
      rw [if_pos (by rw [← HM.out]; exact hbad)])
    have HS : Hid (Rs w0 w (w.setCell ⟨g, 1, none⟩ (.bool true)) g (xs, true)) := Lib.hid ((Rs.refl HR.out HB.out).put hg0 (HR.out.put1 true))
    rw [HT.out]
    cases b with
    | true =>
      clear hbad
      go_enter Try.func63, Try.ntmps63
      go_wp2
      go_ret
      exact ⟨none, 0, rfl, Nat.le_refl _, Kd.C_nil _ _, HS.out⟩
    | false =>
      have hlt : m < n := by simpa using hbad
      have hltz : (n : Int) > (m : Int) := by omega
      clear hbad
      go_enter Try.func63, Try.ntmps63
      go_wp2
      go_ret
      exact ⟨none, 0, rfl, Nat.le_refl _, Kd.C_nil _ _, HS.out⟩
  case neg =>
    rw [not_or] at hbad
    obtain ⟨hb, hnm⟩ := hbad
    obtain rfl : b = false := by simpa using hb
    have hnm2 : n ≤ m := by omega
    have hltz : ¬ (n : Int) > (m : Int) := by omega
    have HT : Hid (takeR n (xs, false) = (xs.take n, (xs.drop n, false))) := Lib.hid (by
      unfold takeR
      rw [if_neg (by rw [← HM.out]; simp; omega)])
    rw [HT.out]
    obtain ⟨i0, hi0, hz0, hz1, hz2⟩ := info_parts info5
    have k1 := cut_to (P := Try.prog) 26 5 .i64 Try.underlying26 hi0 A m c (n : Int) (by omega) (by omega) hl
    have k2 := cut_from (P := Try.prog) 26 5 .i64 Try.underlying26 hi0 1 hz1 A m c (n : Int) (by omega) (by omega)
    rw [Int.toNat_natCast] at k1 k2
    obtain ⟨A2, hA2⟩ : ∃ A2, A2 = if c = n then A else A.map (·.add (n * 1)) := ⟨_, rfl⟩
    rw [← hA2] at k2
    obtain ⟨q, hq⟩ : ∃ q, q = m - n := ⟨_, rfl⟩
    rw [← hq] at k2
    have hdl : (xs.drop n).length = q := by rw [List.length_drop, ← HM.out, hq]
    have htl : (xs.take n).length = n := by rw [List.length_take, ← HM.out]; omega
    have hC2 : Kd.C (Kd.int .u8) w0 A2 (xs.drop n).length (xs.drop n) := by rw [hA2]; exact Kd.C_drop HC.out (by rw [← HM.out]; omega) (by rw [← HM.out]; omega)
    have hC1 : Kd.C (Kd.int .u8) w0 A (xs.take n).length (xs.take n) := Kd.C_take HC.out (by rw [← HM.out]; omega)
    have HS : Hid (Rs w0 w (w.setCell ⟨g, 0, none⟩ (.slice A2 q (c - n))) g (xs.drop n, false)) := Lib.hid ((Rs.refl HR.out HB.out).put hg0 (hdl ▸ Rdr.put0 HG.out (by rw [hdl]; omega) hC2 (fun x hx => H8.out x (List.mem_of_mem_drop hx)) (by rw [hdl]; omega)))
    have HC1 := Lib.hid hC1
    have HTL := Lib.hid htl
    have hqc : q ≤ c - n := by omega
    have hnc : n ≤ c := by omega
    have HNC := Lib.hid hnc
    clear hA2 hq hdl htl hC2 hC1 hb hz0 hz1 hz2 hi0
    go_enter Try.func63, Try.ntmps63
    go_wp2
    go_ret
    exact ⟨A, c, by rw [HTL.out]; rfl, by rw [HTL.out]; exact HNC.out, HC1.out, HS.out⟩
theorem take_st {w0 w wr : World} {g : Nat} {s : RSt} (n : Nat) (hg0 : w0.heap.size ≤ g) (h : Rs w0 w wr g s) (hn : n ≤ 9223372036854775807) :
    Calls Try.prog 63 #[.pointer (some ⟨g, 0, none⟩), .int .i64 n] wr (TakePost w0 w g (takeR n s)) :=
  (take_any w0 wr g s n h.2.1 hg0 h.1 hn).mono fun e w' ⟨A, c, h1, h2, h3, h5⟩ => ⟨A, c, h1, h2, h3, h.then_ h5⟩
end Go.Proofs.Ytaiglhfmmdajdaa.Pm
end
section
namespace Go.Proofs.Ytaiglhfmmdajdaa.Pm
open Go.RowKit Go.Proofs.YtaiglhfmmdajdaaW.PrintWords Go.Proofs.YtaiglhfmmdajdaaW.PrintLast Go.Proofs.YtaiglhfmmdajdaaW.PrintMore
attribute [local go_sem] max2_int min2_int max_two min_two max_three min_three max_four min_four   -- for this text's walks alone
set_option linter.unusedVariables false
set_option linter.unusedSimpArgs false
def numGo (below : Int) : Nat → Nat → Int → RSt → Int × RSt
  | 0, _, _, s => (0, (s.1, true))
  | d + 1, i, n, s => if s.2 = true then (0, (s.1, true)) else match s.1 with
    | [] => (0, ([], true))
    | x :: r => if x < 128 then (n + (x % 128) * (128 : Int) ^ i, (r, decide (below ≤ n + (x % 128) * (128 : Int) ^ i))) else numGo below d (i + 1) (n + (x % 128) * (128 : Int) ^ i) (r, false)
def numR (below : Int) (s : RSt) : Int × RSt := numGo below 5 0 0 s
def NumPost (w0 w : World) (g : Nat) (r : Int × RSt) (e : Ending) (w' : World) : Prop := e = .returned (.int .i64 r.1) ∧ Rs w0 w w' g r.2
theorem Bytes.cons {x : Int} {r : List Int} (h : Bytes (x :: r)) : (0 ≤ x ∧ x ≤ 255) ∧ Bytes r := ⟨h x List.mem_cons_self, fun y hy => h y (List.mem_cons_of_mem _ hy)⟩
theorem andNot128 (x : Int) (h0 : 0 ≤ x) (h1 : x ≤ 255) : Go.bits .andNot .u8 x 128 = x % 128 := by
  have h : ∀ n : Fin 256, Go.bits .andNot .u8 (n.val : Int) 128 = (n.val : Int) % 128 := by decide +kernel
  have := h ⟨x.toNat, by omega⟩
  rwa [show ((⟨x.toNat, by omega⟩ : Fin 256).val : Int) = x by simp; omega] at this
theorem num_val (n x : Int) (i : Nat) (hi : i < 5) (h0 : 0 ≤ n) (hn : n < (128 : Int) ^ i) (hx : 0 ≤ x ∧ x ≤ 255) : Go.bits .or .i64 n (wrap64 (wrap64 (Go.bits .andNot .u8 x 128) * 2 ^ (7 * i))) = n + (x % 128) * (128 : Int) ^ i ∧ 0 ≤ n + (x % 128) * (128 : Int) ^ i ∧ n + (x % 128) * (128 : Int) ^ i < (128 : Int) ^ (i + 1) := by
  have hw : ∀ m : Int, 0 ≤ m → m < 2 ^ 63 → IntKind.i64.wrap m = m := fun m hm1 hm2 => by rw [IntKind.wrap_i64]; omega
  rw [andNot128 x hx.1 hx.2]
  have e1 : wrap64 (x % 128) = x % 128 := by unfold wrap64; omega
  rw [e1]
  have key : ∀ j : Nat, j < 5 → i = j → Go.bits .or .i64 n (wrap64 (x % 128 * 2 ^ (7 * j))) = n + (x % 128) * (128 : Int) ^ j ∧ 0 ≤ n + (x % 128) * (128 : Int) ^ j ∧ n + (x % 128) * (128 : Int) ^ j < (128 : Int) ^ (j + 1) := by
    intro j hj e
    subst e
    have hj5 : i = 0 ∨ i = 1 ∨ i = 2 ∨ i = 3 ∨ i = 4 := by omega
    rcases hj5 with rfl | rfl | rfl | rfl | rfl
    all_goals
      simp only [Nat.mul_zero, Nat.mul_one, Nat.reduceMul, Int.reducePow, Nat.reduceAdd, Int.pow_zero, Int.mul_one, Int.zero_add] at hn ⊢
      refine ⟨?_, by omega, by omega⟩
    · have e2 : wrap64 (x % 128) = x % 128 := e1
      rw [e2, show n = 0 by omega, bits_join_low .i64 63 (by decide) hw 0 0 (x % 128) (by omega) (by omega) (by omega) (by omega) (by omega) (by omega)]
    · have e2 : wrap64 (x % 128 * 128) = x % 128 * 128 := by unfold wrap64; omega
      rw [e2, bits_join_low .i64 63 (by decide) hw 7 n (x % 128 * 128) (by omega) (by omega) (by omega) (by omega) (by omega) (by omega)]
    · have e2 : wrap64 (x % 128 * 16384) = x % 128 * 16384 := by unfold wrap64; omega
      rw [e2, bits_join_low .i64 63 (by decide) hw 14 n (x % 128 * 16384) (by omega) (by omega) (by omega) (by omega) (by omega) (by omega)]
    · have e2 : wrap64 (x % 128 * 2097152) = x % 128 * 2097152 := by unfold wrap64; omega
      rw [e2, bits_join_low .i64 63 (by decide) hw 21 n (x % 128 * 2097152) (by omega) (by omega) (by omega) (by omega) (by omega) (by omega)]
    · have e2 : wrap64 (x % 128 * 268435456) = x % 128 * 268435456 := by unfold wrap64; omega
      rw [e2, bits_join_low .i64 63 (by decide) hw 28 n (x % 128 * 268435456) (by omega) (by omega) (by omega) (by omega) (by omega) (by omega)]
  exact key i hi rfl
set_option maxHeartbeats 8000000 in
set_option maxRecDepth 100000 in
theorem num_rany (w0 w : World) (g : Nat) (s : RSt) (below : Int) (hB : Below w0.heap.size w0 w) (hg0 : w0.heap.size ≤ g) (hR : Rdr w0 w g s) :
    Calls Try.prog 64 #[.pointer (some ⟨g, 0, none⟩), .int .i64 below] w (NumPost w0 w g (numR below s)) := by
  have HS := Lib.hid (Rs.refl hR hB)
  clear hR hB
  unfold numR
  obtain ⟨R, hR⟩ : ∃ R, R = numGo below 5 0 0 s := ⟨_, rfl⟩
  rw [← hR]
  have HR := Lib.hid hR
  clear hR
  go_enter Try.func64, Try.ntmps64
  go_wp2
  go_loopg [8, 5] 5 (fun gg s8 s5 wr => ∃ (i d : Nat) (n : Int) (z : RSt), s8 = .int .i64 i ∧ s5 = .int .i64 n ∧ i + d = 5 ∧ d ≤ gg ∧ 0 ≤ n ∧ n < (128 : Int) ^ i ∧ Hid (Rs w0 w wr g z ∧ R = numGo below d i n z))
  case atStart => exact ⟨0, 5, 0, s, rfl, rfl, rfl, by omega, by decide, by decide, Lib.hid ⟨HS.out, HR.out⟩⟩
  case round =>
    obtain ⟨i, d, n, z, rfl, rfl, hig, hdg, hn0, hni, X⟩ := hrel
    obtain ⟨wO, rfl⟩ : ∃ wO, wO = wr := ⟨_, rfl⟩
    by_cases hi : i < 5
    case neg =>
      obtain rfl : i = 5 := by omega
      obtain rfl : d = 0 := by omega
      have HT : Hid (R = (0, (z.1, true))) := Lib.hid X.out.2
      have HZ : Hid (Rs w0 w (wO.setCell ⟨g, 1, none⟩ (.bool true)) g (z.1, true)) := Lib.hid (X.out.1.put hg0 (X.out.1.1.put1 true))
      obtain ⟨A, c, hl, hg, hC, -⟩ := X.out.1.1
      have hfz1 := blk_frozen hg 1
      have hbv : wO.cell? ⟨g, 1, none⟩ = some (.bool z.2) := (blk_cell hg 1).trans rfl
      clear hg hC
      go_wp2
      go_ret
      exact ⟨by rw [HT.out]; rfl, by rw [HT.out]; exact HZ.out⟩
    have hiz : (i : Int) < 5 := by omega
    obtain ⟨d, rfl⟩ : ∃ e, d = e + 1 := ⟨d - 1, by omega⟩
    have HB8 : Hid (Bytes z.1) := Lib.hid (by obtain ⟨A, c, -, -, -, h8, -⟩ := X.out.1.1; exact h8)
    have htk := take_st (w0 := w0) (w := w) (g := g) (s := z) 1 hg0 X.out.1 (by omega)
    have HX := Lib.hid X.out.2
    obtain ⟨xs, b⟩ := z
    clear X
    by_cases hbad : b = true ∨ xs = []
    case pos =>
      have HT : Hid (takeR 1 (xs, b) = ([], (xs, true))) := Lib.hid (by
        unfold takeR
        rw [if_pos]
        rcases hbad with h | h
        · exact .inl h
        · exact .inr (by rw [h]; exact Nat.zero_lt_one))
      have HE : Hid (R = (0, (xs, true))) := Lib.hid (by
        rw [HX.out]
        simp only [numGo]
        rcases hbad with h | h
        · rw [if_pos h]
        · subst h
          split <;> rfl)
      rw [HT.out] at htk
      clear hbad
      go_wp2_with fail
      refine htk.mono ?_
      rintro e w2 ⟨A, c, rfl, hlc, hC, hs⟩
      have HS2 := Lib.hid hs
      obtain ⟨A2, c2, hl2, hg2, hC2, -⟩ := hs.1
      have hbv : w2.cell? ⟨g, 1, none⟩ = some (.bool true) := (blk_cell hg2 1).trans rfl
      clear hs hC hg2 hC2 htk
      go_wp2
      go_ret
      exact ⟨by rw [HE.out]; rfl, by rw [HE.out]; exact HS2.out⟩
    rw [not_or] at hbad
    obtain ⟨hb, hx⟩ := hbad
    obtain rfl : b = false := by simpa using hb
    cases xs with
    | nil => exact absurd rfl hx
    | cons x r =>
    have HX8 : Hid (0 ≤ x ∧ x ≤ 255) := Lib.hid (Bytes.cons HB8.out).1
    have HT : Hid (takeR 1 (x :: r, false) = ([x], (r, false))) := Lib.hid rfl
    rw [HT.out] at htk
    clear hb hx
    go_wp2_with fail
    refine htk.mono ?_
    rintro e w2 ⟨A, c, rfl, hlc, hC, hs⟩
    have HS2 := Lib.hid hs
    obtain ⟨A2, c2, hl2, hg2, hC2, -⟩ := hs.1
    have hbv : w2.cell? ⟨g, 1, none⟩ = some (.bool false) := (blk_cell hg2 1).trans rfl
    have hfz1 := blk_frozen hg2 1
    obtain ⟨ad, e, hx0⟩ := Kd.at_int (Kd.C_below hC hs.2.1) (0 : Int) (by omega) (by simp)
    cases e
    have hx0 : w2.cell? ad = some (.int .u8 x) := by simpa [Addr.add, rd] using hx0
    have HC := Lib.hid hC
    clear hs hC hg2 hC2 htk
    obtain ⟨v, hv⟩ : ∃ v, v = n + (x % 128) * (128 : Int) ^ i := ⟨_, rfl⟩
    obtain ⟨hval, hv0, hvn⟩ := num_val n x i hi hn0 hni HX8.out
    rw [← hv] at hval hv0 hvn
    have HV := Lib.hid hv
    have HVN := Lib.hid hvn
    clear hv hvn hni
    by_cases h128 : x < 128
    case pos =>
      have HE : Hid (R = (v, (r, decide (below ≤ v)))) := Lib.hid (by
        rw [HX.out, HV.out]
        simp only [numGo]
        rw [if_neg (by decide), if_pos h128])
      have HP : Hid (Rs w0 w (w2.setCell ⟨g, 1, none⟩ (.bool (decide (below ≤ v)))) g (r, decide (below ≤ v))) := Lib.hid (HS2.out.put hg0 (HS2.out.1.put1 _))
      go_wp2
      go_ret
      exact ⟨by rw [HE.out]; rfl, by rw [HE.out]; exact HP.out⟩
    case neg =>
      have HE : Hid (R = numGo below d (i + 1) v (r, false)) := Lib.hid (by
        rw [HX.out, HV.out]
        simp only [numGo]
        rw [if_neg (by decide), if_neg h128])
      go_wp2
      go_roundg d
      case measure => omega
      case rel => exact ⟨i + 1, d, v, (r, false), by go_num, rfl, by omega, Nat.le_refl _, hv0, HVN.out, Lib.hid ⟨HS2.out, HE.out⟩⟩
theorem num_rs {w0 w wr : World} {g : Nat} {s : RSt} (below : Int) (hg0 : w0.heap.size ≤ g) (h : Rs w0 w wr g s) :
    Calls Try.prog 64 #[.pointer (some ⟨g, 0, none⟩), .int .i64 below] wr (NumPost w0 w g (numR below s)) :=
  (num_rany w0 wr g s below h.2.1 hg0 h.1).mono fun e w' ⟨h1, h2⟩ => ⟨h1, h.then_ h2⟩
end Go.Proofs.Ytaiglhfmmdajdaa.Pm
end
section
namespace Go.Proofs.Ytaiglhfmmdajdaa.Pm
open Go.RowKit Go.Proofs.YtaiglhfmmdajdaaW.PrintWords Go.Proofs.YtaiglhfmmdajdaaW.PrintLast Go.Proofs.YtaiglhfmmdajdaaW.PrintMore
attribute [local go_sem] max2_int min2_int max_two min_two max_three min_three max_four min_four   -- for this text's walks alone
set_option linter.unusedVariables false
set_option linter.unusedSimpArgs false
theorem numGo_lt (below : Int) (d : Nat) : ∀ (i : Nat) (n : Int) (s : RSt), Bytes s.1 → 0 ≤ n → n < (128 : Int) ^ i → 0 ≤ (numGo below d i n s).1 ∧ (numGo below d i n s).1 < (128 : Int) ^ (i + d) ∧ ((numGo below d i n s).2.2 = false → (numGo below d i n s).1 < below) := by
  induction d with
  | zero =>
    intro i n s _ h0 h1
    simp only [numGo]
    exact ⟨Int.le_refl _, Int.pow_pos (by decide), (fun h => by cases h)⟩
  | succ d ih =>
    intro i n s h8 h0 h1
    simp only [numGo]
    have hp : (0 : Int) < (128 : Int) ^ (i + (d + 1)) := Int.pow_pos (by decide)
    by_cases hb : s.2 = true
    · rw [if_pos hb]
      exact ⟨Int.le_refl _, hp, fun h => by cases h⟩
    · rw [if_neg hb]
      obtain ⟨xs, b⟩ := s
      cases xs with
      | nil => exact ⟨Int.le_refl _, hp, fun h => by cases h⟩
      | cons x r =>
        have hx := Bytes.cons h8
        have hpi : (0 : Int) ≤ (128 : Int) ^ i := Int.le_of_lt (Int.pow_pos (by decide))
        have hm : 0 ≤ x % 128 * (128 : Int) ^ i ∧ x % 128 * (128 : Int) ^ i ≤ 127 * (128 : Int) ^ i := ⟨Int.mul_nonneg (by omega) hpi, Int.mul_le_mul_of_nonneg_right (by omega) hpi⟩
        have hs : n + x % 128 * (128 : Int) ^ i < (128 : Int) ^ (i + 1) := by
          rw [Int.pow_succ]
          omega
        simp only
        by_cases hl : x < 128
        · rw [if_pos hl]
          refine ⟨by show 0 ≤ n + x % 128 * (128 : Int) ^ i; omega, ?_, fun h => ?_⟩
          · show n + x % 128 * (128 : Int) ^ i < (128 : Int) ^ (i + (d + 1))
            refine Int.lt_of_lt_of_le hs ?_
            have h1 : (128 : Nat) ^ (i + 1) ≤ 128 ^ (i + (d + 1)) := Nat.pow_le_pow_right (by decide) (by omega)
            exact_mod_cast h1
          · have := of_decide_eq_false h
            show n + x % 128 * (128 : Int) ^ i < below
            omega
        · rw [if_neg hl]
          have := ih (i + 1) (n + x % 128 * (128 : Int) ^ i) (r, false) hx.2 (by omega) hs
          rw [show i + 1 + d = i + (d + 1) by omega] at this
          exact this
theorem numR_lt (below : Int) (s : RSt) (h8 : Bytes s.1) : 0 ≤ (numR below s).1 ∧ (numR below s).1 < 34359738368 ∧ ((numR below s).2.2 = false → (numR below s).1 < below) := by
  have := numGo_lt below 5 0 0 s h8 (by omega) (by decide)
  exact this
theorem Rs.bytes {w0 w wr : World} {g : Nat} {s : RSt} (h : Rs w0 w wr g s) : Bytes s.1 := by
  obtain ⟨A, c, -, -, -, h8, -⟩ := h.1
  exact h8
def countR (m : Int) (s : RSt) : Int × RSt := if (numR (m + 1) s).2.2 = true then (0, (numR (m + 1) s).2) else numR (m + 1) s
def pickR (l : List ByteArray) (s : RSt) : ByteArray × RSt := if (numR l.length s).2.2 = true then (⟨#[]⟩, (numR l.length s).2) else (rdOf ByteArray.empty l (numR l.length s).1, (numR l.length s).2)
def unsgn (n : Int) : Int := if n % 2 = 1 then -((n + 1) / 2) else n / 2
def signedR (s : RSt) : Int × RSt := (unsgn (numR 2000001 s).1, (numR 2000001 s).2)
def PickPost (w0 w : World) (g : Nat) (r : ByteArray × RSt) (e : Ending) (w' : World) : Prop := e = .returned (.string r.1) ∧ Rs w0 w w' g r.2
section
variable {w0 w wr : World} {g : Nat} {s : RSt}
set_option maxHeartbeats 4000000 in
set_option maxRecDepth 100000 in
theorem count_rs (m : Int) (hm : 0 ≤ m ∧ m ≤ 1000000) (hg0 : w0.heap.size ≤ g) (h : Rs w0 w wr g s) :
    Calls Try.prog 62 #[.pointer (some ⟨g, 0, none⟩), .int .i64 m] wr (NumPost w0 w g (countR m s)) := by
  have hn := num_rs (m + 1) hg0 h
  obtain ⟨⟨n, xs, b⟩, hr⟩ : ∃ r, r = numR (m + 1) s := ⟨_, rfl⟩
  obtain ⟨R, hR⟩ : ∃ R, R = countR m s := ⟨_, rfl⟩
  have HE : Hid (R = if b = true then (0, (xs, b)) else (n, (xs, b))) := Lib.hid (by rw [hR]; unfold countR; rw [← hr])
  rw [← hr] at hn
  rw [← hR]
  clear hR
  obtain ⟨hm0, hm1⟩ := hm
  clear hr h
  go_enter Try.func62, Try.ntmps62
  go_wp2_with fail
  refine hn.mono ?_
  rintro e w2 ⟨rfl, hs⟩
  have HS := Lib.hid hs
  obtain ⟨A, c, hl, hg, hC, -⟩ := hs.1
  have hbv : w2.cell? ⟨g, 1, none⟩ = some (.bool b) := (blk_cell hg 1).trans rfl
  clear hs hg hC hn
  cases b with
  | true =>
    go_wp2
    go_ret
    exact ⟨by rw [HE.out]; rfl, by rw [HE.out]; exact HS.out⟩
  | false =>
    go_wp2
    go_ret
    exact ⟨by rw [HE.out]; rfl, by rw [HE.out]; exact HS.out⟩
set_option maxHeartbeats 4000000 in
set_option maxRecDepth 100000 in
theorem signed_rs (hg0 : w0.heap.size ≤ g) (h : Rs w0 w wr g s) :
    Calls Try.prog 86 #[.pointer (some ⟨g, 0, none⟩)] wr (NumPost w0 w g (signedR s)) := by
  have hn := num_rs 2000001 hg0 h
  have hlt := numR_lt 2000001 s h.bytes
  unfold signedR
  obtain ⟨⟨n, z⟩, hr⟩ : ∃ r, r = numR 2000001 s := ⟨_, rfl⟩
  rw [← hr] at hn hlt ⊢
  obtain ⟨h0, h1, -⟩ := hlt
  simp only at h0 h1 ⊢
  have ha : Go.bits .and .i64 n 1 = n % 2 := by
    obtain ⟨k, rfl⟩ := Int.eq_ofNat_of_zero_le h0
    rw [and_one k (by omega)]
    omega
  have HU : Hid (unsgn n = if n % 2 = 1 then -((n + 1) / 2) else n / 2) := Lib.hid rfl
  clear hr h
  go_enter Try.func86, Try.ntmps86
  go_wp2_with fail
  refine hn.mono ?_
  rintro e w2 ⟨rfl, hs⟩
  have HS := Lib.hid hs
  clear hs hn
  by_cases hm : n % 2 = 1
  · have hd : Int.tdiv (-(n + 1)) 2 = -((n + 1) / 2) := by
      rw [Int.neg_tdiv, Int.tdiv_eq_ediv_of_nonneg (by omega)]
    have HD := Lib.hid hd
    have HM := Lib.hid hm
    go_wp2
    go_ret
    exact ⟨by rw [HU.out, if_pos HM.out, ← HD.out]; rfl, HS.out⟩
  · have HM := Lib.hid hm
    have hb : (n % 2 == 1) = false := beq_eq_false_iff_ne.mpr hm
    go_wp2
    go_ret
    exact ⟨by rw [HU.out, if_neg HM.out]; rfl, HS.out⟩
set_option maxHeartbeats 4000000 in
set_option maxRecDepth 100000 in
theorem pick_rs (A : Option Addr) (c : Nat) (l : List ByteArray) (hg0 : w0.heap.size ≤ g) (h : Rs w0 w wr g s) (hC : Kd.C Kd.string wr A l.length l) (hA : ∀ ad, A = some ad → ad.block < wr.heap.size ∧ ad.block ≠ g) (hll : l.length ≤ 1000000) :
    Calls Try.prog 79 #[.pointer (some ⟨g, 0, none⟩), .slice A l.length c] wr (PickPost w0 w g (pickR l s)) := by
  have hn := num_rany w0 wr g s l.length h.2.1 hg0 h.1
  have hlt := numR_lt (l.length : Int) s h.bytes
  have HH := Lib.hid h
  obtain ⟨R, hR⟩ : ∃ R, R = pickR l s := ⟨_, rfl⟩
  have hR2 := hR
  unfold pickR at hR2
  rw [← hR]
  obtain ⟨⟨n, xs, b⟩, hr⟩ : ∃ r, r = numR l.length s := ⟨_, rfl⟩
  rw [← hr] at hn hlt hR2
  have HE := Lib.hid hR2
  have HC := Lib.hid hC
  have HA := Lib.hid hA
  obtain ⟨h0, h1, h2⟩ := hlt
  have HN := Lib.hid h2
  obtain ⟨k, hk⟩ : ∃ k, k = l.length := ⟨_, rfl⟩
  rw [← hk] at hn hll ⊢
  have HK := Lib.hid hk
  clear hR hR2 hr hC hA h h2 hk
  go_enter Try.func79, Try.ntmps79
  go_wp2_with fail
  refine hn.mono ?_
  rintro e w2 ⟨rfl, hs⟩
  have HS := Lib.hid (HH.out.then_ hs)
  have HKC : Hid (Kd.C Kd.string w2 A l.length l) := Lib.hid (C_kept HC.out hs.2.2 HA.out)
  obtain ⟨A2, c2, hl2, hg2, hC2, -⟩ := hs.1
  have hbv : w2.cell? ⟨g, 1, none⟩ = some (.bool b) := (blk_cell hg2 1).trans rfl
  clear hs hg2 hC2 hn
  cases b with
  | true =>
    go_wp2
    go_ret
    exact ⟨by rw [HE.out]; rfl, by rw [HE.out]; exact HS.out⟩
  | false =>
    have hnl : n < (k : Int) := by rw [HK.out]; exact HN.out rfl
    obtain ⟨ad, e, hx0⟩ := Kd.at_string HKC.out n h0 (by have := HK.out; omega)
    cases e
    obtain ⟨q, rfl⟩ := Int.eq_ofNat_of_zero_le h0
    simp only [Int.toNat_natCast] at hx0
    have hql : q < k := by omega
    obtain ⟨z, hz⟩ : ∃ z, z = rdOf ByteArray.empty l (q : Int) := ⟨_, rfl⟩
    rw [← hz] at hx0
    have HZ := Lib.hid hz
    clear hz
    go_wp2
    go_ret
    exact ⟨by rw [HE.out, HZ.out]; rfl, by rw [HE.out]; exact HS.out⟩
end
end Go.Proofs.Ytaiglhfmmdajdaa.Pm
end
section
namespace Go.Proofs.Ytaiglhfmmdajdaa.Pm
open Go.RowKit Go.Proofs.YtaiglhfmmdajdaaW.PrintWords Go.Proofs.YtaiglhfmmdajdaaW.PrintLast Go.Proofs.YtaiglhfmmdajdaaW.PrintMore
attribute [local go_sem] max2_int min2_int max_two min_two max_three min_three max_four min_four   -- for this text's walks alone
set_option linter.unusedVariables false
set_option linter.unusedSimpArgs false
section
variable {P : Program} {md : Region.Mode} {ops : Array Oper} {Q : Exit → Act → World → Prop} {S : World → Prop} {ds : List Nat}
theorem oN_ {n m fuel : Nat} {oi : Oper} {a : Act} {w : World} (i : Nat) (N : Option Tmp)
    (h : ∀ K : Act → World → Prop, Shut (∀ a' w', S w' → (S w' → wpAnyLast P md ops Q S ds fuel (bits n (m ||| 1 <<< i)) a' w') → K a' w') → if Region.wanted oi (yielded ops a.tmps) = true then Oper.wp P oi a w K Q else K (a.put N undef) w)
    (hi : ops[i]? = some oi := by exact rfl) (hN : oi.dst = N := by exact rfl) (hc : readyB md ops (bits n m) (bits n (m ||| 1 <<< i)) i = true := by kernel_rfl) (hd : i ∉ ds := by decide) : wpAnyLast P md ops Q S ds (fuel + 1) (bits n m) a w :=
  one_ _ hi hN hc hd h
theorem sD_ {id : Nat} {a : Act} {w : World} (ds : List Nat) (S : World → Prop) (n : Nat) (hS : S w.drew) (h : S w.drew → wpAnyLast P .any ops Q S ds n (bits n 0) a w.drew)
    (hm : P.follows .mixedOrders = true := by kernel_rfl) (hn : ops.size = n := by exact rfl) (hl : Array.replicate n false = bits n 0 := by kernel_rfl) : (Code.region id ops true).wp P Q a w :=
  start_ (bits n 0) hm hn hl hS h
theorem lA_ {n m fuel : Nat} {oi : Oper} {a : Act} {w : World} (i : Nat) (N : Option Tmp)
    (h : ∀ K : Act → World → Prop, Shut (∀ a' w', wpAnyLast P md ops Q S ds fuel (bits n (m ||| 1 <<< i)) a' w' → K a' w') → if Region.wanted oi (yielded ops a.tmps) = true then Oper.wp P oi a w K Q else K (a.put N undef) w)
    (hi : ops[i]? = some oi := by exact rfl) (hN : oi.dst = N := by exact rfl) (hc : readyB md ops (bits n m) (bits n (m ||| 1 <<< i)) i = true := by kernel_rfl) (hd : i ∈ ds := by decide) : wpAnyLast P md ops Q S ds (fuel + 1) (bits n m) a w :=
  last_ _ hi hN hc hd h
end
end Go.Proofs.Ytaiglhfmmdajdaa.Pm
end
