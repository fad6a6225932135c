/- The law ModelTells: for every input the call answers true, and the input reads as it did. No condition. (Walks and laws of several texts, merged, and what is not used struck, by a program.) -/
import Derived.Test.YtchellnfenekaaaMModelTells5
import Derived.Test.YtchellnfenekaaaMModelTells6
import Derived.Test.YtchellnfenekaaaMModelTells0
import Derived.Test.YtchellnfenekaaaMModelTells4
import Derived.Lib.Hide
import Derived.Test.YtchellnfenekaaaMModelTells1
import Derived.Below
import Derived.ChangeOld
import Derived.ChangeSlices
import Derived.OpenShut
import Derived.ProofKit
import Derived.ShutString
import Derived.SizedLaws
import Derived.Test.YtchellnfenekaaaRows
import Derived.WalkKit
section
namespace Go.Proofs.Ytchellnfenekaaa.Pm
open Go.RowKit Go.Proofs.YtchellnfenekaaaW.PrintWords Go.Proofs.YtchellnfenekaaaW.PrintLast Go.Proofs.YtchellnfenekaaaW.PrintMore
attribute [local go_sem] max2_int min2_int max_two min_two max_three min_three max_four min_four   -- for this text's walks alone
set_option linter.unusedVariables false
set_option linter.unusedSimpArgs false
theorem rd_in (l : List (S32)) (i : Nat) (h : i < l.length) : rd_T32 l (i : Int) = l[i] := by simp [rd_T32, List.getD_eq_getElem?_getD, List.getElem?_eq_getElem h]
theorem rd_getD (l : List (S32)) (i : Nat) : rd_T32 l (i : Int) = l.getD i z32 := rfl
theorem placeI_congr (l : List (S32)) (a b : ByteArray) (h : a.toList = b.toList) : placeI l a = placeI l b := by
  unfold placeI
  have : model_Place.p a = model_Place.p b := by funext x; unfold model_Place.p; rw [h]
  rw [this]
/-- An item's name stands first where it stands, just if no item ahead has it. -/
theorem placeI_self (l : List (S32)) (i : Nat) (hi : i < l.length) : decide (placeI l (nmA l i) = i) = !memB ((l.map (·.f0)).take i) (rdOf ByteArray.empty (l.map (·.f0)) (i : Int)) := by
  have hr : rdOf ByteArray.empty (l.map (·.f0)) (i : Int) = nmA l i := by
    rw [rdOf_get _ _ _ (by simpa using hi)]
    unfold nmA
    rw [rd_in l i hi]; simp
  rw [hr]
  cases hm : memB ((l.map (·.f0)).take i) (nmA l i) with
  | false =>
    have : placeI l (nmA l i) = i := by
      unfold placeI
      refine fidx_hit _ l i z32 hi ?_ (fun j hj => ?_)
      · rw [← rd_getD]; unfold model_Place.p; simp
      · unfold memB at hm
        rw [List.any_eq_false] at hm
        have hjl : j < l.length := by omega
        have hmem : l[j].f0 ∈ (l.map (·.f0)).take i := by
          rw [List.mem_take_iff_getElem]
          exact ⟨j, by rw [List.length_map]; omega, by simp⟩
        have := hm _ hmem
        rw [← rd_getD, rd_in l j hjl]
        unfold model_Place.p
        have hne : (nmA l i).toList ≠ l[j].f0.toList := by simpa using this
        simpa using Ne.symm hne
    rw [this]; simp
  | true =>
    unfold memB at hm
    obtain ⟨x, hx, he⟩ := List.any_eq_true.1 hm
    obtain ⟨j, hj, hjx⟩ := List.mem_take_iff_getElem.1 hx
    rw [List.length_map] at hj
    have hjl : j < l.length := by omega
    have : placeI l (nmA l i) ≠ i := by
      intro h
      unfold placeI fidx at h
      cases e : l.findIdx? (model_Place.p (nmA l i)) with
      | none => rw [e] at h; simp only at h; omega
      | some q =>
        rw [e] at h
        simp only at h
        obtain ⟨_, _, hno⟩ := List.findIdx?_eq_some_iff_getElem.1 e
        have := hno j (by omega)
        apply this
        unfold model_Place.p
        have hx2 : x = l[j].f0 := by rw [← hjx]; simp
        have he2 : (nmA l i).toList = x.toList := by simpa using he
        rw [hx2] at he2
        simp [he2]
    simp [this]
/-- The names of the way from the first item down to one. -/
inductive Pth (l : List (S32)) : Nat → List ByteArray → Prop
  | root : Pth l 0 [nmA l 0]
  | kid (p i : Nat) (st : List ByteArray) : Pth l p st → placeI l (paA l i) = p → p < i → Pth l i (st ++ [nmA l i])
theorem Pth.len {l : List (S32)} {i : Nat} {st : List ByteArray} (h : Pth l i st) : st.length ≤ i + 1 ∧ 0 < st.length := by
  induction h with
  | root => simp
  | kid p i st hp e hlt ih => simp only [List.length_append, List.length_singleton]; omega
theorem Pth.head {l : List (S32)} {i : Nat} {st : List ByteArray} (h : Pth l i st) : ∀ m, 0 < m → m ≤ st.length → ∃ q, q ≤ i ∧ Pth l q (st.take m) ∧ st[m-1]? = some (nmA l q) := by
  induction h with
  | root =>
    intro m h0 hm
    simp only [List.length_singleton] at hm
    obtain rfl : m = 1 := by omega
    exact ⟨0, Nat.le_refl _, Pth.root, rfl⟩
  | kid p i st hp e hlt ih =>
    intro m h0 hm
    simp only [List.length_append, List.length_singleton] at hm
    by_cases hq : m ≤ st.length
    · obtain ⟨q, hq1, hq2, hq3⟩ := ih m h0 hq
      refine ⟨q, by omega, ?_, ?_⟩
      · rw [List.take_append_of_le_length hq]; exact hq2
      · rw [List.getElem?_append_left (by omega)]; exact hq3
    · obtain rfl : m = st.length + 1 := by omega
      refine ⟨i, Nat.le_refl _, ?_, ?_⟩
      · rw [List.take_of_length_le (by simp)]
        exact Pth.kid p i st hp e hlt
      · simp
theorem Pth.wn {l : List (S32)} (h0 : placeI l (paA l 0) = -1) (id : ByteArray) {i : Nat} {st : List ByteArray} (h : Pth l i st) : ∀ d, st.length ≤ d → wnF l id d i = st.any (idxP id) := by
  induction h with
  | root =>
    intro d hd
    simp only [List.length_singleton] at hd
    obtain ⟨d, rfl⟩ : ∃ m, d = m + 1 := ⟨d - 1, by omega⟩
    unfold wnF
    rw [if_pos (by omega)]
    by_cases he : (nmA l 0).toList = id.toList
    · rw [if_pos (by exact he)]
      simp [idxP, he]
    · rw [if_neg (by exact he), show ((0 : Nat) : Int) = 0 from rfl, h0]
      have : wnF l id d (-1) = false := by cases d <;> simp [wnF]
      rw [this]
      simp [idxP, Ne.symm he]
  | kid p i st hp e hlt ih =>
    intro d hd
    simp only [List.length_append, List.length_singleton] at hd
    obtain ⟨d, rfl⟩ : ∃ m, d = m + 1 := ⟨d - 1, by omega⟩
    unfold wnF
    rw [if_pos (by omega), List.any_append]
    by_cases he : (nmA l i).toList = id.toList
    · rw [if_pos (by exact he)]
      simp [idxP, he]
    · rw [if_neg (by exact he), e, ih d (by omega)]
      simp [idxP, Ne.symm he]
theorem Pth.dp {l : List (S32)} {i : Nat} {st : List ByteArray} (h : Pth l i st) : ∀ d (c : Int), st.length ≤ d → dpF l d i c = c + st.length - 1 := by
  induction h with
  | root =>
    intro d c hd
    simp only [List.length_singleton] at hd
    obtain ⟨d, rfl⟩ : ∃ m, d = m + 1 := ⟨d - 1, by omega⟩
    simp [dpF]
  | kid p i st hp e hlt ih =>
    intro d c hd
    simp only [List.length_append, List.length_singleton] at hd ⊢
    obtain ⟨d, rfl⟩ : ∃ m, d = m + 1 := ⟨d - 1, by omega⟩
    unfold dpF
    rw [if_pos (by omega), e, ih d _ (by omega)]
    omega
/-- Where names stand once each, the stacks stand just if each item stands where it may. -/
theorem stk_places (l : List (S32)) (hD : ∀ i : Nat, i < l.length → placeI l (nmA l i) = i ∧ (nmA l i).toList ≠ []) (h0 : (paA l 0).toList = []) : ∀ i : Nat, i < l.length → (match stk l (i + 1) with | some st => Pth l i st ∧ ∀ q, q ≤ i → 0 < q → rplace l q = true | none => ∃ q, q ≤ i ∧ 0 < q ∧ rplace l q = false) := by
  have hroot : placeI l (paA l 0) = -1 := by
    unfold placeI
    refine fidx_miss _ l z32 (fun j hj => ?_)
    rw [← rd_getD]
    unfold model_Place.p
    have := (hD j hj).2
    rw [h0]
    simpa using this
  intro i
  induction i with
  | zero =>
    intro hi
    have : stk l (0 + 1) = some [nmA l 0] := by simp [stk, stkStep]
    rw [this]
    exact ⟨Pth.root, fun q h1 h2 => by omega⟩
  | succ i ih =>
    intro hi
    have hi' := ih (by omega)
    have hstk : stk l (i + 1 + 1) = (stk l (i + 1)).bind (stkStep l (i + 1)) := rfl
    rw [hstk]
    cases hs : stk l (i + 1) with
    | none =>
      rw [hs] at hi'
      obtain ⟨q, h1, h2, h3⟩ := hi'
      exact ⟨q, by omega, h2, h3⟩
    | some st =>
      rw [hs] at hi'
      obtain ⟨hp, hall⟩ := hi'
      rw [Option.bind_some]
      obtain ⟨a, ha⟩ : ∃ a, a = paA l ((i + 1 : Nat) : Int) := ⟨_, rfl⟩
      have hlen := hp.len
      have hwn : wnF l a (l.length + 1) ((i + 1 : Nat) - 1) = st.any (idxP a) := by
        have := hp.wn hroot a (l.length + 1) (by omega)
        rw [show (((i + 1 : Nat) : Int) - 1) = (i : Int) by omega]
        exact this
      have hrp : rplace l (i + 1) = (!decide (a.toList = []) && (decide (0 ≤ placeI l a ∧ placeI l a < ((i + 1 : Nat) : Int) ∧ kdA l (placeI l a) = 1) && (wnF l a (l.length + 1) (((i + 1 : Nat) : Int) - 1) && decide (1 ≤ dpF l (l.length + 1) ((i + 1 : Nat) : Int) 0 ∧ dpF l (l.length + 1) ((i + 1 : Nat) : Int) 0 ≤ 5)))) := by
        unfold rplace
        rw [if_neg (by omega), ha]
      rw [hwn] at hrp
      have hst : stkStep l (i + 1) st = if (st.take (fidx (idxP a) st + 1).toNat).length = 0 ∨ 5 < (st.take (fidx (idxP a) st + 1).toNat).length ∨ kdA l (placeI l a) ≠ 1 then none else some (st.take (fidx (idxP a) st + 1).toNat ++ [nmA l ((i + 1 : Nat) : Int)]) := by
        unfold stkStep
        rw [if_neg (by omega), ha]
      rw [hst]
      have hfl := fidx_lt (idxP a) st
      have hfa := fidx_any (idxP a) st
      by_cases hin : st.any (idxP a) = true
      case neg =>
        have hin2 : st.any (idxP a) = false := by simpa using hin
        have hneg : fidx (idxP a) st = -1 := fidx_neg _ _ (by rw [hin2] at hfa; have := of_decide_eq_false hfa; omega)
        rw [hneg, if_pos (Or.inl (by simp))]
        refine ⟨i + 1, Nat.le_refl _, by omega, ?_⟩
        rw [hrp, hin2]; simp
      rw [hin] at hrp hfa
      have hge : fidx (idxP a) st ≥ 0 := of_decide_eq_true hfa
      obtain ⟨m, hm⟩ : ∃ m : Nat, fidx (idxP a) st = m := ⟨(fidx (idxP a) st).toNat, by omega⟩
      rw [hm] at hfl ⊢
      rw [show ((m : Int) + 1).toNat = m + 1 by omega]
      obtain ⟨q, hq1, hq2, hq3⟩ := hp.head (m + 1) (by omega) (by omega)
      have hna : (nmA l q).toList = a.toList := by
        unfold fidx at hm
        cases e : st.findIdx? (idxP a) with
        | none => rw [e] at hm; simp only at hm; omega
        | some j =>
          rw [e] at hm
          simp only at hm
          obtain rfl : j = m := by omega
          obtain ⟨hj, hpj, _⟩ := List.findIdx?_eq_some_iff_getElem.1 e
          have : st[j] = nmA l q := by
            have h := hq3
            rw [show j + 1 - 1 = j by omega, List.getElem?_eq_getElem hj] at h
            exact Option.some.inj h
          unfold idxP at hpj
          rw [this] at hpj
          exact (by simpa using hpj : a.toList = (nmA l q).toList).symm
      have hpq : placeI l a = q := by rw [← placeI_congr l _ _ hna]; exact (hD q (by omega)).1
      have hne : ¬ a.toList = [] := by rw [← hna]; exact (hD q (by omega)).2
      have hpi : placeI l (paA l ((i + 1 : Nat) : Int)) = q := by rw [← ha]; exact hpq
      have hk := Pth.kid q (i + 1) _ hq2 hpi (by omega)
      have htl : (st.take (m + 1)).length = m + 1 := by rw [List.length_take]; omega
      have hd := hk.dp (l.length + 1) 0 (by rw [List.length_append, htl, List.length_singleton]; omega)
      rw [List.length_append, htl, List.length_singleton] at hd
      rw [hd, decide_eq_false hne, hpq] at hrp
      rw [htl, hpq]
      by_cases hc : (m + 1 = 0 ∨ 5 < m + 1 ∨ kdA l q ≠ 1)
      · rw [if_pos hc]
        refine ⟨i + 1, Nat.le_refl _, by omega, ?_⟩
        rw [hrp]
        rcases hc with hc | hc | hc
        · omega
        · rw [decide_eq_false (p := (1 ≤ (0 : Int) + ((m + 1 + 1 : Nat) : Int) - 1 ∧ _)) (by omega)]; simp
        · simp [hc]
      · rw [if_neg hc]
        have hk1 : kdA l q = 1 := by
          by_cases h : kdA l q = 1
          · exact h
          · exact absurd (Or.inr (Or.inr h)) hc
        refine ⟨hk, fun r hr h0 => ?_⟩
        by_cases e : r = i + 1
        · rw [e, hrp, decide_eq_true (p := 0 ≤ (q : Int) ∧ _) ⟨by omega, by omega, hk1⟩, decide_eq_true (p := (1 ≤ (0 : Int) + ((m + 1 + 1 : Nat) : Int) - 1 ∧ _)) (by omega)]
          rfl
        · exact hall r (by omega) h0
theorem stands_places (l : List (S32)) (hn : 0 < l.length) (hD : ∀ i : Nat, i < l.length → placeI l (nmA l i) = i ∧ (nmA l i).toList ≠ []) (h0 : (paA l 0).toList = []) : standsB l = true ↔ ∀ q, q < l.length → 0 < q → rplace l q = true := by
  have h := stk_places l hD h0 (l.length - 1) (by omega)
  rw [show l.length - 1 + 1 = l.length by omega] at h
  unfold standsB
  cases hs : stk l l.length with
  | none =>
    rw [hs] at h
    obtain ⟨q, h1, h2, h3⟩ := h
    constructor
    · intro h; simp at h
    · intro h
      rw [h q (by omega) h2] at h3
      simp at h3
  | some st =>
    rw [hs] at h
    constructor
    · intro _ q hq h0; exact h.2 q (by omega) h0
    · intro _; rfl
theorem nameB_ne (s : ByteArray) (h : nameB s = true) : s.toList ≠ [] := by
  unfold nameB at h
  simp only [Bool.and_eq_true, decide_eq_true_eq] at h
  intro he
  have := empty_size s
  rw [he] at this
  have h2 := of_decide_eq_true (this.symm.trans rfl)
  omega
theorem names_at (l : List (S32)) (i : Nat) (hi : i < l.length) : nameOk (l.map (·.f0)) i = (nameB (nmA l i) && decide (placeI l (nmA l i) = i)) := by
  unfold nameOk
  rw [placeI_self l i hi]
  have hr : rdOf ByteArray.empty (l.map (·.f0)) (i : Int) = nmA l i := by
    rw [rdOf_get _ _ _ (by simpa using hi)]
    unfold nmA
    rw [rd_in l i hi]; simp
  rw [hr]
theorem all_range {l : List (S32)} (p : S32 → Bool) : l.all p = true ↔ ∀ i : Nat, i < l.length → p (rd_T32 l i) = true := by
  rw [List.all_eq_true]
  constructor
  · intro h i hi; rw [rd_in l i hi]; exact h _ (List.getElem_mem hi)
  · intro h x hx
    obtain ⟨i, hi, rfl⟩ := List.getElem_of_mem hx
    rw [← rd_in l i hi]; exact h i hi
theorem itemB_eq (fs : List ByteArray) (l : List (S32)) (x : S32) : itemB fs l x.f1 x.f3 x.f4 x.f5 x.f6 = (rown x && (sentsB fs l x.f5 && sentsB fs l x.f6)) := by
  unfold itemB rown
  by_cases h1 : 1 ≤ x.f1 ∧ x.f1 ≤ 5
  · have h4 : decide (x.f1 = 4 ∨ x.f1 = 5) = decide (x.f1 ≥ 4) := by rw [decide_eq_decide]; omega
    rw [h4]
    generalize decide (x.f1 ≥ 4) = A
    generalize sentsB fs l x.f5 = B
    generalize sentsB fs l x.f6 = C
    generalize (if x.f1 = 5 then decide (1 ≤ x.f4 ∧ x.f4 ≤ 100) else decide (x.f4 = 0)) = D
    generalize decide (1 ≤ x.f1 ∧ x.f1 ≤ 5) = E
    generalize (x.f3 || decide (0 < x.f5.length)) = F
    cases A <;> cases B <;> cases C <;> cases D <;> cases E <;> cases F <;> rfl
  · rw [decide_eq_false h1]; simp
theorem ris_eq (fs : List ByteArray) (l : List (S32)) : risB fs l = isB fs l := by
  unfold risB isB
  by_cases hb : fs.length ≤ 6 ∧ 1 ≤ l.length ∧ l.length ≤ 16
  case neg => rw [decide_eq_false hb]; simp
  rw [decide_eq_true hb, Bool.true_and, Bool.true_and]
  congr 1
  rw [Bool.eq_iff_iff]
  have hR : rplace l 0 = planB (rd_T32 l 0).f1 (rd_T32 l 0).f2 (rd_T32 l 0).f3 (rd_T32 l 0).f5.length (rd_T32 l 0).f6.length := rfl
  have hn : namesB (l.map (·.f0)) = true ↔ ∀ i : Nat, i < l.length → nameB (nmA l i) = true ∧ placeI l (nmA l i) = i := by
    unfold namesB
    rw [List.all_eq_true]
    constructor
    · intro h i hi
      have := h i (List.mem_range.2 (by simpa using hi))
      rw [names_at l i hi] at this
      simpa using this
    · intro h i hi
      have hi' : i < l.length := by simpa using List.mem_range.1 hi
      rw [names_at l i hi']
      simpa using h i hi'
  rw [← hR]
  have hany : (!l.any fun x => !itemB fs l x.f1 x.f3 x.f4 x.f5 x.f6) = l.all (fun x => rown x && (sentsB fs l x.f5 && sentsB fs l x.f6)) := by
    rw [List.not_any_eq_all_not]
    congr 1
    funext x
    rw [Bool.not_not, itemB_eq]
  rw [hany]
  have h0 : rplace l 0 = true → (paA l 0).toList = [] := by
    intro h
    rw [hR] at h
    unfold planB at h
    simp only [Bool.and_eq_true, decide_eq_true_eq] at h
    exact h.2.1
  constructor
  · intro h
    rw [Bool.and_eq_true] at h
    obtain ⟨h1, h2⟩ := h
    have hi : ∀ i : Nat, i < l.length → nameB (nmA l i) = true ∧ placeI l (nmA l i) = i ∧ rown (rd_T32 l i) = true ∧ rplace l i = true := by
      intro i hi
      have := List.all_eq_true.1 h1 i (List.mem_range.2 hi)
      unfold ritem at this
      simpa using this
    have hp0 := (hi 0 (by omega)).2.2.2
    rw [Bool.and_eq_true, Bool.and_eq_true, Bool.and_eq_true]
    refine ⟨hn.2 (fun i h => ⟨(hi i h).1, (hi i h).2.1⟩), hp0, (stands_places l (by omega) (fun i h => ⟨(hi i h).2.1, nameB_ne _ (hi i h).1⟩) (h0 hp0)).2 (fun q hq _ => (hi q hq).2.2.2), ?_⟩
    rw [all_range] at h2 ⊢
    intro i h
    rw [(hi i h).2.2.1, Bool.true_and]
    exact h2 i h
  · intro h
    rw [Bool.and_eq_true, Bool.and_eq_true, Bool.and_eq_true] at h
    obtain ⟨h1, h2, h3, h4⟩ := h
    have hnm := hn.1 h1
    have hst := (stands_places l (by omega) (fun i h => ⟨(hnm i h).2, nameB_ne _ (hnm i h).1⟩) (h0 h2)).1 h3
    rw [all_range] at h4
    rw [Bool.and_eq_true]
    refine ⟨List.all_eq_true.2 (fun i hi => ?_), (all_range _).2 (fun i hi => ?_)⟩
    · have hi := List.mem_range.1 hi
      have := h4 i hi
      rw [Bool.and_eq_true] at this
      unfold ritem
      rw [(hnm i hi).1, (hnm i hi).2, this.1, Bool.true_and, decide_eq_true rfl, Bool.true_and, Bool.true_and]
      by_cases e : i = 0
      · rw [e]; exact h2
      · exact hst i hi (by omega)
    · have := h4 i hi
      rw [Bool.and_eq_true] at this
      exact this.2
end Go.Proofs.Ytchellnfenekaaa.Pm
end
section
namespace Go.Proofs.Ytchellnfenekaaa.Pm
open Go.RowKit Go.Proofs.YtchellnfenekaaaW.PrintWords Go.Proofs.YtchellnfenekaaaW.PrintLast Go.Proofs.YtchellnfenekaaaW.PrintMore
attribute [local go_sem] max2_int min2_int max_two min_two max_three min_three max_four min_four   -- for this text's walks alone
set_option linter.unusedVariables false
set_option linter.unusedSimpArgs false
def kidsFrom (l : List (S32)) (id : ByteArray) (i : Nat) : List Int := ((List.range' i (l.length - i)).filter (fun (j : Nat) => decide ((paA l (j : Int)).toList = id.toList))).map (fun (j : Nat) => (j : Int))
def kidsL (l : List (S32)) (id : ByteArray) : List Int := kidsFrom l id 0
theorem kidsFrom_end (l : List (S32)) (id : ByteArray) (i : Nat) (h : l.length ≤ i) : kidsFrom l id i = [] := by
  unfold kidsFrom
  rw [show l.length - i = 0 by omega]; rfl
theorem kidsFrom_step (l : List (S32)) (id : ByteArray) (i : Nat) (h : i < l.length) : kidsFrom l id i = if (paA l (i : Int)).toList = id.toList then (i : Int) :: kidsFrom l id (i + 1) else kidsFrom l id (i + 1) := by
  unfold kidsFrom
  rw [show l.length - i = (l.length - (i + 1)) + 1 by omega, List.range'_succ, List.filter_cons]
  by_cases e : (paA l (i : Int)).toList = id.toList
  · rw [if_pos e, if_pos (by simpa using e)]; rfl
  · rw [if_neg e, if_neg (by simpa using e)]
theorem ref_kids_at (fs : List ByteArray) (l : List (S32)) (id : ByteArray) (hn : l.length ≤ 8796093022208) (d : Nat) : ∀ (i k : Nat) (acc : List Int), i + d = l.length → d < k → acc.length ≤ i → sentryref4_Kids.l0 k id acc (i : Int) fs l = some (acc ++ kidsFrom l id i) := by
  induction d with
  | zero =>
    intro i k acc hi hk ha
    obtain ⟨k, rfl⟩ : ∃ m, k = m + 1 := ⟨k - 1, by omega⟩
    simp only [sentryref4_Kids.l0]
    rw [if_neg (by omega), kidsFrom_end l id i (by omega), List.append_nil]
  | succ d ih =>
    intro i k acc hi hk ha
    obtain ⟨k, rfl⟩ : ∃ m, k = m + 1 := ⟨k - 1, by omega⟩
    have hlt : i < l.length := by omega
    simp only [sentryref4_Kids.l0]
    rw [if_pos (by omega), if_pos (by omega), kidsFrom_step l id i hlt, wrap_lt (n := (l.length : Int)) (by omega) (by omega) (by omega)]
    by_cases e : (paA l (i : Int)).toList = id.toList
    · rw [if_pos (show (rd_T32 l (i : Int)).f2.toList = id.toList from e), if_pos (by omega), if_pos e]
      have := ih (i + 1) k (acc ++ [(i : Int)]) (by omega) (by omega) (by rw [List.length_append, List.length_singleton]; omega)
      rw [show (((i + 1 : Nat)) : Int) = (i : Int) + 1 by omega] at this
      rw [this, List.append_assoc]; rfl
    · rw [if_neg (show ¬ (rd_T32 l (i : Int)).f2.toList = id.toList from e), if_neg e]
      exact ih (i + 1) k acc (by omega) (by omega) (by omega)
theorem ref_kids (fs : List ByteArray) (l : List (S32)) (id : ByteArray) (hn : l.length ≤ 8796093022208) (k : Nat) (hk : l.length < k) : sentryref4_Kids.f k fs l id = some (kidsL l id) := ref_kids_at fs l id hn l.length 0 k [] (by omega) hk (by simp)
theorem model_kids_at (l : List (S32)) (id : ByteArray) (hn : l.length ≤ 8796093022208) (d : Nat) : ∀ (i k : Nat) (acc : List Int), i + d = l.length → d < k → acc.length ≤ i → model_Kids.l0 k id acc l (l.length : Int) (i : Int) = some (acc ++ kidsFrom l id i) := by
  induction d with
  | zero =>
    intro i k acc hi hk ha
    obtain ⟨k, rfl⟩ : ∃ m, k = m + 1 := ⟨k - 1, by omega⟩
    simp only [model_Kids.l0]
    rw [if_neg (by omega), kidsFrom_end l id i (by omega), List.append_nil]
  | succ d ih =>
    intro i k acc hi hk ha
    obtain ⟨k, rfl⟩ : ∃ m, k = m + 1 := ⟨k - 1, by omega⟩
    have hlt : i < l.length := by omega
    simp only [model_Kids.l0]
    rw [if_pos (by omega), if_pos (by omega), if_pos (by omega), kidsFrom_step l id i hlt, wrap_lt (n := (l.length : Int)) (by omega) (by omega) (by omega)]
    by_cases e : (paA l (i : Int)).toList = id.toList
    · rw [if_pos (show (rd_T32 l (i : Int)).f2.toList = id.toList from e), if_pos (by omega), if_pos e]
      have := ih (i + 1) k (acc ++ [(i : Int)]) (by omega) (by omega) (by rw [List.length_append, List.length_singleton]; omega)
      rw [show (((i + 1 : Nat)) : Int) = (i : Int) + 1 by omega] at this
      rw [this, List.append_assoc]; rfl
    · rw [if_neg (show ¬ (rd_T32 l (i : Int)).f2.toList = id.toList from e), if_neg e]
      exact ih (i + 1) k acc (by omega) (by omega) (by omega)
theorem model_kids (fs : List ByteArray) (l : List (S32)) (id : ByteArray) (hn : l.length ≤ 8796093022208) (k : Nat) (hk : l.length < k) : model_Kids.f k fs l id = some (kidsL l id) := model_kids_at l id hn l.length 0 k [] (by omega) hk (by simp)
theorem same_ints_at (a : List Int) (hn : a.length ≤ 9223372036854775807) (d : Nat) : ∀ i k : Nat, i + d = a.length → d < k → sentryref4_SameInts.l0 k a a (i : Int) = some true := by
  induction d with
  | zero =>
    intro i k hi hk
    obtain ⟨k, rfl⟩ : ∃ m, k = m + 1 := ⟨k - 1, by omega⟩
    simp only [sentryref4_SameInts.l0]
    rw [if_neg (by omega)]
  | succ d ih =>
    intro i k hi hk
    obtain ⟨k, rfl⟩ : ∃ m, k = m + 1 := ⟨k - 1, by omega⟩
    simp only [sentryref4_SameInts.l0]
    rw [if_pos (by omega), if_pos (by omega), if_pos (by omega), if_pos trivial, wrap_lt (n := (a.length : Int)) (by omega) (by omega) (by omega)]
    exact ih (i + 1) k (by omega) (by omega)
theorem same_ints (a : List Int) (hn : a.length ≤ 9223372036854775807) (k : Nat) (hk : a.length < k) : sentryref4_SameInts.f k a a = some true := by
  unfold sentryref4_SameInts.f
  rw [if_pos rfl]
  exact same_ints_at a hn a.length 0 k (by omega) hk
end Go.Proofs.Ytchellnfenekaaa.Pm
end
section
namespace Go.Proofs.Ytchellnfenekaaa.Pm
open Go.RowKit Go.Proofs.YtchellnfenekaaaW.PrintWords Go.Proofs.YtchellnfenekaaaW.PrintLast Go.Proofs.YtchellnfenekaaaW.PrintMore
attribute [local go_sem] max2_int min2_int max_two min_two max_three min_three max_four min_four   -- for this text's walks alone
set_option linter.unusedVariables false
set_option linter.unusedSimpArgs false
def sentrylaw4_known.f : Option Bool := some true
def oneItem : S32 := ⟨(⟨#[97]⟩ : ByteArray), 1, (⟨#[]⟩ : ByteArray), false, 0, [], []⟩
set_option maxRecDepth 100000 in
theorem isB_one : isB [] [oneItem] = true := by decide +kernel
set_option maxRecDepth 100000 in
theorem isB_none : isB [] [] = false := by decide +kernel
theorem one_C (W : World) (g : Nat) (hc : ∀ j u, [Value.string ⟨#[97]⟩, .int .i64 1, .string ⟨#[]⟩, .bool false, .int .i64 0, .slice none 0 0, .slice none 0 0][j]? = some u → W.cell? ((⟨g, 0, none⟩ : Addr).add j) = some u) : Kd.C k32 W (some ⟨g, 0, none⟩) [oneItem].length [oneItem] := by
  refine ⟨rfl, by decide, fun _ => ⟨_, rfl, fun j p hj => ?_⟩⟩
  obtain rfl : j = 0 := by
    have := (List.getElem?_eq_some_iff.1 hj).1
    simp at this
    exact this
  obtain rfl : oneItem = p := by simpa using hj
  refine ⟨_, rfl, k32_mk W oneItem (A5 := none) (c5 := 0) (Nat.le_refl _) (Kd.C_nil _ W) (A6 := none) (c6 := 0) (Nat.le_refl _) (Kd.C_nil _ W), fun i u hi => ?_⟩
  have h2 := hc i u hi
  rwa [show 0 * (Kd.sz k32) + i = i by omega]
set_option maxHeartbeats 8000000 in
theorem sentrylaw4_known.calls (r : Bool) (w : World) (h : sentrylaw4_known.f = some r) :
    Calls Try.prog 14 #[] w fun e w' => e = .returned (.bool r) ∧ Below w.heap.size w w' := by
  obtain rfl := Option.some.inj h
  clear h
  have h1 := fun (W : World) => model_Legal.calls 2 3 2 _ W (legal_eq 3 2)
  have h2 := fun (W : World) => model_Legal.calls 2 3 4 _ W (legal_eq 3 4)
  rw [show legalB 3 2 = false by decide] at h1
  rw [show legalB 3 4 = true by decide] at h2
  have hu36 := Try.underlying36
  have hu32 := Try.underlying32
  go_enter Try.func14, Try.ntmps14
  go_wp2_with fail
  go_at_call 12
  refine (h1 _).mono ?_
  rintro e w1 ⟨rfl, ⟨n1, rfl⟩⟩
  go_wp2_with fail
  go_at_call 12
  refine (h2 _).mono ?_
  rintro e w1 ⟨rfl, ⟨n2, rfl⟩⟩
  clear h1 h2
  have hb1 : Below w.heap.size w ((w.drewN n1).drewN n2) := pw_below_drewN (pw_below_drewN (Below.refl _ _) _) _
  obtain ⟨W1, hW1⟩ : ∃ W, W = (w.drewN n1).drewN n2 := ⟨_, rfl⟩
  rw [← hW1] at hb1 ⊢
  clear hW1
  have HB1 := Lib.hid hb1
  clear hb1
  have hC := one_C (W1.alloc (.cells #[.string ⟨#[97]⟩, .int .i64 1, .string ⟨#[]⟩, .bool false, .int .i64 0, .slice none 0 0, .slice none 0 0] 32)) W1.heap.size (World.news_of_block (cs := #[.string ⟨#[97]⟩, .int .i64 1, .string ⟨#[]⟩, .bool false, .int .i64 0, .slice none 0 0, .slice none 0 0]) (t := 32) (fr := (0, 0)) (heap_alloc_new W1 _))
  have h3 := model_Is.calls none 0 [] (some ⟨W1.heap.size, 0, none⟩) 1 [oneItem] _ _ (Kd.C_nil _ _) (Nat.le_refl _) hC (Nat.le_refl _) rfl
  rw [isB_one] at h3
  have hb2 := below_alloc HB1.out (.cells #[.string ⟨#[97]⟩, .int .i64 1, .string ⟨#[]⟩, .bool false, .int .i64 0, .slice none 0 0, .slice none 0 0] 32)
  have HB2 := Lib.hid hb2
  clear hC hb2
  go_wp2_with fail
  refine h3.mono ?_
  rintro e w2 ⟨rfl, hb3⟩
  have HB3 := Lib.hid (below_then HB2.out HB2.out.size hb3)
  have h4 := model_Is.calls none 0 [] none 0 [] _ w2 (Kd.C_nil _ _) (Nat.le_refl _) (Kd.C_nil _ _) (Nat.le_refl _) rfl
  rw [isB_none] at h4
  clear h3 hb3
  go_wp2_with fail
  go_at_call 16
  refine h4.mono ?_
  rintro e w3 ⟨rfl, hb4⟩
  have HB4 := Lib.hid (below_then HB3.out HB3.out.size hb4)
  clear h4 hb4
  go_wp2
  go_ret
  exact ⟨rfl, HB4.out⟩
end Go.Proofs.Ytchellnfenekaaa.Pm
end
section
namespace Go.Proofs.Ytchellnfenekaaa.Pm
open Go.RowKit Go.Proofs.YtchellnfenekaaaW.PrintWords Go.Proofs.YtchellnfenekaaaW.PrintLast Go.Proofs.YtchellnfenekaaaW.PrintMore
attribute [local go_sem] max2_int min2_int max_two min_two max_three min_three max_four min_four   -- for this text's walks alone
set_option linter.unusedVariables false
set_option linter.unusedSimpArgs false
def bits (n m : Nat) : Array Bool := ((List.range n).map (fun i => m.testBit i)).toArray
section
variable {P : Program} {md : Region.Mode} {ops : Array Oper} {Q : Exit → Act → World → Prop} {S : World → Prop} {ds : List Nat}
theorem st_ {id : Nat} {a : Act} {w : World} (S : World → Prop) (n : Nat) (hS : S w.drew) (h : S w.drew → wpAnyLast P .any ops Q S [] n (bits n 0) a w.drew)
    (hm : P.follows .mixedOrders = true := by kernel_rfl) (hn : ops.size = n := by exact rfl) (hl : Array.replicate n false = bits n 0 := by kernel_rfl) : (Code.region id ops true).wp P Q a w :=
  start_ (bits n 0) hm hn hl hS h
theorem pu_ {n m fuel : Nat} {oi : Oper} {v : Value} {a a' : Act} {w : World} (i : Nat) (N : Option Tmp) (h : wpAnyLast P md ops Q S ds fuel (bits n (m ||| 1 <<< i)) a' w)
    (hi : ops[i]? = some oi := by exact rfl) (hN : oi.dst = N := by exact rfl) (hc : anyB md ops (bits n m) (bits n (m ||| 1 <<< i)) i = true := by kernel_rfl)
    (hw : Region.wanted oi (yielded ops a.tmps) = true := by exact rfl) (hy : ∀ w', (execOp a.eval oi).run P w' = .ok (.value v) w' := by (intro w'; go_simp; with_reducible rfl))
    (ha : a.put N v = a' := by (simp only [Act.put, List.setIfInBounds_toArray, List.set_cons_zero, List.set_cons_succ, i64_w, i32_w]; rfl))
    (hQ : ∀ c a w, Q (.panic c) (a.put oi.dst v) w → Q (.panic c) a w := by exact fun _ _ _ h => h) : wpAnyLast P md ops Q S ds (fuel + 1) (bits n m) a w :=
  pure_ _ hi hN hc hQ (Or.inl ⟨hw, hy⟩) ha h
theorem tk_ {n m fuel : Nat} {oi : Oper} {v : Value} {a a' : Act} {w : World} (i : Nat) (N : Option Tmp) (hS : S w) (h : wpAnyLast P md ops Q S ds fuel (bits n (m ||| 1 <<< i)) a' w)
    (hi : ops[i]? = some oi := by exact rfl) (hN : oi.dst = N := by exact rfl) (hc : takeB md ops ds (bits n m) (bits n (m ||| 1 <<< i)) i = true := by kernel_rfl)
    (hw : Region.wanted oi (yielded ops a.tmps) = true := by exact rfl) (hy : ∀ w', S w' → (execOp a.eval oi).run P w' = .ok (.value v) w')
    (ha : a.put N v = a' := by (simp only [Act.put, List.setIfInBounds_toArray, List.set_cons_zero, List.set_cons_succ, i64_w, i32_w]; rfl))
    (hQ : ∀ c a w, Q (.panic c) (a.put oi.dst v) w → Q (.panic c) a w := by exact fun _ _ _ h => h) : wpAnyLast P md ops Q S ds (fuel + 1) (bits n m) a w :=
  take_ _ hi hN hc hQ (Or.inl ⟨hw, hy⟩) hS ha h
/-- A call that alone may come up: its contract gives the answer v and a world in which S holds. -/
theorem ca_ {n m fuel : Nat} {oi : Oper} {a : Act} {w : World} {f : FuncId} {fn : Func} {os : Array Operand} {ts : Array TypeId} (i : Nat) (N : Option Tmp) (hf : P.funcs[f]? = some fn) (args : Array Value)
    (h : Calls P f args w fun e w' => ∃ v, e = .returned v ∧ S w' ∧ (S w' → ∃ a', a.put N v = a' ∧ wpAnyLast P md ops Q S ds fuel (bits n (m ||| 1 <<< i)) a' w'))
    (hi : ops[i]? = some oi := by exact rfl) (hN : oi.dst = N := by exact rfl) (hc : readyB md ops (bits n m) (bits n (m ||| 1 <<< i)) i = true := by kernel_rfl) (hd : i ∉ ds := by decide)
    (hop : oi.op = .call { callee := .value (.func f), args := os, argTypes := ts } := by exact rfl) (hargs : os.map a.eval = args := by ((try simp only [List.map_toArray, List.map_cons, List.map_nil]); first | done | rfl))
    (hw : Region.wanted oi (yielded ops a.tmps) = true := by exact rfl)
    (hname : (fn.name == "runtime.NumGoroutine") = false := by kernel_rfl) (hb : fn.body.isSome = true := by exact rfl) : wpAnyLast P md ops Q S ds (fuel + 1) (bits n m) a w :=
  one_ _ hi hN hc hd fun K hK => goes_ hf hname hb args hw hN hop hargs (h.mono fun e w' hh => by
    obtain ⟨v, rfl, hS, hW⟩ := hh
    refine ⟨v, rfl, hK.out _ _ hS fun hs => ?_⟩
    obtain ⟨a', rfl, h'⟩ := hW hs
    exact h')
theorem dn_ {n m : Nat} {a : Act} {w : World} {k : Nat} (h : Q .normal a w) (hr : (Region.ready md ops (bits n m) == []) = true := by kernel_rfl) : wpAnyLast P md ops Q S ds k (bits n m) a w := done_ hr h
end
end Go.Proofs.Ytchellnfenekaaa.Pm
end
section
namespace Go.Proofs.Ytchellnfenekaaa.Pm
open Go.RowKit Go.Proofs.YtchellnfenekaaaW.PrintWords Go.Proofs.YtchellnfenekaaaW.PrintLast Go.Proofs.YtchellnfenekaaaW.PrintMore
attribute [local go_sem] max2_int min2_int max_two min_two max_three min_three max_four min_four   -- for this text's walks alone
set_option linter.unusedVariables false
set_option linter.unusedSimpArgs false
theorem fits_of (fs : List ByteArray) (l : List (S32)) (hf : fs.length ≤ 140737488351232) (hl : l.length ≤ 140737488351232) (hg : ∀ x ∈ l, goodItem x) : Fits fs l :=
  ⟨by omega, by omega, fun x hx => by
    obtain ⟨_, _, h5, h6, s5, s6⟩ := hg x hx
    exact ⟨⟨by omega, fun s hs => by obtain ⟨a, b⟩ := s5 s hs; constructor <;> omega⟩, ⟨by omega, fun s hs => by obtain ⟨a, b⟩ := s6 s hs; constructor <;> omega⟩⟩⟩
theorem kidsL_length (l : List (S32)) (id : ByteArray) : (kidsL l id).length ≤ l.length := by
  unfold kidsL kidsFrom
  rw [List.length_map]
  exact Nat.le_trans (List.length_filter_le _ _) (by rw [List.length_range']; omega)
set_option maxHeartbeats 8000000 in
set_option maxRecDepth 100000 in
theorem tells_any (A0 : Option Addr) (c0 : Nat) (fs : List ByteArray) (A1 : Option Addr) (c1 : Nat) (l : List (S32)) (id : ByteArray) (w : World) (hr0 : Kd.C Kd.string w A0 fs.length fs) (hc0 : fs.length ≤ c0) (hr1 : Kd.C k32 w A1 l.length l) (hc1 : l.length ≤ c1) (hf : fs.length ≤ 140737488351232) (hl : l.length ≤ 140737488351232) (hg : ∀ x ∈ l, goodItem x) :
    Calls Try.prog 8 #[.agg #[.slice A0 fs.length c0, .slice A1 l.length c1], .string id] w fun e w' => e = .returned (.bool true) ∧ Below w.heap.size w w' := by
  obtain ⟨b, ⟨k1, hk1⟩, hlt⟩ := ev_heavy fs l hf hl hg
  obtain ⟨k2, hk2⟩ := ev_ris fs l (fits_of fs l hf hl hg)
  have h1 := sentrylaw4_heavy.calls k1 A0 c0 fs A1 c1 l b
  have hpl : ∀ (W : World) (s : ByteArray), Below w.heap.size w W → Calls Try.prog 19 #[.agg #[.slice A0 fs.length c0, .slice A1 l.length c1], .string s] W fun e w' => e = .returned (.int .i64 (placeI l s)) ∧ Below W.heap.size W w' := fun W s hb => model_Place.calls A0 c0 fs A1 c1 l s _ W (Kd.C_below hr0 hb) hc0 (Kd.C_below hr1 hb) hc1 rfl
  have hrp : ∀ (W : World) (s : ByteArray), Below w.heap.size w W → Calls Try.prog 20 #[.agg #[.slice A0 fs.length c0, .slice A1 l.length c1], .string s] W fun e w' => e = .returned (.int .i64 (placeI l s)) ∧ Below W.heap.size W w' := fun W s hb => sentryref4_Place.calls (l.length + 1) A0 c0 fs A1 c1 l s _ W (Kd.C_below hr0 hb) hc0 (Kd.C_below hr1 hb) hc1 (ref_place fs l s (by omega) _ (by omega))
  have his : ∀ (W : World), Below w.heap.size w W → Calls Try.prog 16 #[.agg #[.slice A0 fs.length c0, .slice A1 l.length c1]] W fun e w' => e = .returned (.bool (isB fs l)) ∧ Below W.heap.size W w' := fun W hb => model_Is.calls A0 c0 fs A1 c1 l _ W (Kd.C_below hr0 hb) hc0 (Kd.C_below hr1 hb) hc1 rfl
  have hri : ∀ (W : World), Below w.heap.size w W → Calls Try.prog 18 #[.agg #[.slice A0 fs.length c0, .slice A1 l.length c1]] W fun e w' => e = .returned (.bool (isB fs l)) ∧ Below W.heap.size W w' := fun W hb => sentryref4_Is.calls k2 A0 c0 fs A1 c1 l _ W (Kd.C_below hr0 hb) hc0 (Kd.C_below hr1 hb) hc1 (by rw [← ris_eq]; exact hk2 k2 (Nat.le_refl _))
  have hkd : l.length ≤ 8796093022208 → ∀ (W : World) (s : ByteArray), Below w.heap.size w W → Calls Try.prog 22 #[.agg #[.slice A0 fs.length c0, .slice A1 l.length c1], .string s] W fun e w' => ∃ v0_ : Value, e = .returned (v0_) ∧ Kd.R (Kd.int .i64) 3 w' W.heap.size (fun _ => True) v0_ (kidsL l s) ∧ Below W.heap.size W w' := fun hn W s hb => model_Kids.calls (l.length + 1) A0 c0 fs A1 c1 l s _ W (Kd.C_below hr0 hb) hc0 (Kd.C_below hr1 hb) hc1 (model_kids fs l s hn _ (by omega))
  have hrk : l.length ≤ 8796093022208 → ∀ (W : World) (s : ByteArray), Below w.heap.size w W → Calls Try.prog 23 #[.agg #[.slice A0 fs.length c0, .slice A1 l.length c1], .string s] W fun e w' => ∃ v0_ : Value, e = .returned (v0_) ∧ Kd.R (Kd.int .i64) 3 w' W.heap.size (fun _ => True) v0_ (kidsL l s) ∧ Below W.heap.size W w' := fun hn W s hb => sentryref4_Kids.calls (l.length + 1) A0 c0 fs A1 c1 l s _ W (Kd.C_below hr0 hb) hc0 (Kd.C_below hr1 hb) hc1 (ref_kids fs l s hn _ (by omega))
  have hkl : ∀ s, (kidsL l s).length ≤ 9223372036854775807 := fun s => Nat.le_trans (kidsL_length l s) (by omega)
  have HR := Lib.hid hr1
  have hheavy := fun (W : World) (hb : Below w.heap.size w W) => h1 W (Kd.C_below hr0 hb) hc0 (Kd.C_below hr1 hb) hc1 (hk1 k1 (Nat.le_refl _))
  have hu36 := Try.underlying36
  have hu32 := Try.underlying32
  clear hr0 hr1 h1 hk1 hk2 hg
  obtain ⟨n, hn⟩ : ∃ n, n = l.length := ⟨_, rfl⟩
  have HN := Lib.hid hn
  rw [← hn] at hc1 hl hlt hpl hrp his hri hkd hrk hheavy ⊢
  clear hn
  obtain ⟨ib, hib⟩ : ∃ b, b = isB fs l := ⟨_, rfl⟩
  rw [← hib] at his hri
  clear hib
  have HPL := Lib.hid hpl
  have HRP := Lib.hid hrp
  have HIS := Lib.hid his
  have HRI := Lib.hid hri
  have HKD := Lib.hid hkd
  have HRK := Lib.hid hrk
  have HKL := Lib.hid hkl
  clear hpl hrp his hri hkd hrk hkl
  go_enter Try.func8, Try.ntmps8
  go_wp2_with fail
  obtain ⟨W1, hW1⟩ : ∃ W1, W1 = w.alloc (.cells #[.slice A0 fs.length c0, .slice A1 n c1] 36) := ⟨_, rfl⟩
  have hb1 : Below w.heap.size w W1 := by rw [hW1]; exact below_alloc (Below.refl _ _) _
  have hm0 : W1.cell? ⟨w.heap.size, 0, none⟩ = some (.slice A0 fs.length c0) := by rw [hW1]; simp
  have hm1 : W1.cell? ⟨w.heap.size, 1, none⟩ = some (.slice A1 n c1) := by rw [hW1]; simp
  rw [← hW1]
  clear hW1
  refine (hheavy W1 hb1).mono ?_
  rintro e w2 ⟨rfl, hb2⟩
  have HB2 := Lib.hid (keepb hb2 hb1)
  have hm0 := keepc hb2 hm0
  have hm1 := keepc hb2 hm1
  have HM := Lib.hid (And.intro hm0 hm1)
  have hsz2 : w.heap.size < w2.heap.size := World.block_lt_of_cell? _ _ hm0
  clear hb1 hb2 hheavy
  cases b with
  | true =>
    go_wp2
    go_ret
    exact ⟨rfl, HB2.out⟩
  | false =>
    have hn400 := hlt rfl
    clear hlt
    go_wp2
    go_loopg [5] n (fun gg s5 wr => ∃ (i : Nat), s5 = .int .i64 i ∧ i ≤ n ∧ n - i ≤ gg ∧ Hid (Below w2.heap.size w2 wr))
    case atStart => exact ⟨0, rfl, Nat.zero_le _, by omega, Lib.hid (Below.refl _ _)⟩
    case round =>
      obtain ⟨i, rfl, hin, hig, X⟩ := hrel
      have HBW := Lib.hid (keepb X.out HB2.out)
      have hm0 := keepc X.out HM.out.1
      have hm1 := keepc X.out HM.out.2
      have hkd := HKD.out (by have := HN.out; omega)
      have hrk := HRK.out (by have := HN.out; omega)
      have hpl := HPL.out
      have hrp := HRP.out
      have his := HIS.out
      have hri := HRI.out
      have hkl := HKL.out
      by_cases hlt : i < n
      case neg =>
        have hltz : ¬ (i : Int) < (n : Int) := by omega
        obtain rfl : n = i := by omega
        clear hin hig hlt
        go_wp2
        refine st_ (fun w' => (w'.cell? ⟨w.heap.size, 0, none⟩ = some (.slice A0 fs.length c0) ∧ w'.cell? ⟨w.heap.size, 1, none⟩ = some (.slice A1 n c1)) ∧ Below wr.heap.size wr w') 27 ⟨⟨hm0, hm1⟩, below_drew1 (Below.refl _ _)⟩ (fun hHeld => ?_)
        refine tk_ 0 (some 52) hHeld ?_ (hy := by rintro w' ⟨⟨s0, s1⟩, _⟩; go_simp; with_reducible rfl)
        refine tk_ 2 (some 54) hHeld ?_ (hy := by rintro w' ⟨⟨s0, s1⟩, _⟩; go_simp; with_reducible rfl)
        refine ca_ 1 (some 53) Try.func16 #[.agg #[.slice A0 fs.length c0, .slice A1 n c1]] ((his _ (keepb hHeld.2 HBW.out)).mono ?_)
        rintro e w3 ⟨rfl, hb'⟩
        refine ⟨_, rfl, ⟨⟨keepc hb' hHeld.1.1, keepc hb' hHeld.1.2⟩, keepb hb' hHeld.2⟩, fun hH_ => ⟨_, by (simp only [Act.put, List.setIfInBounds_toArray, List.set_cons_zero, List.set_cons_succ, i64_w, i32_w]; rfl), ?_⟩⟩
        clear hHeld
        have hHeld := hH_
        clear hH_
        refine ca_ 3 (some 55) Try.func18 #[.agg #[.slice A0 fs.length c0, .slice A1 n c1]] ((hri _ (keepb hHeld.2 HBW.out)).mono ?_)
        rintro e w4 ⟨rfl, hb'⟩
        refine ⟨_, rfl, ⟨⟨keepc hb' hHeld.1.1, keepc hb' hHeld.1.2⟩, keepb hb' hHeld.2⟩, fun hH_ => ⟨_, by (simp only [Act.put, List.setIfInBounds_toArray, List.set_cons_zero, List.set_cons_succ, i64_w, i32_w]; rfl), ?_⟩⟩
        clear hHeld
        have hHeld := hH_
        clear hH_
        refine pu_ 4 (some 56) ?_
        refine pu_ 5 (some 57) ?_
        refine tk_ 6 (some 58) hHeld ?_ (hy := by rintro w' ⟨⟨s0, s1⟩, _⟩; go_simp; with_reducible rfl)
        refine pu_ 7 (some 59) ?_
        refine tk_ 9 (some 61) hHeld ?_ (hy := by rintro w' ⟨⟨s0, s1⟩, _⟩; go_simp; with_reducible rfl)
        refine pu_ 10 (some 62) ?_
        refine ca_ 8 (some 60) Try.func19 #[.agg #[.slice A0 fs.length c0, .slice A1 n c1], .string id] ((hpl _ id (keepb hHeld.2 HBW.out)).mono ?_)
        rintro e w3 ⟨rfl, hb'⟩
        refine ⟨_, rfl, ⟨⟨keepc hb' hHeld.1.1, keepc hb' hHeld.1.2⟩, keepb hb' hHeld.2⟩, fun hH_ => ⟨_, by (simp only [Act.put, List.setIfInBounds_toArray, List.set_cons_zero, List.set_cons_succ, i64_w, i32_w]; rfl), ?_⟩⟩
        clear hHeld
        have hHeld := hH_
        clear hH_
        refine ca_ 11 (some 63) Try.func20 #[.agg #[.slice A0 fs.length c0, .slice A1 n c1], .string id] ((hrp _ id (keepb hHeld.2 HBW.out)).mono ?_)
        rintro e w4 ⟨rfl, hb'⟩
        refine ⟨_, rfl, ⟨⟨keepc hb' hHeld.1.1, keepc hb' hHeld.1.2⟩, keepb hb' hHeld.2⟩, fun hH_ => ⟨_, by (simp only [Act.put, List.setIfInBounds_toArray, List.set_cons_zero, List.set_cons_succ, i64_w, i32_w]; rfl), ?_⟩⟩
        clear hHeld
        have hHeld := hH_
        clear hH_
        refine pu_ 12 (some 64) ?_
        refine pu_ 13 (some 65) ?_
        refine pu_ 14 (some 66) ?_
        refine tk_ 15 (some 67) hHeld ?_ (hy := by rintro w' ⟨⟨s0, s1⟩, _⟩; go_simp; with_reducible rfl)
        refine pu_ 16 (some 68) ?_
        refine tk_ 18 (some 70) hHeld ?_ (hy := by rintro w' ⟨⟨s0, s1⟩, _⟩; go_simp; with_reducible rfl)
        refine pu_ 19 (some 71) ?_
        refine ca_ 17 (some 69) Try.func22 #[.agg #[.slice A0 fs.length c0, .slice A1 n c1], .string id] ((hkd _ id (keepb hHeld.2 HBW.out)).mono ?_)
        rintro e w5 ⟨v5, rfl, hR5, hb'⟩
        obtain ⟨A5, d5, rfl, hl5, hC5⟩ := Kd.R_reads hR5
        refine ⟨_, rfl, ⟨⟨keepc hb' hHeld.1.1, keepc hb' hHeld.1.2⟩, keepb hb' hHeld.2⟩, fun hH_ => ⟨_, by (simp only [Act.put, List.setIfInBounds_toArray, List.set_cons_zero, List.set_cons_succ, i64_w, i32_w]; rfl), ?_⟩⟩
        have HC5 := Lib.hid hC5
        clear hC5 hR5 hb'
        clear hHeld
        have hHeld := hH_
        clear hH_
        refine ca_ 20 (some 72) Try.func23 #[.agg #[.slice A0 fs.length c0, .slice A1 n c1], .string id] ((hrk _ id (keepb hHeld.2 HBW.out)).mono ?_)
        rintro e w6 ⟨v6, rfl, hR6, hb'⟩
        obtain ⟨A6, d6, rfl, hl6, hC6⟩ := Kd.R_reads hR6
        refine ⟨_, rfl, ⟨⟨keepc hb' hHeld.1.1, keepc hb' hHeld.1.2⟩, keepb hb' hHeld.2⟩, fun hH_ => ⟨_, by (simp only [Act.put, List.setIfInBounds_toArray, List.set_cons_zero, List.set_cons_succ, i64_w, i32_w]; rfl), ?_⟩⟩
        have HC6 := Lib.hid hC6
        have HC5b := Lib.hid (Kd.C_below HC5.out hb')
        clear hC6 hR6 hb'
        clear hHeld
        have hHeld := hH_
        clear hH_
        refine ca_ 21 (some 73) Try.func21 #[.slice A5 (kidsL l id).length d5, .slice A6 (kidsL l id).length d6] ((sentryref4_SameInts.calls _ A5 d5 _ A6 d6 _ _ _ HC5b.out hl5 HC6.out hl6 (same_ints (kidsL l id) (hkl _) _ (Nat.lt_succ_self _))).mono ?_)
        rintro e w7 ⟨rfl, ⟨nd, rfl⟩⟩
        have hb' : Below w6.heap.size w6 (w6.drewN nd) := pw_below_drewN (Below.refl _ _) _
        refine ⟨_, rfl, ⟨⟨keepc hb' hHeld.1.1, keepc hb' hHeld.1.2⟩, keepb hb' hHeld.2⟩, fun hH_ => ⟨_, by (simp only [Act.put, List.setIfInBounds_toArray, List.set_cons_zero, List.set_cons_succ, i64_w, i32_w]; rfl), ?_⟩⟩
        clear hHeld
        have hHeld := hH_
        clear hH_
        refine pu_ 22 (some 74) ?_
        refine pu_ 23 (some 75) ?_
        refine ca_ 24 (some 76) Try.func14 #[] ((sentrylaw4_known.calls true _ rfl).mono ?_)
        rintro e w8 ⟨rfl, hb'⟩
        refine ⟨_, rfl, ⟨⟨keepc hb' hHeld.1.1, keepc hb' hHeld.1.2⟩, keepb hb' hHeld.2⟩, fun hH_ => ⟨_, by (simp only [Act.put, List.setIfInBounds_toArray, List.set_cons_zero, List.set_cons_succ, i64_w, i32_w]; rfl), ?_⟩⟩
        clear hHeld
        have hHeld := hH_
        clear hH_
        refine pu_ 25 (some 77) ?_
        refine pu_ 26 (some 4) ?_
        refine dn_ ?_
        go_wp2
        go_ret
        exact ⟨rfl, keepb hHeld.2 HBW.out⟩
      have hltz : (i : Int) < (n : Int) := by omega
      obtain ⟨ad, B5, d5, B6, d6, e, hx0, _⟩ := at_T32 HR.out (i : Int) (by omega) (by have := HN.out; omega)
      cases e
      simp only [Int.toNat_natCast] at hx0
      obtain ⟨x, hx⟩ : ∃ x, x = rd_T32 l (i : Int) := ⟨_, rfl⟩
      rw [← hx] at hx0
      clear hx
      replace hx0 := keepc HBW.out hx0
      go_wp2
      refine st_ (fun w' => (w'.cell? ⟨w.heap.size, 0, none⟩ = some (.slice A0 fs.length c0) ∧ w'.cell? ⟨w.heap.size, 1, none⟩ = some (.slice (some ad) n c1) ∧ w'.cell? (ad.add (i * 7)) = some (.string x.f0)) ∧ Below wr.heap.size wr w') 37 ⟨⟨hm0, hm1, hx0⟩, below_drew1 (Below.refl _ _)⟩ (fun hHeld => ?_)
      refine tk_ 0 (some 15) hHeld ?_ (hy := by rintro w' ⟨⟨s0, s1, s2⟩, _⟩; go_simp; with_reducible rfl)
      refine pu_ 1 (some 16) ?_
      refine tk_ 2 (some 17) hHeld ?_ (hy := by rintro w' ⟨⟨s0, s1, s2⟩, _⟩; go_simp; with_reducible rfl)
      refine pu_ 3 (some 18) ?_
      refine pu_ 4 (some 19) ?_
      refine pu_ 5 (some 20) ?_
      refine tk_ 6 (some 21) hHeld ?_ (hy := by rintro w' ⟨⟨s0, s1, s2⟩, _⟩; go_simp; with_reducible rfl)
      refine tk_ 8 (some 23) hHeld ?_ (hy := by rintro w' ⟨⟨s0, s1, s2⟩, _⟩; go_simp; with_reducible rfl)
      refine pu_ 9 (some 24) ?_
      refine tk_ 10 (some 25) hHeld ?_ (hy := by rintro w' ⟨⟨s0, s1, s2⟩, _⟩; go_simp; with_reducible rfl)
      refine pu_ 11 (some 26) ?_
      refine pu_ 12 (some 27) ?_
      refine pu_ 13 (some 28) ?_
      refine tk_ 14 (some 29) hHeld ?_ (hy := by rintro w' ⟨⟨s0, s1, s2⟩, _⟩; go_simp; with_reducible rfl)
      refine ca_ 7 (some 22) Try.func19 #[.agg #[.slice A0 fs.length c0, .slice (some ad) n c1], .string x.f0] ((hpl _ x.f0 (keepb hHeld.2 HBW.out)).mono ?_)
      rintro e w3 ⟨rfl, hb'⟩
      refine ⟨_, rfl, ⟨⟨keepc hb' hHeld.1.1, keepc hb' hHeld.1.2.1, keepc hb' hHeld.1.2.2⟩, keepb hb' hHeld.2⟩, fun hH_ => ⟨_, by (simp only [Act.put, List.setIfInBounds_toArray, List.set_cons_zero, List.set_cons_succ, i64_w, i32_w]; rfl), ?_⟩⟩
      clear hHeld
      have hHeld := hH_
      clear hH_
      refine ca_ 15 (some 30) Try.func20 #[.agg #[.slice A0 fs.length c0, .slice (some ad) n c1], .string x.f0] ((hrp _ x.f0 (keepb hHeld.2 HBW.out)).mono ?_)
      rintro e w4 ⟨rfl, hb'⟩
      refine ⟨_, rfl, ⟨⟨keepc hb' hHeld.1.1, keepc hb' hHeld.1.2.1, keepc hb' hHeld.1.2.2⟩, keepb hb' hHeld.2⟩, fun hH_ => ⟨_, by (simp only [Act.put, List.setIfInBounds_toArray, List.set_cons_zero, List.set_cons_succ, i64_w, i32_w]; rfl), ?_⟩⟩
      clear hHeld
      have hHeld := hH_
      clear hH_
      refine pu_ 16 (some 31) ?_
      refine pu_ 17 (some 32) ?_
      refine tk_ 18 (some 33) hHeld ?_ (hy := by rintro w' ⟨⟨s0, s1, s2⟩, _⟩; go_simp; with_reducible rfl)
      refine pu_ 19 (some 34) ?_
      refine tk_ 20 (some 35) hHeld ?_ (hy := by rintro w' ⟨⟨s0, s1, s2⟩, _⟩; go_simp; with_reducible rfl)
      refine pu_ 21 (some 36) ?_
      refine pu_ 22 (some 37) ?_
      refine pu_ 23 (some 38) ?_
      refine tk_ 24 (some 39) hHeld ?_ (hy := by rintro w' ⟨⟨s0, s1, s2⟩, _⟩; go_simp; with_reducible rfl)
      refine tk_ 26 (some 41) hHeld ?_ (hy := by rintro w' ⟨⟨s0, s1, s2⟩, _⟩; go_simp; with_reducible rfl)
      refine pu_ 27 (some 42) ?_
      refine tk_ 28 (some 43) hHeld ?_ (hy := by rintro w' ⟨⟨s0, s1, s2⟩, _⟩; go_simp; with_reducible rfl)
      refine pu_ 29 (some 44) ?_
      refine pu_ 30 (some 45) ?_
      refine pu_ 31 (some 46) ?_
      refine tk_ 32 (some 47) hHeld ?_ (hy := by rintro w' ⟨⟨s0, s1, s2⟩, _⟩; go_simp; with_reducible rfl)
      refine ca_ 25 (some 40) Try.func22 #[.agg #[.slice A0 fs.length c0, .slice (some ad) n c1], .string x.f0] ((hkd _ x.f0 (keepb hHeld.2 HBW.out)).mono ?_)
      rintro e w5 ⟨v5, rfl, hR5, hb'⟩
      obtain ⟨A5, d5, rfl, hl5, hC5⟩ := Kd.R_reads hR5
      refine ⟨_, rfl, ⟨⟨keepc hb' hHeld.1.1, keepc hb' hHeld.1.2.1, keepc hb' hHeld.1.2.2⟩, keepb hb' hHeld.2⟩, fun hH_ => ⟨_, by (simp only [Act.put, List.setIfInBounds_toArray, List.set_cons_zero, List.set_cons_succ, i64_w, i32_w]; rfl), ?_⟩⟩
      have HC5 := Lib.hid hC5
      clear hC5 hR5 hb'
      clear hHeld
      have hHeld := hH_
      clear hH_
      refine ca_ 33 (some 48) Try.func23 #[.agg #[.slice A0 fs.length c0, .slice (some ad) n c1], .string x.f0] ((hrk _ x.f0 (keepb hHeld.2 HBW.out)).mono ?_)
      rintro e w6 ⟨v6, rfl, hR6, hb'⟩
      obtain ⟨A6, d6, rfl, hl6, hC6⟩ := Kd.R_reads hR6
      refine ⟨_, rfl, ⟨⟨keepc hb' hHeld.1.1, keepc hb' hHeld.1.2.1, keepc hb' hHeld.1.2.2⟩, keepb hb' hHeld.2⟩, fun hH_ => ⟨_, by (simp only [Act.put, List.setIfInBounds_toArray, List.set_cons_zero, List.set_cons_succ, i64_w, i32_w]; rfl), ?_⟩⟩
      have HC6 := Lib.hid hC6
      have HC5b := Lib.hid (Kd.C_below HC5.out hb')
      clear hC6 hR6 hb'
      clear hHeld
      have hHeld := hH_
      clear hH_
      refine ca_ 34 (some 49) Try.func21 #[.slice A5 (kidsL l x.f0).length d5, .slice A6 (kidsL l x.f0).length d6] ((sentryref4_SameInts.calls _ A5 d5 _ A6 d6 _ _ _ HC5b.out hl5 HC6.out hl6 (same_ints (kidsL l x.f0) (hkl _) _ (Nat.lt_succ_self _))).mono ?_)
      rintro e w7 ⟨rfl, ⟨nd, rfl⟩⟩
      have hb' : Below w6.heap.size w6 (w6.drewN nd) := pw_below_drewN (Below.refl _ _) _
      refine ⟨_, rfl, ⟨⟨keepc hb' hHeld.1.1, keepc hb' hHeld.1.2.1, keepc hb' hHeld.1.2.2⟩, keepb hb' hHeld.2⟩, fun hH_ => ⟨_, by (simp only [Act.put, List.setIfInBounds_toArray, List.set_cons_zero, List.set_cons_succ, i64_w, i32_w]; rfl), ?_⟩⟩
      clear hHeld
      have hHeld := hH_
      clear hH_
      refine pu_ 35 (some 50) ?_
      refine pu_ 36 (some 51) ?_
      refine dn_ ?_
      have XX := Lib.hid (keepb hHeld.2 X.out)
      clear hHeld
      go_wp2
      go_roundg (n - (i + 1))
      case measure => omega
      case rel => exact ⟨i + 1, by go_num, by omega, by omega, XX⟩
end Go.Proofs.Ytchellnfenekaaa.Pm
end
section
namespace Go.Proofs.Ytchellnfenekaaa.modelTells
open Go.ChangeShapes Go.WideShapes Go.ChangeAt Go.RowKit Go.Proofs.YtchellnfenekaaaW.PrintWords
open Go.ChangeMaps (open_string shut_string)
set_option linter.unusedVariables false
theorem own : ownKnob Try.prog.godebug = none := by kernel_rfl
theorem laidOut : laidOutB Try.prog = true := by kernel_rfl
set_option maxRecDepth 100000 in
theorem lifted (os : Os) (started : os.Started) (H : Type) (enc : TypeId × Value → H) :
    ReturnsInHanded {} Try.checked os 8 .any (Rows.modelTellsSpec.pre6 enc Try.prog Try.f8 Rows.modelTellsRow.domain false) (Rows.modelTellsSpec.post enc Try.prog Try.f8 false true false false) := by
  refine returnsInHanded_of_change_sized (C := Try.checked) own started (by kernel_rfl) Try.func8
    (ChangeSpec.witness6 (enc := enc) (C := Try.checked) false ⟨#[], #[.agg #[.slice none 0 0, .slice none 0 0], .string ByteArray.empty], []⟩ 8 (by kernel_rfl) (by kernel_rfl) (by kernel_rfl) (by kernel_rfl)) ?_
  intro W base args ds gs before hval0 hW hcnd hsz0 _
  have hsz : (DataW.weightsEach Try.prog (Try.f8.params.toList ++ Rows.modelTellsSpec.plain.varTypes Try.prog) (ds ++ gs)).all (· ≤ reachBytes) = true := hsz0
  have hval : ∀ (j : Nat) t v, Try.f8.params[j]? = some t → args[j]? = some v → Value.okWide Try.prog W .any base t v := hval0
  have hW' := hW
  obtain ⟨p, q, hA0, hV, rfl, hfz, hnd⟩ := hW
  have hA : DataW.TrodAll enc Try.prog W 0 (fun _ => true) true Try.f8.params.toList args.toList ds p := hA0
  rw [Try.params8] at hA hval hsz
  obtain ⟨v0, vs0, d0, ds0, p0, q0, hargs, rfl, rfl, h0, r0⟩ := trodAll_cons hA
  obtain ⟨v1, vs1, d1, ds1, p1, q1, rfl, rfl, rfl, h1, r1⟩ := trodAll_cons r0
  obtain ⟨rfl, rfl, rfl⟩ := trodAll_nil r1
  obtain rfl : args = #[v0, v1] := by cases args; simp_all
  obtain ⟨rfl, rfl⟩ := trodVars_none hV
  have k0 := h0
  have lt0 : ∀ x ∈ p0, x.block < W.heap.size := by obtain ⟨m, hm⟩ := k0; exact DataW.trod_lt m _ _ _ hm
  obtain ⟨A0, c0, fs0, B0, e0, l0, rfl, rdf0, hcf0, rdl0, hcl0, hf0, hl0, hg0⟩ := Pm.open_model (hval 0 36 v0 rfl rfl) h0 (Pm.light_of hsz (j := 0) (t := 36) rfl rfl)
  obtain ⟨a1, rfl, rfl, rfl, y1⟩ := open_string Try.underlying9 (hval 1 9 v1 rfl rfl) h1
  have w1 : a1.size ≤ 140737488351232 := by
    have z := sized_string hsz (j := 1) (t := 9) rfl rfl
    rw [Array.length_toList] at z
    exact z
  clear hA0 hval0 hsz0 hsz
  refine (Pm.tells_any A0 c0 fs0 B0 e0 l0 a1 W rdf0 hcf0 rdl0 hcl0 hf0 hl0 hg0).mono fun e W' ⟨he, bel⟩ => ?_
  subst he
  exact ⟨_, rfl, _, _, _, [], _, [], hW', trodAll_mk1 (shut_bool Try.underlying4 _), (trodAll_cons_mk (Below.trod laidOut (by kernel_rfl) (of_decide_eq_true (by kernel_rfl)) k0 bel lt0) (trodAll_cons_mk (shut_string Try.underlying9 y1) trodAll_mk0)), rfl, bel.frame _, fun h => by cases h⟩
theorem over : Rows.modelTellsRow.holds Try.pinned (OpenSpec.ofChange Rows.modelTellsSpec) :=
  OpenClaim.holds_of_wide 8 Try.f8 rfl rfl rfl rfl rfl rfl rfl ⟨rfl, rfl, rfl, rfl, rfl⟩ rfl rfl rfl rfl rfl (by kernel_rfl) Try.func8 (by kernel_rfl)
    (of_decide_eq_true (by kernel_rfl)) (by unfold Func.isWrapper; first | (rw [if_pos (by decide +kernel)]; kernel_rfl) | (rw [if_neg (by decide +kernel)]; exact ⟨rfl, rfl⟩))
    (fun os started H enc _ => lifted os started H enc)
theorem proved : Rows.ModelTellsSaid := over
end Go.Proofs.Ytchellnfenekaaa.modelTells
namespace Go.Proofs.Ytchellnfenekaaa
/-- The row, under a short name, for the claim. -/
theorem modelTells_holds : Rows.ModelTellsSaid := modelTells.proved
end Go.Proofs.Ytchellnfenekaaa
end
