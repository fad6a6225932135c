/- The law ModelLess: for every input the call answers true, and the input reads as it did. No condition. (Walks and laws of several texts, merged, and what is not used struck, by a program.) -/
import Derived.Test.YtchellnfenekaaaMModelLess3
import Derived.Test.YtchellnfenekaaaMModelLess2
import Derived.Test.YtchellnfenekaaaMModelLess0
import Derived.Lib.Hide
import Derived.Below
import Derived.ChangeOld
import Derived.ChangeSlices
import Derived.OpenShut
import Derived.ProofKit
import Derived.ShutString
import Derived.SizedLaws
import Derived.Test.YtchellnfenekaaaRows
import Derived.WalkKit
section
namespace Go.Proofs.Ytchellnfenekaaa.Pm
open Go.RowKit Go.Proofs.YtchellnfenekaaaW.PrintWords Go.Proofs.YtchellnfenekaaaW.PrintLast Go.Proofs.YtchellnfenekaaaW.PrintMore
attribute [local go_sem] max2_int min2_int max_two min_two max_three min_three max_four min_four   -- for this text's walks alone
set_option linter.unusedVariables false
set_option linter.unusedSimpArgs false
theorem rd_take (l : List (S32)) (n i : Nat) (h : i < n) : rd_T32 (l.take n) (i : Int) = rd_T32 l (i : Int) := by
  simp [rd_T32, List.getD_eq_getElem?_getD, List.getElem?_take, h]
theorem fidx_take {α : Type} (p : α → Bool) (l : List α) (z : α) (n : Nat) (hn : n ≤ l.length) : fidx p (l.take n) = if fidx p l < n then fidx p l else -1 := by
  have hg : ∀ j, j < n → (l.take n).getD j z = l.getD j z := by
    intro j hj
    simp [List.getD_eq_getElem?_getD, List.getElem?_take, hj]
  have hl : (l.take n).length = n := by rw [List.length_take]; omega
  cases h : l.findIdx? p with
  | none =>
    have e : fidx p l = -1 := by unfold fidx; rw [h]
    rw [e, if_pos (by omega)]
    refine fidx_miss p _ z fun j hj => ?_
    rw [hl] at hj
    rw [hg j hj, List.getD_eq_getElem?_getD, List.getElem?_eq_getElem (by omega)]
    have := List.findIdx?_eq_none_iff.1 h _ (List.getElem_mem (show j < l.length by omega))
    simpa using this
  | some k =>
    have e : fidx p l = k := by unfold fidx; rw [h]
    obtain ⟨hk, hp, hlt⟩ := List.findIdx?_eq_some_iff_getElem.1 h
    rw [e]
    by_cases hkn : k < n
    · rw [if_pos (by omega)]
      refine fidx_hit p _ k z (by omega) ?_ fun j hj => ?_
      · rw [hg k hkn, List.getD_eq_getElem?_getD, List.getElem?_eq_getElem hk]; simpa using hp
      · rw [hg j (by omega), List.getD_eq_getElem?_getD, List.getElem?_eq_getElem (by omega)]
        have := hlt j hj
        simpa using this
    · rw [if_neg (by omega)]
      refine fidx_miss p _ z fun j hj => ?_
      rw [hl] at hj
      rw [hg j hj, List.getD_eq_getElem?_getD, List.getElem?_eq_getElem (by omega)]
      have := hlt j (by omega)
      simpa using this
/-- Does a row of sentries ask for an item of this name? -/
def askOn (z : ByteArray) (o : S39) : Bool := decide (o.f0.toList = z.toList)
def askS (z : ByteArray) (ss : List (S29)) : Bool := ss.any (fun s => s.f0.any (askOn z))
def askItem (z : ByteArray) (x : S32) : Bool := askS z (x.f5 ++ x.f6)
def askUpto (l : List (S32)) (i : Nat) : Bool := (l.take i).any (askItem (rd_T32 l ((l.length : Int) - 1)).f0)
section
variable {fs : List ByteArray} {l : List (S32)} {n : Nat}
theorem placeI_take (hl : l.length = n + 1) (a : ByteArray) : placeI (l.take n) a = if placeI l a < n then placeI l a else -1 := fidx_take _ l z32 n (by omega)
theorem onB_take (hl : l.length = n + 1) (hn : ∀ i : Nat, i < l.length → placeI l (nmA l i) = i) (a : ByteArray) (b : Int) (h : onB l a b = true) : onB (l.take n) a b = !decide (a.toList = (nmA l n).toList) := by
  unfold onB at h ⊢
  rw [placeI_take hl]
  by_cases h0 : 0 ≤ placeI l a
  case neg => rw [if_neg h0] at h; simp at h
  rw [if_pos h0] at h
  obtain ⟨p, hp⟩ := Int.eq_ofNat_of_zero_le h0
  obtain ⟨hpl, hpn⟩ := placeI_at l a p hp
  rw [hp] at h ⊢
  by_cases hpn' : p < n
  · rw [if_pos (by omega), if_pos (by omega), rd_take l n p hpn', h]
    rw [decide_eq_false]; · rfl
    intro e
    have := placeI_congr l _ _ e
    rw [hp, hn n (by omega)] at this
    omega
  · rw [if_neg (by omega)]
    have : p = n := by omega
    subst this
    rw [decide_eq_true hpn.symm]; rfl
theorem sentryB_take (hl : l.length = n + 1) (hn : ∀ i : Nat, i < l.length → placeI l (nmA l i) = i) (on : List (S39)) (ifs : List (S25)) (h : sentryB fs l on ifs = true) : sentryB fs (l.take n) on ifs = !on.any (askOn (nmA l n)) := by
  unfold sentryB at h ⊢
  rw [Bool.and_eq_true, Bool.and_eq_true] at h
  obtain ⟨h1, h2, h3⟩ := h
  rw [h1, h3, Bool.true_and, Bool.and_true, Bool.eq_iff_iff, List.all_eq_true, Bool.not_eq_true', List.any_eq_false]
  rw [List.all_eq_true] at h2
  have hi : ∀ i (hi : i < on.length), onOk (l.take n) on i = !askOn (nmA l n) on[i] := by
    intro i hi
    have := h2 i (List.mem_range.2 hi)
    unfold onOk at this ⊢
    rw [Bool.and_eq_true] at this
    rw [onB_take hl hn _ _ this.1, this.2, Bool.and_true]
    unfold askOn
    have e : rd_T39 on (i : Int) = on[i] := by simp [rd_T39, List.getD_eq_getElem?_getD, List.getElem?_eq_getElem hi]
    rw [e]
  constructor
  · intro h o ho
    obtain ⟨i, hil, rfl⟩ := List.getElem_of_mem ho
    have := h i (List.mem_range.2 hil)
    rw [hi i hil] at this
    simpa using this
  · intro h i hil
    have hil := List.mem_range.1 hil
    rw [hi i hil]
    have := h _ (List.getElem_mem hil)
    simpa using this
theorem sentsB_take (hl : l.length = n + 1) (hn : ∀ i : Nat, i < l.length → placeI l (nmA l i) = i) (ss : List (S29)) (h : sentsB fs l ss = true) : sentsB fs (l.take n) ss = !askS (nmA l n) ss := by
  unfold sentsB at h ⊢
  rw [Bool.and_eq_true] at h
  obtain ⟨h1, h2⟩ := h
  rw [h1, Bool.true_and]
  congr 1
  rw [Bool.not_eq_true', List.any_eq_false] at h2
  unfold askS
  rw [Bool.eq_iff_iff, List.any_eq_true, List.any_eq_true]
  constructor
  · rintro ⟨s, hs, e⟩
    have := h2 s hs
    refine ⟨s, hs, ?_⟩
    rw [sentryB_take hl hn _ _ (by simpa using this)] at e
    simpa using e
  · rintro ⟨s, hs, e⟩
    have := h2 s hs
    refine ⟨s, hs, ?_⟩
    rw [sentryB_take hl hn _ _ (by simpa using this)]
    simpa using e
theorem stk_take (hl : l.length = n + 1) (hp : ∀ q : Nat, 0 < q → q < l.length → ∃ p : Nat, p < q ∧ placeI l (paA l q) = p ∧ (paA l q).toList ≠ [] ∧ kdA l p = 1) : ∀ i, i ≤ n → stk (l.take n) i = stk l i := by
  intro i
  induction i with
  | zero => intro _; rfl
  | succ i ih =>
    intro hi
    show (stk (l.take n) i).bind _ = (stk l i).bind _
    rw [ih (by omega)]
    congr 1
    funext st
    unfold stkStep
    rw [rd_take l n i (by omega)]
    by_cases h0 : i = 0
    · rw [if_pos h0, if_pos h0]
    · rw [if_neg h0, if_neg h0]
      obtain ⟨p, hpq, hpp, -, -⟩ := hp i (by omega) (by omega)
      have e : placeI (l.take n) (rd_T32 l (i : Int)).f2 = placeI l (rd_T32 l (i : Int)).f2 := by
        rw [placeI_take hl, if_pos]
        have : placeI l (rd_T32 l (i : Int)).f2 = p := hpp
        omega
      rw [e]
      have e2 : rd_T32 (l.take n) (placeI l (rd_T32 l (i : Int)).f2) = rd_T32 l (placeI l (rd_T32 l (i : Int)).f2) := by
        rw [show placeI l (rd_T32 l (i : Int)).f2 = (p : Int) from hpp]
        exact rd_take l n p (by omega)
      rw [e2]
theorem less_law (h : isB fs l = true) (h2 : 2 ≤ l.length) : isB fs (l.take (l.length - 1)) = !askUpto l (l.length - 1) := by
  obtain ⟨n, hl⟩ : ∃ n, l.length = n + 1 := ⟨l.length - 1, by omega⟩
  obtain ⟨hb1, hb2, hb3, hnm, hz, hp⟩ := legal_facts fs l h
  have hn : ∀ i : Nat, i < l.length → placeI l (nmA l i) = i := fun i hi => (hnm i hi).1
  unfold askUpto
  rw [hl, Nat.add_sub_cancel, show (((n + 1 : Nat) : Int) - 1) = (n : Int) by omega]
  have hlt : (l.take n).length = n := by rw [List.length_take]; omega
  have hparts := h
  unfold isB at hparts ⊢
  rw [Bool.and_eq_true, Bool.and_eq_true, Bool.and_eq_true, Bool.and_eq_true, Bool.and_eq_true, decide_eq_true_eq] at hparts
  obtain ⟨p1, p2, p3, p4, p5, p6⟩ := hparts
  rw [hlt, decide_eq_true (show fs.length ≤ 6 ∧ 1 ≤ n ∧ n ≤ 16 by omega), p2]
  have e0 : rd_T32 (l.take n) 0 = rd_T32 l 0 := rd_take l n 0 (by omega)
  rw [e0, p4]
  have e3 : namesB ((l.take n).map (·.f0)) = true := by
    unfold namesB at p3 ⊢
    rw [List.all_eq_true] at p3 ⊢
    intro i hi
    have hi : i < n := by rw [List.length_map, hlt] at hi; exact List.mem_range.1 hi
    have := p3 i (List.mem_range.2 (by rw [List.length_map]; omega))
    rw [names_at l i (by omega)] at this
    rw [names_at (l.take n) i (by omega)]
    have e : nmA (l.take n) (i : Int) = nmA l (i : Int) := by unfold nmA; rw [rd_take l n i hi]
    rw [e, placeI_take hl, hn i (by omega), if_pos (by omega)]
    rw [hn i (by omega)] at this
    exact this
  have e5 : standsB (l.take n) = true := by
    unfold standsB at p5 ⊢
    rw [hlt, stk_take hl hp n (Nat.le_refl _)]
    cases hs : stk l n with
    | some st => rfl
    | none =>
      have := stk_none l n hs 1
      rw [hl, this] at p5
      simp at p5
  rw [e3, e5, Bool.true_and, Bool.true_and, Bool.true_and, Bool.true_and, Bool.true_and]
  congr 1
  rw [Bool.eq_iff_iff, List.any_eq_true, List.any_eq_true]
  rw [Bool.not_eq_true', List.any_eq_false] at p6
  have hx : ∀ x ∈ l.take n, (!itemB fs (l.take n) x.f1 x.f3 x.f4 x.f5 x.f6) = askItem (nmA l n) x := by
    intro x hx
    have hxl : x ∈ l := List.mem_of_mem_take hx
    have := p6 x hxl
    rw [Bool.not_eq_true, Bool.not_eq_false', itemB_eq, Bool.and_eq_true, Bool.and_eq_true] at this
    rw [itemB_eq, this.1, Bool.true_and, sentsB_take hl hn _ this.2.1, sentsB_take hl hn _ this.2.2]
    unfold askItem
    have : askS (nmA l n) (x.f5 ++ x.f6) = (askS (nmA l n) x.f5 || askS (nmA l n) x.f6) := by unfold askS; rw [List.any_append]
    rw [this]
    cases askS (nmA l n) x.f5 <;> cases askS (nmA l n) x.f6 <;> rfl
  constructor
  · rintro ⟨x, hm, e⟩
    exact ⟨x, hm, by rw [hx x hm] at e; exact e⟩
  · rintro ⟨x, hm, e⟩
    exact ⟨x, hm, by rw [hx x hm]; exact e⟩
end
end Go.Proofs.Ytchellnfenekaaa.Pm
end
section
namespace Go.Proofs.Ytchellnfenekaaa.Pm
open Go.RowKit Go.Proofs.YtchellnfenekaaaW.PrintWords Go.Proofs.YtchellnfenekaaaW.PrintLast Go.Proofs.YtchellnfenekaaaW.PrintMore
attribute [local go_sem] max2_int min2_int max_two min_two max_three min_three max_four min_four   -- for this text's walks alone
set_option linter.unusedVariables false
set_option linter.unusedSimpArgs false
def bits (n m : Nat) : Array Bool := ((List.range n).map (fun i => m.testBit i)).toArray
section
variable {P : Program} {md : Region.Mode} {ops : Array Oper} {Q : Exit → Act → World → Prop} {S : World → Prop} {ds : List Nat}
theorem st_ {id : Nat} {a : Act} {w : World} (S : World → Prop) (n : Nat) (hS : S w.drew) (h : S w.drew → wpAnyLast P .any ops Q S [] n (bits n 0) a w.drew)
    (hm : P.follows .mixedOrders = true := by kernel_rfl) (hn : ops.size = n := by exact rfl) (hl : Array.replicate n false = bits n 0 := by kernel_rfl) : (Code.region id ops true).wp P Q a w :=
  start_ (bits n 0) hm hn hl hS h
theorem pu_ {n m fuel : Nat} {oi : Oper} {v : Value} {a a' : Act} {w : World} (i : Nat) (N : Option Tmp) (h : wpAnyLast P md ops Q S ds fuel (bits n (m ||| 1 <<< i)) a' w)
    (hi : ops[i]? = some oi := by exact rfl) (hN : oi.dst = N := by exact rfl) (hc : anyB md ops (bits n m) (bits n (m ||| 1 <<< i)) i = true := by kernel_rfl)
    (hw : Region.wanted oi (yielded ops a.tmps) = true := by exact rfl) (hy : ∀ w', (execOp a.eval oi).run P w' = .ok (.value v) w' := by (intro w'; go_simp; with_reducible rfl))
    (ha : a.put N v = a' := by (simp only [Act.put, List.setIfInBounds_toArray, List.set_cons_zero, List.set_cons_succ, i64_w, i32_w]; rfl))
    (hQ : ∀ c a w, Q (.panic c) (a.put oi.dst v) w → Q (.panic c) a w := by exact fun _ _ _ h => h) : wpAnyLast P md ops Q S ds (fuel + 1) (bits n m) a w :=
  pure_ _ hi hN hc hQ (Or.inl ⟨hw, hy⟩) ha h
theorem sk_ {n m fuel : Nat} {oi : Oper} {a a' : Act} {w : World} (i : Nat) (N : Option Tmp) (h : wpAnyLast P md ops Q S ds fuel (bits n (m ||| 1 <<< i)) a' w)
    (hi : ops[i]? = some oi := by exact rfl) (hN : oi.dst = N := by exact rfl) (hc : anyB md ops (bits n m) (bits n (m ||| 1 <<< i)) i = true := by kernel_rfl)
    (hw : Region.wanted oi (yielded ops a.tmps) = false := by exact rfl)
    (ha : a.put N undef = a' := by (simp only [Act.put, List.setIfInBounds_toArray, List.set_cons_zero, List.set_cons_succ, i64_w, i32_w]; rfl))
    (hQ : ∀ c a w, Q (.panic c) (a.put oi.dst undef) w → Q (.panic c) a w := by exact fun _ _ _ h => h) : wpAnyLast P md ops Q S ds (fuel + 1) (bits n m) a w :=
  pure_ _ hi hN hc hQ (Or.inr ⟨hw, rfl⟩) ha h
theorem tk_ {n m fuel : Nat} {oi : Oper} {v : Value} {a a' : Act} {w : World} (i : Nat) (N : Option Tmp) (hS : S w) (h : wpAnyLast P md ops Q S ds fuel (bits n (m ||| 1 <<< i)) a' w)
    (hi : ops[i]? = some oi := by exact rfl) (hN : oi.dst = N := by exact rfl) (hc : takeB md ops ds (bits n m) (bits n (m ||| 1 <<< i)) i = true := by kernel_rfl)
    (hw : Region.wanted oi (yielded ops a.tmps) = true := by exact rfl) (hy : ∀ w', S w' → (execOp a.eval oi).run P w' = .ok (.value v) w')
    (ha : a.put N v = a' := by (simp only [Act.put, List.setIfInBounds_toArray, List.set_cons_zero, List.set_cons_succ, i64_w, i32_w]; rfl))
    (hQ : ∀ c a w, Q (.panic c) (a.put oi.dst v) w → Q (.panic c) a w := by exact fun _ _ _ h => h) : wpAnyLast P md ops Q S ds (fuel + 1) (bits n m) a w :=
  take_ _ hi hN hc hQ (Or.inl ⟨hw, hy⟩) hS ha h
theorem dn_ {n m : Nat} {a : Act} {w : World} {k : Nat} (h : Q .normal a w) (hr : (Region.ready md ops (bits n m) == []) = true := by kernel_rfl) : wpAnyLast P md ops Q S ds k (bits n m) a w := done_ hr h
end
end Go.Proofs.Ytchellnfenekaaa.Pm
end
section
namespace Go.Proofs.Ytchellnfenekaaa.Pm
open Go.RowKit Go.Proofs.YtchellnfenekaaaW.PrintWords Go.Proofs.YtchellnfenekaaaW.PrintLast Go.Proofs.YtchellnfenekaaaW.PrintMore
attribute [local go_sem] max2_int min2_int max_two min_two max_three min_three max_four min_four   -- for this text's walks alone
set_option linter.unusedVariables false
set_option linter.unusedSimpArgs false
def model_Kids.l0 : Nat → ByteArray → List Int → List (S32) → Int → Int → Option (List Int)
 | 0, _, _, _, _, _ => none
 | k + 1, x1, x5, x9, x10, x11 => if x11 < x10 then (if 0 ≤ x11 then (if x11 < (x9.length : Int) then (if ((rd_T32 x9 x11).f2).toList = x1.toList then (if x5.length < 17592186044416 then (model_Kids.l0 k x1 (x5 ++ [x11]) x9 x10 (wrap64 (x11 + 1))) else (none)) else (model_Kids.l0 k x1 x5 x9 x10 (wrap64 (x11 + 1)))) else (none)) else (none)) else (some x5)
def model_Kids.f (k : Nat) (l0_0 : List ByteArray) (l0_1 : List (S32)) (a1 : ByteArray) : Option (List Int) := model_Kids.l0 k a1 ([] : List Int) l0_1 (l0_1.length : Int) 0
theorem model_Kids.mono_l : ∀ k, (∀ y0 y1 y2 y3 y4, LeO (model_Kids.l0 k y0 y1 y2 y3 y4) (model_Kids.l0 (k + 1) y0 y1 y2 y3 y4))
 | 0 => fun _ _ _ _ _ r h => by simp [model_Kids.l0] at h
 | k + 1 => by
  have ih0 := model_Kids.mono_l k
  ·intro y0 y1 y2 y3 y4
   unfold model_Kids.l0
   repeat' first
   | (with_reducible exact ih0 _ _ _ _ _)
   | (with_reducible exact LeO.refl _)
   | (with_reducible exact LeO.none _)
   | (with_reducible refine LeO.ite ?_ ?_)
   | (with_reducible refine LeO.bind ?_ (fun _ => ?_))
   | exact ih0 _ _ _ _ _
   | exact LeO.none _
   | refine LeO.ite ?_ ?_
   | refine LeO.bind ?_ (fun _ => ?_)
theorem model_Kids.mono : ∀ a0 a1 a2 k, LeO (model_Kids.f k a0 a1 a2) (model_Kids.f (k + 1) a0 a1 a2) := by
 intro a0 a1 a2 k
 have ih0 := model_Kids.mono_l k
 unfold model_Kids.f
 repeat' first
   | (with_reducible exact ih0 _ _ _ _ _)
   | (with_reducible exact LeO.refl _)
   | (with_reducible exact LeO.none _)
   | (with_reducible refine LeO.ite ?_ ?_)
   | (with_reducible refine LeO.bind ?_ (fun _ => ?_))
   | exact ih0 _ _ _ _ _
   | exact LeO.none _
   | refine LeO.ite ?_ ?_
   | refine LeO.bind ?_ (fun _ => ?_)
set_option maxHeartbeats 8000000 in
set_option maxRecDepth 100000 in
theorem model_Kids.calls (k : Nat) (A0_0 : Option Addr) (c0_0 : Nat) (l0_0 : List ByteArray) (A0_1 : Option Addr) (c0_1 : Nat) (l0_1 : List (S32)) (a1 : ByteArray) (r : List Int) (w : World) (hr0_0 : Kd.C Kd.string w A0_0 l0_0.length l0_0) (hc0_0 : l0_0.length ≤ c0_0) (hr0_1 : Kd.C k32 w A0_1 l0_1.length l0_1) (hc0_1 : l0_1.length ≤ c0_1) (h : model_Kids.f k l0_0 l0_1 a1 = some r) :
  Calls Try.prog 22 #[.agg #[.slice A0_0 l0_0.length c0_0, .slice A0_1 l0_1.length c0_1], .string a1] w fun e w' => ∃ v0_ : Value, e = .returned (v0_) ∧ Kd.R (Kd.int .i64) 3 w' w.heap.size (fun _ => True) v0_ r ∧ Below w.heap.size w w' := by
 have hu36 := Try.underlying36
 have hu32 := Try.underlying32
 have HR0_0 := Aside0.mk hr0_0
 have HC0_0 := Aside0.mk hc0_0
 clear hr0_0 hc0_0
 have HR0_1 := Aside0.mk hr0_1
 have HC0_1 := Aside0.mk hc0_1
 clear hr0_1 hc0_1
 have HB := Aside0.mk (Below.refl w.heap.size w)
 have H : (model_Kids.l0 k a1 ([] : List Int) l0_1 (l0_1.length : Int) 0) = some r := h
 clear h
 have H' := Aside0.mk H
 clear H
 go_enter Try.func22, Try.ntmps22
 go_wp2_with (first | ((with_reducible refine gate_dst (N := 2) rfl ?_); refine box_event ?hg (N := 2) ?hd (cs := #[.slice A0_0 l0_0.length c0_0, .slice A0_1 l0_1.length c0_1]) (t := 36) ?hr ?_; (case hd => rfl); (case hg => rfl); (case hr => first | (go_simp; done) | (go_simp; rfl)); intro gb257 hg w3 hbox hb; have n0_ := hb_ HB hb; have n1_ := Aside0.mk (hbox); have n2_ := Aside0.mk ((by rw [hg]; exact (below_size (by repeat (first | (with_reducible first | exact HB.out | apply below_alloc | apply pw_below_drewN | apply below_drew1) | exact HB.out))) : w.heap.size ≤ gb257)); have n3_ := Aside0.mk ((by rw [hg]; exact (below_size (by repeat (first | (with_reducible first | exact HB.out | apply below_alloc | apply pw_below_drewN | apply below_drew1) | exact HB.out))) : w.heap.size ≤ gb257)); clear HB; have HB := n0_; have BK257 := n1_; have GW257 := n2_; have GE257 := n3_; clear n0_ n1_ n2_ n3_; clear hb hbox hg; obtain ⟨hcz4_0, hcz4_1, hfz4_0, hfz4_1⟩ := bs2_ BK257))
 go_loopg [5, 11] k (fun kq v5 v11 w' => ∃ (x5_1 : List Int) (x11_1 : Int), v11 = .int .i64 x11_1 ∧ Aside0 (model_Kids.l0 kq a1 x5_1 l0_1 (l0_1.length : Int) x11_1 = some r) ∧ Aside0 (kq ≤ k) ∧ Aside0 (Kd.R (Kd.int .i64) 3 w' w.heap.size (fun _ => True) v5 x5_1) ∧ Aside0 (w'.heap[gb257]? = some (.cells #[(.slice A0_0 l0_0.length c0_0), (.slice A0_1 l0_1.length c0_1)] 36 (0, 0))) ∧ Aside0 (Below w.heap.size w w'))
 case atStart => exact ⟨(([] : List Int)), (0), (by first | rfl | (simp; done) | (simp [*]; done)), H', ⟨Nat.le_refl _⟩, ⟨by first | exact Kd.R_nil _ _ _ _ _ | exact Kd.N_nil _ _ _ _ _ | exact Kd.V_nil _ _ _ _ _ | exact Kd.Q_nil _ _ _ _ _ | exact Kd.S_nil _ _ _ _ _⟩, ⟨gx_ BK257⟩, ⟨hf_⟩⟩
 case round =>
  clear H'
  (try clear c2); (try clear p2); (try clear hcz4_0); (try clear hcz4_1); (try clear hfz4_0); (try clear hfz4_1)
  obtain ⟨x5_1, x11_1, rfl, HA, HK1, HO_5, BK257, HB⟩ := hrel
  cases gk with
  | zero => exact absurd HA.out (by simp [model_Kids.l0])
  | succ k1 =>
   have H := HA.out
   clear HA
   simp only [model_Kids.l0] at H
   by_cases c5 : x11_1 < (l0_1.length : Int)
   ·rw [if_pos c5] at H
    have c5b0 : decide (x11_1 < (l0_1.length : Int)) = true := decide_eq_true c5
    clear c5
    by_cases c6 : 0 ≤ x11_1
    ·rw [if_pos c6] at H
     have c6b0 : decide (0 ≤ x11_1) = true := decide_eq_true c6
     clear c6
     by_cases c7 : x11_1 < (l0_1.length : Int)
     ·rw [if_pos c7] at H
      have c7b0 : decide (x11_1 < (l0_1.length : Int)) = true := decide_eq_true c7
      clear c7
      by_cases c8 : ((rd_T32 l0_1 x11_1).f2).toList = a1.toList
      ·rw [if_pos c8] at H
       have c8b0 : (((rd_T32 l0_1 x11_1).f2).toList == a1.toList) = true := beq_iff_eq.mpr c8
       have c8b1 : (((rd_T32 l0_1 x11_1).f2).toList != a1.toList) = false := bne_eq_false_iff_eq.mpr c8
       clear c8
       by_cases c9 : x5_1.length < 17592186044416
       ·rw [if_pos c9] at H
        have LMc9 := Aside0.mk c9
        clear c9
        obtain ⟨y260, hy260⟩ : ∃ y_ : List Int, y_ = (x5_1 ++ [x11_1]) := ⟨_, rfl⟩
        replace H : (model_Kids.l0 k1 a1 y260 l0_1 (l0_1.length : Int) (wrap64 (x11_1 + 1))) = some r := by first | (rw [hy260]; with_reducible exact H) | (have H2_ := (Option.bind_some _ _).symm.trans H; rw [hy260]; with_reducible exact H2_) | (have H2_ := (Option.bind_some _ _).symm.trans H; with_reducible exact H2_) | with_reducible exact H | (rw [hy260]; exact H) | exact H
        have Ny260 := Aside0.mk hy260
        clear hy260
        have H' := Aside0.mk H
        clear H
        have p258 : 0 ≤ (x11_1 : Int) := od_
        have q258 : x11_1 < (l0_1.length : Int) := od_
        obtain ⟨ad258, A258_5, c258_5, A258_6, c258_6, e258, hx258_0, hx258_1, hx258_2, hx258_3, hx258_4, hx258_5, hx258_6, hl258_5, hi258_5, hl258_6, hi258_6⟩ := at_T32 HR0_1.out x11_1 p258 q258
        cases e258
        replace hx258_0 := rr_ HB hx258_0
        replace hx258_1 := rr_ HB hx258_1
        replace hx258_2 := rr_ HB hx258_2
        replace hx258_3 := rr_ HB hx258_3
        replace hx258_4 := rr_ HB hx258_4
        replace hx258_5 := rr_ HB hx258_5
        replace hx258_6 := rr_ HB hx258_6
        have HR258_5 := Aside0.mk hi258_5
        have HC258_5 := Aside0.mk hl258_5
        clear hi258_5 hl258_5
        have HR258_6 := Aside0.mk hi258_6
        have HC258_6 := Aside0.mk hl258_6
        clear hi258_6 hl258_6
        replace p258 := eq_true p258
        replace q258 := eq_true q258
        go_wp2_with (first | ((with_reducible refine gate_dst (N := 7) rfl ?_); refine box_event ?hg (N := 7) ?hd (cs := #[.string (⟨#[]⟩ : ByteArray), .int .i64 0, .string (⟨#[]⟩ : ByteArray), .bool false, .int .i64 0, .slice none 0 0, .slice none 0 0]) (t := 32) ?hr ?_; (case hd => rfl); (case hg => rfl); (case hr => first | (go_simp; done) | (go_simp; rfl)); intro gb259 hg w10 hbox hb; have n0_ := Aside0.mk (Kd.R_below (by (with_reducible repeat (first | apply Kd.R_alloc | apply Kd.R_drewN | apply Kd.R_drew)); exact HO_5.out) hb); have n1_ := bb_ BK257 hb; have n2_ := hb_ HB hb; have n3_ := Aside0.mk (hbox); have n4_ := Aside0.mk ((by rw [hg]; exact (below_size (by repeat (first | (with_reducible first | exact HB.out | apply below_alloc | apply pw_below_drewN | apply below_drew1 | refine below_set ?_ GE257.out) | exact HB.out))) : w.heap.size ≤ gb259)); have n5_ := Aside0.mk ((by rw [hg]; exact (below_size (by repeat (first | (with_reducible first | exact HB.out | apply below_alloc | apply pw_below_drewN | apply below_drew1 | refine below_set ?_ GE257.out) | exact HB.out))) : w.heap.size ≤ gb259)); have n6_ := Aside0.mk ((by rw [hg]; exact Nat.ne_of_lt (blk_lt (g := gb257) (o := .cells #[.slice A0_0 l0_0.length c0_0, .slice (some ad258) l0_1.length c0_1] 36 (0, 0)) (by (with_reducible repeat (first | refine blk_drewN ?_ _ | refine blk_drew ?_ | refine blk_alloc ?_ _)); exact BK257.out)) : gb257 ≠ gb259)); have n7_ := Aside0.mk ((by rw [hg]; exact Nat.ne_of_gt (blk_lt (g := gb257) (o := .cells #[.slice A0_0 l0_0.length c0_0, .slice (some ad258) l0_1.length c0_1] 36 (0, 0)) (by (with_reducible repeat (first | refine blk_drewN ?_ _ | refine blk_drew ?_ | refine blk_alloc ?_ _)); exact BK257.out)) : gb259 ≠ gb257)); clear HO_5; clear BK257; clear HB; have HO_5 := n0_; have BK257 := n1_; have HB := n2_; have BK259 := n3_; have GW259 := n4_; have GE259 := n5_; have NB257_259 := n6_; have NB259_257 := n7_; clear n0_ n1_ n2_ n3_ n4_ n5_ n6_ n7_; clear hb hbox hg; have hnb11 := NB259_257.out; have hnc11 := NB257_259.out; obtain ⟨hcz12_0, hcz12_1, hcz12_2, hcz12_3, hcz12_4, hcz12_5, hcz12_6, hfz12_0, hfz12_1, hfz12_2, hfz12_3, hfz12_4, hfz12_5, hfz12_6⟩ := bs7_ BK259) | ((with_reducible refine gate_builtin (b := .append) (xs := #[.tmp 20, .tmp 22]) rfl ?_); at_builtin; refine Kd.R_append (Kd.int .i64) (w0 := w) w.heap.size rfl (.tmp 20) (.tmp 22) 46 3 (.int .i64 0) 8 rfl Try.underlying46 info3 rfl (by decide) (by omega) u5 x5_1 x11_1 [.int .i64 x11_1] (fun _ => True) (fun _ => False) rfl (by first | (go_simp; done) | (go_simp; rfl)) ?aP (fun _ hk => hk.elim) ?aF ?aO ?aB ?aS ?aL ?_; (case aP => exact rfl); (case aB => exact (by repeat (first | (with_reducible first | exact HB.out | apply below_alloc | apply pw_below_drewN | apply below_drew1 | refine below_set ?_ GE257.out | refine below_set ?_ GE259.out) | exact HB.out))); (case aF => exact (fun _ _ => trivial)); (case aO => exact (by (with_reducible repeat (first | apply Kd.R_alloc | apply Kd.R_drewN | apply Kd.R_drew)); exact Kd.R_mono (Kd.R_far (p := ⟨gb259, 6, none⟩) (Kd.R_far (p := ⟨gb259, 5, none⟩) (Kd.R_far (p := ⟨gb259, 4, none⟩) (Kd.R_far (p := ⟨gb259, 3, none⟩) (Kd.R_far (p := ⟨gb259, 2, none⟩) (Kd.R_far (p := ⟨gb259, 1, none⟩) (Kd.R_far (p := ⟨gb259, 0, none⟩) (Kd.R_types HO_5.out BK259.out (by decide)) (fun _ hk => hk.2) (.string ((rd_T32 l0_1 x11_1).f0))) (fun _ hk => hk.2) (.int .i64 ((rd_T32 l0_1 x11_1).f1))) (fun _ hk => hk.2) (.string ((rd_T32 l0_1 x11_1).f2))) (fun _ hk => hk.2) (.bool ((rd_T32 l0_1 x11_1).f3))) (fun _ hk => hk.2) (.int .i64 ((rd_T32 l0_1 x11_1).f4))) (fun _ hk => hk.2) (.slice A258_5 ((rd_T32 l0_1 x11_1).f5).length c258_5)) (fun _ hk => hk.2) (.slice A258_6 ((rd_T32 l0_1 x11_1).f6).length c258_6)) (fun _ hk => trivial))); (case aS => exact (below_size (by repeat (first | (with_reducible first | exact HB.out | apply below_alloc | apply pw_below_drewN | apply below_drew1 | refine below_set ?_ GE257.out | refine below_set ?_ GE259.out) | exact HB.out)))); (case aL => have := LMc9.out; omega); intro v261 w13 ho hb hg hat; rw [← Ny260.out] at ho; have n0_ := Aside0.mk (blk_grown (g := gb257) (o := .cells #[.slice A0_0 l0_0.length c0_0, .slice (some ad258) l0_1.length c0_1] 36 (0, 0)) (by (with_reducible repeat (first | refine blk_drewN ?_ _ | refine blk_drew ?_ | refine blk_alloc ?_ _)); refine blk_far ?_ NB257_259.out _; (with_reducible repeat (first | refine blk_drewN ?_ _ | refine blk_drew ?_ | refine blk_alloc ?_ _)); refine blk_far ?_ NB257_259.out _; (with_reducible repeat (first | refine blk_drewN ?_ _ | refine blk_drew ?_ | refine blk_alloc ?_ _)); refine blk_far ?_ NB257_259.out _; (with_reducible repeat (first | refine blk_drewN ?_ _ | refine blk_drew ?_ | refine blk_alloc ?_ _)); refine blk_far ?_ NB257_259.out _; (with_reducible repeat (first | refine blk_drewN ?_ _ | refine blk_drew ?_ | refine blk_alloc ?_ _)); refine blk_far ?_ NB257_259.out _; (with_reducible repeat (first | refine blk_drewN ?_ _ | refine blk_drew ?_ | refine blk_alloc ?_ _)); refine blk_far ?_ NB257_259.out _; (with_reducible repeat (first | refine blk_drewN ?_ _ | refine blk_drew ?_ | refine blk_alloc ?_ _)); refine blk_far ?_ NB257_259.out _; (with_reducible repeat (first | refine blk_drewN ?_ _ | refine blk_drew ?_ | refine blk_alloc ?_ _)); exact BK257.out) hg (Kd.R_ne HO_5.out BK257.out (by decide))); have n1_ := Aside0.mk (blk_grown (g := gb259) (o := .cells #[.string ((rd_T32 l0_1 x11_1).f0), .int .i64 ((rd_T32 l0_1 x11_1).f1), .string ((rd_T32 l0_1 x11_1).f2), .bool ((rd_T32 l0_1 x11_1).f3), .int .i64 ((rd_T32 l0_1 x11_1).f4), .slice A258_5 ((rd_T32 l0_1 x11_1).f5).length c258_5, .slice A258_6 ((rd_T32 l0_1 x11_1).f6).length c258_6] 32 (0, 0)) (by (with_reducible repeat (first | refine blk_drewN ?_ _ | refine blk_drew ?_ | refine blk_alloc ?_ _)); refine blk_put (cs := #[.string ((rd_T32 l0_1 x11_1).f0), .int .i64 ((rd_T32 l0_1 x11_1).f1), .string ((rd_T32 l0_1 x11_1).f2), .bool ((rd_T32 l0_1 x11_1).f3), .int .i64 ((rd_T32 l0_1 x11_1).f4), .slice A258_5 ((rd_T32 l0_1 x11_1).f5).length c258_5, .slice none 0 0]) ?_ 6 _ rfl; (with_reducible repeat (first | refine blk_drewN ?_ _ | refine blk_drew ?_ | refine blk_alloc ?_ _)); refine blk_put (cs := #[.string ((rd_T32 l0_1 x11_1).f0), .int .i64 ((rd_T32 l0_1 x11_1).f1), .string ((rd_T32 l0_1 x11_1).f2), .bool ((rd_T32 l0_1 x11_1).f3), .int .i64 ((rd_T32 l0_1 x11_1).f4), .slice none 0 0, .slice none 0 0]) ?_ 5 _ rfl; (with_reducible repeat (first | refine blk_drewN ?_ _ | refine blk_drew ?_ | refine blk_alloc ?_ _)); refine blk_put (cs := #[.string ((rd_T32 l0_1 x11_1).f0), .int .i64 ((rd_T32 l0_1 x11_1).f1), .string ((rd_T32 l0_1 x11_1).f2), .bool ((rd_T32 l0_1 x11_1).f3), .int .i64 0, .slice none 0 0, .slice none 0 0]) ?_ 4 _ rfl; (with_reducible repeat (first | refine blk_drewN ?_ _ | refine blk_drew ?_ | refine blk_alloc ?_ _)); refine blk_put (cs := #[.string ((rd_T32 l0_1 x11_1).f0), .int .i64 ((rd_T32 l0_1 x11_1).f1), .string ((rd_T32 l0_1 x11_1).f2), .bool false, .int .i64 0, .slice none 0 0, .slice none 0 0]) ?_ 3 _ rfl; (with_reducible repeat (first | refine blk_drewN ?_ _ | refine blk_drew ?_ | refine blk_alloc ?_ _)); refine blk_put (cs := #[.string ((rd_T32 l0_1 x11_1).f0), .int .i64 ((rd_T32 l0_1 x11_1).f1), .string (⟨#[]⟩ : ByteArray), .bool false, .int .i64 0, .slice none 0 0, .slice none 0 0]) ?_ 2 _ rfl; (with_reducible repeat (first | refine blk_drewN ?_ _ | refine blk_drew ?_ | refine blk_alloc ?_ _)); refine blk_put (cs := #[.string ((rd_T32 l0_1 x11_1).f0), .int .i64 0, .string (⟨#[]⟩ : ByteArray), .bool false, .int .i64 0, .slice none 0 0, .slice none 0 0]) ?_ 1 _ rfl; (with_reducible repeat (first | refine blk_drewN ?_ _ | refine blk_drew ?_ | refine blk_alloc ?_ _)); refine blk_put (cs := #[.string (⟨#[]⟩ : ByteArray), .int .i64 0, .string (⟨#[]⟩ : ByteArray), .bool false, .int .i64 0, .slice none 0 0, .slice none 0 0]) ?_ 0 _ rfl; (with_reducible repeat (first | refine blk_drewN ?_ _ | refine blk_drew ?_ | refine blk_alloc ?_ _)); exact BK259.out) hg (Kd.R_ne HO_5.out BK259.out (by decide))); have n2_ := Aside0.mk (hb); have n3_ := Aside0.mk (ho); clear BK257; clear BK259; clear HB; clear HO_5; have BK257 := n0_; have BK259 := n1_; have HB := n2_; have HO262 := n3_; clear n0_ n1_ n2_ n3_; clear ho hb hg hat))
        go_roundg k1
        case measure => have := HK1.out; omega
        case rel => exact ⟨(y260), (wrap64 (x11_1 + 1)), (by first | rfl | (simp; done) | (simp [*]; done)), H', ⟨by have := HK1.out; omega⟩, ⟨by (with_reducible repeat (first | apply Kd.R_alloc | apply Kd.R_drewN | apply Kd.R_drew)); exact HO262.out⟩, ⟨gx_ BK257⟩, ⟨hf_⟩⟩
       ·rw [if_neg c9] at H
        exact absurd H (by simp)
      ·rw [if_neg c8] at H
       have c8b0 : (((rd_T32 l0_1 x11_1).f2).toList == a1.toList) = false := beq_eq_false_iff_ne.mpr c8
       have c8b1 : (((rd_T32 l0_1 x11_1).f2).toList != a1.toList) = true := bne_iff_ne.mpr c8
       have H' := Aside0.mk H
       clear H
       have p258 : 0 ≤ (x11_1 : Int) := od_
       have q258 : x11_1 < (l0_1.length : Int) := od_
       obtain ⟨ad258, A258_5, c258_5, A258_6, c258_6, e258, hx258_0, hx258_1, hx258_2, hx258_3, hx258_4, hx258_5, hx258_6, hl258_5, hi258_5, hl258_6, hi258_6⟩ := at_T32 HR0_1.out x11_1 p258 q258
       cases e258
       replace hx258_0 := rr_ HB hx258_0
       replace hx258_1 := rr_ HB hx258_1
       replace hx258_2 := rr_ HB hx258_2
       replace hx258_3 := rr_ HB hx258_3
       replace hx258_4 := rr_ HB hx258_4
       replace hx258_5 := rr_ HB hx258_5
       replace hx258_6 := rr_ HB hx258_6
       have HR258_5 := Aside0.mk hi258_5
       have HC258_5 := Aside0.mk hl258_5
       clear hi258_5 hl258_5
       have HR258_6 := Aside0.mk hi258_6
       have HC258_6 := Aside0.mk hl258_6
       clear hi258_6 hl258_6
       replace p258 := eq_true p258
       replace q258 := eq_true q258
       go_wp2_with (first | ((with_reducible refine gate_dst (N := 7) rfl ?_); refine box_event ?hg (N := 7) ?hd (cs := #[.string (⟨#[]⟩ : ByteArray), .int .i64 0, .string (⟨#[]⟩ : ByteArray), .bool false, .int .i64 0, .slice none 0 0, .slice none 0 0]) (t := 32) ?hr ?_; (case hd => rfl); (case hg => rfl); (case hr => first | (go_simp; done) | (go_simp; rfl)); intro gb259 hg w14 hbox hb; have n0_ := Aside0.mk (Kd.R_below (by (with_reducible repeat (first | apply Kd.R_alloc | apply Kd.R_drewN | apply Kd.R_drew)); exact HO_5.out) hb); have n1_ := bb_ BK257 hb; have n2_ := hb_ HB hb; have n3_ := Aside0.mk (hbox); have n4_ := Aside0.mk ((by rw [hg]; exact (below_size (by repeat (first | (with_reducible first | exact HB.out | apply below_alloc | apply pw_below_drewN | apply below_drew1 | refine below_set ?_ GE257.out) | exact HB.out))) : w.heap.size ≤ gb259)); have n5_ := Aside0.mk ((by rw [hg]; exact (below_size (by repeat (first | (with_reducible first | exact HB.out | apply below_alloc | apply pw_below_drewN | apply below_drew1 | refine below_set ?_ GE257.out) | exact HB.out))) : w.heap.size ≤ gb259)); have n6_ := Aside0.mk ((by rw [hg]; exact Nat.ne_of_lt (blk_lt (g := gb257) (o := .cells #[.slice A0_0 l0_0.length c0_0, .slice (some ad258) l0_1.length c0_1] 36 (0, 0)) (by (with_reducible repeat (first | refine blk_drewN ?_ _ | refine blk_drew ?_ | refine blk_alloc ?_ _)); exact BK257.out)) : gb257 ≠ gb259)); have n7_ := Aside0.mk ((by rw [hg]; exact Nat.ne_of_gt (blk_lt (g := gb257) (o := .cells #[.slice A0_0 l0_0.length c0_0, .slice (some ad258) l0_1.length c0_1] 36 (0, 0)) (by (with_reducible repeat (first | refine blk_drewN ?_ _ | refine blk_drew ?_ | refine blk_alloc ?_ _)); exact BK257.out)) : gb259 ≠ gb257)); clear HO_5; clear BK257; clear HB; have HO_5 := n0_; have BK257 := n1_; have HB := n2_; have BK259 := n3_; have GW259 := n4_; have GE259 := n5_; have NB257_259 := n6_; have NB259_257 := n7_; clear n0_ n1_ n2_ n3_ n4_ n5_ n6_ n7_; clear hb hbox hg; have hnb15 := NB259_257.out; have hnc15 := NB257_259.out; obtain ⟨hcz16_0, hcz16_1, hcz16_2, hcz16_3, hcz16_4, hcz16_5, hcz16_6, hfz16_0, hfz16_1, hfz16_2, hfz16_3, hfz16_4, hfz16_5, hfz16_6⟩ := bs7_ BK259))
       go_roundg k1
       case measure => have := HK1.out; omega
       case rel => exact ⟨(x5_1), (wrap64 (x11_1 + 1)), (by first | rfl | (simp; done) | (simp [*]; done)), H', ⟨by have := HK1.out; omega⟩, ⟨by (with_reducible repeat (first | apply Kd.R_alloc | apply Kd.R_drewN | apply Kd.R_drew)); exact Kd.R_mono (Kd.R_far (p := ⟨gb259, 6, none⟩) (Kd.R_far (p := ⟨gb259, 5, none⟩) (Kd.R_far (p := ⟨gb259, 4, none⟩) (Kd.R_far (p := ⟨gb259, 3, none⟩) (Kd.R_far (p := ⟨gb259, 2, none⟩) (Kd.R_far (p := ⟨gb259, 1, none⟩) (Kd.R_far (p := ⟨gb259, 0, none⟩) (Kd.R_types HO_5.out BK259.out (by decide)) (fun _ hk => hk.2) (.string ((rd_T32 l0_1 x11_1).f0))) (fun _ hk => hk.2) (.int .i64 ((rd_T32 l0_1 x11_1).f1))) (fun _ hk => hk.2) (.string ((rd_T32 l0_1 x11_1).f2))) (fun _ hk => hk.2) (.bool ((rd_T32 l0_1 x11_1).f3))) (fun _ hk => hk.2) (.int .i64 ((rd_T32 l0_1 x11_1).f4))) (fun _ hk => hk.2) (.slice A258_5 ((rd_T32 l0_1 x11_1).f5).length c258_5)) (fun _ hk => hk.2) (.slice A258_6 ((rd_T32 l0_1 x11_1).f6).length c258_6)) (fun _ hk => trivial)⟩, ⟨by (with_reducible repeat (first | refine blk_drewN ?_ _ | refine blk_drew ?_ | refine blk_alloc ?_ _)); refine blk_far ?_ NB257_259.out _; (with_reducible repeat (first | refine blk_drewN ?_ _ | refine blk_drew ?_ | refine blk_alloc ?_ _)); refine blk_far ?_ NB257_259.out _; (with_reducible repeat (first | refine blk_drewN ?_ _ | refine blk_drew ?_ | refine blk_alloc ?_ _)); refine blk_far ?_ NB257_259.out _; (with_reducible repeat (first | refine blk_drewN ?_ _ | refine blk_drew ?_ | refine blk_alloc ?_ _)); refine blk_far ?_ NB257_259.out _; (with_reducible repeat (first | refine blk_drewN ?_ _ | refine blk_drew ?_ | refine blk_alloc ?_ _)); refine blk_far ?_ NB257_259.out _; (with_reducible repeat (first | refine blk_drewN ?_ _ | refine blk_drew ?_ | refine blk_alloc ?_ _)); refine blk_far ?_ NB257_259.out _; (with_reducible repeat (first | refine blk_drewN ?_ _ | refine blk_drew ?_ | refine blk_alloc ?_ _)); refine blk_far ?_ NB257_259.out _; (with_reducible repeat (first | refine blk_drewN ?_ _ | refine blk_drew ?_ | refine blk_alloc ?_ _)); exact BK257.out⟩, ⟨hf_⟩⟩
     ·rw [if_neg c7] at H
      exact absurd H (by simp)
    ·rw [if_neg c6] at H
     exact absurd H (by simp)
   ·rw [if_neg c5] at H
    have c5b0 : decide (x11_1 < (l0_1.length : Int)) = false := decide_eq_false c5
    clear c5
    obtain rfl := Option.some.inj H
    go_wp2
    go_ret
    exact ⟨_, by first | rfl | (simp [errW_none, errW_some] <;> rfl) | (simp [*, errW_none, errW_some] <;> rfl), by (with_reducible repeat (first | apply Kd.R_alloc | apply Kd.R_drewN | apply Kd.R_drew)); exact HO_5.out, by repeat (first | (with_reducible first | exact HB.out | apply below_alloc | apply pw_below_drewN | apply below_drew1 | refine below_set ?_ GE257.out) | exact HB.out)⟩
end Go.Proofs.Ytchellnfenekaaa.Pm
end
section
namespace Go.Proofs.Ytchellnfenekaaa.Pm
open Go.RowKit Go.Proofs.YtchellnfenekaaaW.PrintWords Go.Proofs.YtchellnfenekaaaW.PrintLast Go.Proofs.YtchellnfenekaaaW.PrintMore
attribute [local go_sem] max2_int min2_int max_two min_two max_three min_three max_four min_four   -- for this text's walks alone
set_option linter.unusedVariables false
set_option linter.unusedSimpArgs false
def sentryref4_Kids.l0 : Nat → ByteArray → List Int → Int → List ByteArray → List (S32) → Option (List Int)
 | 0, _, _, _, _, _ => none
 | k + 1, x1, x5, x6, x264000, x264001 => if x6 < (x264001.length : Int) then (if 0 ≤ x6 then (if ((rd_T32 x264001 x6).f2).toList = x1.toList then (if x5.length < 17592186044416 then (sentryref4_Kids.l0 k x1 (x5 ++ [x6]) (wrap64 (x6 + 1)) x264000 x264001) else (none)) else (sentryref4_Kids.l0 k x1 x5 (wrap64 (x6 + 1)) x264000 x264001)) else (none)) else (some x5)
def sentryref4_Kids.f (k : Nat) (l0_0 : List ByteArray) (l0_1 : List (S32)) (a1 : ByteArray) : Option (List Int) := sentryref4_Kids.l0 k a1 ([] : List Int) 0 l0_0 l0_1
theorem sentryref4_Kids.mono_l : ∀ k, (∀ y0 y1 y2 y3 y4, LeO (sentryref4_Kids.l0 k y0 y1 y2 y3 y4) (sentryref4_Kids.l0 (k + 1) y0 y1 y2 y3 y4))
 | 0 => fun _ _ _ _ _ r h => by simp [sentryref4_Kids.l0] at h
 | k + 1 => by
  have ih0 := sentryref4_Kids.mono_l k
  ·intro y0 y1 y2 y3 y4
   unfold sentryref4_Kids.l0
   repeat' first
   | (with_reducible exact ih0 _ _ _ _ _)
   | (with_reducible exact LeO.refl _)
   | (with_reducible exact LeO.none _)
   | (with_reducible refine LeO.ite ?_ ?_)
   | (with_reducible refine LeO.bind ?_ (fun _ => ?_))
   | exact ih0 _ _ _ _ _
   | exact LeO.none _
   | refine LeO.ite ?_ ?_
   | refine LeO.bind ?_ (fun _ => ?_)
theorem sentryref4_Kids.mono : ∀ a0 a1 a2 k, LeO (sentryref4_Kids.f k a0 a1 a2) (sentryref4_Kids.f (k + 1) a0 a1 a2) := by
 intro a0 a1 a2 k
 have ih0 := sentryref4_Kids.mono_l k
 unfold sentryref4_Kids.f
 repeat' first
   | (with_reducible exact ih0 _ _ _ _ _)
   | (with_reducible exact LeO.refl _)
   | (with_reducible exact LeO.none _)
   | (with_reducible refine LeO.ite ?_ ?_)
   | (with_reducible refine LeO.bind ?_ (fun _ => ?_))
   | exact ih0 _ _ _ _ _
   | exact LeO.none _
   | refine LeO.ite ?_ ?_
   | refine LeO.bind ?_ (fun _ => ?_)
set_option maxHeartbeats 8000000 in
set_option maxRecDepth 100000 in
theorem sentryref4_Kids.calls (k : Nat) (A0_0 : Option Addr) (c0_0 : Nat) (l0_0 : List ByteArray) (A0_1 : Option Addr) (c0_1 : Nat) (l0_1 : List (S32)) (a1 : ByteArray) (r : List Int) (w : World) (hr0_0 : Kd.C Kd.string w A0_0 l0_0.length l0_0) (hc0_0 : l0_0.length ≤ c0_0) (hr0_1 : Kd.C k32 w A0_1 l0_1.length l0_1) (hc0_1 : l0_1.length ≤ c0_1) (h : sentryref4_Kids.f k l0_0 l0_1 a1 = some r) :
  Calls Try.prog 23 #[.agg #[.slice A0_0 l0_0.length c0_0, .slice A0_1 l0_1.length c0_1], .string a1] w fun e w' => ∃ v0_ : Value, e = .returned (v0_) ∧ Kd.R (Kd.int .i64) 3 w' w.heap.size (fun _ => True) v0_ r ∧ Below w.heap.size w w' := by
 have hu36 := Try.underlying36
 have HR0_0 := Aside0.mk hr0_0
 have HC0_0 := Aside0.mk hc0_0
 clear hr0_0 hc0_0
 have HR0_1 := Aside0.mk hr0_1
 have HC0_1 := Aside0.mk hc0_1
 clear hr0_1 hc0_1
 have HB := Aside0.mk (Below.refl w.heap.size w)
 have H : (sentryref4_Kids.l0 k a1 ([] : List Int) 0 l0_0 l0_1) = some r := h
 clear h
 have H' := Aside0.mk H
 clear H
 go_enter Try.func23, Try.ntmps23
 go_wp2_with (first | ((with_reducible refine gate_dst (N := 2) rfl ?_); refine box_event ?hg (N := 2) ?hd (cs := #[.slice A0_0 l0_0.length c0_0, .slice A0_1 l0_1.length c0_1]) (t := 36) ?hr ?_; (case hd => rfl); (case hg => rfl); (case hr => first | (go_simp; done) | (go_simp; rfl)); intro gb263 hg w3 hbox hb; have n0_ := hb_ HB hb; have n1_ := Aside0.mk (hbox); have n2_ := Aside0.mk ((by rw [hg]; exact (below_size (by repeat (first | (with_reducible first | exact HB.out | apply below_alloc | apply pw_below_drewN | apply below_drew1) | exact HB.out))) : w.heap.size ≤ gb263)); have n3_ := Aside0.mk ((by rw [hg]; exact (below_size (by repeat (first | (with_reducible first | exact HB.out | apply below_alloc | apply pw_below_drewN | apply below_drew1) | exact HB.out))) : w.heap.size ≤ gb263)); clear HB; have HB := n0_; have BK263 := n1_; have GW263 := n2_; have GE263 := n3_; clear n0_ n1_ n2_ n3_; clear hb hbox hg))
 go_loopg [5, 6] k (fun kq v5 v6 w' => ∃ (x5_1 : List Int) (x6_1 : Int), v6 = .int .i64 x6_1 ∧ Aside0 (sentryref4_Kids.l0 kq a1 x5_1 x6_1 l0_0 l0_1 = some r) ∧ Aside0 (kq ≤ k) ∧ Aside0 (Kd.R (Kd.int .i64) 3 w' w.heap.size (fun _ => True) v5 x5_1) ∧ Aside0 (w'.heap[gb263]? = some (.cells #[(.slice A0_0 l0_0.length c0_0), (.slice A0_1 l0_1.length c0_1)] 36 (0, 0))) ∧ Aside0 (Below w.heap.size w w'))
 case atStart => exact ⟨(([] : List Int)), (0), (by first | rfl | (simp; done) | (simp [*]; done)), H', ⟨Nat.le_refl _⟩, ⟨by first | exact Kd.R_nil _ _ _ _ _ | exact Kd.N_nil _ _ _ _ _ | exact Kd.V_nil _ _ _ _ _ | exact Kd.Q_nil _ _ _ _ _ | exact Kd.S_nil _ _ _ _ _⟩, ⟨gx_ BK263⟩, ⟨hf_⟩⟩
 case round =>
  clear H'
  (try clear c2); (try clear p2)
  obtain ⟨x5_1, x6_1, rfl, HA, HK1, HO_5, BK263, HB⟩ := hrel
  cases gk with
  | zero => exact absurd HA.out (by simp [sentryref4_Kids.l0])
  | succ k1 =>
   have H := HA.out
   clear HA
   simp only [sentryref4_Kids.l0] at H
   by_cases c4 : x6_1 < (l0_1.length : Int)
   ·rw [if_pos c4] at H
    have c4b0 : decide (x6_1 < (l0_1.length : Int)) = true := decide_eq_true c4
    clear c4
    by_cases c5 : 0 ≤ x6_1
    ·rw [if_pos c5] at H
     have c5b0 : decide (0 ≤ x6_1) = true := decide_eq_true c5
     clear c5
     by_cases c6 : ((rd_T32 l0_1 x6_1).f2).toList = a1.toList
     ·rw [if_pos c6] at H
      have c6b0 : (((rd_T32 l0_1 x6_1).f2).toList == a1.toList) = true := beq_iff_eq.mpr c6
      have c6b1 : (((rd_T32 l0_1 x6_1).f2).toList != a1.toList) = false := bne_eq_false_iff_eq.mpr c6
      clear c6
      by_cases c7 : x5_1.length < 17592186044416
      ·rw [if_pos c7] at H
       have LMc7 := Aside0.mk c7
       clear c7
       obtain ⟨y265, hy265⟩ : ∃ y_ : List Int, y_ = (x5_1 ++ [x6_1]) := ⟨_, rfl⟩
       replace H : (sentryref4_Kids.l0 k1 a1 y265 (wrap64 (x6_1 + 1)) l0_0 l0_1) = some r := by first | (rw [hy265]; with_reducible exact H) | (have H2_ := (Option.bind_some _ _).symm.trans H; rw [hy265]; with_reducible exact H2_) | (have H2_ := (Option.bind_some _ _).symm.trans H; with_reducible exact H2_) | with_reducible exact H | (rw [hy265]; exact H) | exact H
       have Ny265 := Aside0.mk hy265
       clear hy265
       have H' := Aside0.mk H
       clear H
       obtain ⟨hcz8_0, hcz8_1, hfz8_0, hfz8_1⟩ := bs2_ BK263
       have p264 : 0 ≤ (x6_1 : Int) := od_
       have q264 : x6_1 < (l0_1.length : Int) := od_
       obtain ⟨ad264, A264_5, c264_5, A264_6, c264_6, e264, hx264_0, hx264_1, hx264_2, hx264_3, hx264_4, hx264_5, hx264_6, hl264_5, hi264_5, hl264_6, hi264_6⟩ := at_T32 HR0_1.out x6_1 p264 q264
       cases e264
       replace hx264_0 := rr_ HB hx264_0
       replace hx264_1 := rr_ HB hx264_1
       replace hx264_2 := rr_ HB hx264_2
       replace hx264_3 := rr_ HB hx264_3
       replace hx264_4 := rr_ HB hx264_4
       replace hx264_5 := rr_ HB hx264_5
       replace hx264_6 := rr_ HB hx264_6
       have HR264_5 := Aside0.mk hi264_5
       have HC264_5 := Aside0.mk hl264_5
       clear hi264_5 hl264_5
       have HR264_6 := Aside0.mk hi264_6
       have HC264_6 := Aside0.mk hl264_6
       clear hi264_6 hl264_6
       replace p264 := eq_true p264
       replace q264 := eq_true q264
       go_wp2_with (first | ((with_reducible refine gate_builtin (b := .append) (xs := #[.tmp 22, .tmp 24]) rfl ?_); at_builtin; refine Kd.R_append (Kd.int .i64) (w0 := w) w.heap.size rfl (.tmp 22) (.tmp 24) 46 3 (.int .i64 0) 8 rfl Try.underlying46 info3 rfl (by decide) (by omega) u5 x5_1 x6_1 [.int .i64 x6_1] (fun _ => True) (fun _ => False) rfl rfl ?aP (fun _ hk => hk.elim) ?aF ?aO ?aB ?aS ?aL ?_; (case aP => exact rfl); (case aB => exact (by repeat (first | (with_reducible first | exact HB.out | apply below_alloc | apply pw_below_drewN | apply below_drew1 | refine below_set ?_ GE263.out) | exact HB.out))); (case aF => exact (fun _ _ => trivial)); (case aO => exact (by (with_reducible repeat (first | apply Kd.R_alloc | apply Kd.R_drewN | apply Kd.R_drew)); exact HO_5.out)); (case aS => exact (below_size (by repeat (first | (with_reducible first | exact HB.out | apply below_alloc | apply pw_below_drewN | apply below_drew1 | refine below_set ?_ GE263.out) | exact HB.out)))); (case aL => have := LMc7.out; omega); intro v266 w9 ho hb hg hat; rw [← Ny265.out] at ho; have n0_ := Aside0.mk (blk_grown (g := gb263) (o := .cells #[.slice A0_0 l0_0.length c0_0, .slice (some ad264) l0_1.length c0_1] 36 (0, 0)) (by (with_reducible repeat (first | refine blk_drewN ?_ _ | refine blk_drew ?_ | refine blk_alloc ?_ _)); exact BK263.out) hg (Kd.R_ne HO_5.out BK263.out (by decide))); have n1_ := Aside0.mk (hb); have n2_ := Aside0.mk (ho); clear BK263; clear HB; clear HO_5; have BK263 := n0_; have HB := n1_; have HO267 := n2_; clear n0_ n1_ n2_; clear ho hb hg hat))
       go_roundg k1
       case measure => have := HK1.out; omega
       case rel => exact ⟨(y265), (wrap64 (x6_1 + 1)), (by first | rfl | (simp; done) | (simp [*]; done)), H', ⟨by have := HK1.out; omega⟩, ⟨by (with_reducible repeat (first | apply Kd.R_alloc | apply Kd.R_drewN | apply Kd.R_drew)); exact HO267.out⟩, ⟨gx_ BK263⟩, ⟨hf_⟩⟩
      ·rw [if_neg c7] at H
       exact absurd H (by simp)
     ·rw [if_neg c6] at H
      have c6b0 : (((rd_T32 l0_1 x6_1).f2).toList == a1.toList) = false := beq_eq_false_iff_ne.mpr c6
      have c6b1 : (((rd_T32 l0_1 x6_1).f2).toList != a1.toList) = true := bne_iff_ne.mpr c6
      have H' := Aside0.mk H
      clear H
      obtain ⟨hcz10_0, hcz10_1, hfz10_0, hfz10_1⟩ := bs2_ BK263
      have p264 : 0 ≤ (x6_1 : Int) := od_
      have q264 : x6_1 < (l0_1.length : Int) := od_
      obtain ⟨ad264, A264_5, c264_5, A264_6, c264_6, e264, hx264_0, hx264_1, hx264_2, hx264_3, hx264_4, hx264_5, hx264_6, hl264_5, hi264_5, hl264_6, hi264_6⟩ := at_T32 HR0_1.out x6_1 p264 q264
      cases e264
      replace hx264_0 := rr_ HB hx264_0
      replace hx264_1 := rr_ HB hx264_1
      replace hx264_2 := rr_ HB hx264_2
      replace hx264_3 := rr_ HB hx264_3
      replace hx264_4 := rr_ HB hx264_4
      replace hx264_5 := rr_ HB hx264_5
      replace hx264_6 := rr_ HB hx264_6
      have HR264_5 := Aside0.mk hi264_5
      have HC264_5 := Aside0.mk hl264_5
      clear hi264_5 hl264_5
      have HR264_6 := Aside0.mk hi264_6
      have HC264_6 := Aside0.mk hl264_6
      clear hi264_6 hl264_6
      replace p264 := eq_true p264
      replace q264 := eq_true q264
      go_wp2
      go_roundg k1
      case measure => have := HK1.out; omega
      case rel => exact ⟨(x5_1), (wrap64 (x6_1 + 1)), (by first | rfl | (simp; done) | (simp [*]; done)), H', ⟨by have := HK1.out; omega⟩, ⟨by (with_reducible repeat (first | apply Kd.R_alloc | apply Kd.R_drewN | apply Kd.R_drew)); exact HO_5.out⟩, ⟨gx_ BK263⟩, ⟨hf_⟩⟩
    ·rw [if_neg c5] at H
     exact absurd H (by simp)
   ·rw [if_neg c4] at H
    have c4b0 : decide (x6_1 < (l0_1.length : Int)) = false := decide_eq_false c4
    clear c4
    obtain rfl := Option.some.inj H
    obtain ⟨hcz11_0, hcz11_1, hfz11_0, hfz11_1⟩ := bs2_ BK263
    go_wp2
    go_ret
    exact ⟨_, by first | rfl | (simp [errW_none, errW_some] <;> rfl) | (simp [*, errW_none, errW_some] <;> rfl), by (with_reducible repeat (first | apply Kd.R_alloc | apply Kd.R_drewN | apply Kd.R_drew)); exact HO_5.out, by repeat (first | (with_reducible first | exact HB.out | apply below_alloc | apply pw_below_drewN | apply below_drew1 | refine below_set ?_ GE263.out) | exact HB.out)⟩
end Go.Proofs.Ytchellnfenekaaa.Pm
end
section
namespace Go.Proofs.Ytchellnfenekaaa.Pm
open Go.RowKit Go.Proofs.YtchellnfenekaaaW.PrintWords Go.Proofs.YtchellnfenekaaaW.PrintLast Go.Proofs.YtchellnfenekaaaW.PrintMore
attribute [local go_sem] max2_int min2_int max_two min_two max_three min_three max_four min_four   -- for this text's walks alone
set_option linter.unusedVariables false
set_option linter.unusedSimpArgs false
def sentryref4_SameInts.l0 : Nat → List Int → List Int → Int → Option (Bool)
 | 0, _, _, _ => none
 | k + 1, x0, x1, x5 => if x5 < (x0.length : Int) then (if 0 ≤ x5 then (if x5 < (x1.length : Int) then (if (rd x0 x5) = (rd x1 x5) then (sentryref4_SameInts.l0 k x0 x1 (wrap64 (x5 + 1))) else (some false)) else (none)) else (none)) else (some true)
def sentryref4_SameInts.f (k : Nat) (l0 : List Int) (l1 : List Int) : Option (Bool) := if (l0.length : Int) = (l1.length : Int) then (sentryref4_SameInts.l0 k l0 l1 0) else (some false)
theorem sentryref4_SameInts.mono_l : ∀ k, (∀ y0 y1 y2, LeO (sentryref4_SameInts.l0 k y0 y1 y2) (sentryref4_SameInts.l0 (k + 1) y0 y1 y2))
 | 0 => fun _ _ _ r h => by simp [sentryref4_SameInts.l0] at h
 | k + 1 => by
  have ih0 := sentryref4_SameInts.mono_l k
  ·intro y0 y1 y2
   unfold sentryref4_SameInts.l0
   repeat' first
   | (with_reducible exact ih0 _ _ _)
   | (with_reducible exact LeO.refl _)
   | (with_reducible exact LeO.none _)
   | (with_reducible refine LeO.ite ?_ ?_)
   | (with_reducible refine LeO.bind ?_ (fun _ => ?_))
   | exact ih0 _ _ _
   | exact LeO.none _
   | refine LeO.ite ?_ ?_
   | refine LeO.bind ?_ (fun _ => ?_)
theorem sentryref4_SameInts.mono : ∀ a0 a1 k, LeO (sentryref4_SameInts.f k a0 a1) (sentryref4_SameInts.f (k + 1) a0 a1) := by
 intro a0 a1 k
 have ih0 := sentryref4_SameInts.mono_l k
 unfold sentryref4_SameInts.f
 repeat' first
   | (with_reducible exact ih0 _ _ _)
   | (with_reducible exact LeO.refl _)
   | (with_reducible exact LeO.none _)
   | (with_reducible refine LeO.ite ?_ ?_)
   | (with_reducible refine LeO.bind ?_ (fun _ => ?_))
   | exact ih0 _ _ _
   | exact LeO.none _
   | refine LeO.ite ?_ ?_
   | refine LeO.bind ?_ (fun _ => ?_)
set_option maxHeartbeats 8000000 in
set_option maxRecDepth 100000 in
theorem sentryref4_SameInts.calls (k : Nat) (A0 : Option Addr) (c0 : Nat) (l0 : List Int) (A1 : Option Addr) (c1 : Nat) (l1 : List Int) (r : Bool) (w : World) (hr0 : Kd.C (Kd.int .i64) w A0 l0.length l0) (hc0 : l0.length ≤ c0) (hr1 : Kd.C (Kd.int .i64) w A1 l1.length l1) (hc1 : l1.length ≤ c1) (h : sentryref4_SameInts.f k l0 l1 = some r) :
  Calls Try.prog 21 #[.slice A0 l0.length c0, .slice A1 l1.length c1] w fun e w' => e = .returned (.bool r) ∧ Drawn0 w w' := by
 have HR0 := Aside0.mk hr0
 have HC0 := Aside0.mk hc0
 clear hr0 hc0
 have HR1 := Aside0.mk hr1
 have HC1 := Aside0.mk hc1
 clear hr1 hc1
 have H : (if (l0.length : Int) = (l1.length : Int) then (sentryref4_SameInts.l0 k l0 l1 0) else (some false)) = some r := h
 clear h
 by_cases c3 : (l0.length : Int) = (l1.length : Int)
 ·rw [if_pos c3] at H
  have c3b0 : ((l0.length : Int) == (l1.length : Int)) = true := beq_iff_eq.mpr c3
  have c3b1 : ((l0.length : Int) != (l1.length : Int)) = false := bne_eq_false_iff_eq.mpr c3
  have c3b2 : (l0.length == l1.length) = true := by first | simpa using c3 | (simp at c3 ⊢; omega)
  clear c3
  have H' := Aside0.mk H
  clear H
  go_enter Try.func21, Try.ntmps21
  go_wp2
  repeat (go_quiet (fail); try go_wp2)
  go_loopg [5] k (fun kq v5 w' => ∃ (x5_1 : Int), v5 = .int .i64 x5_1 ∧ Aside0 (sentryref4_SameInts.l0 kq l0 l1 x5_1 = some r) ∧ Aside0 (kq ≤ k) ∧ Drawn0 w w')
  case atStart => exact ⟨(0), (by first | rfl | (simp; done) | (simp [*]; done)), H', ⟨Nat.le_refl _⟩, by repeat (first | exact Drawn0.refl _ | apply Drawn0.step)⟩
  case round =>
   clear H'
   (try clear c1); (try clear c2); (try clear p2); (try clear c3); (try clear c3b0); (try clear c3b1); (try clear c3b2)
   obtain ⟨x5_1, rfl, HA, HK1, ⟨m1, rfl⟩⟩ := hrel
   cases gk with
   | zero => exact absurd HA.out (by simp [sentryref4_SameInts.l0])
   | succ k1 =>
    have H := HA.out
    clear HA
    simp only [sentryref4_SameInts.l0] at H
    by_cases c4 : x5_1 < (l0.length : Int)
    ·rw [if_pos c4] at H
     have c4b0 : decide (x5_1 < (l0.length : Int)) = true := decide_eq_true c4
     clear c4
     by_cases c5 : 0 ≤ x5_1
     ·rw [if_pos c5] at H
      have c5b0 : decide (0 ≤ x5_1) = true := decide_eq_true c5
      clear c5
      by_cases c6 : x5_1 < (l1.length : Int)
      ·rw [if_pos c6] at H
       have c6b0 : decide (x5_1 < (l1.length : Int)) = true := decide_eq_true c6
       clear c6
       by_cases c7 : (rd l0 x5_1) = (rd l1 x5_1)
       ·rw [if_pos c7] at H
        have c7b0 : ((rd l0 x5_1) == (rd l1 x5_1)) = true := beq_iff_eq.mpr c7
        have c7b1 : ((rd l0 x5_1) != (rd l1 x5_1)) = false := bne_eq_false_iff_eq.mpr c7
        clear c7
        have H' := Aside0.mk H
        clear H
        have p255 : 0 ≤ (x5_1 : Int) := od_
        have q255 : x5_1 < (l0.length : Int) := od_
        obtain ⟨ad255, e255, hx255_0⟩ := Kd.at_int HR0.out x5_1 p255 q255
        cases e255
        replace p255 := eq_true p255
        replace q255 := eq_true q255
        have p256 : 0 ≤ (x5_1 : Int) := od_
        have q256 : x5_1 < (l1.length : Int) := od_
        obtain ⟨ad256, e256, hx256_0⟩ := Kd.at_int HR1.out x5_1 p256 q256
        cases e256
        replace p256 := eq_true p256
        replace q256 := eq_true q256
        go_wp2
        repeat (go_quiet (fail); try go_wp2)
        go_roundg k1
        case measure => have := HK1.out; omega
        case rel => exact ⟨(wrap64 (x5_1 + 1)), (by first | rfl | (simp; done) | (simp [*]; done)), H', ⟨by have := HK1.out; omega⟩, by repeat (first | exact Drawn0.refl _ | apply Drawn0.step)⟩
       ·rw [if_neg c7] at H
        have c7b0 : ((rd l0 x5_1) == (rd l1 x5_1)) = false := beq_eq_false_iff_ne.mpr c7
        have c7b1 : ((rd l0 x5_1) != (rd l1 x5_1)) = true := bne_iff_ne.mpr c7
        obtain rfl := Option.some.inj H
        have p255 : 0 ≤ (x5_1 : Int) := od_
        have q255 : x5_1 < (l0.length : Int) := od_
        obtain ⟨ad255, e255, hx255_0⟩ := Kd.at_int HR0.out x5_1 p255 q255
        cases e255
        replace p255 := eq_true p255
        replace q255 := eq_true q255
        have p256 : 0 ≤ (x5_1 : Int) := od_
        have q256 : x5_1 < (l1.length : Int) := od_
        obtain ⟨ad256, e256, hx256_0⟩ := Kd.at_int HR1.out x5_1 p256 q256
        cases e256
        replace p256 := eq_true p256
        replace q256 := eq_true q256
        go_wp2
        repeat (go_quiet (fail); try go_wp2)
        go_ret
        exact ⟨by first | rfl | (simp; done) | (simp [*]; done), by repeat (first | exact Drawn0.refl _ | apply Drawn0.step)⟩
      ·rw [if_neg c6] at H
       exact absurd H (by simp)
     ·rw [if_neg c5] at H
      exact absurd H (by simp)
    ·rw [if_neg c4] at H
     have c4b0 : decide (x5_1 < (l0.length : Int)) = false := decide_eq_false c4
     clear c4
     obtain rfl := Option.some.inj H
     go_wp2
     repeat (go_quiet (fail); try go_wp2)
     go_ret
     exact ⟨by first | rfl | (simp; done) | (simp [*]; done), by repeat (first | exact Drawn0.refl _ | apply Drawn0.step)⟩
 ·rw [if_neg c3] at H
  have c3b0 : ((l0.length : Int) == (l1.length : Int)) = false := beq_eq_false_iff_ne.mpr c3
  have c3b1 : ((l0.length : Int) != (l1.length : Int)) = true := bne_iff_ne.mpr c3
  have c3b2 : (l0.length == l1.length) = false := by first | simpa using c3 | (simp at c3 ⊢; omega)
  obtain rfl := Option.some.inj H
  go_enter Try.func21, Try.ntmps21
  go_wp2
  repeat (go_quiet (fail); try go_wp2)
  go_ret
  exact ⟨by first | rfl | (simp; done) | (simp [*]; done), by repeat (first | exact Drawn0.refl _ | apply Drawn0.step)⟩
end Go.Proofs.Ytchellnfenekaaa.Pm
end
section
namespace Go.Proofs.Ytchellnfenekaaa.Pm
open Go.RowKit Go.Proofs.YtchellnfenekaaaW.PrintWords Go.Proofs.YtchellnfenekaaaW.PrintLast Go.Proofs.YtchellnfenekaaaW.PrintMore
attribute [local go_sem] max2_int min2_int max_two min_two max_three min_three max_four min_four   -- for this text's walks alone
set_option linter.unusedVariables false
set_option linter.unusedSimpArgs false
end Go.Proofs.Ytchellnfenekaaa.Pm
end
section
namespace Go.Proofs.Ytchellnfenekaaa.Pm
open Go.RowKit Go.Proofs.YtchellnfenekaaaW.PrintWords Go.Proofs.YtchellnfenekaaaW.PrintLast Go.Proofs.YtchellnfenekaaaW.PrintMore
attribute [local go_sem] max2_int min2_int max_two min_two max_three min_three max_four min_four   -- for this text's walks alone
set_option linter.unusedVariables false
set_option linter.unusedSimpArgs false
abbrev Hd := Option Addr × Nat × Nat
def kHd : Kd Hd := Kd.scalar (fun p : Hd => .slice p.1 p.2.1 p.2.2) (fun _ => rfl)
def kSt : Kd (Hd × Hd) := Kd.pair kHd kHd
def RelS (w : World) (h : Hd × Hd) (s : S29) : Prop := h.1.2.1 = s.f0.length ∧ Kd.C k39 w h.1.1 s.f0.length s.f0
def zHd : Hd × Hd := ((none, 0, 0), (none, 0, 0))
/-- The headers of a row of sentries: as_ a row of pairs of slices. -/
theorem heads_of {w : World} {A : Option Addr} {n : Nat} {xs : List (S29)} (h : Kd.C k29 w A n xs) : ∃ hs : List (Hd × Hd), hs.length = xs.length ∧ Kd.C kSt w A n hs ∧ ∀ (i : Nat) (x : S29), xs[i]? = some x → RelS w (hs.getD i zHd) x := by
  have h0 := h
  obtain ⟨hl, hn, hc⟩ := h0
  rcases Nat.eq_zero_or_pos n with hz | hz
  · have hxs : xs = [] := List.length_eq_zero_iff.1 (by omega)
    subst hxs
    exact ⟨[], rfl, ⟨by rw [hz]; rfl, hn, fun h => by omega⟩, fun i x hx => by simp at hx⟩
  obtain ⟨ad, rfl, hcells⟩ := hc hz
  have hex : ∀ j : Nat, ∃ p : Hd × Hd, ∀ x, xs[j]? = some x → (RelS w p x ∧ ∀ i u, ([.slice p.1.1 p.1.2.1 p.1.2.2, .slice p.2.1 p.2.2.1 p.2.2.2] : List Value)[i]? = some u → w.cell? (ad.add (j * 2 + i)) = some u) := by
    intro j
    cases hx : xs[j]? with
    | none => exact ⟨zHd, fun x h => by cases h⟩
    | some x =>
      obtain ⟨c, _, hK, hcc⟩ := hcells j x hx
      obtain ⟨A0, c0, A1, c1, rfl, l0, g0, l1, g1⟩ := k29_open hK
      refine ⟨((A0, x.f0.length, c0), (A1, x.f1.length, c1)), fun y hy => ?_⟩
      cases hy
      exact ⟨⟨rfl, g0⟩, hcc⟩
  obtain ⟨f, hf⟩ := Classical.skolem.1 hex
  refine ⟨(List.range xs.length).map f, by simp, ⟨by simpa using hl, hn, fun _ => ⟨ad, rfl, fun j p hp => ?_⟩⟩, fun i x hx => ?_⟩
  · obtain ⟨j', hj', rfl⟩ := Option.map_eq_some_iff.1 (by rw [List.getElem?_map] at hp; exact hp)
    have hj : j < xs.length := by
      have := List.getElem?_eq_some_iff.1 hj'
      obtain ⟨h1, _⟩ := this
      simpa using h1
    have : j' = j := by
      rw [List.getElem?_range hj] at hj'
      cases hj'; rfl
    subst this
    exact ⟨_, rfl, ⟨_, _, rfl, rfl, rfl⟩, (hf j' _ (List.getElem?_eq_getElem hj)).2⟩
  · have hi : i < xs.length := by obtain ⟨h1, _⟩ := List.getElem?_eq_some_iff.1 hx; exact h1
    have e : ((List.range xs.length).map f).getD i zHd = f i := by
      rw [List.getD_eq_getElem?_getD, List.getElem?_map, List.getElem?_range hi]; rfl
    rw [e]
    exact (hf i x hx).1
theorem heads_append {w : World} {hsE hsX : List (Hd × Hd)} {a b : List (S29)} (h1 : hsE.length = a.length) (hE : ∀ (i : Nat) (x : S29), a[i]? = some x → RelS w (hsE.getD i zHd) x) (hX : ∀ (i : Nat) (x : S29), b[i]? = some x → RelS w (hsX.getD i zHd) x) : ∀ (i : Nat) (x : S29), (a ++ b)[i]? = some x → RelS w ((hsE ++ hsX).getD i zHd) x := by
  intro i x hx
  by_cases hi : i < a.length
  · rw [List.getElem?_append_left hi] at hx
    have e : (hsE ++ hsX).getD i zHd = hsE.getD i zHd := by rw [List.getD_eq_getElem?_getD, List.getElem?_append_left (by omega), ← List.getD_eq_getElem?_getD]
    rw [e]
    exact hE i x hx
  · rw [List.getElem?_append_right (by omega)] at hx
    have e : (hsE ++ hsX).getD i zHd = hsX.getD (i - a.length) zHd := by rw [List.getD_eq_getElem?_getD, List.getElem?_append_right (by omega), ← List.getD_eq_getElem?_getD, h1]
    rw [e]
    exact hX _ x hx
theorem askUpto_succ (l : List (S32)) (i : Nat) (hi : i < l.length) : askUpto l (i + 1) = (askUpto l i || askItem (rd_T32 l ((l.length : Int) - 1)).f0 (rd_T32 l (i : Int))) := by
  unfold askUpto
  rw [List.take_add_one, List.getElem?_eq_getElem hi, rd_in l i hi, List.any_append]
  simp
theorem st_cell {W : World} {A : Option Addr} {n : Nat} {hs : List (Hd × Hd)} (h : Kd.C kSt W A n hs) (k : Nat) (hk : k < n) : ∃ ad, A = some ad ∧ W.cell? (ad.add (k * 2)) = some (.slice (hs.getD k zHd).1.1 (hs.getD k zHd).1.2.1 (hs.getD k zHd).1.2.2) := by
  obtain ⟨ad, c, e, _, hK, hc⟩ := Kd.C_get h zHd (k : Int) (by omega) (by omega)
  obtain ⟨_, _, rfl, rfl, rfl⟩ := hK
  exact ⟨ad, e, hc 0 _ rfl⟩
theorem askS_succ (z : ByteArray) (ss : List (S29)) (k : Nat) (s : S29) (h : ss[k]? = some s) : askS z (ss.take (k + 1)) = (askS z (ss.take k) || s.f0.any (askOn z)) := by
  unfold askS
  rw [List.take_add_one, h, List.any_append]
  simp
theorem on_succ (z : ByteArray) (l : List (S39)) (j : Nat) (hj : j < l.length) : (l.take (j + 1)).any (askOn z) = ((l.take j).any (askOn z) || decide ((rd_T39 l (j : Int)).f0.toList = z.toList)) := by
  have e : rd_T39 l (j : Int) = l[j] := by simp [rd_T39, List.getD_eq_getElem?_getD, List.getElem?_eq_getElem hj]
  rw [List.take_add_one, List.getElem?_eq_getElem hj, List.any_append, e]
  simp [askOn]
theorem C_take {α : Type} {d : Kd α} {w : World} {A : Option Addr} {n : Nat} {xs : List α} (h : Kd.C d w A n xs) (m : Nat) (hm : m ≤ n) : Kd.C d w A m (xs.take m) := by
  obtain ⟨h1, h2, h3⟩ := h
  refine ⟨by rw [List.length_take]; omega, by omega, fun hp => ?_⟩
  obtain ⟨ad, e, hc⟩ := h3 (by omega)
  refine ⟨ad, e, fun j p hj => hc j p ?_⟩
  rw [List.getElem?_take] at hj
  split at hj
  · exact hj
  · cases hj
section
variable {P : Program} {md : Region.Mode} {ops : Array Oper} {Q : Exit → Act → World → Prop} {S : World → Prop} {ds : List Nat}
theorem on_ {n m fuel : Nat} {oi : Oper} {a : Act} {w : World} (i : Nat) (N : Option Tmp)
    (h : ∀ K : Act → World → Prop, Shut (∀ a' w', S w' → (S w' → wpAnyLast P md ops Q S ds fuel (bits n (m ||| 1 <<< i)) a' w') → K a' w') → if Region.wanted oi (yielded ops a.tmps) = true then Oper.wp P oi a w K Q else K (a.put N undef) w)
    (hi : ops[i]? = some oi := by exact rfl) (hN : oi.dst = N := by exact rfl) (hc : readyB md ops (bits n m) (bits n (m ||| 1 <<< i)) i = true := by kernel_rfl) (hd : i ∉ ds := by decide) : wpAnyLast P md ops Q S ds (fuel + 1) (bits n m) a w :=
  one_ _ hi hN hc hd h
end
set_option maxHeartbeats 8000000 in
set_option maxRecDepth 100000 in
theorem less_any (A0 : Option Addr) (c0 : Nat) (fs : List ByteArray) (A1 : Option Addr) (c1 : Nat) (l : List (S32)) (w : World) (hr0 : Kd.C Kd.string w A0 fs.length fs) (hc0 : fs.length ≤ c0) (hr1 : Kd.C k32 w A1 l.length l) (hc1 : l.length ≤ c1) (hf : fs.length ≤ 140737488351232) (hl : l.length ≤ 140737488351232) (hg : ∀ x ∈ l, goodItem x) :
    Calls Try.prog 6 #[.agg #[.slice A0 fs.length c0, .slice A1 l.length c1]] w fun e w' => e = .returned (.bool true) ∧ Below w.heap.size w w' := by
  obtain ⟨b, ⟨k1, hk1⟩, hlt⟩ := ev_heavy fs l hf hl hg
  obtain ⟨k2, hk2⟩ := ev_ris fs l (fits_of fs l hf hl hg)
  have h1 := sentrylaw4_heavy.calls k1 A0 c0 fs A1 c1 l b
  have hri : ∀ (W : World), Below w.heap.size w W → Calls Try.prog 18 #[.agg #[.slice A0 fs.length c0, .slice A1 l.length c1]] W fun e w' => e = .returned (.bool (isB fs l)) ∧ Below W.heap.size W w' := fun W hb => sentryref4_Is.calls k2 A0 c0 fs A1 c1 l _ W (Kd.C_below hr0 hb) hc0 (Kd.C_below hr1 hb) hc1 (by rw [← ris_eq]; exact hk2 k2 (Nat.le_refl _))
  have hheavy := fun (W : World) (hb : Below w.heap.size w W) => h1 W (Kd.C_below hr0 hb) hc0 (Kd.C_below hr1 hb) hc1 (hk1 k1 (Nat.le_refl _))
  have hu36 := Try.underlying36
  have hu32 := Try.underlying32
  have hu29 := Try.underlying29
  clear h1 hk1 hk2 hg
  by_cases h2 : 2 ≤ l.length
  case neg =>
    have HR := Lib.hid (And.intro hr0 hr1)
    clear hr0 hr1
    obtain ⟨n, hn⟩ : ∃ n, n = l.length := ⟨_, rfl⟩
    rw [← hn] at hc1 hl hlt hri hheavy h2 ⊢
    clear hn HR
    have h2' : (n : Int) < 2 := by omega
    obtain ⟨ib, hib⟩ : ∃ b, b = isB fs l := ⟨_, rfl⟩
    rw [← hib] at hri
    clear hib
    go_enter Try.func6, Try.ntmps6
    go_wp2_with fail
    obtain ⟨W1, hW1⟩ : ∃ W1, W1 = w.alloc (.cells #[.slice A0 fs.length c0, .slice A1 n c1] 36) := ⟨_, rfl⟩
    have hb1 : Below w.heap.size w W1 := by rw [hW1]; exact below_alloc (Below.refl _ _) _
    have hm0 : W1.cell? ⟨w.heap.size, 0, none⟩ = some (.slice A0 fs.length c0) := by rw [hW1]; simp
    have hm1 : W1.cell? ⟨w.heap.size, 1, none⟩ = some (.slice A1 n c1) := by rw [hW1]; simp
    rw [← hW1]
    clear hW1
    refine (hheavy W1 hb1).mono ?_
    rintro e w2 ⟨rfl, hb2⟩
    have HB2 := Lib.hid (keepb hb2 hb1)
    have hm0 := keepc hb2 hm0
    have hm1 := keepc hb2 hm1
    clear hb1 hb2 hheavy
    cases b with
    | true =>
      go_wp2
      go_ret
      exact ⟨rfl, HB2.out⟩
    | false =>
      go_wp2_with fail
      refine (hri _ HB2.out).mono ?_
      rintro e w3 ⟨rfl, hb3⟩
      have HB3 := Lib.hid (keepb hb3 HB2.out)
      have hm0 := keepc hb3 hm0
      have hm1 := keepc hb3 hm1
      clear hri hb3
      cases ib <;> (go_wp2; go_ret; exact ⟨rfl, HB3.out⟩)
  obtain ⟨n, hn⟩ : ∃ n, n = l.length := ⟨_, rfl⟩
  obtain ⟨m, hm⟩ : ∃ m, m = l.length - 1 := ⟨_, rfl⟩
  obtain ⟨ad, _, _, _, _, e, hz0, _⟩ := at_T32 hr1 (m : Int) (by omega) (by omega)
  cases e
  simp only [Int.toNat_natCast] at hz0
  obtain ⟨zn, hzn⟩ : ∃ zn, zn = (rd_T32 l ((l.length : Int) - 1)).f0 := ⟨_, rfl⟩
  have hz0 : w.cell? (ad.add (m * 7)) = some (.string zn) := by
    rw [hzn, show ((l.length : Int) - 1) = (m : Int) by omega]
    exact hz0
  have his : ∀ (W : World), Below w.heap.size w W → Calls Try.prog 16 #[.agg #[.slice A0 fs.length c0, .slice (some ad) m c1]] W fun e w' => e = .returned (.bool (isB fs (l.take m))) ∧ Below W.heap.size W w' := fun W hb => by
    have hlm : (l.take m).length = m := by rw [List.length_take]; omega
    have hc := C_take (Kd.C_below hr1 hb) m (by omega)
    have := model_Is.calls A0 c0 fs (some ad) c1 (l.take m) _ W (Kd.C_below hr0 hb) hc0 (by rw [hlm]; exact hc) (by omega) rfl
    rw [hlm] at this
    exact this
  have hlaw : isB fs l = true → isB fs (l.take m) = !askUpto l m := fun h => by rw [hm]; exact less_law h h2
  obtain ⟨jb, hjb⟩ : ∃ b, b = isB fs (l.take m) := ⟨_, rfl⟩
  obtain ⟨ib, hib⟩ : ∃ b, b = isB fs l := ⟨_, rfl⟩
  have h33 : isB fs l = true → ∀ i : Nat, i < l.length → (rd_T32 l i).f5.length ≤ 3 ∧ (rd_T32 l i).f6.length ≤ 3 := fun h i hi => by
    obtain ⟨_, _, _, h4⟩ := legal_parts fs l h
    obtain ⟨a, b⟩ := h4 i hi
    unfold sentsB at a b
    rw [Bool.and_eq_true, decide_eq_true_eq] at a b
    exact ⟨a.1, b.1⟩
  rw [← hib] at hri hlaw h33
  rw [← hjb] at his hlaw
  clear hjb hib
  have HR := Lib.hid hr1
  have hn2 : n = m + 1 := by omega
  rw [← hn, hn2] at hc1 hl hlt hri hheavy h2 ⊢
  have HN := Lib.hid (hn2 ▸ hn : m + 1 = l.length)
  have h2' : ¬ (m : Int) + 1 < 2 := by omega
  have hmc : (m : Int) ≤ (c1 : Int) := by omega
  have hmc' : m ≤ c1 := by omega
  have hm64 : m ≤ 1000000000000000 := by omega
  clear hr0 hr1 hn2 hn hm hf
  clear n
  have HZ := Lib.hid hzn
  have HLAW := Lib.hid hlaw
  have H33 := Lib.hid h33
  have HIS := Lib.hid his
  clear hzn hlaw h33 his
  go_enter Try.func6, Try.ntmps6
  go_wp2_with fail
  obtain ⟨W1, hW1⟩ : ∃ W1, W1 = w.alloc (.cells #[.slice A0 fs.length c0, .slice (some ad) (m + 1) c1] 36) := ⟨_, rfl⟩
  have hb1 : Below w.heap.size w W1 := by rw [hW1]; exact below_alloc (Below.refl _ _) _
  have hm0 : W1.cell? ⟨w.heap.size, 0, none⟩ = some (.slice A0 fs.length c0) := by rw [hW1]; simp
  have hm1 : W1.cell? ⟨w.heap.size, 1, none⟩ = some (.slice (some ad) (m + 1) c1) := by rw [hW1]; simp
  rw [← hW1]
  clear hW1
  refine (hheavy W1 hb1).mono ?_
  rintro e w2 ⟨rfl, hb2⟩
  have HB2 := Lib.hid (keepb hb2 hb1)
  have hm0 := keepc hb2 hm0
  have hm1 := keepc hb2 hm1
  clear hb1 hb2 hheavy
  cases b with
  | true =>
    go_wp2
    go_ret
    exact ⟨rfl, HB2.out⟩
  | false =>
    have hn400 := hlt rfl
    clear hlt
    go_wp2_with fail
    refine (hri _ HB2.out).mono ?_
    rintro e w3 ⟨rfl, hb3⟩
    have HB3 := Lib.hid (keepb hb3 HB2.out)
    have hm0 := keepc hb3 hm0
    have hm1 := keepc hb3 hm1
    clear hri hb3 HB2
    cases ib with
    | false => go_wp2; go_ret; exact ⟨rfl, HB3.out⟩
    | true =>
      have HLAW := Lib.hid (HLAW.out rfl)
      have H33 := Lib.hid (H33.out rfl)
      go_wp2
      refine st_ (fun w' => w'.cell? ⟨w.heap.size, 0, none⟩ = some (.slice A0 fs.length c0) ∧ w'.cell? ⟨w.heap.size, 1, none⟩ = some (.slice (some ad) (m + 1) c1)) 9 ⟨hm0, hm1⟩ (fun hHeld => ?_)
      refine pu_ 0 (some 27) ?_
      refine tk_ 1 (some 28) hHeld ?_ (hy := by rintro w' ⟨s0, s1⟩; go_simp; with_reducible rfl)
      refine pu_ 2 (some 29) ?_
      refine tk_ 3 (some 30) hHeld ?_ (hy := by rintro w' ⟨s0, s1⟩; go_simp; with_reducible rfl)
      refine pu_ 4 (some 31) ?_
      refine pu_ 5 (some 32) ?_
      refine pu_ 6 (some 33) ?_
      have hbD : Below w.heap.size w w3.drew := below_drew1 HB3.out
      have hszD : w.heap.size < w3.drew.heap.size := World.block_lt_of_cell? _ _ hHeld.1
      generalize w3.drew = wD at hHeld hbD hszD ⊢
      refine on_ 7 (some 4) (fun K hK => ?_)
      go_simp
      refine hK.out _ _ ⟨(World.cell?_alloc_some _ _ _ (by rw [hHeld.1]; rfl)).trans hHeld.1, (World.cell?_alloc_some _ _ _ (by rw [hHeld.2]; rfl)).trans hHeld.2⟩ (fun hHeld' => ?_)
      clear hK K
      refine on_ 8 none (fun K hK => ?_)
      go_simp
      obtain ⟨gx, hgx⟩ : ∃ g, g = wD.heap.size := ⟨_, rfl⟩
      obtain ⟨W4, hW4⟩ : ∃ W4, W4 = wD.alloc (.cells #[.slice A0 fs.length c0, .slice (some ad) m c1] 36) := ⟨_, rfl⟩
      have hb4 : Below w.heap.size w W4 := by rw [hW4]; exact below_alloc hbD _
      have hx0 : W4.cell? ⟨gx, 0, none⟩ = some (.slice A0 fs.length c0) := by rw [hW4, hgx]; simp
      have hx1 : W4.cell? ⟨gx, 1, none⟩ = some (.slice (some ad) m c1) := by rw [hW4, hgx]; simp
      have hm0 : W4.cell? ⟨w.heap.size, 0, none⟩ = some (.slice A0 fs.length c0) := by rw [hW4]; exact (World.cell?_alloc_some _ _ _ (by rw [hHeld.1]; rfl)).trans hHeld.1
      have hm1 : W4.cell? ⟨w.heap.size, 1, none⟩ = some (.slice (some ad) (m + 1) c1) := by rw [hW4]; exact (World.cell?_alloc_some _ _ _ (by rw [hHeld.2]; rfl)).trans hHeld.2
      rw [← hW4, ← hgx]
      refine hK.out _ _ ⟨hm0, hm1⟩ (fun hHeld2 => ?_)
      clear hK K hHeld2 hHeld' hHeld hW4 hgx hbD hszD
      have HM := Lib.hid (And.intro hm0 hm1)
      have HX := Lib.hid (And.intro hx0 hx1)
      have HB4 := Lib.hid hb4
      have HZ0 := Lib.hid hz0
      clear hm0 hm1 hx0 hx1 hb4 hz0 HB3
      refine dn_ ?_
      go_wp2
      go_loopg [5, 6] m (fun gg s5 s6 wr => ∃ (i : Nat), s5 = .bool (askUpto l i) ∧ s6 = .int .i64 i ∧ i ≤ m ∧ m - i ≤ gg ∧ Hid (Below W4.heap.size W4 wr))
      case atStart => exact ⟨0, by simp [askUpto], rfl, Nat.zero_le _, by omega, Lib.hid (Below.refl _ _)⟩
      case round =>
        obtain ⟨i, rfl, rfl, him, hig, X⟩ := hrel
        have HBW := Lib.hid (keepb X.out HB4.out)
        have hm0 := keepc X.out HM.out.1
        have hm1 := keepc X.out HM.out.2
        by_cases hlt : i < m
        case neg =>
          have hltz : ¬ (i : Int) < (m : Int) := by omega
          obtain rfl : m = i := by omega
          have hx0 := keepc X.out HX.out.1
          have hx1 := keepc X.out HX.out.2
          have hlaw := HLAW.out trivial
          have his := HIS.out _ HBW.out
          obtain ⟨ab, hab⟩ : ∃ ab, ab = askUpto l m := ⟨_, rfl⟩
          rw [← hab] at hlaw ⊢
          rw [hlaw] at his
          clear hab hlaw
          go_wp2_with fail
          refine his.mono ?_
          rintro e w5 ⟨rfl, hb5⟩
          have HB5 := Lib.hid (keepb hb5 HBW.out)
          clear hb5 his
          cases ab <;> (go_wp2_with fail; refine (sentrylaw4_known.calls true _ rfl).mono ?_; rintro e w6 ⟨rfl, hb6⟩; have HB6 := Lib.hid (keepb hb6 HB5.out); clear hb6; go_wp2; go_ret; exact ⟨rfl, HB6.out⟩)
        have hltz : (i : Int) < (m : Int) := by omega
        obtain ⟨ad', A5, d5, A6, d6, e, -, -, -, -, -, hx5, hx6, hl5, hC5, hl6, hC6⟩ := at_T32 HR.out (i : Int) (by omega) (by have := HN.out; omega)
        cases e
        simp only [Int.toNat_natCast] at hx5 hx6
        have h33 := H33.out trivial i (by have := HN.out; omega)
        have hask := askUpto_succ l i (by have := HN.out; omega)
        rw [← HZ.out] at hask
        obtain ⟨x, hx⟩ : ∃ x, x = rd_T32 l (i : Int) := ⟨_, rfl⟩
        rw [← hx] at hx5 hx6 hC5 hC6 h33 hask
        have HASK := Lib.hid hask
        clear hx hl5 hl6 hask
        obtain ⟨hsE, hlE, hCE, hRE⟩ := heads_of hC5
        obtain ⟨hsX, hlX, hCX, hRX⟩ := heads_of hC6
        have HREL := Lib.hid (heads_append hlE hRE hRX)
        clear hRE hRX hC5 hC6
        replace hx5 := keepc HBW.out hx5
        replace hx6 := keepc HBW.out hx6
        have HCE := Lib.hid hCE
        have HCX := Lib.hid hCX
        clear hCE hCX
        obtain ⟨n5, hn5⟩ : ∃ n, n = x.f5.length := ⟨_, rfl⟩
        obtain ⟨n6, hn6⟩ : ∃ n, n = x.f6.length := ⟨_, rfl⟩
        rw [← hn5] at hx5 hlE HCE h33
        rw [← hn6] at hx6 hlX HCX h33
        have HN5 := Lib.hid hn5
        have HN6 := Lib.hid hn6
        have HLE := Lib.hid hlE
        have HLX := Lib.hid hlX
        clear hn5 hn6 hlE hlX
        have hi1 : (i : Int) < (m : Int) + 1 := by omega
        go_wp2
        refine st_ (fun w' => (w'.cell? ⟨w.heap.size, 0, none⟩ = some (.slice A0 fs.length c0) ∧ w'.cell? ⟨w.heap.size, 1, none⟩ = some (.slice (some ad) (m + 1) c1) ∧ w'.cell? ⟨(ad.add (i * 7)).block, (ad.add (i * 7)).off + 5, none⟩ = some (.slice A5 n5 d5) ∧ w'.cell? ⟨(ad.add (i * 7)).block, (ad.add (i * 7)).off + 6, none⟩ = some (.slice A6 n6 d6)) ∧ Below wr.heap.size wr w') 16 ⟨⟨hm0, hm1, hx5, hx6⟩, below_drew1 (Below.refl _ _)⟩ (fun hHeld => ?_)
        refine pu_ 1 (some 40) ?_
        refine tk_ 2 (some 41) hHeld ?_ (hy := by rintro w' ⟨⟨s0, s1, s2, s3⟩, _⟩; go_simp; with_reducible rfl)
        refine pu_ 3 (some 42) ?_
        refine pu_ 4 (some 43) ?_
        refine pu_ 5 (some 44) ?_
        refine tk_ 6 (some 45) hHeld ?_ (hy := by rintro w' ⟨⟨s0, s1, s2, s3⟩, _⟩; go_simp; with_reducible rfl)
        refine pu_ 8 (some 47) ?_
        refine tk_ 9 (some 48) hHeld ?_ (hy := by rintro w' ⟨⟨s0, s1, s2, s3⟩, _⟩; go_simp; with_reducible rfl)
        refine pu_ 10 (some 49) ?_
        refine pu_ 11 (some 50) ?_
        refine pu_ 12 (some 51) ?_
        refine tk_ 13 (some 52) hHeld ?_ (hy := by rintro w' ⟨⟨s0, s1, s2, s3⟩, _⟩; go_simp; with_reducible rfl)
        generalize wr.drew = wD at hHeld ⊢
        have H0 := Lib.hid hHeld
        clear hm0 hm1 hx5 hx6
        refine on_ 0 (some 39) (fun K hK => ?_)
        refine Kd.R_lit_step kSt (w0 := wD) wD.heap.size 29 ?hg (N := 39) ?hd (xs := ([] : List (Hd × Hd))) (inner := []) (ok := fun _ => True) (okp := fun _ => True) ?hr ?hp (fun _ hk => hk) trivial (Below.refl _ _) (Nat.le_refl _) (by simp) ?_
        (case hd => rfl)
        (case hg => rfl)
        (case hr => first | (go_simp; done) | (go_simp; rfl))
        (case hp => exact (Reps.none _ _))
        intro v1 w1 hR1 hB1 hg1 hg2
        clear hg1 hg2
        refine hK.out _ _ ⟨⟨keepc hB1 H0.out.1.1, keepc hB1 H0.out.1.2.1, keepc hB1 H0.out.1.2.2.1, keepc hB1 H0.out.1.2.2.2⟩, keepb hB1 H0.out.2⟩ (fun hH_ => ?_)
        clear hK K hHeld
        have hHeld := hH_
        clear hH_
        refine nz_ (some 39) ?_
        refine on_ 7 (some 46) (fun K hK => ?_)
        refine Kd.R_append_rows_step kSt (w0 := wD) wD.heap.size (by rfl) (.tmp 39) (.tmp 45) 30 29 (.agg #[.slice none 0 0, .slice none 0 0]) 48 rfl Try.underlying30 info29 rfl (by decide) (by omega) v1 [] hsE _ _ _ (fun _ => True) (fun _ => False) rfl rfl hR1 (Kd.C_below HCE.out (keepb hHeld.2 HBW.out)) (fun _ _ h => h) (fun _ h => h.elim) (fun _ _ => trivial) hB1 hB1.size ?aL ?_
        (case aL => simp only [List.length_nil]; omega)
        intro v2 w2 hR2 hB2 hg1 hg2
        clear hg1 hg2
        refine hK.out _ _ ⟨⟨keepc hB2 H0.out.1.1, keepc hB2 H0.out.1.2.1, keepc hB2 H0.out.1.2.2.1, keepc hB2 H0.out.1.2.2.2⟩, keepb hB2 H0.out.2⟩ (fun hH_ => ?_)
        clear hK K hHeld hR1 hB1
        have hHeld := hH_
        clear hH_
        refine nz_ (some 46) ?_
        refine on_ 14 (some 53) (fun K hK => ?_)
        refine Kd.R_append_rows_step kSt (w0 := wD) wD.heap.size (by rfl) (.tmp 46) (.tmp 52) 30 29 (.agg #[.slice none 0 0, .slice none 0 0]) 48 rfl Try.underlying30 info29 rfl (by decide) (by omega) v2 ([] ++ hsE) hsX _ _ _ (fun _ => True) (fun _ => False) rfl rfl hR2 (Kd.C_below HCX.out (keepb hHeld.2 HBW.out)) (fun _ _ h => h) (fun _ h => h.elim) (fun _ _ => trivial) hB2 hB2.size ?aL ?_
        (case aL => rw [List.nil_append, HLE.out]; omega)
        intro v3 w3 hR3 hB3 hg1 hg2
        clear hg1 hg2
        obtain ⟨A7, c7, rfl, hl7, hC7⟩ := Kd.R_reads hR3
        have hk7 : ([] ++ hsE ++ hsX).length = n5 + n6 := by rw [List.nil_append, List.length_append, HLE.out, HLX.out]
        obtain ⟨k7, hk7'⟩ : ∃ k, k = n5 + n6 := ⟨_, rfl⟩
        rw [hk7, ← hk7'] at hC7 hl7 ⊢
        have HK7 := Lib.hid hk7'
        clear hk7 hk7'
        rw [List.nil_append] at hC7
        refine hK.out _ _ ⟨⟨keepc hB3 H0.out.1.1, keepc hB3 H0.out.1.2.1, keepc hB3 H0.out.1.2.2.1, keepc hB3 H0.out.1.2.2.2⟩, keepb hB3 H0.out.2⟩ (fun hH_ => ?_)
        clear hK K hHeld hR2 hB2 hR3 hB3 H0
        have hm0 := hH_.1.1
        have hm1 := hH_.1.2.1
        have HBX := Lib.hid (keepb hH_.2 X.out)
        have HB7 := Lib.hid (keepb hH_.2 HBW.out)
        clear hH_ HCE HCX
        have HM7 := Lib.hid (And.intro hm0 hm1)
        have HC7 := Lib.hid hC7
        clear hm0 hm1 hC7
        refine nz_ (some 53) ?_
        refine pu_ 15 (some 7) ?_
        refine dn_ ?_
        have hkss : k7 = (x.f5 ++ x.f6).length := by rw [List.length_append, HK7.out, HN5.out, HN6.out]
        have hk64 : k7 ≤ 1000 := by have := HK7.out; omega
        have HLSS := Lib.hid hkss
        obtain ⟨ss, hss⟩ : ∃ ss, ss = x.f5 ++ x.f6 := ⟨_, rfl⟩
        rw [← hss] at HREL HLSS
        have HSS := Lib.hid hss
        clear hkss hss HK7 HN5 HN6
        obtain ⟨hs, hhs⟩ : ∃ hs, hs = hsE ++ hsX := ⟨_, rfl⟩
        rw [← hhs] at HREL HC7
        clear hhs HLE HLX h33
        obtain ⟨a0, ha0⟩ : ∃ a, a = askUpto l i := ⟨_, rfl⟩
        rw [← ha0] at HASK ⊢
        clear ha0
        go_wp2
        go_loopg [5, 8] k7 (fun gg s5 s8 wq => ∃ (k : Nat), s5 = .bool (a0 || askS zn (ss.take k)) ∧ s8 = .int .i64 k ∧ k ≤ k7 ∧ k7 - k ≤ gg ∧ Hid (Below w3.heap.size w3 wq))
        case atStart => exact ⟨0, by simp [askS], rfl, Nat.zero_le _, by omega, Lib.hid (Below.refl _ _)⟩
        case round =>
          obtain ⟨k, rfl, rfl, hkm, hkg, Y⟩ := hrel
          by_cases hlk : k < k7
          case neg =>
            have hltk : ¬ (k : Int) < (k7 : Int) := by omega
            obtain rfl : k7 = k := by omega
            have e2 : (a0 || askS zn (ss.take k7)) = askUpto l (i + 1) := by
              rw [HASK.out, HLSS.out, List.take_length, HSS.out]
              rfl
            rw [e2]
            have XX := Lib.hid (keepb Y.out HBX.out)
            clear e2
            go_wp2
            go_roundg (m - (i + 1))
            case measure => omega
            case rel => exact ⟨i + 1, rfl, by go_num, by omega, by omega, XX⟩
          have hltk : (k : Int) < (k7 : Int) := by omega
          obtain ⟨a7, e7, hc7⟩ := st_cell HC7.out k hlk
          cases e7
          replace hc7 := keepc Y.out hc7
          obtain ⟨s, hsk⟩ : ∃ s, ss[k]? = some s := ⟨_, List.getElem?_eq_getElem (by have := HLSS.out; omega)⟩
          obtain ⟨hr1, hr2⟩ := HREL.out k s hsk
          have hnx := askS_succ zn ss k s hsk
          revert hc7 hr1 hr2
          generalize (hs.getD k zHd).1.1 = B
          generalize (hs.getD k zHd).1.2.1 = q
          generalize (hs.getD k zHd).1.2.2 = cc
          intro hc7 hr1 hr2
          rw [← hr1] at hr2
          have HQ := Lib.hid hr1
          have HR2 := Lib.hid hr2
          have HC := Lib.hid hc7
          have HNX := Lib.hid hnx
          have HBY := Lib.hid (keepb Y.out HB7.out)
          have hq64 : q ≤ 9223372036854775807 := hr2.2.1
          clear hr1 hr2 hc7 hnx hsk
          obtain ⟨a1, ha1⟩ : ∃ a, a = (a0 || askS zn (ss.take k)) := ⟨_, rfl⟩
          have HA1 := Lib.hid ha1
          rw [← ha1]
          clear ha1
          go_wp2
          go_loopg [5, 9] q (fun gg s5 s9 wz => ∃ (j : Nat), s5 = .bool (a1 || (s.f0.take j).any (askOn zn)) ∧ s9 = .int .i64 j ∧ j ≤ q ∧ q - j ≤ gg ∧ Hid (Below wr.heap.size wr wz))
          case atStart => exact ⟨0, by simp, rfl, Nat.zero_le _, by omega, Lib.hid (Below.refl _ _)⟩
          case round =>
            obtain ⟨j, rfl, rfl, hjm, hjg, Z⟩ := hrel
            have hc7 := keepc Z.out HC.out
            by_cases hlj : j < q
            case neg =>
              have hltj : ¬ (j : Int) < (q : Int) := by omega
              obtain rfl : q = j := by omega
              have e2 : (a1 || (s.f0.take q).any (askOn zn)) = (a0 || askS zn (ss.take (k + 1))) := by
                rw [HA1.out, HNX.out, HQ.out, List.take_length, Bool.or_assoc]
              rw [e2]
              have XX := Lib.hid (keepb Z.out Y.out)
              clear e2
              go_wp2
              go_roundg (k7 - (k + 1))
              case measure => omega
              case rel => exact ⟨k + 1, rfl, by go_num, by omega, by omega, XX⟩
            have hltj : (j : Int) < (q : Int) := by omega
            obtain ⟨ao, e, hn0, _⟩ := at_T39 HR2.out (j : Int) (by omega) (by omega)
            cases e
            simp only [Int.toNat_natCast] at hn0
            have hj1 : (s.f0.take (j + 1)).any (askOn zn) = ((s.f0.take j).any (askOn zn) || decide ((rd_T39 s.f0 (j : Int)).f0.toList = zn.toList)) := on_succ zn s.f0 j (by rw [← HQ.out]; exact hlj)
            obtain ⟨o, ho⟩ : ∃ o, o = (rd_T39 s.f0 (j : Int)).f0 := ⟨_, rfl⟩
            rw [← ho] at hn0 hj1
            clear ho
            have HJ1 := Lib.hid hj1
            clear hj1
            have hn0 := keepc Z.out (keepc HBY.out hn0)
            have hz0 := keepc Z.out (keepc HBY.out HZ0.out)
            have hm1 := keepc Z.out (keepc Y.out HM7.out.2)
            have hmm : (m : Int) < (m : Int) + 1 := by omega
            obtain ⟨b1, hb1⟩ : ∃ b, b = (a1 || (s.f0.take j).any (askOn zn)) := ⟨_, rfl⟩
            rw [← hb1]
            have HB1 := Lib.hid hb1
            clear hb1
            go_wp2
            cases b1 with
            | true =>
              refine st_ (fun _ => True) 20 trivial (fun hHeld => ?_)
              refine pu_ 0 (some 70) ?_
              refine pu_ 1 (some 71) ?_
              refine sk_ 2 (some 72) ?_
              refine sk_ 3 (some 73) ?_
              refine sk_ 4 (some 74) ?_
              refine sk_ 5 (some 75) ?_
              refine sk_ 6 (some 76) ?_
              refine sk_ 7 (some 77) ?_
              refine sk_ 8 (some 78) ?_
              refine sk_ 9 (some 79) ?_
              refine sk_ 10 (some 80) ?_
              refine sk_ 11 (some 81) ?_
              refine sk_ 12 (some 82) ?_
              refine sk_ 13 (some 83) ?_
              refine sk_ 14 (some 84) ?_
              refine sk_ 15 (some 85) ?_
              refine sk_ 16 (some 86) ?_
              refine sk_ 17 (some 87) ?_
              refine pu_ 18 (some 88) ?_
              refine pu_ 19 (some 5) ?_
              refine dn_ ?_
              have e3 : true = (a1 || (s.f0.take (j + 1)).any (askOn zn)) := by rw [HJ1.out, ← Bool.or_assoc, ← HB1.out]; rfl
              have E3 := Lib.hid e3
              clear e3
              have XX := Lib.hid (below_drew1 Z.out)
              go_wp2
              go_roundg (q - (j + 1))
              case measure => omega
              case rel => exact ⟨j + 1, congrArg Value.bool E3.out, by go_num, by omega, by omega, XX⟩
            | false =>
              refine st_ (fun w' => w'.cell? (a7.add (k * 2)) = some (.slice (some ao) q cc) ∧ w'.cell? (ao.add (j * 2)) = some (.string o) ∧ w'.cell? ⟨w.heap.size, 1, none⟩ = some (.slice (some ad) (m + 1) c1) ∧ w'.cell? (ad.add (m * 7)) = some (.string zn)) 20 ⟨hc7, hn0, hm1, hz0⟩ (fun hHeld => ?_)
              refine pu_ 0 (some 70) ?_
              refine pu_ 1 (some 71) ?_
              refine pu_ 2 (some 72) ?_
              refine pu_ 3 (some 73) ?_
              refine pu_ 4 (some 74) ?_
              refine pu_ 5 (some 75) ?_
              refine tk_ 6 (some 76) hHeld ?_ (hy := by rintro w' ⟨s0, s1, s2, s3⟩; go_simp; with_reducible rfl)
              refine pu_ 7 (some 77) ?_
              refine pu_ 8 (some 78) ?_
              refine pu_ 9 (some 79) ?_
              refine tk_ 10 (some 80) hHeld ?_ (hy := by rintro w' ⟨s0, s1, s2, s3⟩; go_simp; with_reducible rfl)
              refine pu_ 11 (some 81) ?_
              refine tk_ 12 (some 82) hHeld ?_ (hy := by rintro w' ⟨s0, s1, s2, s3⟩; go_simp; with_reducible rfl)
              refine pu_ 13 (some 83) ?_
              refine pu_ 14 (some 84) ?_
              refine pu_ 15 (some 85) ?_
              refine tk_ 16 (some 86) hHeld ?_ (hy := by rintro w' ⟨s0, s1, s2, s3⟩; go_simp; with_reducible rfl)
              refine pu_ 17 (some 87) ?_
              refine pu_ 18 (some 88) ?_
              refine pu_ 19 (some 5) ?_
              refine dn_ ?_
              have E3 : Hid ((o.toList == zn.toList) = (a1 || (s.f0.take (j + 1)).any (askOn zn))) := Lib.hid (by
                rw [HJ1.out, ← Bool.or_assoc, ← HB1.out, Bool.false_or, Bool.eq_iff_iff]
                simp)
              have XX := Lib.hid (below_drew1 Z.out)
              go_wp2
              go_roundg (q - (j + 1))
              case measure => omega
              case rel => exact ⟨j + 1, congrArg Value.bool E3.out, by go_num, by omega, by omega, XX⟩
end Go.Proofs.Ytchellnfenekaaa.Pm
end
section
namespace Go.Proofs.Ytchellnfenekaaa.modelLess
open Go.ChangeShapes Go.WideShapes Go.ChangeAt Go.RowKit Go.Proofs.YtchellnfenekaaaW.PrintWords
open Go.ChangeMaps (open_string shut_string)
set_option linter.unusedVariables false
theorem own : ownKnob Try.prog.godebug = none := by kernel_rfl
theorem laidOut : laidOutB Try.prog = true := by kernel_rfl
set_option maxRecDepth 100000 in
theorem lifted (os : Os) (started : os.Started) (H : Type) (enc : TypeId × Value → H) :
    ReturnsInHanded {} Try.checked os 6 .any (Rows.modelLessSpec.pre6 enc Try.prog Try.f6 Rows.modelLessRow.domain false) (Rows.modelLessSpec.post enc Try.prog Try.f6 false true false false) := by
  refine returnsInHanded_of_change_sized (C := Try.checked) own started (by kernel_rfl) Try.func6
    (ChangeSpec.witness6 (enc := enc) (C := Try.checked) false ⟨#[], #[.agg #[.slice none 0 0, .slice none 0 0]], []⟩ 8 (by kernel_rfl) (by kernel_rfl) (by kernel_rfl) (by kernel_rfl)) ?_
  intro W base args ds gs before hval0 hW hcnd hsz0 _
  have hsz : (DataW.weightsEach Try.prog (Try.f6.params.toList ++ Rows.modelLessSpec.plain.varTypes Try.prog) (ds ++ gs)).all (· ≤ reachBytes) = true := hsz0
  have hval : ∀ (j : Nat) t v, Try.f6.params[j]? = some t → args[j]? = some v → Value.okWide Try.prog W .any base t v := hval0
  have hW' := hW
  obtain ⟨p, q, hA0, hV, rfl, hfz, hnd⟩ := hW
  have hA : DataW.TrodAll enc Try.prog W 0 (fun _ => true) true Try.f6.params.toList args.toList ds p := hA0
  rw [Try.params6] at hA hval hsz
  obtain ⟨v0, vs0, d0, ds0, p0, q0, hargs, rfl, rfl, h0, r0⟩ := trodAll_cons hA
  obtain ⟨rfl, rfl, rfl⟩ := trodAll_nil r0
  obtain rfl : args = #[v0] := by cases args; simp_all
  obtain ⟨rfl, rfl⟩ := trodVars_none hV
  have k0 := h0
  have lt0 : ∀ x ∈ p0, x.block < W.heap.size := by obtain ⟨m, hm⟩ := k0; exact DataW.trod_lt m _ _ _ hm
  obtain ⟨A0, c0, fs0, B0, e0, l0, rfl, rdf0, hcf0, rdl0, hcl0, hf0, hl0, hg0⟩ := Pm.open_model (hval 0 36 v0 rfl rfl) h0 (Pm.light_of hsz (j := 0) (t := 36) rfl rfl)
  clear hA0 hval0 hsz0 hsz
  refine (Pm.less_any A0 c0 fs0 B0 e0 l0 W rdf0 hcf0 rdl0 hcl0 hf0 hl0 hg0).mono fun e W' ⟨he, bel⟩ => ?_
  subst he
  exact ⟨_, rfl, _, _, _, [], _, [], hW', trodAll_mk1 (shut_bool Try.underlying4 _), (trodAll_cons_mk (Below.trod laidOut (by kernel_rfl) (of_decide_eq_true (by kernel_rfl)) k0 bel lt0) trodAll_mk0), rfl, bel.frame _, fun h => by cases h⟩
theorem over : Rows.modelLessRow.holds Try.pinned (OpenSpec.ofChange Rows.modelLessSpec) :=
  OpenClaim.holds_of_wide 6 Try.f6 rfl rfl rfl rfl rfl rfl rfl ⟨rfl, rfl, rfl, rfl, rfl⟩ rfl rfl rfl rfl rfl (by kernel_rfl) Try.func6 (by kernel_rfl)
    (of_decide_eq_true (by kernel_rfl)) (by unfold Func.isWrapper; first | (rw [if_pos (by decide +kernel)]; kernel_rfl) | (rw [if_neg (by decide +kernel)]; exact ⟨rfl, rfl⟩))
    (fun os started H enc _ => lifted os started H enc)
theorem proved : Rows.ModelLessSaid := over
end Go.Proofs.Ytchellnfenekaaa.modelLess
namespace Go.Proofs.Ytchellnfenekaaa
/-- The row, under a short name, for the claim. -/
theorem modelLess_holds : Rows.ModelLessSaid := modelLess.proved
end Go.Proofs.Ytchellnfenekaaa
end
