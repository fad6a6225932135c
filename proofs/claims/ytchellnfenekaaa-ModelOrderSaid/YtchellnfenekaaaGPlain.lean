/- What the model's small functions answer, in closed forms. -/
import Derived.Test.YtchellnfenekaaaPm0
import Derived.Test.YtchellnfenekaaaPmFapi_On_77
import Derived.Test.YtchellnfenekaaaPmFapi_On_81
import Derived.Test.YtchellnfenekaaaPmFmodel_Legal
import Derived.Test.YtchellnfenekaaaPmFmodel_isIf
import Derived.Test.YtchellnfenekaaaPmFmodel_isOn
import Derived.Test.YtchellnfenekaaaPmFslices_Contains_string_string
import Derived.Test.YtchellnfenekaaaPmFslices_Index_string_string
import Derived.Test.YtchellnfenekaaaGIdx
import Derived.Test.YtchellnfenekaaaGPlace
namespace Go.Proofs.Ytchellnfenekaaa.Pm
open Go.RowKit Go.Proofs.YtchellnfenekaaaW.PrintWords Go.Proofs.YtchellnfenekaaaW.PrintLast Go.Proofs.YtchellnfenekaaaW.PrintMore
attribute [local go_sem] max2_int min2_int max_two min_two max_three min_three max_four min_four   -- for this text's walks alone
set_option linter.unusedVariables false
set_option linter.unusedSimpArgs false

def legalB (kind event : Int) : Bool :=
  if event = 1 ∨ event = 5 then decide (1 ≤ kind ∧ kind ≤ 5) else if event = 2 ∨ event = 3 then decide (kind = 1 ∨ kind = 2) else if event = 4 then decide (3 ≤ kind ∧ kind ≤ 5) else false
theorem legal_eq (a b : Int) : model_Legal.f 2 a b = some (legalB a b) := by
  unfold model_Legal.f legalB
  by_cases h1 : b = 1
  · subst h1; simp only [model_Legal.j0]; by_cases h2 : a ≥ 1 <;> by_cases h3 : a ≤ 5 <;> simp [h2, h3]
  by_cases h5 : b = 5
  · subst h5; simp only [model_Legal.j0]; by_cases h2 : a ≥ 1 <;> by_cases h3 : a ≤ 5 <;> simp [h2, h3]
  rw [if_neg h1, show (b == 5) = false by simpa using h5]
  simp only [model_Legal.j0, Bool.false_eq_true, if_false]
  have h15 : ¬ (b = 1 ∨ b = 5) := by omega
  rw [if_neg h15]
  by_cases h2 : b = 2
  · subst h2; simp only [model_Legal.j1]; by_cases h3 : a = 1 <;> by_cases h4 : a = 2 <;> simp [h3, h4]
  by_cases h3 : b = 3
  · subst h3; simp only [model_Legal.j1]; by_cases h3 : a = 1 <;> by_cases h4 : a = 2 <;> simp [h3, h4]
  rw [if_neg h2, show (b == 3) = false by simpa using h3]
  simp only [model_Legal.j1, Bool.false_eq_true, if_false]
  have h23 : ¬ (b = 2 ∨ b = 3) := by omega
  rw [if_neg h23]
  by_cases h4 : b = 4
  · subst h4; by_cases h2 : a ≥ 3 <;> by_cases h3 : a ≤ 5 <;> simp [h2, h3]
  · simp [h4]
theorem wrap_lt {i n : Int} (h0 : 0 ≤ i) (h : i < n) (hn : n ≤ 9223372036854775807) : wrap64 (i + 1) = i + 1 := by
  unfold wrap64
  omega
def memB (l : List ByteArray) (s : ByteArray) : Bool := l.any (fun x => s.toList == x.toList)
theorem rdOf_get {α : Type} (z : α) (l : List α) (i : Nat) (h : i < l.length) : rdOf z l (i : Int) = l[i] := by
  simp [rdOf, List.getD_eq_getElem?_getD, List.getElem?_eq_getElem h]
theorem index_any (l : List ByteArray) (s : ByteArray) (hn : l.length ≤ 9223372036854775807) (d : Nat) : ∀ (i k : Nat), i + d = l.length → d < k → ∃ r, slices_Index_string_string.l0 k l s l.length i = some r ∧ decide (r ≥ 0) = (l.drop i).any (fun x => s.toList == x.toList) := by
  induction d with
  | zero =>
    intro i k hi hk
    obtain ⟨k, rfl⟩ : ∃ m, k = m + 1 := ⟨k - 1, by omega⟩
    refine ⟨-1, ?_, ?_⟩
    · simp only [slices_Index_string_string.l0]
      rw [if_neg (by omega)]
    · rw [List.drop_of_length_le (by omega)]
      rfl
  | succ d ih =>
    intro i k hi hk
    obtain ⟨k, rfl⟩ : ∃ m, k = m + 1 := ⟨k - 1, by omega⟩
    have hlt : i < l.length := by omega
    simp only [slices_Index_string_string.l0]
    rw [if_pos (by omega), if_pos (by omega), if_pos (by omega), rdOf_get _ _ _ hlt, List.drop_eq_getElem_cons hlt, List.any_cons]
    by_cases he : s.toList = l[i].toList
    · rw [if_pos he]
      refine ⟨i, rfl, ?_⟩
      rw [show (s.toList == l[i].toList) = true by simpa using he]
      simp
    · rw [if_neg he, show (s.toList == l[i].toList) = false by simpa using he, Bool.false_or, wrap_lt (n := (l.length : Int)) (by omega) (by omega) (by omega)]
      exact ih (i + 1) k (by omega) (by omega)
theorem contains_eq (l : List ByteArray) (s : ByteArray) (hn : l.length ≤ 9223372036854775807) (k : Nat) (hk : l.length < k) : slices_Contains_string_string.f k l s = some (memB l s) := by
  obtain ⟨r, hr, hd⟩ := index_any l s hn l.length 0 k (by omega) hk
  unfold slices_Contains_string_string.f slices_Index_string_string.f
  have hr' : _ = some r := hr
  simp only [Int.natCast_zero, Int.ofNat_eq_natCast, Int.cast_ofNat_Int] at hr'
  rw [hr', Option.bind_some, hd]
  rfl
abbrev hasOn_p (a : ByteArray) (b : Int) (x : S39) : Bool := a.toList == x.f0.toList && (b == x.f1)
def hasOn (l : List (S39)) (a : ByteArray) (b : Int) : Bool := l.any (hasOn_p a b)
theorem hasOn_any (l : List (S39)) (a : ByteArray) (b : Int) (hn : l.length ≤ 9223372036854775807) (d : Nat) : ∀ (i k : Nat), i + d = l.length → d < k → ∃ r, api_On_81.l0 k l l.length i a b = some r ∧ decide (r ≥ 0) = (l.drop i).any (hasOn_p a b) := by
  induction d with
  | zero =>
    intro i k hi hk
    obtain ⟨k, rfl⟩ : ∃ m, k = m + 1 := ⟨k - 1, by omega⟩
    refine ⟨-1, ?_, ?_⟩
    · simp only [api_On_81.l0]
      rw [if_neg (by omega)]
    · rw [List.drop_of_length_le (by omega)]
      rfl
  | succ d ih =>
    intro i k hi hk
    obtain ⟨k, rfl⟩ : ∃ m, k = m + 1 := ⟨k - 1, by omega⟩
    have hlt : i < l.length := by omega
    have hrd : rd_T39 l (i : Int) = l[i] := by simp [rd_T39, List.getD_eq_getElem?_getD, List.getElem?_eq_getElem hlt]
    simp only [api_On_81.l0]
    rw [if_pos (by omega), if_pos (by omega), if_pos (by omega), hrd, List.drop_eq_getElem_cons hlt, List.any_cons]
    cases he : hasOn_p a b l[i] with
    | true =>
      rw [if_pos he]
      exact ⟨i, rfl, by simp⟩
    | false =>
      rw [if_neg (show ¬ (hasOn_p a b l[i]) = true by rw [he]; simp), Bool.false_or, wrap_lt (n := (l.length : Int)) (by omega) (by omega) (by omega)]
      exact ih (i + 1) k (by omega) (by omega)
theorem hasOn_eq (l : List (S39)) (a : ByteArray) (b : Int) (hn : l.length ≤ 9223372036854775807) (k : Nat) (hk : l.length < k) : api_On_77.f k l a b = some (hasOn l a b) := by
  obtain ⟨r, hr, hd⟩ := hasOn_any l a b hn l.length 0 k (by omega) hk
  unfold api_On_77.f api_On_81.f
  have hr' : _ = some r := hr
  simp only [Int.natCast_zero, Int.ofNat_eq_natCast, Int.cast_ofNat_Int] at hr'
  rw [hr', Option.bind_some, hd]
  rfl
def placeI (l : List (S32)) (id : ByteArray) : Int := fidx (model_Place.p id) l
theorem fidx_lt {α : Type} (p : α → Bool) (l : List α) : fidx p l < l.length := by
  unfold fidx
  cases h : l.findIdx? p with
  | none => show (-1 : Int) < _; omega
  | some i =>
    obtain ⟨hi, _⟩ := List.findIdx?_eq_some_iff_getElem.1 h
    show (i : Int) < _
    omega
theorem placeI_lt (l : List (S32)) (id : ByteArray) : placeI l id < l.length := fidx_lt _ _
def onB (l : List (S32)) (a : ByteArray) (b : Int) : Bool := if 0 ≤ placeI l a then legalB (rd_T32 l (placeI l a)).f1 b else false
theorem isOn_eq (fs : List ByteArray) (l : List (S32)) (a : ByteArray) (b : Int) : model_isOn.f 2 fs l a b = some (onB l a b) := by
  unfold model_isOn.f onB model_Place.f
  rw [show fidx (model_Place.p a) l = placeI l a from rfl, Option.bind_some]
  by_cases h : 0 ≤ placeI l a
  · rw [if_pos h, if_pos h, if_pos (placeI_lt l a), legal_eq, if_pos h]
    rfl
  · rw [if_neg h, if_neg h]
def opsL : List ByteArray := [(⟨#[60]⟩ : ByteArray), (⟨#[60, 61]⟩ : ByteArray), (⟨#[61]⟩ : ByteArray), (⟨#[33, 61]⟩ : ByteArray), (⟨#[62, 61]⟩ : ByteArray), (⟨#[62]⟩ : ByteArray)]
def ifB (fs : List ByteArray) (file op : ByteArray) (n : Int) : Bool := memB opsL op && (memB fs file && decide (-1000000 ≤ n ∧ n ≤ 1000000))
theorem isIf_eq (fs : List ByteArray) (l : List (S32)) (a b : ByteArray) (c : Int) (hn : fs.length ≤ 9223372036854775807) (k : Nat) (hk : fs.length < k) (hk6 : 6 < k) : model_isIf.f k fs l a b c = some (ifB fs a b c) := by
  unfold model_isIf.f ifB
  rw [show ([(⟨#[60]⟩ : ByteArray), (⟨#[60, 61]⟩ : ByteArray), (⟨#[61]⟩ : ByteArray), (⟨#[33, 61]⟩ : ByteArray), (⟨#[62, 61]⟩ : ByteArray), (⟨#[62]⟩ : ByteArray)] : List ByteArray) = opsL by rfl, contains_eq opsL b (by decide) k hk6, contains_eq fs a hn k hk, Option.bind_some, Option.bind_some]
  cases memB opsL b <;> cases memB fs a <;> simp
  by_cases h : c ≥ -1000000 <;> by_cases h2 : c ≤ 1000000 <;> simp [h, h2] <;> omega

end Go.Proofs.Ytchellnfenekaaa.Pm
