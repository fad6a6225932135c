/- The law PackUnlike: for every input the call answers true, and the input reads as it did. No condition. (Walks and laws of several texts, merged, and what is not used struck, by a program.) -/
import Derived.Lib.Hide
import Derived.Test.YtaiglhfmmdajdaaMPackUnlike1
import Derived.Test.YtaiglhfmmdajdaaMPackUnlike4
import Derived.Test.YtaiglhfmmdajdaaMPackUnlike0
import Derived.Lib.AppendStr
import Derived.Lib.SliceRun
import Derived.Laws.Strings
import Derived.Test.YtaiglhfmmdajdaaMPackUnlike3
import Derived.Test.YtaiglhfmmdajdaaMPackUnlike2
import Derived.Lib.EndianBits
import Derived.Lib.RabinKarpLaws
import Derived.Lib.Varint
import Derived.Below
import Derived.ChangeOld
import Derived.ChangeSlices
import Derived.OpenShut
import Derived.ProofKit
import Derived.ShutString
import Derived.SizedLaws
import Derived.Test.YtaiglhfmmdajdaaRows
import Derived.WalkKit
section
namespace Go.Proofs.Ytaiglhfmmdajdaa.Pm
open Go.RowKit Go.Proofs.YtaiglhfmmdajdaaW.PrintWords Go.Proofs.YtaiglhfmmdajdaaW.PrintLast Go.Proofs.YtaiglhfmmdajdaaW.PrintMore
attribute [local go_sem] max2_int min2_int max_two min_two max_three min_three max_four min_four   -- for this text's walks alone
set_option linter.unusedVariables false
set_option linter.unusedSimpArgs false
def St (w0 w wr : World) (g : Nat) (ok : Nat → Prop) (xs : List Int) : Prop := Wr wr g w0.heap.size ok xs ∧ Below w0.heap.size w0 wr ∧ Kept w wr (fun k => ok k ∨ k = g)
def Fx (w0 w : World) (g : Nat) (ok : Nat → Prop) : Prop := w0.heap.size ≤ g ∧ (∀ k, ok k → k ≠ g) ∧ (∀ k, w.heap.size ≤ k → ok k)
section
variable {w0 w wr w2 : World} {g b : Nat} {ok : Nat → Prop} {xs ys : List Int}
theorem St.refl (hW : Wr w g w0.heap.size ok xs) (hB : Below w0.heap.size w0 w) : St w0 w w g ok xs := ⟨hW, hB, Kept.refl _ _⟩
theorem St.below (s : St w0 w wr g ok xs) (hb : Below wr.heap.size wr w2) : St w0 w w2 g ok xs := ⟨s.1.below hb, below_then s.2.1 s.2.1.size hb, s.2.2.below hb⟩
theorem Fx.le (f : Fx w0 w g ok) (s : St w0 w wr g ok xs) : Fx w0 wr g ok := ⟨f.1, f.2.1, fun k hk => f.2.2 k (Nat.le_trans s.2.2.1 hk)⟩
theorem num_st (f : Fx w0 w g ok) (s : St w0 w wr g ok xs) (e : TypeId) (l : List Int) (hlim : xs.length + 10 * l.length ≤ 140737488000000) (hl : ∀ n ∈ l, n < 9223372036854775808) (b : Nat) (hb : b = wr.heap.size) (m : Nat) (hm : m = l.length) :
    Calls Try.prog 47 #[.pointer (some ⟨g, 0, none⟩), .slice (some ⟨b, 0, none⟩) m m] (wr.alloc (.cells (nums .i64 l).toArray e)) fun e w' => e = .returned (.tuple #[]) ∧ St w0 w w' g ok (xs ++ l.flatMap (numW 10)) :=
  (num_call w0 wr g ok xs s.2.1 f.1 f.2.1 (f.le s).2.2 s.1 e l hlim hl b hb m hm).mono fun e' w' h => ⟨h.1, h.2.1, h.2.2.1, s.2.2.then_ h.2.2.2 (fun k hk => .inl hk)⟩
theorem signed_st (f : Fx w0 w g ok) (s : St w0 w wr g ok xs) (x : Int) (hlim : xs.length + 10 ≤ 140737488000000) (hx : -1000000 ≤ x ∧ x ≤ 1000000) :
    Calls Try.prog 74 #[.pointer (some ⟨g, 0, none⟩), .int .i64 x] wr fun e w' => e = .returned (.tuple #[]) ∧ St w0 w w' g ok (xs ++ numW 10 (sgn x)) :=
  (signed_any w0 wr g ok xs x s.2.1 f.1 f.2.1 (f.le s).2.2 s.1 hlim hx).mono fun e' w' h => ⟨h.1, h.2.1, h.2.2.1, s.2.2.then_ h.2.2.2 (fun k hk => .inl hk)⟩
theorem Fx.box (f : Fx w0 w g ok) (s : St w0 w wr g ok xs) (o : Obj) (hb : b = wr.heap.size) : Fx w0 (wr.alloc o) g (fun k => ok k ∧ k ≠ b) := by
  have hsz : (wr.alloc o).heap.size = wr.heap.size + 1 := by simp
  exact ⟨f.1, fun k h => f.2.1 k h.1, fun k hk => ⟨(f.le s).2.2 k (by omega), by omega⟩⟩
theorem St.box (s : St w0 w wr g ok xs) (o : Obj) (hb : b = wr.heap.size) : St w0 (wr.alloc o) (wr.alloc o) g (fun k => ok k ∧ k ≠ b) xs :=
  St.refl ((s.1.apart b (by omega)).below (below_alloc (Below.refl _ _) o)) (below_then s.2.1 s.2.1.size (below_alloc (Below.refl _ _) o))
theorem St.back {o : Obj} (s : St w0 w wr g ok xs) (t : St w0 (wr.alloc o) w2 g (fun k => ok k ∧ k ≠ b) ys) : St w0 w w2 g ok ys :=
  ⟨t.1.mono (fun k h => h.1), t.2.1, (s.2.2.alloc o).then_ t.2.2 (fun k hk => .inl (hk.elim (fun h => .inl h.1) .inr))⟩
theorem St.stay {a : Addr} {v : Value} (s : St w0 w wr g ok xs) (hc : w.cell? a = some v) (h1 : ¬ ok a.block) (h2 : a.block ≠ g) : wr.cell? a = some v := cell_kept hc s.2.2 (fun h => h.elim h1 h2)
variable {P : Program} {md : Region.Mode} {ops : Array Oper} {Q : Exit → Act → World → Prop} {S : World → Prop} {ds : List Nat}
theorem onS_ {n m fuel : Nat} {oi : Oper} {a : Act} {w : World} (i : Nat) (N : Option Tmp)
    (h : ∀ K : Act → World → Prop, Shut (∀ a' w', S w' → (S w' → wpAnyLast P md ops Q S ds fuel (bits n (m ||| 1 <<< i)) a' w') → K a' w') → if Region.wanted oi (yielded ops a.tmps) = true then Oper.wp P oi a w K Q else K (a.put N undef) w)
    (hi : ops[i]? = some oi := by exact rfl) (hN : oi.dst = N := by exact rfl) (hc : readyB md ops (bits n m) (bits n (m ||| 1 <<< i)) i = true := by kernel_rfl) (hd : i ∉ ds := by decide) : wpAnyLast P md ops Q S ds (fuel + 1) (bits n m) a w :=
  one_ _ hi hN hc hd h
end
def idxI (l : List ByteArray) (s : ByteArray) : Int := fidx (fun x => s.toList == x.toList) l
def onW (items : List (S48)) (x : S103) : List Int := numW 10 (placeI items x.f0) ++ numW 10 x.f1
def ifW (fs : List ByteArray) (c : S50) : List Int := numW 10 (idxI fs c.f0) ++ numW 10 (idxI opsL c.f1) ++ numW 10 (sgn c.f2)
def sentW (fs : List ByteArray) (items : List (S48)) (s : S54) : List Int := numW 10 s.f0.length ++ s.f0.flatMap (onW items) ++ numW 10 s.f1.length ++ s.f1.flatMap (ifW fs)
def sentsW (fs : List ByteArray) (items : List (S48)) (l : List (S54)) : List Int := numW 10 l.length ++ l.flatMap (sentW fs items)
def sOk (s : S54) : Prop := s.f0.length ≤ 3 ∧ s.f1.length ≤ 2 ∧ (∀ x ∈ s.f0, x.f1 < 9223372036854775808) ∧ ∀ c ∈ s.f1, -1000000 ≤ c.f2 ∧ c.f2 ≤ 1000000
theorem flat_le {α : Type} (f : α → List Int) (c : Nat) (l : List α) (h : ∀ x ∈ l, (f x).length ≤ c) : (l.flatMap f).length ≤ c * l.length := by
  induction l with
  | nil => simp
  | cons a l ih =>
    rw [List.flatMap_cons, List.length_append, List.length_cons, Nat.mul_succ]
    have h1 := h a (List.mem_cons_self ..)
    have h2 := ih (fun x hx => h x (List.mem_cons_of_mem _ hx))
    omega
theorem onW_le (items : List (S48)) (x : S103) : (onW items x).length ≤ 20 := by
  unfold onW
  rw [List.length_append]
  have := numW_length 10 (placeI items x.f0)
  have := numW_length 10 x.f1
  omega
theorem ifW_le (fs : List ByteArray) (c : S50) : (ifW fs c).length ≤ 30 := by
  unfold ifW
  rw [List.length_append, List.length_append]
  have := numW_length 10 (idxI fs c.f0)
  have := numW_length 10 (idxI opsL c.f1)
  have := numW_length 10 (sgn c.f2)
  omega
theorem sentW_le (fs : List ByteArray) (items : List (S48)) (s : S54) (h : sOk s) : (sentW fs items s).length ≤ 140 := by
  unfold sentW
  rw [List.length_append, List.length_append, List.length_append]
  have := numW_length 10 s.f0.length
  have := numW_length 10 s.f1.length
  have := flat_le (onW items) 20 s.f0 (fun x _ => onW_le items x)
  have := flat_le (ifW fs) 30 s.f1 (fun x _ => ifW_le fs x)
  have := h.1
  have := h.2.1
  omega
theorem take_flat {α : Type} (f : α → List Int) (l : List α) (i : Nat) (hi : i < l.length) : (l.take (i + 1)).flatMap f = (l.take i).flatMap f ++ f (l[i]) := by
  rw [List.take_add_one, List.getElem?_eq_getElem hi, List.flatMap_append]
  simp
theorem index_fidx (l : List ByteArray) (s : ByteArray) (hn : l.length ≤ 9223372036854775807) (d : Nat) : ∀ (i k : Nat), i + d = l.length → d < k → slices_Index_string_string.l0 k l s l.length i = some (match (l.drop i).findIdx? (fun x => s.toList == x.toList) with | some j => ((i + j : Nat) : Int) | none => -1) := by
  induction d with
  | zero =>
    intro i k hi hk
    obtain ⟨k, rfl⟩ : ∃ m, k = m + 1 := ⟨k - 1, by omega⟩
    simp only [slices_Index_string_string.l0]
    rw [if_neg (by omega), List.drop_of_length_le (by omega)]
    rfl
  | succ d ih =>
    intro i k hi hk
    obtain ⟨k, rfl⟩ : ∃ m, k = m + 1 := ⟨k - 1, by omega⟩
    have hlt : i < l.length := by omega
    simp only [slices_Index_string_string.l0]
    rw [if_pos (by omega), if_pos (by omega), if_pos (by omega), rdOf_get _ _ _ hlt, List.drop_eq_getElem_cons hlt, List.findIdx?_cons]
    by_cases he : s.toList = l[i].toList
    · rw [if_pos he]
      rw [show (s.toList == l[i].toList) = true by simpa using he]
      simp
    · rw [if_neg he, show (s.toList == l[i].toList) = false by simpa using he, wrap_lt (n := (l.length : Int)) (by omega) (by omega) (by omega)]
      have := ih (i + 1) k (by omega) (by omega)
      rw [show ((i : Int) + 1) = ((i + 1 : Nat) : Int) by omega, this]
      cases (List.drop (i + 1) l).findIdx? (fun x => s.toList == x.toList) with
      | none => rfl
      | some j => simp only [Option.map_some, Nat.add_assoc, Nat.add_comm 1 j]; rfl
theorem index_call (A : Option Addr) (c : Nat) (l : List ByteArray) (s : ByteArray) (w : World) (hr : Kd.C Kd.string w A l.length l) (hc : l.length ≤ c) :
    Calls Try.prog 69 #[.slice A l.length c, .string s] w fun e w' => e = .returned (.int .i64 (idxI l s)) ∧ Below w.heap.size w w' := by
  refine (slices_Index_string_string.calls (l.length + 1) A c l s (idxI l s) w hr hc ?_).mono fun e w' h => ⟨h.1, h.2.below⟩
  have := index_fidx l s hr.2.1 l.length 0 (l.length + 1) (by omega) (by omega)
  unfold slices_Index_string_string.f
  have e : ((0 : Nat) : Int) = 0 := rfl
  rw [e] at this
  rw [this]
  unfold idxI fidx
  rw [List.drop_zero]
  cases l.findIdx? (fun x => s.toList == x.toList) with
  | none => rfl
  | some j => simp
theorem ops_call (w : World) : Calls Try.prog 73 #[] w fun e w' => ∃ A c, e = .returned (.slice A 6 c) ∧ 6 ≤ c ∧ Kd.C Kd.string w' A 6 opsL ∧ Below w.heap.size w w' := by
  refine (pack_ops.calls opsL w rfl).mono fun e w' h => ?_
  obtain ⟨v, rfl, hR, hB⟩ := h
  obtain ⟨A, c, rfl, hl, hC⟩ := Kd.R_reads hR
  exact ⟨A, c, rfl, hl, hC, hB⟩
set_option maxHeartbeats 8000000 in
set_option maxRecDepth 100000 in
theorem sents_any (w0 w : World) (g : Nat) (ok : Nat → Prop) (xs : List Int) (A0 : Option Addr) (c0 : Nat) (fs : List ByteArray) (A1 : Option Addr) (c1 : Nat) (items : List (S48)) (A2 : Option Addr) (c2 : Nat) (l : List (S54))
    (F : Fx w0 w g ok) (s0 : St w0 w w g ok xs)
    (hr0 : Kd.C Kd.string w0 A0 fs.length fs) (hc0 : fs.length ≤ c0) (hr1 : Kd.C k48 w0 A1 items.length items) (hc1 : items.length ≤ c1) (hr2 : Kd.C k54 w0 A2 l.length l) (hc2 : l.length ≤ c2)
    (hl : l.length ≤ 3) (hs : ∀ s ∈ l, sOk s) (hlim : xs.length + 1000 ≤ 140737488000000) :
    Calls Try.prog 50 #[.pointer (some ⟨g, 0, none⟩), .agg #[.slice A0 fs.length c0, .slice A1 items.length c1], .slice A2 l.length c2] w fun e w' => e = .returned (.tuple #[]) ∧ St w0 w w' g ok (xs ++ sentsW fs items l) := by
  have hu25 := Try.underlying25
  have hu54 := Try.underlying54
  have hu103 := Try.underlying103
  have hu50 := Try.underlying50
  have F1 := Lib.hid (F.box (b := w.heap.size) s0 (.cells #[.slice A0 fs.length c0, .slice A1 items.length c1] 25) rfl)
  have s1 := s0.box (b := w.heap.size) (.cells #[.slice A0 fs.length c0, .slice A1 items.length c1] 25) rfl
  have HS0 := Lib.hid s0
  have HR := Lib.hid (And.intro hr0 (And.intro hr1 hr2))
  have HS := Lib.hid hs
  have hgl := s0.1.lt
  obtain ⟨n, hn⟩ : ∃ n, n = l.length := ⟨_, rfl⟩
  rw [← hn] at hl hc2 ⊢
  have HN := Lib.hid hn
  have HF := Lib.hid F
  clear s0 hr0 hr1 hr2 hs hn F
  go_enter Try.func50, Try.ntmps50
  go_wp2_with fail
  obtain ⟨W1, hW1⟩ : ∃ W1, W1 = w.alloc (.cells #[.slice A0 fs.length c0, .slice A1 items.length c1] 25) := ⟨_, rfl⟩
  have hb1 : W1.heap.size = w.heap.size + 1 := by rw [hW1]; simp
  have hm0 : W1.cell? ⟨w.heap.size, 0, none⟩ = some (.slice A0 fs.length c0) := by rw [hW1]; simp
  have hm1 : W1.cell? ⟨w.heap.size, 1, none⟩ = some (.slice A1 items.length c1) := by rw [hW1]; simp
  rw [← hW1] at F1 s1 ⊢
  have HW1 := Lib.hid hW1
  clear hW1
  have HM := Lib.hid (And.intro hm0 hm1)
  have HZ1 := Lib.hid hb1
  refine (num_st F1.out s1 3 [(n : Int)] (by simp; omega) (by simp; omega) (w.heap.size + 1) hb1.symm 1 rfl).mono ?_
  rintro e w2 ⟨rfl, s2⟩
  have HS2 := Lib.hid s2
  clear s1 s2 hb1 hm0 hm1
  go_wp2
  go_loopg [19] n (fun gg s19 wr => ∃ i : Nat, s19 = .int .i64 i ∧ i ≤ n ∧ n - i ≤ gg ∧ Hid (St w0 W1 wr g (fun k => ok k ∧ k ≠ w.heap.size) (xs ++ numW 10 n ++ (l.take i).flatMap (sentW fs items))))
  case atStart => exact ⟨0, rfl, Nat.zero_le _, by omega, Lib.hid (by simpa using HS2.out)⟩
  case round =>
    obtain ⟨i, rfl, hin, hig, X⟩ := hrel
    obtain ⟨wO, rfl⟩ : ∃ wO, wO = wr := ⟨_, rfl⟩
    by_cases hlt : i < n
    case neg =>
      have hltz : ¬ (i : Int) < (n : Int) := by omega
      obtain rfl : n = i := by omega
      go_wp2
      go_end0
      refine ⟨rfl, ?_⟩
      have h1 := X.out
      rw [HW1.out, show l.take n = l by rw [HN.out, List.take_length]] at h1
      have h2 := HS0.out.back h1
      unfold sentsW
      rw [← HN.out, ← List.append_assoc]
      exact h2
    have hltz : (i : Int) < (n : Int) := by omega
    obtain ⟨ad, B0, d0, B1, d1, e, hx0, hx1, hl0, hC0, hl1, hC1⟩ := at_T54 HR.out.2.2 (i : Int) (by omega) (by have := HN.out; omega)
    cases e
    simp only [Int.toNat_natCast] at hx0 hx1
    have hil : i < l.length := by have := HN.out; omega
    obtain ⟨s, hsx⟩ : ∃ s, s = rd_T54 l (i : Int) := ⟨_, rfl⟩
    have hsl : s = l[i] := by rw [hsx]; simp [rd_T54, List.getD_eq_getElem?_getD, List.getElem?_eq_getElem hil]
    rw [← hsx] at hx0 hx1 hC0 hC1 hl0 hl1
    have hsok : sOk s := by rw [hsl]; exact HS.out _ (List.getElem_mem _)
    have hnx := take_flat (sentW fs items) l i hil
    rw [← hsl] at hnx
    have hx0 := keepc X.out.2.1 hx0
    have hx1 := keepc X.out.2.1 hx1
    obtain ⟨ys, hys⟩ : ∃ ys, ys = xs ++ numW 10 n ++ (l.take i).flatMap (sentW fs items) := ⟨_, rfl⟩
    have hyl : ys.length + 500 ≤ 140737488000000 := by
      rw [hys, List.length_append, List.length_append]
      have h1 := numW_length 10 (n : Int)
      have h2 := flat_le (sentW fs items) 140 (l.take i) (fun x hx => sentW_le fs items x (HS.out x (List.mem_of_mem_take hx)))
      rw [List.length_take] at h2
      omega
    rw [← hys] at X
    have HYS := Lib.hid hys
    have HNX := Lib.hid hnx
    obtain ⟨n0, hn0⟩ : ∃ n0, n0 = s.f0.length := ⟨_, rfl⟩
    obtain ⟨n1, hn1⟩ : ∃ n1, n1 = s.f1.length := ⟨_, rfl⟩
    rw [← hn0] at hx0 hl0 hC0
    rw [← hn1] at hx1 hl1 hC1
    have hn03 : n0 ≤ 3 := by have := hsok.1; omega
    have hn12 : n1 ≤ 2 := by have := hsok.2.1; omega
    have HN0 := Lib.hid hn0
    have HN1 := Lib.hid hn1
    have HOK := Lib.hid hsok
    have HC0 := Lib.hid hC0
    have HC1 := Lib.hid hC1
    clear hys hnx hn0 hn1 hsok hC0 hC1 hsl hsx hil
    go_wp2_with fail
    clear hx0 hx1
    obtain ⟨W2, hW2⟩ : ∃ W2, W2 = wO.alloc (.cells #[.slice B0 n0 d0, .slice B1 n1 d1] 54) := ⟨_, rfl⟩
    have hwr1 : w.heap.size + 1 ≤ wO.heap.size := by have := X.out.2.2.1; have := HZ1.out; omega
    have hb2 : W2.heap.size = wO.heap.size + 1 := by rw [hW2]; simp
    have hs0 : W2.cell? ⟨wO.heap.size, 0, none⟩ = some (.slice B0 n0 d0) := by rw [hW2]; simp
    have hs1 : W2.cell? ⟨wO.heap.size, 1, none⟩ = some (.slice B1 n1 d1) := by rw [hW2]; simp
    have hgne : w.heap.size ≠ g := by omega
    have hm0 : W2.cell? ⟨w.heap.size, 0, none⟩ = some (.slice A0 fs.length c0) := by rw [hW2]; exact keepc (below_alloc (Below.refl _ _) _) (X.out.stay HM.out.1 (fun h => h.2 rfl) hgne)
    have hm1 : W2.cell? ⟨w.heap.size, 1, none⟩ = some (.slice A1 items.length c1) := by rw [hW2]; exact keepc (below_alloc (Below.refl _ _) _) (X.out.stay HM.out.2 (fun h => h.2 rfl) hgne)
    have F2 := F1.out.box (b := wO.heap.size) X.out (.cells #[.slice B0 n0 d0, .slice B1 n1 d1] 54) rfl
    have t2 := X.out.box (b := wO.heap.size) (.cells #[.slice B0 n0 d0, .slice B1 n1 d1] 54) rfl
    rw [← hW2] at F2 t2 ⊢
    have HW2 := Lib.hid hW2
    have HF2 := Lib.hid F2
    have HM2 := Lib.hid (And.intro hm0 (And.intro hm1 (And.intro hs0 hs1)))
    have HSZ := Lib.hid (And.intro hb2 hwr1)
    obtain ⟨ok2, hok2⟩ : ∃ ok2, ok2 = (fun k => (ok k ∧ k ≠ w.heap.size) ∧ k ≠ wO.heap.size) := ⟨_, rfl⟩
    rw [← hok2] at HF2 t2
    have hb2k : ∀ k, ok2 k → k ≠ w.heap.size ∧ k ≠ wO.heap.size := by rw [hok2]; exact fun k h => ⟨h.1.2, h.2⟩
    have HO2 := Lib.hid hok2
    have HK2 := Lib.hid hb2k
    clear hW2 F2 hm0 hm1 hs0 hs1 hok2 hb2k
    refine (num_st HF2.out t2 3 [(n0 : Int)] (by simp; omega) (by simp; omega) (wO.heap.size + 1) hb2.symm 1 rfl).mono ?_
    clear hb2
    rintro e w3 ⟨rfl, s3⟩
    have HS3 := Lib.hid s3
    clear s3 t2
    have hwg : wO.heap.size ≠ g := by have := HSZ.out.2; omega
    have hs0 := HS3.out.stay HM2.out.2.2.1 (fun h => (HK2.out _ h).2 rfl) hwg
    go_wp2
    clear hs0
    go_loopg [32] n0 (fun gg s32 wq => ∃ j : Nat, s32 = .int .i64 j ∧ j ≤ n0 ∧ n0 - j ≤ gg ∧ Hid (St w0 W2 wq g ok2 (ys ++ numW 10 n0 ++ (s.f0.take j).flatMap (onW items))))
    case atStart => exact ⟨0, rfl, Nat.zero_le _, by omega, Lib.hid (by simpa using HS3.out)⟩
    case round =>
      obtain ⟨j, rfl, hjn, hjg, Y⟩ := hrel
      obtain ⟨wq, rfl⟩ : ∃ wq, wq = wr := ⟨_, rfl⟩
      by_cases hlj : j < n0
      case pos =>
        have hltj : (j : Int) < (n0 : Int) := by omega
        obtain ⟨ao, e, hy0, hy1⟩ := at_T103 HC0.out (j : Int) (by omega) (by omega)
        cases e
        simp only [Int.toNat_natCast] at hy0 hy1
        have hjl : j < s.f0.length := by have := HN0.out; omega
        obtain ⟨x, hx⟩ : ∃ x, x = rd_T103 s.f0 (j : Int) := ⟨_, rfl⟩
        have hxl : x = s.f0[j] := by rw [hx]; simp [rd_T103, List.getD_eq_getElem?_getD, List.getElem?_eq_getElem hjl]
        rw [← hx] at hy0 hy1
        have hnx := take_flat (onW items) s.f0 j hjl
        rw [← hxl] at hnx
        have hx63 : x.f1 < 9223372036854775808 := by rw [hxl]; exact HOK.out.2.2.1 _ (List.getElem_mem _)
        have hy0 := keepc Y.out.2.1 hy0
        have hy1 := keepc Y.out.2.1 hy1
        have hs0 := Y.out.stay HM2.out.2.2.1 (fun h => (HK2.out _ h).2 rfl) hwg
        obtain ⟨zs, hzs⟩ : ∃ zs, zs = ys ++ numW 10 n0 ++ (s.f0.take j).flatMap (onW items) := ⟨_, rfl⟩
        have hzl : zs.length + 100 ≤ 140737488000000 := by
          rw [hzs, List.length_append, List.length_append]
          have h1 := numW_length 10 (n0 : Int)
          have h2 := flat_le (onW items) 20 (s.f0.take j) (fun x hx => onW_le items x)
          rw [List.length_take] at h2
          omega
        rw [← hzs] at Y
        have HZS := Lib.hid hzs
        have HNJ := Lib.hid hnx
        have HX63 := Lib.hid hx63
        have HZL := Lib.hid hzl
        clear hzs hnx hx hxl hjl hx63 hzl
        go_wp2
        clear hy0 hy1 hs0
        have hwq1 : W2.heap.size ≤ wq.heap.size := Y.out.2.2.1
        have hm0 := Y.out.stay HM2.out.1 (fun h => (HK2.out _ h).1 rfl) hgne
        have hm1 := Y.out.stay HM2.out.2.1 (fun h => (HK2.out _ h).1 rfl) hgne
        obtain ⟨W3, hW3⟩ : ∃ W3, W3 = wq.alloc (.cells #[.string x.f0, .int .i64 x.f1] 103) := ⟨_, rfl⟩
        have hb3 : W3.heap.size = wq.heap.size + 1 := by rw [hW3]; simp
        have hx0 : W3.cell? ⟨wq.heap.size, 0, none⟩ = some (.string x.f0) := by rw [hW3]; simp
        have hx1 : W3.cell? ⟨wq.heap.size, 1, none⟩ = some (.int .i64 x.f1) := by rw [hW3]; simp
        have hm0 := keepc (by rw [hW3]; exact below_alloc (Below.refl _ _) _ : Below wq.heap.size wq W3) hm0
        have hm1 := keepc (by rw [hW3]; exact below_alloc (Below.refl _ _) _ : Below wq.heap.size wq W3) hm1
        have F3 := (HF2.out.box (b := wq.heap.size) Y.out (.cells #[.string x.f0, .int .i64 x.f1] 103) rfl)
        have t3 := (Y.out.box (b := wq.heap.size) (.cells #[.string x.f0, .int .i64 x.f1] 103) rfl)
        rw [← hW3] at F3 t3 ⊢
        have HW3 := Lib.hid hW3
        have HF3 := Lib.hid F3
        have HB3 := Lib.hid hb3
        have HC3 := Lib.hid (And.intro hm0 (And.intro hm1 (And.intro hx0 hx1)))
        clear hW3 F3 hb3
        refine st_ (fun w' => w'.cell? ⟨w.heap.size, 0, none⟩ = some (.slice A0 fs.length c0) ∧ w'.cell? ⟨w.heap.size, 1, none⟩ = some (.slice A1 items.length c1) ∧ w'.cell? ⟨wq.heap.size, 0, none⟩ = some (.string x.f0) ∧ w'.cell? ⟨wq.heap.size, 1, none⟩ = some (.int .i64 x.f1)) 9 ⟨hm0, hm1, hx0, hx1⟩ (fun hHeld => ?_)
        clear hm0 hm1 hx0 hx1
        have t4 := t3.below (below_drew1 (Below.refl _ _))
        clear t3
        refine pu_ 0 (some 36) ?_
        refine tk_ 1 (some 37) hHeld ?_ (hy := by rintro w' ⟨s0, s1, s2, s3⟩; go_simp; with_reducible rfl)
        refine pu_ 2 (some 38) ?_
        refine tk_ 3 (some 39) hHeld ?_ (hy := by rintro w' ⟨s0, s1, s2, s3⟩; go_simp; with_reducible rfl)
        refine pu_ 5 (some 41) ?_
        refine tk_ 6 (some 42) hHeld ?_ (hy := by rintro w' ⟨s0, s1, s2, s3⟩; go_simp; with_reducible rfl)

        generalize W3.drew = wD at hHeld t4 ⊢
        refine ca_ 4 (some 40) Try.func48 #[.agg #[.slice A0 fs.length c0, .slice A1 items.length c1], .string x.f0] ?_
        refine (model_Place.calls A0 c0 fs A1 c1 items x.f0 (placeI items x.f0) wD (Kd.C_below HR.out.1 t4.2.1) hc0 (Kd.C_below HR.out.2.1 t4.2.1) hc1 rfl).mono ?_
        rintro e wP ⟨rfl, hbP⟩
        have t5 := t4.below hbP
        have hH5 : _ ∧ _ ∧ _ ∧ _ := ⟨keepc hbP hHeld.1, keepc hbP hHeld.2.1, keepc hbP hHeld.2.2.1, keepc hbP hHeld.2.2.2⟩
        clear hHeld t4
        refine ⟨_, rfl, hH5, fun _ => ⟨_, rfl, nz_ (some 40) ?_⟩⟩
        have hp63 : placeI items x.f0 < 9223372036854775808 := by have := placeI_lt items x.f0; have := HR.out.2.1.2.1; omega
        obtain ⟨p, hp⟩ : ∃ p, p = placeI items x.f0 := ⟨_, rfl⟩
        rw [← hp] at hp63 ⊢
        have HP := Lib.hid hp
        clear hp
        refine onS_ 7 (some 43) (fun K hK => ?_)
        go_simp
        refine hK.out _ _ ⟨keepc (below_alloc (Below.refl _ _) _) hH5.1, keepc (below_alloc (Below.refl _ _) _) hH5.2.1, keepc (below_alloc (Below.refl _ _) _) hH5.2.2.1, keepc (below_alloc (Below.refl _ _) _) hH5.2.2.2⟩ (fun _ => ?_)
        clear hK K
        have hnum := num_st HF3.out t5 3 [p, x.f1] (by have := HZL.out; simp; omega) (by have := HX63.out; simp; omega) wP.heap.size rfl 2 rfl
        refine ca_ 8 (some 44) Try.func47 #[.pointer (some ⟨g, 0, none⟩), .slice (some ⟨wP.heap.size, 0, none⟩) 2 2] ?_
        refine hnum.mono ?_
        rintro e w6 ⟨rfl, t6⟩
        have hqg : wq.heap.size ≠ g := by have := HSZ.out; omega
        refine ⟨_, rfl, ⟨t6.stay HC3.out.1 (fun h => (HK2.out _ h.1).1 rfl) hgne, t6.stay HC3.out.2.1 (fun h => (HK2.out _ h.1).1 rfl) hgne, t6.stay HC3.out.2.2.1 (fun h => h.2 rfl) hqg, t6.stay HC3.out.2.2.2 (fun h => h.2 rfl) hqg⟩, fun _ => ⟨_, rfl, nz_ (some 44) ?_⟩⟩
        refine dn_ ?_
        have HT := Lib.hid (Y.out.back (HW3.out ▸ t6))
        clear t5 t6 hH5 hnum hp63
        go_wp2
        go_roundg (n0 - (j + 1))
        case measure => omega
        case rel => exact ⟨j + 1, by go_num, by omega, by omega, Lib.hid (by rw [HNJ.out, ← List.append_assoc, ← HZS.out]; simpa [onW, HP.out] using HT.out)⟩
      have hltj : ¬ (j : Int) < (n0 : Int) := by omega
      obtain rfl : n0 = j := by omega
      have hs1 := Y.out.stay HM2.out.2.2.2 (fun h => (HK2.out _ h).2 rfl) hwg
      have hY := Y.out
      rw [show s.f0.take n0 = s.f0 by rw [HN0.out, List.take_length]] at hY
      obtain ⟨us, hus⟩ : ∃ us, us = ys ++ numW 10 n0 ++ s.f0.flatMap (onW items) := ⟨_, rfl⟩
      have hul : us.length + 200 ≤ 140737488000000 := by
        rw [hus, List.length_append, List.length_append]
        have h1 := numW_length 10 (n0 : Int)
        have h2 := flat_le (onW items) 20 s.f0 (fun x hx => onW_le items x)
        have := HN0.out
        omega
      rw [← hus] at hY
      have HUS := Lib.hid hus
      have HY := Lib.hid hY
      have HUL := Lib.hid hul
      clear hus hY hul Y
      go_wp2_with fail
      clear hs1
      refine (num_st HF2.out HY.out 3 [(n1 : Int)] (by have := HUL.out; simp; omega) (by simp; omega) wq.heap.size rfl 1 rfl).mono ?_
      rintro e w4 ⟨rfl, s4⟩
      have HS4 := Lib.hid s4
      clear s4 HY
      have hs1 := HS4.out.stay HM2.out.2.2.2 (fun h => (HK2.out _ h).2 rfl) hwg
      go_wp2
      clear hs1
      go_loopg [55] n1 (fun gg s55 wr => ∃ j : Nat, s55 = .int .i64 j ∧ j ≤ n1 ∧ n1 - j ≤ gg ∧ Hid (St w0 W2 wr g ok2 (us ++ numW 10 n1 ++ (s.f1.take j).flatMap (ifW fs))))
      case atStart => exact ⟨0, rfl, Nat.zero_le _, by omega, Lib.hid (by simpa using HS4.out)⟩
      case round =>
        obtain ⟨j, rfl, hjn, hjg, Y⟩ := hrel
        obtain ⟨wz, rfl⟩ : ∃ wz, wz = wr := ⟨_, rfl⟩
        by_cases hlk : j < n1
        case neg =>
          have hltj : ¬ (j : Int) < (n1 : Int) := by omega
          obtain rfl : n1 = j := by omega
          have hY := Y.out
          rw [show s.f1.take n1 = s.f1 by rw [HN1.out, List.take_length]] at hY
          have HT : Hid (St w0 W1 wz g (fun k => ok k ∧ k ≠ w.heap.size) (xs ++ numW 10 n ++ (l.take (i + 1)).flatMap (sentW fs items))) := Lib.hid (by
            rw [HO2.out, HW2.out] at hY
            have h2 := X.out.back hY
            rw [HNX.out, ← List.append_assoc, ← HYS.out]
            unfold sentW
            rw [← HN0.out, ← HN1.out, ← List.append_assoc, ← List.append_assoc, ← List.append_assoc, ← HUS.out]
            exact h2)
          clear hY
          go_wp2
          go_roundg (n - (i + 1))
          case measure => omega
          case rel => exact ⟨i + 1, by go_num, by omega, by omega, HT⟩
        have hltj : (j : Int) < (n1 : Int) := by omega
        obtain ⟨ao, e, hy0, hy1, hy2⟩ := at_T50 HC1.out (j : Int) (by omega) (by omega)
        cases e
        simp only [Int.toNat_natCast] at hy0 hy1 hy2
        have hjl : j < s.f1.length := by have := HN1.out; omega
        obtain ⟨x, hx⟩ : ∃ x, x = rd_T50 s.f1 (j : Int) := ⟨_, rfl⟩
        have hxl : x = s.f1[j] := by rw [hx]; simp [rd_T50, List.getD_eq_getElem?_getD, List.getElem?_eq_getElem hjl]
        rw [← hx] at hy0 hy1 hy2
        have hnx := take_flat (ifW fs) s.f1 j hjl
        rw [← hxl] at hnx
        have hxm : -1000000 ≤ x.f2 ∧ x.f2 ≤ 1000000 := by rw [hxl]; exact HOK.out.2.2.2 _ (List.getElem_mem _)
        have hy0 := keepc Y.out.2.1 hy0
        have hy1 := keepc Y.out.2.1 hy1
        have hy2 := keepc Y.out.2.1 hy2
        obtain ⟨zs, hzs⟩ : ∃ zs, zs = us ++ numW 10 n1 ++ (s.f1.take j).flatMap (ifW fs) := ⟨_, rfl⟩
        have hzl : zs.length + 100 ≤ 140737488000000 := by
          rw [hzs, List.length_append, List.length_append]
          have h1 := numW_length 10 (n1 : Int)
          have h2 := flat_le (ifW fs) 30 (s.f1.take j) (fun x hx => ifW_le fs x)
          rw [List.length_take] at h2
          have := HUL.out
          omega
        rw [← hzs] at Y
        have HZS := Lib.hid hzs
        have HNJ := Lib.hid hnx
        have HXM := Lib.hid hxm
        have HZL := Lib.hid hzl
        clear hzs hnx hx hxl hjl hxm hzl
        go_wp2
        clear hy0 hy1 hy2
        have hwq1 : W2.heap.size ≤ wz.heap.size := Y.out.2.2.1
        have hm0 := Y.out.stay HM2.out.1 (fun h => (HK2.out _ h).1 rfl) hgne
        obtain ⟨W3, hW3⟩ : ∃ W3, W3 = wz.alloc (.cells #[.string x.f0, .string x.f1, .int .i64 x.f2] 50) := ⟨_, rfl⟩
        have hb3 : W3.heap.size = wz.heap.size + 1 := by rw [hW3]; simp
        have hx0 : W3.cell? ⟨wz.heap.size, 0, none⟩ = some (.string x.f0) := by rw [hW3]; simp
        have hx1 : W3.cell? ⟨wz.heap.size, 1, none⟩ = some (.string x.f1) := by rw [hW3]; simp
        have hx2 : W3.cell? ⟨wz.heap.size, 2, none⟩ = some (.int .i64 x.f2) := by rw [hW3]; simp
        have hm0 := keepc (by rw [hW3]; exact below_alloc (Below.refl _ _) _ : Below wz.heap.size wz W3) hm0
        have F3 := (HF2.out.box (b := wz.heap.size) Y.out (.cells #[.string x.f0, .string x.f1, .int .i64 x.f2] 50) rfl)
        have t3 := (Y.out.box (b := wz.heap.size) (.cells #[.string x.f0, .string x.f1, .int .i64 x.f2] 50) rfl)
        rw [← hW3] at F3 t3 ⊢
        have HW3 := Lib.hid hW3
        have HF3 := Lib.hid F3
        have HB3 := Lib.hid hb3
        have HC3 := Lib.hid (And.intro hm0 (And.intro hx0 (And.intro hx1 hx2)))
        clear hW3 F3 hb3
        refine st_ (fun w' => w'.cell? ⟨w.heap.size, 0, none⟩ = some (.slice A0 fs.length c0) ∧ w'.cell? ⟨wz.heap.size, 0, none⟩ = some (.string x.f0) ∧ w'.cell? ⟨wz.heap.size, 1, none⟩ = some (.string x.f1) ∧ w'.cell? ⟨wz.heap.size, 2, none⟩ = some (.int .i64 x.f2)) 12 ⟨hm0, hx0, hx1, hx2⟩ (fun hHeld => ?_)
        clear hm0 hx0 hx1 hx2
        have t4 := t3.below (below_drew1 (Below.refl _ _))
        clear t3
        refine pu_ 0 (some 59) ?_
        refine pu_ 1 (some 60) ?_
        refine tk_ 2 (some 61) hHeld ?_ (hy := by rintro w' ⟨s0, s1, s2, s3⟩; go_simp; with_reducible rfl)
        refine pu_ 3 (some 62) ?_
        refine tk_ 4 (some 63) hHeld ?_ (hy := by rintro w' ⟨s0, s1, s2, s3⟩; go_simp; with_reducible rfl)
        refine pu_ 7 (some 66) ?_
        refine tk_ 8 (some 67) hHeld ?_ (hy := by rintro w' ⟨s0, s1, s2, s3⟩; go_simp; with_reducible rfl)
        generalize W3.drew = wD at hHeld t4 ⊢
        refine ca_ 5 (some 64) Try.func69 #[.slice A0 fs.length c0, .string x.f0] ?_
        refine (index_call A0 c0 fs x.f0 wD (Kd.C_below HR.out.1 t4.2.1) hc0).mono ?_
        rintro e wP ⟨rfl, hbP⟩
        have t5 := t4.below hbP
        have hH5 : _ ∧ _ ∧ _ ∧ _ := ⟨keepc hbP hHeld.1, keepc hbP hHeld.2.1, keepc hbP hHeld.2.2.1, keepc hbP hHeld.2.2.2⟩
        clear hHeld t4
        refine ⟨_, rfl, hH5, fun _ => ⟨_, rfl, nz_ (some 64) ?_⟩⟩
        refine ca_ 6 (some 65) Try.func73 #[] ?_
        refine (ops_call wP).mono ?_
        rintro e wQ ⟨Ao, co, rfl, hco, hCo, hbQ⟩
        have t6 := t5.below hbQ
        have hH6 : _ ∧ _ ∧ _ ∧ _ := ⟨keepc hbQ hH5.1, keepc hbQ hH5.2.1, keepc hbQ hH5.2.2.1, keepc hbQ hH5.2.2.2⟩
        clear hH5 t5
        refine ⟨_, rfl, hH6, fun _ => ⟨_, rfl, nz_ (some 65) ?_⟩⟩
        refine ca_ 9 (some 68) Try.func69 #[.slice Ao 6 co, .string x.f1] ?_
        refine (index_call Ao co opsL x.f1 wQ hCo hco).mono ?_
        rintro e wR ⟨rfl, hbR⟩
        have t7 := t6.below hbR
        have hH7 : _ ∧ _ ∧ _ ∧ _ := ⟨keepc hbR hH6.1, keepc hbR hH6.2.1, keepc hbR hH6.2.2.1, keepc hbR hH6.2.2.2⟩
        clear hH6 t6
        refine ⟨_, rfl, hH7, fun _ => ⟨_, rfl, nz_ (some 68) ?_⟩⟩
        have hp63 : idxI fs x.f0 < 9223372036854775808 := by have : idxI fs x.f0 < fs.length := fidx_lt _ _; have := HR.out.1.2.1; omega
        have hq63 : idxI opsL x.f1 < 9223372036854775808 := by have : idxI opsL x.f1 < opsL.length := fidx_lt _ _; have : opsL.length = 6 := rfl; omega
        obtain ⟨p, hp⟩ : ∃ p, p = idxI fs x.f0 := ⟨_, rfl⟩
        obtain ⟨q, hq⟩ : ∃ q, q = idxI opsL x.f1 := ⟨_, rfl⟩
        rw [← hp] at hp63 ⊢
        rw [← hq] at hq63 ⊢
        have HP := Lib.hid hp
        have HQ := Lib.hid hq
        clear hp hq
        refine onS_ 10 (some 69) (fun K hK => ?_)
        go_simp
        refine hK.out _ _ ⟨keepc (below_alloc (Below.refl _ _) _) hH7.1, keepc (below_alloc (Below.refl _ _) _) hH7.2.1, keepc (below_alloc (Below.refl _ _) _) hH7.2.2.1, keepc (below_alloc (Below.refl _ _) _) hH7.2.2.2⟩ (fun _ => ?_)
        clear hK K
        have hnum := num_st HF3.out t7 3 [p, q] (by have := HZL.out; simp; omega) (by simp; omega) wR.heap.size rfl 2 rfl
        refine ca_ 11 (some 70) Try.func47 #[.pointer (some ⟨g, 0, none⟩), .slice (some ⟨wR.heap.size, 0, none⟩) 2 2] ?_
        refine hnum.mono ?_
        rintro e w8 ⟨rfl, t8⟩
        have hqg : wz.heap.size ≠ g := by have := HSZ.out; omega
        refine ⟨_, rfl, ⟨t8.stay HC3.out.1 (fun h => (HK2.out _ h.1).1 rfl) hgne, t8.stay HC3.out.2.1 (fun h => h.2 rfl) hqg, t8.stay HC3.out.2.2.1 (fun h => h.2 rfl) hqg, t8.stay HC3.out.2.2.2 (fun h => h.2 rfl) hqg⟩, fun _ => ⟨_, rfl, nz_ (some 70) ?_⟩⟩
        refine dn_ ?_
        have hx2 := t8.stay HC3.out.2.2.2 (fun h => h.2 rfl) hqg
        have HT8 := Lib.hid t8
        clear t7 t8 hH7 hnum hp63 hq63 hCo hco
        go_wp2_with fail
        clear hx2
        refine (signed_st HF3.out HT8.out x.f2 (by have := HZL.out; have := numW_length 10 p; have := numW_length 10 q; simp; omega) HXM.out).mono ?_
        rintro e w9 ⟨rfl, t9⟩
        have HT := Lib.hid (Y.out.back (HW3.out ▸ t9))
        clear t9
        go_wp2
        go_roundg (n1 - (j + 1))
        case measure => omega
        case rel => exact ⟨j + 1, by go_num, by omega, by omega, Lib.hid (by rw [HNJ.out, ← List.append_assoc, ← HZS.out]; simpa [ifW, HP.out, HQ.out] using HT.out)⟩
end Go.Proofs.Ytaiglhfmmdajdaa.Pm
end
section
namespace Go.Proofs.Ytaiglhfmmdajdaa.Pm
open Go.RowKit Go.Proofs.YtaiglhfmmdajdaaW.PrintWords Go.Proofs.YtaiglhfmmdajdaaW.PrintLast Go.Proofs.YtaiglhfmmdajdaaW.PrintMore
attribute [local go_sem] max2_int min2_int max_two min_two max_three min_three max_four min_four   -- for this text's walks alone
set_option linter.unusedVariables false
set_option linter.unusedSimpArgs false
theorem R_void {α : Type} (d : Kd α) (e base : Nat) (w : World) (ok : Nat → Prop) (hok : ok w.heap.size) (hb : base ≤ w.heap.size) : d.R e (w.alloc (.cells #[] e)) base ok (.slice (some ⟨w.heap.size, 0, none⟩) 0 0) [] := by
  refine ⟨fun k hk => ?_, [], ?_, ⟨by simp, fun j p hj => by simp at hj⟩⟩
  · have : w.heap.size = k := by simpa [Value.ownBlock] using hk
    subst this
    exact hok
  · have h2 := World.ownsRow_lit (base := base) (e := e) (size := d.sz) w #[] 0 hb (by simp [maxLen]) (by simp)
    simpa using h2
theorem strCells_encs (s : ByteArray) : Lib.strCells s = encs (Value.int .u8) (bytesOf s) := by
  unfold Lib.strCells encs bytesOf
  rw [List.map_map]
  rfl
theorem bytesOf_length (s : ByteArray) : (bytesOf s).length = s.size := by
  unfold bytesOf
  rw [List.length_map, Array.length_toList]
  rfl
theorem own_str_run {P : Program} (w : World) (base : Nat) (t u ty e : TypeId) (i : TypeInfo) (ht : P.underlying t = some (.slice e)) (hu : P.underlying u = some .string) (hi : P.info? e = some i) (hz : i.zero = some (.int .u8 0)) (hsize : i.size = 1) (hby : i.bytes = 1)
    (v : Value) (n : Nat) (xs : List Value) (hown : w.ownsRow base e 1 v n xs) (s : ByteArray) (hbytes : n + s.size ≤ 140737488355328) (hbase : base ≤ w.heap.size) :
    ∃ v' w', (Builtin.append_ #[t, u] ty #[v, .string s]).run P w = .ok v' w' ∧ w'.ownsRow base e 1 v' (n + s.size) (xs ++ Lib.strCells s) ∧ w.grownBy w' v.ownBlock ∧ (v'.ownBlock = v.ownBlock ∨ ∃ b, v'.ownBlock = some b ∧ w.heap.size ≤ b) := by
  obtain ⟨v', w', hr, h2, h3, h4⟩ := Lib.run_append_own_string (P := P) w base t u ty e i ht hu hi hz hsize hby v n xs hown s (by simp [maxLen]; omega) hbytes hbase
  refine ⟨v', w', hr, h2, h3, ?_⟩
  rcases hown.2 with ⟨rfl, rfl⟩ | ⟨g, cap, cur, rfl, hbg, hg, hnc, hcm, hcs, htake⟩
  · by_cases hm : s.size = 0
    · rw [h4.2 ⟨rfl, hm⟩]
      exact .inl rfl
    · have hr' := run_append_nil_string (P := P) w t u ty e i (.int .u8 0) ht hu hi hz s (by omega) (by omega) (by rw [hby]; omega)
      rw [hr'] at hr
      simp only [Result.ok.injEq] at hr
      obtain ⟨rfl, -⟩ := hr
      exact .inr ⟨_, rfl, Nat.le_refl _⟩
  · by_cases hroom : n + s.size ≤ cap
    · have hr' := Lib.run_append_room_string (P := P) w t u ty e i ht hu hi hsize g n cap cur hg s hroom (by omega)
      rw [hr'] at hr
      simp only [Result.ok.injEq] at hr
      obtain ⟨rfl, -⟩ := hr
      exact .inl rfl
    · have hxl : xs.length = n := by simpa using hown.1
      have hr' := Lib.run_append_grow_string (P := P) w t u ty e i (.int .u8 0) ht hu hi hz ⟨g, 0, none⟩ n cap xs (by rw [hsize]; simpa using hxl) (hown.cells (g := g) rfl) s (by omega) (by omega) (by rw [hby]; exact growslice_fits (by omega) (by omega))
      rw [hr'] at hr
      simp only [Result.ok.injEq] at hr
      obtain ⟨rfl, -⟩ := hr
      exact .inr ⟨_, rfl, Nat.le_refl _⟩
/-- append(v, s...), s a text. -/
theorem append_str {ops : Array Oper} {Q : Exit → Act → World → Prop} {rest : List Oper} {o : Oper} {a : Act} {w0 W : World} (base : Nat) (hgd : o.guard = none) (s x : Operand)
    (ho : o.op = .call { callee := .builtin .append, args := #[s, x], argTypes := #[26, 9] })
    (v : Value) (xs : List Int) (z : ByteArray) (ok : Nat → Prop) (hs : a.eval s = v) (hx : a.eval x = .string z) (hfresh : ∀ k, W.heap.size ≤ k → ok k)
    (HO : Kd.R (Kd.int .u8) 5 W base ok v xs) (HB : Below base w0 W) (hbase : base ≤ W.heap.size) (hl : xs.length + z.size ≤ 140737488355328)
    (h : ∀ v1 w1, Kd.R (Kd.int .u8) 5 w1 base ok v1 (xs ++ bytesOf z) → Below base w0 w1 → W.grownBy w1 v.ownBlock → (v1.ownBlock = v.ownBlock ∨ ∃ b, v1.ownBlock = some b ∧ W.heap.size ≤ b) → wpList Try.prog ops Q rest (a.put o.dst v1) w1) :
    wpList Try.prog ops Q (o :: rest) a W := by
  obtain ⟨i0, hi0, hz0, hz1, hz2⟩ := info_parts info5
  obtain ⟨v1, w1, hr, h2, h3, h4⟩ := own_str_run (P := Try.prog) W base 26 9 o.type 5 i0 Try.underlying26 Try.underlying9 hi0 hz0 hz1 hz2 v xs.length _ (Kd.own_of_R HO) z hl hbase
  refine wpList_plain hgd fun K hK => ?_
  unfold Oper.wp execOp
  simp only [ho, resolve, invoke, builtin, Sem.run_bind, Sem.run_pure, Result.andThen_ok, List.map_toArray, List.map_cons, List.map_nil, hs, hx, hr]
  refine hK _ _ (h v1 w1 (Kd.R_of_own ?_ ?_) (HB.grown h3 hbase (Kd.R_base HO)) h3 h4)
  · rw [List.length_append, bytesOf_length]
    have e : encs (Value.int .u8) (xs ++ bytesOf z) = encs (Value.int .u8) xs ++ Lib.strCells z := by rw [strCells_encs]; unfold encs; rw [List.map_append]
    rw [e]
    exact h2
  · intro k hk
    rcases h4 with h4 | ⟨b, hb, hle⟩
    · exact HO.1 k (h4 ▸ hk)
    · rw [hb] at hk
      cases hk
      exact hfresh _ hle
set_option maxHeartbeats 2000000 in
set_option maxRecDepth 100000 in
theorem clone_call (w : World) (A : Option Addr) (c : Nat) (l : List ByteArray) (hr : Kd.C Kd.string w A l.length l) (hc : l.length ≤ c) (hl : l.length * 16 ≤ 140737488355328) :
    Calls Try.prog 46 #[.slice A l.length c] w fun e w' => ∃ v, e = .returned v ∧ Kd.R Kd.string 9 w' w.heap.size (fun _ => True) v l ∧ Below w.heap.size w w' := by
  cases A with
  | none =>
    have h0 : l = [] := by
      rcases l with _ | ⟨a, l⟩
      · rfl
      · obtain ⟨ad, e, _⟩ := hr.2.2 (by simp)
        cases e
    subst h0
    clear hr
    have hz : ∀ W, (binOp .eql 22 (.slice none 0 c) (.slice none 0 0)).run Try.prog W = .ok (.bool true) W := fun W => Lib.run_eql_slice_nil W 22 9 none 0 c 0 0 Try.underlying22
    go_enter Try.func46, Try.ntmps46
    go_wp2
    go_ret
    exact ⟨_, rfl, Kd.R_nil _ _ _ _ _, Below.refl _ _⟩
  | some ad =>
    have HR := Lib.hid hr
    obtain ⟨n, hn⟩ : ∃ n, n = l.length := ⟨_, rfl⟩
    have HN := Lib.hid hn
    rw [← hn] at hc hl ⊢
    clear hr hn
    have hz : ∀ W, (binOp .eql 22 (.slice (some ad) n c) (.slice none 0 0)).run Try.prog W = .ok (.bool false) W := fun W => Lib.run_eql_slice_nil W 22 9 (some ad) n c 0 0 Try.underlying22
    go_enter Try.func46, Try.ntmps46
    go_wp2_with (first | ((with_reducible refine gate_builtin (b := .append) (xs := #[.tmp 5, .tmp 6]) rfl ?_); at_builtin; refine Kd.R_append_rows Kd.string (w0 := w) w.heap.size rfl (.tmp 5) (.tmp 6) 22 9 (.string ⟨#[]⟩) 16 rfl Try.underlying22 info9 rfl (by decide) (by omega) (.slice (some ⟨w.heap.size, 0, none⟩) 0 0) [] l _ _ _ (fun _ => True) (fun _ => False) rfl rfl (R_void Kd.string 9 w.heap.size w _ trivial (Nat.le_refl _)) (HN.out ▸ Kd.C_alloc HR.out _) (fun _ _ h => h) (fun _ h => h.elim) (fun _ _ => trivial) (below_alloc (Below.refl _ _) _) (below_alloc (Below.refl _ _) _).size (by simpa using hl) ?_; intro v2 w2 hR2 hB2 hg1 hg2; clear hg1 hg2))
    go_ret
    exact ⟨_, rfl, by simpa using hR2, hB2⟩
set_option maxHeartbeats 2000000 in
set_option maxRecDepth 100000 in
theorem grow_call (w : World) (n : Nat) (h0 : 0 < n) (hl : n ≤ 140737488355328) :
    Calls Try.prog 51 #[.slice none 0 0, .int .i64 n] w fun e w' => ∃ v, e = .returned v ∧ Kd.R (Kd.int .u8) 5 w' w.heap.size (fun _ => True) v [] ∧ Below w.heap.size w w' := by
  have h1 : ¬ (n : Int) < 0 := by omega
  have h2 : (n : Int) > 0 := by omega
  go_enter Try.func51, Try.ntmps51
  go_wp2_with (first | ((with_reducible refine gate_builtin (b := .append) (xs := #[.tmp 20, .tmp 21]) rfl ?_); at_builtin; refine Kd.R_append_zeros (Kd.int .u8) (w0 := w) w.heap.size rfl (.tmp 20) (.tmp 21) 26 3 5 (.int .u8 0) 1 rfl Try.underlying26 Try.underlying3 info5 rfl (by decide) (by omega) (.slice none 0 0) [] (0 : Int) n (fun _ => True) rfl rfl rfl (fun _ _ => trivial) (Kd.R_nil _ _ _ _ _) (by omega) (Below.refl _ _) (Nat.le_refl _) (by simpa using hl) ?_; intro v1 w1 hR1 hB1 hg1 hg2; clear hg1 hg2; obtain ⟨A1, c1, rfl⟩ := Kd.R_slice hR1; have hRT := Kd.R_take hR1 (Nat.zero_le _)))
  go_ret
  exact ⟨_, rfl, by simpa using hRT, hB1⟩
def totN (f : Nat → Nat) : Nat → Nat
  | 0 => 0
  | i + 1 => totN f i + f i
def catL (bs : Nat → List Int) : Nat → List Int
  | 0 => []
  | i + 1 => catL bs i ++ bs i
theorem catL_length (bs : Nat → List Int) (i : Nat) : (catL bs i).length = totN (fun k => (bs k).length) i := by
  induction i with
  | zero => rfl
  | succ i ih => simp only [catL, totN, List.length_append, ih]
theorem totN_le (f : Nat → Nat) {i j : Nat} (h : i ≤ j) : totN f i ≤ totN f j := by
  induction j with
  | zero => obtain rfl : i = 0 := by omega
            exact Nat.le_refl _
  | succ j ih =>
    rcases Nat.lt_or_ge j i with h' | h'
    · obtain rfl : i = j + 1 := by omega
      exact Nat.le_refl _
    · have := ih h'
      simp only [totN]
      omega
set_option maxHeartbeats 4000000 in
set_option maxRecDepth 100000 in
theorem concat_call (w : World) (rw_ : Addr) (m : Nat) (A : Nat → Option Addr) (c : Nat → Nat) (bs : Nat → List Int)
    (hcell : ∀ i, i < m → w.cell? (rw_.add i) = some (.slice (A i) (bs i).length (c i))) (hC : ∀ i, i < m → Kd.C (Kd.int .u8) w (A i) (bs i).length (bs i)) (hm : m ≤ 1000) (h0 : 0 < totN (fun k => (bs k).length) m) (hl : totN (fun k => (bs k).length) m ≤ 140737488355328) :
    Calls Try.prog 26 #[.slice (some rw_) m m] w fun e w' => ∃ v, e = .returned v ∧ Kd.R (Kd.int .u8) 5 w' w.heap.size (fun _ => True) v (catL bs m) ∧ Below w.heap.size w w' := by
  have HC := Lib.hid hC
  have HCell := Lib.hid hcell
  clear hC hcell
  go_enter Try.func26, Try.ntmps26
  go_wp2
  go_loopg [3, 11] m (fun gg s3 s11 wr => ∃ i : Nat, s3 = .int .i64 (totN (fun k => (bs k).length) i : Nat) ∧ s11 = .int .i64 i ∧ i ≤ m ∧ m - i ≤ gg ∧ wr = w)
  case atStart => exact ⟨0, rfl, rfl, Nat.zero_le _, by omega, rfl⟩
  case round =>
    obtain ⟨i, rfl, rfl, him, hig, rfl⟩ := hrel
    obtain ⟨w0_, rfl⟩ : ∃ w0_, w0_ = wr := ⟨_, rfl⟩
    by_cases hlt : i < m
    case pos =>
      have hltz : (i : Int) < (m : Int) := by omega
      have hx0 := HCell.out i hlt
      have hle := totN_le (fun k => (bs k).length) (show i + 1 ≤ m by omega)
      have hsum : totN (fun k => (bs k).length) (i + 1) = totN (fun k => (bs k).length) i + (bs i).length := rfl
      obtain ⟨n, hn⟩ : ∃ n, n = (bs i).length := ⟨_, rfl⟩
      obtain ⟨t, ht⟩ : ∃ t, t = totN (fun k => (bs k).length) i := ⟨_, rfl⟩
      rw [← hn] at hx0 hsum
      rw [← ht] at hsum ⊢
      have HS := Lib.hid hsum
      have htn : t + n ≤ 140737488355328 := by omega
      have hneg : ¬ (t : Int) + (n : Int) < 0 := by omega
      have hw : wrap64 ((t : Int) + (n : Int)) = (t : Int) + (n : Int) := by unfold wrap64; omega
      clear hn ht hle hsum
      go_wp2
      go_roundg (m - (i + 1))
      case measure => omega
      case rel => exact ⟨i + 1, by rw [HS.out]; go_num, by go_num, by omega, by omega, rfl⟩
    have hltz : ¬ (i : Int) < (m : Int) := by omega
    obtain rfl : m = i := by omega
    obtain ⟨t, ht⟩ : ∃ t, t = totN (fun k => (bs k).length) m := ⟨_, rfl⟩
    rw [← ht] at h0 hl ⊢
    have HT := Lib.hid ht
    clear ht
    go_wp2_with fail
    refine (grow_call w0_ t h0 hl).mono ?_
    rintro e w1 ⟨v1, rfl, hR1, hB1⟩
    have HR1 := Lib.hid hR1
    have HB1 := Lib.hid hB1
    clear hR1 hB1
    go_wp2
    go_loopg [6, 27] m (fun gg s6 s27 wq => ∃ i : Nat, s27 = .int .i64 i ∧ i ≤ m ∧ m - i ≤ gg ∧ Hid (Kd.R (Kd.int .u8) 5 wq w0_.heap.size (fun _ => True) s6 (catL bs i) ∧ Below w0_.heap.size w0_ wq))
    case atStart => exact ⟨0, rfl, Nat.zero_le _, by omega, Lib.hid ⟨HR1.out, HB1.out⟩⟩
    case round =>
      obtain ⟨i, rfl, hin, hjg, Y⟩ := hrel
      obtain ⟨wz, rfl⟩ : ∃ wz, wz = wr := ⟨_, rfl⟩
      obtain ⟨hR, hB⟩ := Y.out
      obtain ⟨Av, cv, rfl⟩ := Kd.R_slice hR
      by_cases hlk : i < m
      case neg =>
        have hltj : ¬ (i : Int) < (m : Int) := by omega
        obtain rfl : m = i := by omega
        have HR := Lib.hid hR
        have HB := Lib.hid hB
        clear hR hB Y
        go_wp2
        go_ret
        exact ⟨_, rfl, HR.out, HB.out⟩
      have hltj : (i : Int) < (m : Int) := by omega
      have hx0 := keepc hB (HCell.out i hlk)
      have hle := totN_le (fun k => (bs k).length) (show i + 1 ≤ m by omega)
      have hsum : totN (fun k => (bs k).length) (i + 1) = totN (fun k => (bs k).length) i + (bs i).length := rfl
      have hcl := catL_length bs i
      have hCi := Kd.C_below (HC.out i hlk) hB
      obtain ⟨n, hn⟩ : ∃ n, n = (bs i).length := ⟨_, rfl⟩
      obtain ⟨lv, hlv⟩ : ∃ lv, lv = (catL bs i).length := ⟨_, rfl⟩
      rw [← hn] at hx0 hsum hCi
      have hfit : ((catL bs i).length + n) * 1 ≤ 140737488355328 := by have := HT.out; omega
      rw [← hlv] at hR ⊢
      have HR := Lib.hid hR
      have HB := Lib.hid hB
      have HCI := Lib.hid hCi
      have HFIT := Lib.hid hfit
      clear hR hB Y hn hle hsum hcl hlv hCi hfit
      go_wp2_with (first | ((with_reducible refine gate_builtin (b := .append) (xs := #[.tmp 31, .tmp 32]) rfl ?_); at_builtin; refine Kd.R_append_rows (Kd.int .u8) (w0 := w0_) w0_.heap.size rfl (.tmp 31) (.tmp 32) 26 5 (.int .u8 0) 1 rfl Try.underlying26 info5 rfl (by decide) (by omega) (.slice Av lv cv) (catL bs i) (bs i) _ _ _ (fun _ => True) (fun _ => False) rfl rfl HR.out HCI.out (fun _ _ h => h) (fun _ h => h.elim) (fun _ _ => trivial) HB.out HB.out.size HFIT.out ?_; intro v2 w2 hR2 hB2 hg1 hg2; clear hg1 hg2; have HR2 := Lib.hid hR2; have HB2 := Lib.hid hB2; clear hR2 hB2))
      go_roundg (m - (i + 1))
      case measure => omega
      case rel => exact ⟨i + 1, by go_num, by omega, by omega, Lib.hid ⟨HR2.out, HB2.out⟩⟩
end Go.Proofs.Ytaiglhfmmdajdaa.Pm
end
section
namespace Go.Proofs.Ytaiglhfmmdajdaa.Pm
open Go.RowKit Go.Proofs.YtaiglhfmmdajdaaW.PrintWords Go.Proofs.YtaiglhfmmdajdaaW.PrintLast Go.Proofs.YtaiglhfmmdajdaaW.PrintMore
attribute [local go_sem] max2_int min2_int max_two min_two max_three min_three max_four min_four   -- for this text's walks alone
set_option linter.unusedVariables false
set_option linter.unusedSimpArgs false
def pack_truth.f (a0 : Bool) : Option (Int) := if a0 = true then (some 1) else (some 0)
set_option maxHeartbeats 8000000 in
set_option maxRecDepth 100000 in
theorem pack_truth.calls (a0 : Bool) (r : Int) (w : World) (h : pack_truth.f a0 = some r) :
  Calls Try.prog 49 #[.bool a0] w fun e w' => e = .returned (.int .i64 r) ∧ Drawn0 w w' := by
 have H : (if a0 = true then (some 1) else (some 0)) = some r := h
 clear h
 by_cases c2 : a0 = true
 ·subst c2
  have H1 : (some 1) = some r := by rw [if_pos rfl] at H; exact H
  clear H
  have H := H1
  clear H1
  obtain rfl := Option.some.inj H
  go_enter Try.func49, Try.ntmps49
  go_wp2
  go_ret
  exact ⟨by first | rfl | (simp; done) | (simp [*]; done), by repeat (first | exact Drawn0.refl _ | apply Drawn0.step)⟩
 ·replace c2 := Bool.eq_false_iff.mpr c2
  subst c2
  have H1 : (some 0) = some r := by rw [if_neg (show ¬ (false = true) by decide)] at H; exact H
  clear H
  have H := H1
  clear H1
  obtain rfl := Option.some.inj H
  go_enter Try.func49, Try.ntmps49
  go_wp2
  go_ret
  exact ⟨by first | rfl | (simp; done) | (simp [*]; done), by repeat (first | exact Drawn0.refl _ | apply Drawn0.step)⟩
end Go.Proofs.Ytaiglhfmmdajdaa.Pm
end
section
namespace Go.Proofs.Ytaiglhfmmdajdaa.Pm
open Go.RowKit Go.Proofs.YtaiglhfmmdajdaaW.PrintWords Go.Proofs.YtaiglhfmmdajdaaW.PrintLast Go.Proofs.YtaiglhfmmdajdaaW.PrintMore
attribute [local go_sem] max2_int min2_int max_two min_two max_three min_three max_four min_four   -- for this text's walks alone
set_option linter.unusedVariables false
set_option linter.unusedSimpArgs false
theorem sents_st {w0 w wr : World} {g : Nat} {ok : Nat → Prop} {xs : List Int} (A0 : Option Addr) (c0 : Nat) (fs : List ByteArray) (A1 : Option Addr) (c1 : Nat) (items : List (S48)) (A2 : Option Addr) (c2 : Nat) (l : List (S54))
    (F : Fx w0 w g ok) (s : St w0 w wr g ok xs)
    (hr0 : Kd.C Kd.string w0 A0 fs.length fs) (hc0 : fs.length ≤ c0) (hr1 : Kd.C k48 w0 A1 items.length items) (hc1 : items.length ≤ c1) (hr2 : Kd.C k54 w0 A2 l.length l) (hc2 : l.length ≤ c2)
    (hl : l.length ≤ 3) (hs : ∀ s ∈ l, sOk s) (hlim : xs.length + 1000 ≤ 140737488000000) :
    Calls Try.prog 50 #[.pointer (some ⟨g, 0, none⟩), .agg #[.slice A0 fs.length c0, .slice A1 items.length c1], .slice A2 l.length c2] wr fun e w' => e = .returned (.tuple #[]) ∧ St w0 w w' g ok (xs ++ sentsW fs items l) :=
  (sents_any w0 wr g ok xs A0 c0 fs A1 c1 items A2 c2 l (F.le s) (St.refl s.1 s.2.1) hr0 hc0 hr1 hc1 hr2 hc2 hl hs hlim).mono fun e' w' h => ⟨h.1, h.2.1, h.2.2.1, s.2.2.then_ h.2.2.2 (fun k hk => .inl hk)⟩
theorem alloc_sz (w : World) (o : Obj) : (w.alloc o).heap.size = w.heap.size + 1 := by simp
def textW (s : ByteArray) : List Int := numW 10 s.size ++ bytesOf s
def itemW (fs : List ByteArray) (items : List (S48)) (x : S48) : List Int := numW 10 x.f1 ++ numW 10 (placeI items x.f2 + 1) ++ numW 10 (if x.f3 = true then 1 else 0) ++ numW 10 x.f4 ++ sentsW fs items x.f5 ++ sentsW fs items x.f6
def textsOf (fs : List ByteArray) (items : List (S48)) : List ByteArray := fs ++ items.map (fun x => x.f0)
def modelW (fs : List ByteArray) (items : List (S48)) : List Int := numW 10 (textsOf fs items).length ++ (textsOf fs items).flatMap textW ++ numW 10 fs.length ++ items.flatMap (itemW fs items)
def iOk (x : S48) : Prop := x.f0.size ≤ 1000 ∧ x.f1 < 9223372036854775808 ∧ x.f4 < 9223372036854775808 ∧ (x.f5.length ≤ 3 ∧ ∀ s ∈ x.f5, sOk s) ∧ x.f6.length ≤ 3 ∧ ∀ s ∈ x.f6, sOk s
def MOk (fs : List ByteArray) (items : List (S48)) : Prop := fs.length ≤ 6 ∧ items.length ≤ 16 ∧ (∀ s ∈ fs, s.size ≤ 1000) ∧ ∀ x ∈ items, iOk x
theorem sentsW_le (fs : List ByteArray) (items : List (S48)) (l : List (S54)) (hl : l.length ≤ 3) (hs : ∀ s ∈ l, sOk s) : (sentsW fs items l).length ≤ 430 := by
  unfold sentsW
  rw [List.length_append]
  have := numW_length 10 l.length
  have := flat_le (sentW fs items) 140 l (fun x hx => sentW_le fs items x (hs x hx))
  omega
theorem itemW_le (fs : List ByteArray) (items : List (S48)) (x : S48) (h : iOk x) : (itemW fs items x).length ≤ 900 := by
  unfold itemW
  simp only [List.length_append]
  have := numW_length 10 x.f1
  have := numW_length 10 (placeI items x.f2 + 1)
  have := numW_length 10 (if x.f3 = true then 1 else 0)
  have := numW_length 10 x.f4
  have := sentsW_le fs items x.f5 h.2.2.2.1.1 h.2.2.2.1.2
  have := sentsW_le fs items x.f6 h.2.2.2.2.1 h.2.2.2.2.2
  omega
theorem textW_le (s : ByteArray) (h : s.size ≤ 1000) : (textW s).length ≤ 1010 := by
  unfold textW
  rw [List.length_append, bytesOf_length]
  have := numW_length 10 s.size
  omega
theorem texts_size {fs : List ByteArray} {items : List (S48)} (h : MOk fs items) : (∀ s ∈ textsOf fs items, s.size ≤ 1000) ∧ (textsOf fs items).length = fs.length + items.length := by
  unfold textsOf
  refine ⟨fun s hs => ?_, by rw [List.length_append, List.length_map]⟩
  rcases List.mem_append.1 hs with hs | hs
  · exact h.2.2.1 s hs
  · obtain ⟨x, hx, rfl⟩ := List.mem_map.1 hs
    exact (h.2.2.2 x hx).1
theorem fidx_ge {α : Type} (p : α → Bool) (l : List α) : -1 ≤ fidx p l := by
  unfold fidx
  cases l.findIdx? p with
  | none => show (-1 : Int) ≤ -1; omega
  | some i => show (-1 : Int) ≤ (i : Int); omega
theorem truth_call (b : Bool) (w : World) : Calls Try.prog 49 #[.bool b] w fun e w' => e = .returned (.int .i64 (if b = true then 1 else 0)) ∧ Below w.heap.size w w' :=
  (pack_truth.calls b _ w (by unfold pack_truth.f; cases b <;> rfl)).mono fun e w' h => ⟨h.1, h.2.below⟩
set_option maxHeartbeats 8000000 in
set_option maxRecDepth 100000 in
theorem model_any (w0 w : World) (g : Nat) (ok : Nat → Prop) (xs : List Int) (A0 : Option Addr) (c0 : Nat) (fs : List ByteArray) (A1 : Option Addr) (c1 : Nat) (items : List (S48))
    (F : Fx w0 w g ok) (s0 : St w0 w w g ok xs)
    (hr0 : Kd.C Kd.string w0 A0 fs.length fs) (hc0 : fs.length ≤ c0) (hr1 : Kd.C k48 w0 A1 items.length items) (hc1 : items.length ≤ c1)
    (hm : MOk fs items) (hlim : xs.length + 1000000 ≤ 140737488000000) :
    Calls Try.prog 25 #[.pointer (some ⟨g, 0, none⟩), .agg #[.slice A0 fs.length c0, .slice A1 items.length c1]] w fun e w' => e = .returned (.tuple #[]) ∧ St w0 w w' g ok (xs ++ modelW fs items) := by
  have hu25 := Try.underlying25
  have hu48 := Try.underlying48
  have hu58 := Try.underlying58
  have HS0 := Lib.hid s0
  have HR := Lib.hid (And.intro hr0 hr1)
  have hfl := hm.1
  have hil := hm.2.1
  have HMO := Lib.hid hm
  have hgl := s0.1.lt
  have HF := Lib.hid F
  clear s0 hr0 hr1 hm F
  go_enter Try.func25, Try.ntmps25
  go_wp2_with fail
  obtain ⟨W1, hW1⟩ : ∃ W1, W1 = w.alloc (.cells #[.slice A0 fs.length c0, .slice A1 items.length c1] 25) := ⟨_, rfl⟩
  have hb1 : W1.heap.size = w.heap.size + 1 := by rw [hW1]; simp
  have hbw : Below w.heap.size w W1 := by rw [hW1]; exact below_alloc (Below.refl _ _) _
  have hm0 : W1.cell? ⟨w.heap.size, 0, none⟩ = some (.slice A0 fs.length c0) := by rw [hW1]; simp
  have hm1 : W1.cell? ⟨w.heap.size, 1, none⟩ = some (.slice A1 items.length c1) := by rw [hW1]; simp
  rw [← hW1]
  have HBW1 := Lib.hid (below_then HS0.out.2.1 HS0.out.2.1.size hbw)
  have HBW := Lib.hid hbw
  clear hW1 hbw
  have HM := Lib.hid (And.intro hm0 hm1)
  have HZ1 := Lib.hid hb1
  clear hb1
  refine (clone_call W1 A0 c0 fs (Kd.C_below HR.out.1 HBW1.out) hc0 (by omega)).mono ?_
  rintro e w2 ⟨v2, rfl, hR2, hB2⟩
  have HR2 := Lib.hid hR2
  have HB2 := Lib.hid hB2
  have hm0 := keepc hB2 hm0
  have hm1 := keepc hB2 hm1
  clear hR2 hB2
  go_wp2
  clear hm0 hm1
  go_loopg [4, 17] items.length (fun gg s4 s17 wr => ∃ i : Nat, s17 = .int .i64 i ∧ i ≤ items.length ∧ items.length - i ≤ gg ∧ Hid (Kd.R Kd.string 9 wr W1.heap.size (fun _ => True) s4 (fs ++ (items.take i).map (fun x => x.f0)) ∧ Below W1.heap.size W1 wr))
  case atStart => exact ⟨0, rfl, Nat.zero_le _, by omega, Lib.hid ⟨by simpa using HR2.out, HB2.out⟩⟩
  case round =>
    obtain ⟨i, rfl, hin, hig, X⟩ := hrel
    obtain ⟨wO, rfl⟩ : ∃ wO, wO = wr := ⟨_, rfl⟩
    obtain ⟨hR, hB⟩ := X.out
    obtain ⟨Av, cv, rfl⟩ := Kd.R_slice hR
    by_cases hlt : i < items.length
    case pos =>
      have hltz : (i : Int) < (items.length : Int) := by omega
      obtain ⟨ad, B5, d5, B6, d6, e, hx0, hx1, hx2, hx3, hx4, hx5, hx6, -⟩ := at_T48 HR.out.2 (i : Int) (by omega) (by omega)
      cases e
      simp only [Int.toNat_natCast] at hx0 hx1 hx2 hx3 hx4 hx5 hx6
      obtain ⟨x, hx⟩ : ∃ x, x = rd_T48 items (i : Int) := ⟨_, rfl⟩
      have hxl : x = items[i] := by rw [hx]; simp [rd_T48, List.getD_eq_getElem?_getD, List.getElem?_eq_getElem hlt]
      rw [← hx] at hx0 hx1 hx2 hx3 hx4 hx5 hx6
      have hnx : (items.take (i + 1)).map (fun x => x.f0) = (items.take i).map (fun x => x.f0) ++ [x.f0] := by
        rw [List.take_add_one, List.getElem?_eq_getElem hlt, List.map_append, hxl]; rfl
      have HBX := Lib.hid (below_then HBW1.out HBW1.out.size hB)
      have hx0 := keepc HBX.out hx0
      have hx1 := keepc HBX.out hx1
      have hx2 := keepc HBX.out hx2
      have hx3 := keepc HBX.out hx3
      have hx4 := keepc HBX.out hx4
      have hx5 := keepc HBX.out hx5
      have hx6 := keepc HBX.out hx6
      obtain ⟨l0, hl0⟩ : ∃ l0, l0 = fs ++ (items.take i).map (fun x => x.f0) := ⟨_, rfl⟩
      have hfit : (l0.length + 1) * 16 ≤ 140737488355328 := by
        rw [hl0, List.length_append, List.length_map, List.length_take]
        omega
      rw [← hl0] at hR ⊢
      have HL0 := Lib.hid hl0
      have HNX := Lib.hid hnx
      have HFIT := Lib.hid hfit
      have HRr := Lib.hid (Kd.R_alloc hR (.cells #[.string x.f0, .int .i64 x.f1, .string x.f2, .bool x.f3, .int .i64 x.f4, .slice B5 x.f5.length d5, .slice B6 x.f6.length d6] 48))
      have HBr := Lib.hid (below_alloc hB (.cells #[.string x.f0, .int .i64 x.f1, .string x.f2, .bool x.f3, .int .i64 x.f4, .slice B5 x.f5.length d5, .slice B6 x.f6.length d6] 48))
      clear hl0 hnx hfit hR hB hx hxl X
      go_wp2_with (first | ((with_reducible refine gate_builtin (b := .append) (xs := #[.tmp 21, .tmp 24]) rfl ?_); at_builtin; refine Kd.R_append Kd.string (w0 := W1) W1.heap.size rfl (.tmp 21) (.tmp 24) 22 9 (.string ⟨#[]⟩) 16 rfl Try.underlying22 info9 rfl (by decide) (by omega) (.slice Av l0.length cv) l0 x.f0 [.string x.f0] (fun _ => True) (fun _ => False) rfl (by rw [alloc_sz]; rfl) rfl (fun _ h => h.elim) (fun _ _ => trivial) HRr.out HBr.out HBr.out.size HFIT.out ?_; intro v1 w1 hR1 hB1 hgr hat; clear hgr hat; have HR1 := Lib.hid hR1; have HB1 := Lib.hid hB1; clear hR1 hB1))
      go_roundg (items.length - (i + 1))
      case measure => omega
      case rel => exact ⟨i + 1, by go_num, by omega, by omega, Lib.hid ⟨by rw [HNX.out, ← List.append_assoc, ← HL0.out]; exact HR1.out, HB1.out⟩⟩
    have hltz : ¬ (i : Int) < (items.length : Int) := by omega
    obtain rfl : i = items.length := by omega
    rw [List.take_length] at hR
    change Kd.R Kd.string 9 wO W1.heap.size (fun _ => True) _ (textsOf fs items) at hR
    obtain ⟨hts, htl⟩ := texts_size HMO.out
    obtain ⟨T, hT⟩ : ∃ T, T = textsOf fs items := ⟨_, rfl⟩
    have hlen : (fs ++ (items.take items.length).map (fun x => x.f0)).length = T.length := by rw [hT, List.take_length]; rfl
    rw [hlen]
    rw [← hT] at hR hts htl
    have hT22 : T.length ≤ 22 := by omega
    clear htl
    have hTb := Kd.R_base hR
    have hTl := Kd.R_lt hR
    have hTC := (Kd.R_reads' hR).2.2
    obtain ⟨bT, hbT⟩ : ∃ bT, (w.heap.size ≤ bT ∧ bT < wO.heap.size ∧ ∀ ad, Av = some ad → ad.block = bT) := by
      cases Av with
      | none => exact ⟨w.heap.size, Nat.le_refl _, by have := hB.size; have := HZ1.out; omega, fun ad e => by cases e⟩
      | some ad => exact ⟨ad.block, by have := hTb ad.block (by simp [Value.ownBlock]); have := HZ1.out; omega, hTl ad.block (by simp [Value.ownBlock]), fun ad' e => by cases e; rfl⟩
    have hBO : Below w0.heap.size w0 wO := below_then HBW1.out HBW1.out.size hB
    have hBwO : Below w.heap.size w wO := below_then HBW.out HBW.out.size hB
    obtain ⟨ok2, hok2⟩ : ∃ ok2 : Nat → Prop, ok2 = (fun k => (ok k ∧ k ≠ w.heap.size) ∧ k ≠ bT) := ⟨_, rfl⟩
    have hb2k : ∀ k, ok2 k → ok k ∧ k ≠ w.heap.size ∧ k ≠ bT := by rw [hok2]; exact fun k h => ⟨h.1.1, h.1.2, h.2⟩
    have F2 : Fx w0 wO g ok2 := ⟨HF.out.1, fun k hk => HF.out.2.1 k (hb2k k hk).1, fun k hk => by rw [hok2]; exact ⟨⟨HF.out.2.2 k (by have := hBwO.size; omega), by have := hB.size; have := HZ1.out; omega⟩, by have := hbT.2.1; omega⟩⟩
    have t2 : St w0 wO wO g ok2 xs := by
      refine St.refl ?_ hBO
      rw [hok2]
      have h1 := HS0.out.1.apart w.heap.size (Nat.le_refl _)
      exact (h1.apart bT hbT.1).below hBwO
    have hback : ∀ w' ys, St w0 wO w' g ok2 ys → St w0 w w' g ok ys := fun w' ys s => ⟨s.1.mono (fun k h => (hb2k k h).1), s.2.1, (Kept.of_below hBwO _).then_ s.2.2 (fun k hk => hk.elim (fun h => .inl (.inl (hb2k k h).1)) (fun h => .inl (.inr h)))⟩
    have hm0 := keepc hB HM.out.1
    have hm1 := keepc hB HM.out.2
    have HF2 := Lib.hid F2
    have HBT := Lib.hid hbT
    have HBACK := Lib.hid hback
    have HK2 := Lib.hid hb2k
    have HMT := Lib.hid (And.intro hm0 hm1)
    have HTS := Lib.hid hts
    have HTE := Lib.hid hT
    have HTC := Lib.hid hTC
    have HOS := Lib.hid hBwO.size
    clear hR hlen hTb hTl hTC hbT hBO hBwO hok2 hb2k F2 hback hm0 hm1 hts hT X
    go_wp2_with fail
    refine (num_st HF2.out t2 3 [(T.length : Int)] (by simp; omega) (by simp; omega) wO.heap.size rfl 1 rfl).mono ?_
    rintro e w3 ⟨rfl, s3⟩
    have HS3 := Lib.hid s3
    clear s3 t2
    go_wp2
    go_loopg [34] T.length (fun gg s34 wr => ∃ i : Nat, s34 = .int .i64 i ∧ i ≤ T.length ∧ T.length - i ≤ gg ∧ Hid (St w0 wO wr g ok2 (xs ++ numW 10 T.length ++ (T.take i).flatMap textW)))
    case atStart => exact ⟨0, rfl, Nat.zero_le _, by omega, Lib.hid (by simpa using HS3.out)⟩
    case round =>
      obtain ⟨i, rfl, hin, hig, X⟩ := hrel
      obtain ⟨wq, rfl⟩ : ∃ wq, wq = wr := ⟨_, rfl⟩
      by_cases hlt : i < T.length
      case pos =>
        have hltz : (i : Int) < (T.length : Int) := by omega
        have hCr : Kd.C Kd.string wq Av T.length T := C_stay HTC.out (fun ad e => X.out.2.2.2 _ (by rw [HBT.out.2.2 ad e]; exact HBT.out.2.1) (fun h => h.elim (fun h => (HK2.out _ h).2.2 (HBT.out.2.2 ad e)) (fun h => by have := HBT.out.2.2 ad e; have := HBT.out.1; omega)))
        obtain ⟨ad, e, hx0⟩ := Kd.at_string hCr (i : Int) (by omega) (by omega)
        cases e
        simp only [Int.toNat_natCast] at hx0
        obtain ⟨z, hz⟩ : ∃ z, z = rdOf ByteArray.empty T (i : Int) := ⟨_, rfl⟩
        have hzl : z = T[i] := by rw [hz, rdOf_get _ _ _ hlt]
        rw [← hz] at hx0
        have hzs : z.size ≤ 1000 := by rw [hzl]; exact HTS.out _ (List.getElem_mem _)
        have hnx := take_flat textW T i hlt
        rw [← hzl] at hnx
        obtain ⟨pre, hpre⟩ : ∃ p, p = xs ++ numW 10 T.length ++ (T.take i).flatMap textW := ⟨_, rfl⟩
        have hpl : pre.length + 100000 ≤ 140737488000000 := by
          rw [hpre, List.length_append, List.length_append]
          have h1 := numW_length 10 T.length
          have h2 := flat_le textW 1010 (T.take i) (fun x hx => textW_le x (HTS.out x (List.mem_of_mem_take hx)))
          rw [List.length_take] at h2
          omega
        rw [← hpre] at X
        have HPRE := Lib.hid hpre
        have HNX := Lib.hid hnx
        have HPL := Lib.hid hpl
        have HZS := Lib.hid hzs
        clear hpre hnx hpl hzs hz hzl hCr
        go_wp2_with fail
        clear hx0
        refine (num_st HF2.out X.out 3 [(z.size : Int)] (by have := HPL.out; simp; omega) (by have := HZS.out; simp; omega) wq.heap.size rfl 1 rfl).mono ?_
        rintro e w4 ⟨rfl, s4⟩
        obtain ⟨v, hg, hR⟩ := s4.1
        obtain ⟨Ag, cg, rfl⟩ := Kd.R_slice hR
        obtain ⟨zs, hzs⟩ : ∃ zs, zs = pre ++ [(z.size : Int)].flatMap (numW 10) := ⟨_, rfl⟩
        rw [← hzs] at hg hR
        have hlz : zs.length + z.size ≤ 140737488355328 := by
          rw [hzs, List.length_append]
          have := numW_length 10 (z.size : Int)
          have := HPL.out
          have := HZS.out
          simp
          omega
        obtain ⟨lv, hlv⟩ : ∃ lv, lv = zs.length := ⟨_, rfl⟩
        rw [← hlv] at hg hR
        have hne : some g ≠ (Value.slice Ag lv cg).ownBlock := Kd.R_away hR (fun k hk => HF2.out.2.1 k hk)
        have hcv : w4.cell? ⟨g, 0, none⟩ = some (.slice Ag lv cg) := (blk_cell hg 0).trans rfl
        have HLZ := Lib.hid hlz
        have HNE := Lib.hid (fun h => hne h)
        have HGL := Lib.hid (blk_lt hg)
        have HG := Lib.hid hg
        have HRv := Lib.hid hR
        have HBr := Lib.hid s4.2.1
        have HKr := Lib.hid s4.2.2
        have HFf := Lib.hid (fun k (hk : w4.heap.size ≤ k) => HF2.out.2.2 k (Nat.le_trans s4.2.2.1 hk))
        have HZZ := Lib.hid hzs
        clear hg hR hlz hne hzs hlv s4
        go_wp2_with (first | ((with_reducible refine gate_builtin (b := .append) (xs := #[.tmp 47, .tmp 48]) rfl ?_); at_builtin; refine append_str (w0 := w0) w0.heap.size rfl (.tmp 47) (.tmp 48) rfl (.slice Ag lv cg) zs z ok2 rfl rfl HFf.out HRv.out HBr.out HBr.out.size HLZ.out ?_; intro v1 w1 hR1 hB1 hgr hat; obtain ⟨A1_, c1_, rfl⟩ := Kd.R_slice hR1; have hg1 := (hgr.block g HGL.out HNE.out).trans HG.out; have hcz := (blk_cell hg1 0).trans rfl; have hfz := blk_frozen hg1 0; have HR1 := Lib.hid hR1; have HB1 := Lib.hid hB1; have HG1 := Lib.hid hg1; have HGR := Lib.hid hgr; clear hR1 hB1 hg1 hgr hat))
        have hwr := wr_put HG.out HF2.out.2.1 HR1.out HG1.out
        rw [List.length_append] at hwr
        have HWR := Lib.hid hwr
        clear hwr
        have HKK := Lib.hid ((Kept.of_grown HGR.out HKr.out (fun k e => .inl (.inl (HRv.out.1 k e)))).setCell (p := ⟨g, 0, none⟩) (.inl (.inr rfl)) (.slice A1_ (zs.length + (bytesOf z).length) c1_))
        have HBB := Lib.hid (HB1.out.setCell HF2.out.1 (.slice A1_ (zs.length + (bytesOf z).length) c1_) : Below w0.heap.size w0 (w1.setCell ⟨g, 0, none⟩ (.slice A1_ (zs.length + (bytesOf z).length) c1_)))
        have HT : Hid (zs ++ bytesOf z = xs ++ numW 10 T.length ++ (T.take (i + 1)).flatMap textW) := Lib.hid (by rw [HNX.out, ← List.append_assoc, ← HPRE.out, HZZ.out]; simp [textW])
        go_roundg (T.length - (i + 1))
        case measure => omega
        case rel => exact ⟨i + 1, by go_num, by omega, by omega, Lib.hid ⟨by rw [← HT.out]; exact HWR.out, HBB.out, HKK.out⟩⟩
      have hltz : ¬ (i : Int) < (T.length : Int) := by omega
      obtain rfl : i = T.length := by omega
      have hgne : w.heap.size ≠ g := by omega
      have hmm : ∀ W ys, St w0 wO W g ok2 ys → W.cell? ⟨w.heap.size, 0, none⟩ = some (.slice A0 fs.length c0) ∧ W.cell? ⟨w.heap.size, 1, none⟩ = some (.slice A1 items.length c1) := fun W ys s => ⟨s.stay HMT.out.1 (fun h => (HK2.out _ h).2.1 rfl) hgne, s.stay HMT.out.2 (fun h => (HK2.out _ h).2.1 rfl) hgne⟩
      have HMM := Lib.hid hmm
      clear hmm
      obtain ⟨hm0, hm1⟩ := HMM.out _ _ X.out
      have hX := X.out
      rw [List.take_length] at hX
      obtain ⟨us, hus⟩ : ∃ us, us = xs ++ numW 10 T.length ++ T.flatMap textW := ⟨_, rfl⟩
      have hul : us.length + 500000 ≤ 140737488000000 := by
        rw [hus, List.length_append, List.length_append]
        have h1 := numW_length 10 T.length
        have h2 := flat_le textW 1010 T (fun x hx => textW_le x (HTS.out x hx))
        omega
      rw [← hus] at hX
      have HUS := Lib.hid hus
      have HUL := Lib.hid hul
      have HX := Lib.hid hX
      clear hus hul hX X
      go_wp2_with fail
      clear hm0 hm1
      refine (num_st HF2.out HX.out 3 [(fs.length : Int)] (by have := HUL.out; simp; omega) (by simp; omega) wq.heap.size rfl 1 rfl).mono ?_
      rintro e w5 ⟨rfl, s5⟩
      have HS5 := Lib.hid s5
      obtain ⟨hm0, hm1⟩ := HMM.out _ _ s5
      clear s5 HX
      go_wp2
      clear hm0 hm1
      go_loopg [62] items.length (fun gg s62 wr => ∃ j : Nat, s62 = .int .i64 j ∧ j ≤ items.length ∧ items.length - j ≤ gg ∧ Hid (St w0 wO wr g ok2 (us ++ numW 10 fs.length ++ (items.take j).flatMap (itemW fs items))))
      case atStart => exact ⟨0, rfl, Nat.zero_le _, by omega, Lib.hid (by simpa using HS5.out)⟩
      case round =>
        obtain ⟨j, rfl, hjn, hjg, Y⟩ := hrel
        obtain ⟨wz, rfl⟩ : ∃ wz, wz = wr := ⟨_, rfl⟩
        by_cases hlk : j < items.length
        case neg =>
          have hltj : ¬ (j : Int) < (items.length : Int) := by omega
          obtain rfl : j = items.length := by omega
          have HT : Hid (St w0 w wz g ok (xs ++ modelW fs items)) := Lib.hid (by
            have h1 := HBACK.out _ _ Y.out
            rw [List.take_length, HUS.out] at h1
            unfold modelW
            rw [← HTE.out, ← List.append_assoc, ← List.append_assoc, ← List.append_assoc]
            exact h1)
          go_wp2
          go_end0
          exact ⟨rfl, HT.out⟩
        have hltj : (j : Int) < (items.length : Int) := by omega
        obtain ⟨ad, B5, d5, B6, d6, e, hx0, hx1, hx2, hx3, hx4, hx5, hx6, hl5, hC5, hl6, hC6⟩ := at_T48 HR.out.2 (j : Int) (by omega) (by omega)
        cases e
        simp only [Int.toNat_natCast] at hx0 hx1 hx2 hx3 hx4 hx5 hx6
        obtain ⟨x, hx⟩ : ∃ x, x = rd_T48 items (j : Int) := ⟨_, rfl⟩
        have hxl : x = items[j] := by rw [hx]; simp [rd_T48, List.getD_eq_getElem?_getD, List.getElem?_eq_getElem hlk]
        rw [← hx] at hx0 hx1 hx2 hx3 hx4 hx5 hx6 hl5 hC5 hl6 hC6
        have hnx := take_flat (itemW fs items) items j hlk
        rw [← hxl] at hnx
        have hiok : iOk x := by rw [hxl]; exact HMO.out.2.2.2 _ (List.getElem_mem _)
        have HC5 := Lib.hid hC5
        have HC6 := Lib.hid hC6
        have HIOK := Lib.hid hiok
        have hx0 := keepc Y.out.2.1 hx0
        have hx1 := keepc Y.out.2.1 hx1
        have hx2 := keepc Y.out.2.1 hx2
        have hx3 := keepc Y.out.2.1 hx3
        have hx4 := keepc Y.out.2.1 hx4
        have hx5 := keepc Y.out.2.1 hx5
        have hx6 := keepc Y.out.2.1 hx6
        obtain ⟨zs, hzs⟩ : ∃ zs, zs = us ++ numW 10 fs.length ++ (items.take j).flatMap (itemW fs items) := ⟨_, rfl⟩
        have hzl : zs.length + 100000 ≤ 140737488000000 := by
          rw [hzs, List.length_append, List.length_append]
          have h1 := numW_length 10 (fs.length : Int)
          have h2 := flat_le (itemW fs items) 900 (items.take j) (fun x hx => itemW_le fs items x (HMO.out.2.2.2 x (List.mem_of_mem_take hx)))
          rw [List.length_take] at h2
          have := HUL.out
          omega
        rw [← hzs] at Y
        have HZS := Lib.hid hzs
        have HNJ := Lib.hid hnx
        have HZL := Lib.hid hzl
        clear hzs hnx hx hxl hzl hiok hC5 hC6
        go_wp2
        clear hx0 hx1 hx2 hx3 hx4 hx5 hx6
        have hwq1 : wO.heap.size ≤ wz.heap.size := Y.out.2.2.1
        obtain ⟨hm0, hm1⟩ := HMM.out _ _ Y.out
        obtain ⟨W3, hW3⟩ : ∃ W3, W3 = wz.alloc (.cells #[.string x.f0, .int .i64 x.f1, .string x.f2, .bool x.f3, .int .i64 x.f4, .slice B5 x.f5.length d5, .slice B6 x.f6.length d6] 48) := ⟨_, rfl⟩
        have hx1 : W3.cell? ⟨wz.heap.size, 1, none⟩ = some (.int .i64 x.f1) := by rw [hW3]; simp
        have hx2 : W3.cell? ⟨wz.heap.size, 2, none⟩ = some (.string x.f2) := by rw [hW3]; simp
        have hx3 : W3.cell? ⟨wz.heap.size, 3, none⟩ = some (.bool x.f3) := by rw [hW3]; simp
        have hx4 : W3.cell? ⟨wz.heap.size, 4, none⟩ = some (.int .i64 x.f4) := by rw [hW3]; simp
        have hx5 : W3.cell? ⟨wz.heap.size, 5, none⟩ = some (.slice B5 x.f5.length d5) := by rw [hW3]; simp
        have hx6 : W3.cell? ⟨wz.heap.size, 6, none⟩ = some (.slice B6 x.f6.length d6) := by rw [hW3]; simp
        have hm0 := keepc (by rw [hW3]; exact below_alloc (Below.refl _ _) _ : Below wz.heap.size wz W3) hm0
        have hm1 := keepc (by rw [hW3]; exact below_alloc (Below.refl _ _) _ : Below wz.heap.size wz W3) hm1
        have F3 := (HF2.out.box (b := wz.heap.size) Y.out (.cells #[.string x.f0, .int .i64 x.f1, .string x.f2, .bool x.f3, .int .i64 x.f4, .slice B5 x.f5.length d5, .slice B6 x.f6.length d6] 48) rfl)
        have t3 := (Y.out.box (b := wz.heap.size) (.cells #[.string x.f0, .int .i64 x.f1, .string x.f2, .bool x.f3, .int .i64 x.f4, .slice B5 x.f5.length d5, .slice B6 x.f6.length d6] 48) rfl)
        rw [← hW3] at F3 t3 ⊢
        have HW3 := Lib.hid hW3
        have HF3 := Lib.hid F3
        have hzg : wz.heap.size ≠ g := by have := HOS.out; omega
        have hcc : ∀ W ys, St w0 W3 W g (fun k => ok2 k ∧ k ≠ wz.heap.size) ys → (W.cell? ⟨w.heap.size, 0, none⟩ = some (.slice A0 fs.length c0) ∧ W.cell? ⟨w.heap.size, 1, none⟩ = some (.slice (some ad) items.length c1) ∧ W.cell? ⟨wz.heap.size, 1, none⟩ = some (.int .i64 x.f1) ∧ W.cell? ⟨wz.heap.size, 2, none⟩ = some (.string x.f2) ∧ W.cell? ⟨wz.heap.size, 3, none⟩ = some (.bool x.f3) ∧ W.cell? ⟨wz.heap.size, 4, none⟩ = some (.int .i64 x.f4)) ∧ W.cell? ⟨wz.heap.size, 5, none⟩ = some (.slice B5 x.f5.length d5) ∧ W.cell? ⟨wz.heap.size, 6, none⟩ = some (.slice B6 x.f6.length d6) := fun W ys s =>
          ⟨⟨s.stay hm0 (fun h => (HK2.out _ h.1).2.1 rfl) hgne, s.stay hm1 (fun h => (HK2.out _ h.1).2.1 rfl) hgne, s.stay hx1 (fun h => h.2 rfl) hzg, s.stay hx2 (fun h => h.2 rfl) hzg, s.stay hx3 (fun h => h.2 rfl) hzg, s.stay hx4 (fun h => h.2 rfl) hzg⟩, s.stay hx5 (fun h => h.2 rfl) hzg, s.stay hx6 (fun h => h.2 rfl) hzg⟩
        have HCC := Lib.hid hcc
        clear hW3 F3 hcc hm0 hm1 hx1 hx2 hx3 hx4 hx5 hx6
        refine st_ (fun w' => w'.cell? ⟨w.heap.size, 0, none⟩ = some (.slice A0 fs.length c0) ∧ w'.cell? ⟨w.heap.size, 1, none⟩ = some (.slice (some ad) items.length c1) ∧ w'.cell? ⟨wz.heap.size, 1, none⟩ = some (.int .i64 x.f1) ∧ w'.cell? ⟨wz.heap.size, 2, none⟩ = some (.string x.f2) ∧ w'.cell? ⟨wz.heap.size, 3, none⟩ = some (.bool x.f3) ∧ w'.cell? ⟨wz.heap.size, 4, none⟩ = some (.int .i64 x.f4)) 15 (HCC.out _ _ t3).1 (fun hHeld => ?_)
        have t4 := t3.below (below_drew1 (Below.refl _ _))
        clear t3
        refine pu_ 0 (some 66) ?_
        refine pu_ 1 (some 67) ?_
        refine tk_ 2 (some 68) hHeld ?_ (hy := by rintro w' ⟨s0, s1, s2, s3, s4, s5⟩; go_simp; with_reducible rfl)
        refine tk_ 3 (some 69) hHeld ?_ (hy := by rintro w' ⟨s0, s1, s2, s3, s4, s5⟩; go_simp; with_reducible rfl)
        refine pu_ 4 (some 70) ?_
        refine tk_ 5 (some 71) hHeld ?_ (hy := by rintro w' ⟨s0, s1, s2, s3, s4, s5⟩; go_simp; with_reducible rfl)
        refine pu_ 8 (some 74) ?_
        refine tk_ 9 (some 75) hHeld ?_ (hy := by rintro w' ⟨s0, s1, s2, s3, s4, s5⟩; go_simp; with_reducible rfl)
        refine pu_ 11 (some 77) ?_
        refine tk_ 12 (some 78) hHeld ?_ (hy := by rintro w' ⟨s0, s1, s2, s3, s4, s5⟩; go_simp; with_reducible rfl)
        generalize W3.drew = wD at hHeld t4 ⊢
        clear hHeld
        refine ca_ 6 (some 72) Try.func48 #[.agg #[.slice A0 fs.length c0, .slice (some ad) items.length c1], .string x.f2] ?_
        refine (model_Place.calls A0 c0 fs (some ad) c1 items x.f2 (placeI items x.f2) wD (Kd.C_below HR.out.1 t4.2.1) hc0 (Kd.C_below HR.out.2 t4.2.1) hc1 rfl).mono ?_
        rintro e wP ⟨rfl, hbP⟩
        have t5 := t4.below hbP
        clear t4
        refine ⟨_, rfl, (HCC.out _ _ t5).1, fun _ => ⟨_, rfl, nz_ (some 72) ?_⟩⟩
        have hp63 : placeI items x.f2 < 16 := by have := placeI_lt items x.f2; omega
        have hpm : -1 ≤ placeI items x.f2 := fidx_ge _ _
        obtain ⟨p, hp⟩ : ∃ p, p = placeI items x.f2 := ⟨_, rfl⟩
        rw [← hp] at hp63 hpm ⊢
        have HP := Lib.hid hp
        clear hp
        have hw : wrap64 (p + 1) = p + 1 := by unfold wrap64; omega
        refine pu_ 7 (some 73) ?_
        refine ca_ 10 (some 76) Try.func49 #[.bool x.f3] ?_
        refine (truth_call x.f3 wP).mono ?_
        rintro e wQ ⟨rfl, hbQ⟩
        have t6 := t5.below hbQ
        clear t5
        refine ⟨_, rfl, (HCC.out _ _ t6).1, fun _ => ⟨_, rfl, nz_ (some 76) ?_⟩⟩
        obtain ⟨q, hq⟩ : ∃ q : Int, q = if x.f3 = true then 1 else 0 := ⟨_, rfl⟩
        have hq63 : q < 2 := by rw [hq]; split <;> omega
        rw [← hq]
        have HQ := Lib.hid hq
        clear hq
        refine onS_ 13 (some 79) (fun K hK => ?_)
        go_simp
        refine hK.out _ _ (HCC.out _ _ (t6.below (below_alloc (Below.refl _ _) _))).1 (fun _ => ?_)
        clear hK K
        have hnum := num_st HF3.out t6 3 [x.f1, p + 1, q, x.f4] (by have := HZL.out; simp; omega) (by have := HIOK.out.2.1; have := HIOK.out.2.2.1; simp; omega) wQ.heap.size rfl 4 rfl
        refine ca_ 14 (some 80) Try.func47 #[.pointer (some ⟨g, 0, none⟩), .slice (some ⟨wQ.heap.size, 0, none⟩) 4 4] ?_
        refine hnum.mono ?_
        rintro e w8 ⟨rfl, t8⟩
        refine ⟨_, rfl, (HCC.out _ _ t8).1, fun _ => ⟨_, rfl, nz_ (some 80) ?_⟩⟩
        refine dn_ ?_
        obtain ⟨⟨hm0, hm1, -⟩, hx5, -⟩ := HCC.out _ _ t8
        have HT8 := Lib.hid t8
        clear t6 t8 hnum hp63 hpm hw hq63
        go_wp2_with fail
        clear hm0 hm1 hx5
        refine (sents_st A0 c0 fs _ c1 items B5 d5 x.f5 HF3.out HT8.out HR.out.1 hc0 HR.out.2 hc1 HC5.out hl5 HIOK.out.2.2.2.1.1 HIOK.out.2.2.2.1.2 (by have := HZL.out; have := numW_length 10 p; have := numW_length 10 x.f1; have := numW_length 10 (p + 1); have := numW_length 10 q; have := numW_length 10 x.f4; simp; omega)).mono ?_
        rintro e w9 ⟨rfl, t9⟩
        obtain ⟨⟨hm0, hm1, -⟩, -, hx6⟩ := HCC.out _ _ t9
        have HT9 := Lib.hid t9
        clear t9 HT8
        go_wp2_with fail
        clear hm0 hm1 hx6
        refine (sents_st A0 c0 fs _ c1 items B6 d6 x.f6 HF3.out HT9.out HR.out.1 hc0 HR.out.2 hc1 HC6.out hl6 HIOK.out.2.2.2.2.1 HIOK.out.2.2.2.2.2 (by have := HZL.out; have := numW_length 10 p; have := numW_length 10 x.f1; have := numW_length 10 (p + 1); have := numW_length 10 q; have := numW_length 10 x.f4; have := sentsW_le fs items x.f5 HIOK.out.2.2.2.1.1 HIOK.out.2.2.2.1.2; simp; omega)).mono ?_
        rintro e w10 ⟨rfl, t10⟩
        have HT := Lib.hid (Y.out.back (HW3.out ▸ t10))
        clear t10 HT9
        go_wp2
        go_roundg (items.length - (j + 1))
        case measure => omega
        case rel => exact ⟨j + 1, by go_num, by omega, by omega, Lib.hid (by rw [HNJ.out, ← List.append_assoc, ← HZS.out]; simpa [itemW, HP.out, HQ.out] using HT.out)⟩
end Go.Proofs.Ytaiglhfmmdajdaa.Pm
end
section
namespace Go.Proofs.Ytaiglhfmmdajdaa.Pm
open Go.RowKit Go.Proofs.YtaiglhfmmdajdaaW.PrintWords Go.Proofs.YtaiglhfmmdajdaaW.PrintLast Go.Proofs.YtaiglhfmmdajdaaW.PrintMore
attribute [local go_sem] max2_int min2_int max_two min_two max_three min_three max_four min_four   -- for this text's walks alone
set_option linter.unusedVariables false
set_option linter.unusedSimpArgs false
theorem pack_sum_at (l : List Int) (hn : l.length ≤ 9223372036854775806) (d : Nat) : ∀ (i k : Nat) (a c : Int), i + d = l.length → d < k → pack_Sum.l0 k a c l l.length i = some (Go.bits .or .u32 (((sumSt (l.drop i) a c).2 * 65536) % 4294967296) (sumSt (l.drop i) a c).1) := by
  induction d with
  | zero =>
    intro i k a c hi hk
    obtain ⟨k, rfl⟩ : ∃ m, k = m + 1 := ⟨k - 1, by omega⟩
    simp only [pack_Sum.l0]
    rw [if_neg (by omega), List.drop_eq_nil_of_le (by omega)]
    rfl
  | succ d ih =>
    intro i k a c hi hk
    obtain ⟨k, rfl⟩ : ∃ m, k = m + 1 := ⟨k - 1, by omega⟩
    simp only [pack_Sum.l0]
    rw [if_pos (by omega), if_pos (by omega), if_pos (by omega), List.drop_eq_getElem_cons (by omega)]
    have hw : wrap64 ((i : Int) + 1) = ((i + 1 : Nat) : Int) := by unfold wrap64; omega
    have hr : rd l (i : Int) = l[i] := by simp [rd, List.getD_eq_getElem?_getD, List.getElem?_eq_getElem (show i < l.length by omega)]
    rw [hw, hr, ih (i + 1) k _ _ (by omega) (by omega)]
    rfl
theorem pack_sum (l : List Int) (hn : l.length ≤ 9223372036854775806) (k : Nat) (hk : l.length < k) : pack_Sum.f k l = some (sumL l) := pack_sum_at l hn l.length 0 k 1 0 (by omega) hk
theorem sOk_of (fs : List ByteArray) (items : List (S48)) (ss : List (S54)) (h : sentsB fs items ss = true) : ss.length ≤ 3 ∧ ∀ s ∈ ss, sOk s := by
  unfold sentsB at h
  rw [Bool.and_eq_true, decide_eq_true_eq, Bool.not_eq_true', List.any_eq_false] at h
  refine ⟨h.1, fun s hs => ?_⟩
  have h2 := h.2 s hs
  rw [Bool.not_eq_true, Bool.not_eq_false'] at h2
  unfold sentryB at h2
  rw [Bool.and_eq_true, decide_eq_true_eq, Bool.and_eq_true, List.all_eq_true] at h2
  obtain ⟨⟨a, b, -⟩, c, d⟩ := h2
  refine ⟨a, b, fun x hx => ?_, fun y hy => ?_⟩
  · obtain ⟨i, hi, rfl⟩ := List.getElem_of_mem hx
    have := c i (List.mem_range.2 hi)
    unfold onOk at this
    rw [Bool.and_eq_true] at this
    have h3 := this.1
    have e : rd_T103 s.f0 (i : Int) = s.f0[i] := by simp [rd_T103, List.getD_eq_getElem?_getD, List.getElem?_eq_getElem hi]
    rw [e] at h3
    unfold onB legalB at h3
    split at h3
    · split at h3
      · omega
      · split at h3
        · omega
        · split at h3
          · omega
          · cases h3
    · cases h3
  · unfold ifsOk at d
    rw [Bool.not_eq_true', List.any_eq_false] at d
    have h3 := d y hy
    rw [Bool.not_eq_true, Bool.not_eq_false'] at h3
    unfold ifB at h3
    rw [Bool.and_eq_true, Bool.and_eq_true, decide_eq_true_eq] at h3
    exact h3.2.2
theorem name_size (l : List ByteArray) (h : namesB l = true) : ∀ s ∈ l, s.size ≤ 1000 := by
  intro s hs
  obtain ⟨i, hi, rfl⟩ := List.getElem_of_mem hs
  unfold namesB at h
  rw [List.all_eq_true] at h
  have := h i (List.mem_range.2 hi)
  unfold nameOk at this
  rw [rdOf_get _ _ _ hi, Bool.and_eq_true] at this
  have h1 := this.1
  unfold nameB at h1
  simp only [Bool.and_eq_true, decide_eq_true_eq] at h1
  omega
theorem MOk_of (fs : List ByteArray) (items : List (S48)) (h : isB fs items = true) : MOk fs items := by
  unfold isB at h
  rw [Bool.and_eq_true, Bool.and_eq_true, Bool.and_eq_true, Bool.and_eq_true, Bool.and_eq_true, decide_eq_true_eq, Bool.not_eq_true', List.any_eq_false] at h
  obtain ⟨⟨a, b, c⟩, d, e, -, -, f⟩ := h
  refine ⟨a, c, name_size fs d, fun x hx => ?_⟩
  have h2 := f x hx
  rw [Bool.not_eq_true, Bool.not_eq_false'] at h2
  unfold itemB at h2
  rw [Bool.and_eq_true, Bool.and_eq_true, Bool.and_eq_true, Bool.and_eq_true, decide_eq_true_eq] at h2
  obtain ⟨p, q, r, s, -⟩ := h2
  refine ⟨name_size _ e _ (List.mem_map_of_mem hx), by omega, ?_, sOk_of fs items _ q, sOk_of fs items _ r⟩
  split at s
  · rw [decide_eq_true_eq] at s; omega
  · rw [decide_eq_true_eq] at s; omega
theorem modelW_le (fs : List ByteArray) (items : List (S48)) (h : MOk fs items) : (modelW fs items).length ≤ 100000 := by
  unfold modelW
  rw [List.length_append, List.length_append, List.length_append]
  obtain ⟨hts, htl⟩ := texts_size h
  have := numW_length 10 (textsOf fs items).length
  have := numW_length 10 fs.length
  have := flat_le textW 1010 (textsOf fs items) (fun x hx => textW_le x (hts x hx))
  have := flat_le (itemW fs items) 900 items (fun x hx => itemW_le fs items x (h.2.2.2 x hx))
  have := h.1
  have := h.2.1
  omega
theorem mark_size (W : World) (a : Addr) : (markW W a).heap.size = W.heap.size := by
  unfold markW
  split
  · unfold World.freeze
    simp only [Nat.succ_ne_zero, ↓reduceIte, Array.size_modify]
  · rfl
def packL (fs : List ByteArray) (items : List (S48)) : List Int := sealL (modelW fs items)
def pack_Pack.f (l0_0 : List ByteArray) (l0_1 : List (S48)) : Option (List Int × Int) := if isB l0_0 l0_1 = true then some (packL l0_0 l0_1, 0) else some ([], 1)
set_option maxHeartbeats 8000000 in
set_option maxRecDepth 100000 in
theorem pack_Pack.calls (A0_0 : Option Addr) (c0_0 : Nat) (l0_0 : List ByteArray) (A0_1 : Option Addr) (c0_1 : Nat) (l0_1 : List (S48)) (r1 : List Int) (r2 : Int) (w : World) (hr0_0 : Kd.C Kd.string w A0_0 l0_0.length l0_0) (hc0_0 : l0_0.length ≤ c0_0) (hr0_1 : Kd.C k48 w A0_1 l0_1.length l0_1) (hc0_1 : l0_1.length ≤ c0_1) (h : pack_Pack.f l0_0 l0_1 = some (r1, r2)) :
    Calls Try.prog 14 #[.agg #[.slice A0_0 l0_0.length c0_0, .slice A0_1 l0_1.length c0_1]] w fun e w' => ∃ v0_ : Value, e = .returned (.tuple #[v0_, .int .i64 r2]) ∧ Kd.R (Kd.int .u8) 5 w' w.heap.size (fun _ => True) v0_ r1 ∧ Below w.heap.size w w' := by
  have hu25 := Try.underlying25
  have hu58 := Try.underlying58
  have hbw := below_alloc (Below.refl w.heap.size w) (.cells #[.slice A0_0 l0_0.length c0_0, .slice A0_1 l0_1.length c0_1] 25)
  have his := model_Is.calls A0_0 c0_0 l0_0 A0_1 c0_1 l0_1 (isB l0_0 l0_1) _ (Kd.C_below hr0_0 hbw) hc0_0 (Kd.C_below hr0_1 hbw) hc0_1 rfl
  have HR := Lib.hid (And.intro hr0_0 hr0_1)
  have HBW := Lib.hid hbw
  have HF : Hid (isB l0_0 l0_1 = true → MOk l0_0 l0_1) := Lib.hid (MOk_of _ _)
  unfold pack_Pack.f at h
  clear hr0_0 hr0_1 hbw
  obtain ⟨b, hb⟩ : ∃ b, b = isB l0_0 l0_1 := ⟨_, rfl⟩
  rw [← hb] at his h HF
  clear hb
  cases b with
  | false =>
    rw [if_neg (by decide)] at h
    cases h
    go_enter Try.func14, Try.ntmps14
    go_wp2_with fail
    refine his.mono ?_
    rintro e w2 ⟨rfl, hb2⟩
    have HB2 := Lib.hid (keepb hb2 HBW.out)
    clear his hb2
    go_wp2
    go_ret2
    exact ⟨_, rfl, Kd.R_nil _ _ _ _ _, HB2.out⟩
  | true =>
    rw [if_pos rfl] at h
    cases h
    have HM := Lib.hid (HF.out rfl)
    clear HF
    have hml := modelW_le l0_0 l0_1 HM.out
    unfold packL sealL
    obtain ⟨body, hbody⟩ : ∃ b, b = modelW l0_0 l0_1 := ⟨_, rfl⟩
    rw [← hbody] at hml ⊢
    obtain ⟨s, hss⟩ : ∃ s, s = sumL body := ⟨_, rfl⟩
    rw [← hss]
    have HBO := Lib.hid hbody
    have HSS := Lib.hid hss
    have HML := Lib.hid hml
    clear hbody hss hml
    go_enter Try.func14, Try.ntmps14
    go_wp2_with fail
    refine his.mono ?_
    rintro e w2 ⟨rfl, hb2⟩
    have HB2 := Lib.hid (keepb hb2 HBW.out)
    have hm0 := keepc hb2 (by simp : (w.alloc (.cells #[.slice A0_0 l0_0.length c0_0, .slice A0_1 l0_1.length c0_1] 25)).cell? ⟨w.heap.size, 0, none⟩ = some (.slice A0_0 l0_0.length c0_0))
    have hm1 := keepc hb2 (by simp : (w.alloc (.cells #[.slice A0_0 l0_0.length c0_0, .slice A0_1 l0_1.length c0_1] 25)).cell? ⟨w.heap.size, 1, none⟩ = some (.slice A0_1 l0_1.length c0_1))
    have hlt2 : w.heap.size < w2.heap.size := World.block_lt_of_cell? _ _ hm0
    clear his hb2
    go_wp2_with fail
    clear hm0 hm1
    obtain ⟨g, hg⟩ : ∃ g, g = w2.heap.size := ⟨_, rfl⟩
    obtain ⟨W2, hW2⟩ : ∃ W2, W2 = w2.alloc (.cells #[.slice none 0 0] 58) := ⟨_, rfl⟩
    have hgb : W2.heap[g]? = some (.cells #[.slice none 0 0] 58 (0, 0)) := by rw [hW2, hg]; exact heap_alloc_new w2 _
    have hbW : Below w2.heap.size w2 W2 := by rw [hW2]; exact below_alloc (Below.refl _ _) _
    have hsz : W2.heap.size = g + 1 := by rw [hW2, hg]; simp
    have F : Fx w2 W2 g (fun k => g < k) := ⟨by omega, fun k h => by omega, fun k h => by omega⟩
    have s0 : St w2 W2 W2 g (fun k => g < k) [] := St.refl ⟨_, hgb, Kd.R_nil _ _ _ _ _⟩ hbW
    rw [← hW2, ← hg]
    have HG2 := Lib.hid hg
    clear hW2 hg hgb hsz hbW hlt2
    refine (model_any w2 W2 g (fun k => g < k) [] A0_0 c0_0 l0_0 A0_1 c0_1 l0_1 F s0 (Kd.C_below HR.out.1 HB2.out) hc0_0 (Kd.C_below HR.out.2 HB2.out) hc0_1 HM.out (by simp)).mono ?_
    rintro e w3 ⟨rfl, s3⟩
    rw [List.nil_append] at s3
    clear F s0
    rw [← HBO.out] at s3
    obtain ⟨v, hg, hR⟩ := s3.1
    obtain ⟨Ag, cg, rfl⟩ := Kd.R_slice hR
    have hrd := Kd.R_reads' hR
    have hsum := pack_Sum.calls (body.length + 1) Ag cg body _ w3 hrd.2.2 (by have := hrd.2.1; omega) (pack_sum body (by have := HML.out; omega) _ (by omega))
    have hC3 := hrd.2.2
    obtain ⟨n, hn⟩ : ∃ n, n = body.length := ⟨_, rfl⟩
    rw [← hn] at hg hC3 hsum
    have hcv : w3.cell? ⟨g, 0, none⟩ = some (.slice Ag n cg) := (blk_cell hg 0).trans rfl
    have HB3 := Lib.hid (below_then HB2.out HB2.out.size s3.2.1)
    have HN := Lib.hid hn
    have HC3 := Lib.hid hC3
    rw [← HSS.out] at hsum
    have hml2 : n ≤ 100000 := by have := HML.out; omega
    have hgl : g < w3.heap.size := blk_lt hg
    have hgw : w.heap.size ≤ g := by rw [HG2.out]; exact HB2.out.size
    clear s3 hg hR hrd hn hC3
    have HCV := Lib.hid hcv
    go_wp2_with fail
    refine hsum.mono ?_
    rintro e w4 ⟨rfl, hd⟩
    have hb4 := hd.below
    have hcv := keepc hb4 HCV.out
    have HB4 := Lib.hid (below_then HB3.out HB3.out.size hb4)
    have HC4 := Lib.hid (Kd.C_below HC3.out hb4)
    have hg4 : g < w4.heap.size := by have := hb4.size; omega
    clear hd hb4 hsum
    have kb := fun W a n c => kcv (P := Try.prog) 26 5 Try.underlying26 Try.underlying5 W a n c
    have hmk := fun W a b => mark_cell W a b
    have hms := fun W a => mark_size W a
    have hg5 : g < w4.heap.size + 1 := by omega
    have hg6 : g < w4.heap.size + 1 + 1 := by omega
    go_wp2_with fail
    obtain ⟨Wa, hWa⟩ : ∃ Wa, Wa = markW (w4.alloc (.cells #[.int .u8 83, .int .u8 78, .int .u8 84, .int .u8 49] 5)) ⟨w4.heap.size, 0, none⟩ := ⟨_, rfl⟩
    have hsa : Wa.heap.size = w4.heap.size + 1 := by rw [hWa, mark_size]; simp
    have hba : Below w4.heap.size w4 Wa := by rw [hWa]; exact mark_below (below_alloc (Below.refl _ _) _) (Nat.le_refl _)
    have hca : Kd.C (Kd.int .u8) Wa (some ⟨w4.heap.size, 0, none⟩) 4 [83, 78, 84, 49] := by rw [hWa]; exact mark_C (lit_reads w4 _ rfl 5 [83, 78, 84, 49] (by decide))
    rw [← hWa]
    clear hWa
    obtain ⟨Wb, hWb⟩ : ∃ Wb, Wb = Wa.alloc (.cells #[.int .u8 ((s / 16777216) % 256), .int .u8 ((s / 65536) % 256), .int .u8 ((s / 256) % 256), .int .u8 (s % 256)] 5) := ⟨_, rfl⟩
    have hsb : Wb.heap.size = w4.heap.size + 1 + 1 := by rw [hWb, ← hsa]; simp
    have hbb : Below Wa.heap.size Wa Wb := by rw [hWb]; exact below_alloc (Below.refl _ _) _
    have hcb : Kd.C (Kd.int .u8) Wb (some ⟨w4.heap.size + 1, 0, none⟩) 4 [(s / 16777216) % 256, (s / 65536) % 256, (s / 256) % 256, s % 256] := by rw [hWb]; exact lit_reads Wa _ hsa.symm 5 [(s / 16777216) % 256, (s / 65536) % 256, (s / 256) % 256, s % 256] (by simp)
    rw [← hWb]
    clear hWb
    obtain ⟨Wc, hWc⟩ : ∃ Wc, Wc = Wb.alloc (.cells #[.slice (some ⟨w4.heap.size, 0, none⟩) 4 4, .slice (some ⟨w4.heap.size + 1, 0, none⟩) 4 4, .slice Ag n cg] 26) := ⟨_, rfl⟩
    have hbc : Below Wb.heap.size Wb Wc := by rw [hWc]; exact below_alloc (Below.refl _ _) _
    have hc0 : Wc.cell? ⟨w4.heap.size + 1 + 1, 0, none⟩ = some (.slice (some ⟨w4.heap.size, 0, none⟩) 4 4) := by rw [hWc, ← hsb]; simp
    have hc1 : Wc.cell? ⟨w4.heap.size + 1 + 1, 1, none⟩ = some (.slice (some ⟨w4.heap.size + 1, 0, none⟩) 4 4) := by rw [hWc, ← hsb]; simp
    have hc2 : Wc.cell? ⟨w4.heap.size + 1 + 1, 2, none⟩ = some (.slice Ag n cg) := by rw [hWc, ← hsb]; simp
    rw [← hWc]
    clear hWc
    have hb0c : Below w4.heap.size w4 Wc := below_then (below_then hba hba.size hbb) (below_then hba hba.size hbb).size hbc
    have HBC := Lib.hid (below_then HB4.out HB4.out.size hb0c)
    have hcc := concat_call Wc ⟨w4.heap.size + 1 + 1, 0, none⟩ 3
      (fun i => match i with | 0 => some ⟨w4.heap.size, 0, none⟩ | 1 => some ⟨w4.heap.size + 1, 0, none⟩ | _ => Ag)
      (fun i => match i with | 0 => 4 | 1 => 4 | _ => cg)
      (fun i => match i with | 0 => [83, 78, 84, 49] | 1 => [(s / 16777216) % 256, (s / 65536) % 256, (s / 256) % 256, s % 256] | _ => body)
      (fun i hi => match i, hi with
        | 0, _ => by rw [add_plain]; exact hc0
        | 1, _ => by rw [add_plain]; exact hc1
        | 2, _ => by rw [add_plain]; exact HN.out ▸ hc2)
      (fun i hi => match i, hi with
        | 0, _ => Kd.C_below (Kd.C_below hca hbb) hbc
        | 1, _ => Kd.C_below hcb hbc
        | 2, _ => HN.out ▸ Kd.C_below HC4.out hb0c)
      (by decide) (by simp [totN]; omega) (by have := HML.out; simp [totN]; omega)
    refine hcc.mono ?_
    rintro e w5 ⟨v5, rfl, hR5, hB5⟩
    have HR5 := Lib.hid (Kd.R_lower hR5 HBC.out.size)
    have HB5 := Lib.hid (below_then HBC.out HBC.out.size hB5)
    clear hcc hR5 hB5 hca hcb hc0 hc1 hc2 hba hbb hbc hb0c hsa hsb hcv kb hmk hms
    go_wp2
    go_ret2
    exact ⟨_, rfl, by simpa [catL, sealL] using HR5.out, HB5.out⟩
end Go.Proofs.Ytaiglhfmmdajdaa.Pm
end
section
namespace Go.Proofs.Ytaiglhfmmdajdaa.Pm
open Go.RowKit Go.Proofs.YtaiglhfmmdajdaaW.PrintWords Go.Proofs.YtaiglhfmmdajdaaW.PrintLast Go.Proofs.YtaiglhfmmdajdaaW.PrintMore
attribute [local go_sem] max2_int min2_int max_two min_two max_three min_three max_four min_four   -- for this text's walks alone
set_option linter.unusedVariables false
set_option linter.unusedSimpArgs false
def sentrylaw6_known.f : Option Bool := some true
def planItem : S48 := ⟨(⟨#[112]⟩ : ByteArray), 1, (⟨#[]⟩ : ByteArray), false, 0, [], []⟩
set_option maxRecDepth 100000 in
theorem isB_plan : isB [] [planItem] = true := by decide +kernel
set_option maxRecDepth 100000 in
theorem sum_abc : sumL [97, 98, 99] = 38600999 := by decide +kernel
theorem plan_C (W : World) (g : Nat) (hc : ∀ j u, [Value.string ⟨#[112]⟩, .int .i64 1, .string ⟨#[]⟩, .bool false, .int .i64 0, .slice none 0 0, .slice none 0 0][j]? = some u → W.cell? ((⟨g, 0, none⟩ : Addr).add j) = some u) : Kd.C k48 W (some ⟨g, 0, none⟩) [planItem].length [planItem] := by
  refine ⟨rfl, by decide, fun _ => ⟨_, rfl, fun j p hj => ?_⟩⟩
  obtain rfl : j = 0 := by
    have := (List.getElem?_eq_some_iff.1 hj).1
    simp at this
    exact this
  obtain rfl : planItem = p := by simpa using hj
  refine ⟨_, rfl, k48_mk W planItem (A5 := none) (c5 := 0) (Nat.le_refl _) (Kd.C_nil _ W) (A6 := none) (c6 := 0) (Nat.le_refl _) (Kd.C_nil _ W), fun i u hi => ?_⟩
  have h2 := hc i u hi
  rwa [show 0 * (Kd.sz k48) + i = i by omega]
theorem model_long (fs : List ByteArray) (l : List (S48)) : 1 ≤ (modelW fs l).length := by
  unfold modelW
  rw [List.length_append, List.length_append, List.length_append]
  have : 1 ≤ (numW 10 (textsOf fs l).length).length := by
    simp only [numW]
    split <;> simp
  omega
theorem pack_long (fs : List ByteArray) (l : List (S48)) : 9 ≤ (packL fs l).length := by
  have := model_long fs l
  unfold packL sealL
  rw [List.length_append, List.length_append]
  simp only [List.length_cons, List.length_nil]
  omega
theorem pack_take4 (fs : List ByteArray) (l : List (S48)) : (packL fs l).take 4 = [83, 78, 84, 49] := rfl
set_option maxHeartbeats 8000000 in
set_option maxRecDepth 100000 in
theorem sentrylaw6_known.calls (r : Bool) (w : World) (h : sentrylaw6_known.f = some r) :
    Calls Try.prog 18 #[] w fun e w' => e = .returned (.bool r) ∧ Below w.heap.size w w' := by
  obtain rfl := Option.some.inj h
  clear h
  have hu25 := Try.underlying25
  have hu48 := Try.underlying48
  have hC := plan_C (w.alloc (.cells #[.string ⟨#[112]⟩, .int .i64 1, .string ⟨#[]⟩, .bool false, .int .i64 0, .slice none 0 0, .slice none 0 0] 48)) w.heap.size (World.news_of_block (cs := #[.string ⟨#[112]⟩, .int .i64 1, .string ⟨#[]⟩, .bool false, .int .i64 0, .slice none 0 0, .slice none 0 0]) (t := 48) (fr := (0, 0)) (heap_alloc_new w _))
  have h3 := pack_Pack.calls none 0 [] (some ⟨w.heap.size, 0, none⟩) 1 [planItem] (packL [] [planItem]) 0 _ (Kd.C_nil _ _) (Nat.le_refl _) hC (Nat.le_refl _) (by unfold pack_Pack.f; rw [if_pos isB_plan])
  have hl := pack_long [] [planItem]
  have ht := pack_take4 [] [planItem]
  obtain ⟨L, hL⟩ : ∃ L, L = packL [] [planItem] := ⟨_, rfl⟩
  rw [← hL] at h3 hl ht
  clear hL hC
  have HB := Lib.hid (below_alloc (Below.refl w.heap.size w) (.cells #[.string ⟨#[112]⟩, .int .i64 1, .string ⟨#[]⟩, .bool false, .int .i64 0, .slice none 0 0, .slice none 0 0] 48))
  have HT := Lib.hid ht
  clear ht
  go_enter Try.func18, Try.ntmps18
  go_wp2_with fail
  refine h3.mono ?_
  rintro e w2 ⟨v, rfl, hR, hb2⟩
  obtain ⟨A, c, rfl⟩ := Kd.R_slice hR
  obtain ⟨hn, hlc, hC⟩ := Kd.R_reads' hR
  have hC4 := Kd.C_take hC (show 4 ≤ L.length by omega)
  rw [HT.out] at hC4
  obtain ⟨n, hnn⟩ : ∃ n, n = L.length := ⟨_, rfl⟩
  rw [← hnn] at hlc hl ⊢
  have hl8 : (n : Int) > 8 := by omega
  have hl4 : (4 : Int) ≤ n := by omega
  have hc4 : (4 : Int) ≤ c := by omega
  have HB2 := Lib.hid (below_then HB.out HB.out.size hb2)
  have HC4 := Lib.hid hC4
  clear hb2 hR h3 hC hC4 hn hnn
  have kb := fun W a n c => kcv (P := Try.prog) 26 5 Try.underlying26 Try.underlying5 W a n c
  go_wp2_with fail
  clear kb
  obtain ⟨Wa, hWa⟩ : ∃ Wa, Wa = markW (w2.alloc (.cells #[.int .u8 97, .int .u8 98, .int .u8 99] 5)) ⟨w2.heap.size, 0, none⟩ := ⟨_, rfl⟩
  have hba : Below w2.heap.size w2 Wa := by rw [hWa]; exact mark_below (below_alloc (Below.refl _ _) _) (Nat.le_refl _)
  have hca : Kd.C (Kd.int .u8) Wa (some ⟨w2.heap.size, 0, none⟩) 3 [97, 98, 99] := by rw [hWa]; exact mark_C (lit_reads w2 _ rfl 5 [97, 98, 99] (by decide))
  rw [← hWa]
  clear hWa
  have hsum := pack_Sum.calls 4 (some ⟨w2.heap.size, 0, none⟩) 3 [97, 98, 99] _ Wa hca (Nat.le_refl _) (pack_sum _ (by decide) _ (by decide))
  rw [sum_abc] at hsum
  refine hsum.mono ?_
  rintro e w3 ⟨rfl, hd⟩
  have hb3 := below_then hba hba.size hd.below
  have HB3 := Lib.hid (below_then HB2.out HB2.out.size hb3)
  have hks : (convert 26 9 (.slice A 4 c)).run Try.prog w3 = .ok (.string ⟨#[83, 78, 84, 49]⟩) w3 := Kd.C_string Try.underlying26 Try.underlying5 Try.underlying9 (Kd.C_below HC4.out hb3)
  clear hsum hba hca hd hb3
  go_wp2
  go_ret
  exact ⟨rfl, HB3.out⟩
end Go.Proofs.Ytaiglhfmmdajdaa.Pm
end
section
namespace Go.Proofs.Ytaiglhfmmdajdaa.Pm
open Go.RowKit Go.Proofs.YtaiglhfmmdajdaaW.PrintWords Go.Proofs.YtaiglhfmmdajdaaW.PrintLast Go.Proofs.YtaiglhfmmdajdaaW.PrintMore
attribute [local go_sem] max2_int min2_int max_two min_two max_three min_three max_four min_four   -- for this text's walks alone
set_option linter.unusedVariables false
set_option linter.unusedSimpArgs false
def Evb (g : Nat → Option Bool) (P : Prop) : Prop := ∃ r, Ev g r ∧ (r = true ↔ P)
theorem ba_ext' {a b : ByteArray} (h : a.toList = b.toList) : a = b := by
  rw [ByteArray.toList_eq, ByteArray.toList_eq] at h
  exact Go.WideShapes.bytes_inj h
theorem Evb.yes {P : Prop} (h : P) : Evb (fun _ => some true) P := ⟨true, Ev.now true, by simp [h]⟩
theorem Evb.no {P : Prop} (h : ¬ P) : Evb (fun _ => some false) P := ⟨false, Ev.now false, by simp [h]⟩
theorem Evb.iff {g : Nat → Option Bool} {P Q : Prop} (h : Evb g P) (e : P ↔ Q) : Evb g Q := by obtain ⟨r, h1, h2⟩ := h; exact ⟨r, h1, h2.trans e⟩
theorem Evb.step {f g : Nat → Option Bool} {P : Prop} (h : ∀ k, g (k + 1) = f k) (hf : Evb f P) : Evb g P := by obtain ⟨r, h1, h2⟩ := hf; exact ⟨r, Ev.step h h1, h2⟩
theorem Evb.congr {f g : Nat → Option Bool} {P : Prop} (h : ∀ k, g k = f k) (hf : Evb f P) : Evb g P := by obtain ⟨r, h1, h2⟩ := hf; exact ⟨r, Ev.congr h h1, h2⟩
theorem Evb.and {g n : Nat → Option Bool} {P Q : Prop} (hg : Evb g P) (hn : P → Evb n Q) : Evb (fun k => (g k).bind fun t => if t = true then n k else some false) (P ∧ Q) := by
  obtain ⟨r, h1, h2⟩ := hg
  cases r with
  | true =>
    obtain ⟨r, h3, h4⟩ := hn (h2.1 rfl)
    exact ⟨r, Ev.bind h1 (Ev.congr (fun k => if_pos rfl) h3), h4.trans ⟨fun h => ⟨h2.1 rfl, h⟩, fun h => h.2⟩⟩
  | false => exact ⟨false, Ev.bind h1 (Ev.congr (fun k => if_neg (by decide)) (Ev.now false)), by simp; intro h; exact absurd (h2.2 h) (by decide)⟩
theorem drop_iff {α : Type} {l m : List α} (h : l.length = m.length) (i : Nat) (hi : i < l.length) : l.drop i = m.drop i ↔ l[i] = m[i]'(h ▸ hi) ∧ l.drop (i + 1) = m.drop (i + 1) := by
  have hj : i < m.length := h ▸ hi
  rw [List.drop_eq_getElem_cons hi, List.drop_eq_getElem_cons hj, List.cons.injEq]
theorem evb_texts (l m : List ByteArray) (hn : l.length ≤ 9223372036854775806) : Evb (fun k => sentryref4_SameTexts.f k l m) (l = m) := by
  by_cases hl : l.length = m.length
  case neg => exact Evb.congr (fun k => by unfold sentryref4_SameTexts.f; exact if_neg (by omega)) (Evb.no (fun h => hl (by rw [h])))
  have main : ∀ (d i : Nat), i + d = l.length → Evb (fun k => sentryref4_SameTexts.l0 k l m (i : Int)) (l.drop i = m.drop i) := by
    intro d
    induction d with
    | zero =>
      intro i hi
      refine Evb.step (f := fun _ => some true) (fun k => ?_) (Evb.yes (by rw [List.drop_of_length_le (by omega), List.drop_of_length_le (by omega)]))
      simp only [sentryref4_SameTexts.l0]
      rw [if_neg (by omega)]
    | succ d ih =>
      intro i hi
      have h1 : i < l.length := by omega
      have h2 : i < m.length := by omega
      by_cases he : l[i].toList = m[i].toList
      · refine Evb.step (f := fun k => sentryref4_SameTexts.l0 k l m ((i + 1 : Nat) : Int)) (fun k => ?_) ((ih (i + 1) (by omega)).iff ?_)
        · simp only [sentryref4_SameTexts.l0]
          rw [if_pos (by omega), if_pos (by omega), if_pos (by omega), rdOf_get _ _ _ h1, rdOf_get _ _ _ h2, if_pos he, wrap_lt (n := (l.length : Int)) (by omega) (by omega) (by omega)]
          rfl
        · rw [drop_iff hl i h1]
          exact ⟨fun h => ⟨ba_ext' he, h⟩, fun h => h.2⟩
      · refine Evb.step (f := fun _ => some false) (fun k => ?_) (Evb.no ?_)
        · simp only [sentryref4_SameTexts.l0]
          rw [if_pos (by omega), if_pos (by omega), if_pos (by omega), rdOf_get _ _ _ h1, rdOf_get _ _ _ h2, if_neg he]
        · rw [drop_iff hl i h1]
          exact fun h => he (by rw [h.1])
  exact Evb.congr (fun k => by unfold sentryref4_SameTexts.f; exact if_pos (by omega)) (main l.length 0 (by omega))
theorem evb_s2 {Q : Prop} (l m : List (S54)) (i : Nat) (h1 : i < l.length) (h2 : i < m.length) (hl : l[i].f1.length = m[i].f1.length) (hn : l[i].f1.length ≤ 9223372036854775806) (hln : l.length ≤ 9223372036854775806) (hR : Evb (fun k => sentryref4_SameSentries.l0 k l m ((i + 1 : Nat) : Int)) Q) (d : Nat) : ∀ j : Nat, j + d = l[i].f1.length → Evb (fun k => sentryref4_SameSentries.l2 k l m (i : Int) (j : Int)) (l[i].f1.drop j = m[i].f1.drop j ∧ Q) := by
  have r1 : rd_T54 l (i : Int) = l[i] := by simp [rd_T54, List.getD_eq_getElem?_getD, List.getElem?_eq_getElem h1]
  have r2 : rd_T54 m (i : Int) = m[i] := by simp [rd_T54, List.getD_eq_getElem?_getD, List.getElem?_eq_getElem h2]
  induction d with
  | zero =>
    intro j hj
    refine Evb.step (f := fun k => sentryref4_SameSentries.l0 k l m ((i + 1 : Nat) : Int)) (fun k => ?_) (hR.iff ?_)
    · simp only [sentryref4_SameSentries.l2]
      rw [if_pos (by omega), if_pos (by omega), r1, if_neg (by omega), wrap_lt (n := (l.length : Int)) (by omega) (by omega) (by omega)]
      rfl
    · rw [List.drop_of_length_le (by omega), List.drop_of_length_le (by omega)]
      simp
  | succ d ih =>
    intro j hj
    have g1 : j < l[i].f1.length := by omega
    have g2 : j < m[i].f1.length := by omega
    have q1 : rd_T50 l[i].f1 (j : Int) = l[i].f1[j] := by simp [rd_T50, List.getD_eq_getElem?_getD, List.getElem?_eq_getElem g1]
    have q2 : rd_T50 m[i].f1 (j : Int) = m[i].f1[j] := by simp [rd_T50, List.getD_eq_getElem?_getD, List.getElem?_eq_getElem g2]
    have hb : (!((l[i].f1[j].f0.toList) == (m[i].f1[j].f0.toList)) || (!((l[i].f1[j].f1.toList) == (m[i].f1[j].f1.toList)) || (!(l[i].f1[j].f2 == m[i].f1[j].f2)))) = true ↔ l[i].f1[j] ≠ m[i].f1[j] := by
      generalize l[i].f1[j] = a
      generalize m[i].f1[j] = b
      obtain ⟨a0, a1, a2⟩ := a
      obtain ⟨b0, b1, b2⟩ := b
      simp only [Bool.or_eq_true, Bool.not_eq_true', beq_eq_false_iff_ne, ne_eq, S50.mk.injEq]
      constructor
      · rintro (h | h | h) ⟨e1, e2, e3⟩
        · exact h (by rw [e1])
        · exact h (by rw [e2])
        · exact h e3
      · intro h
        by_cases e1 : a0.toList = b0.toList
        · by_cases e2 : a1.toList = b1.toList
          · exact .inr (.inr (fun e3 => h ⟨ba_ext' e1, ba_ext' e2, e3⟩))
          · exact .inr (.inl e2)
        · exact .inl e1
    by_cases he : l[i].f1[j] = m[i].f1[j]
    · refine Evb.step (f := fun k => sentryref4_SameSentries.l2 k l m (i : Int) ((j + 1 : Nat) : Int)) (fun k => ?_) ((ih (j + 1) (by omega)).iff ?_)
      · simp only [sentryref4_SameSentries.l2]
        rw [if_pos (by omega), if_pos (by omega), r1, if_pos (by omega), if_pos (by omega), if_pos (by omega), r2, if_pos (by omega), q1, q2, if_neg (fun h => hb.1 h he), wrap_lt (n := (l[i].f1.length : Int)) (by omega) (by omega) (by omega)]
        rfl
      · rw [drop_iff hl j g1]
        exact ⟨fun h => ⟨⟨he, h.1⟩, h.2⟩, fun h => ⟨h.1.2, h.2⟩⟩
    · refine Evb.step (f := fun _ => some false) (fun k => ?_) (Evb.no ?_)
      · simp only [sentryref4_SameSentries.l2]
        rw [if_pos (by omega), if_pos (by omega), r1, if_pos (by omega), if_pos (by omega), if_pos (by omega), r2, if_pos (by omega), q1, q2, if_pos (hb.2 he)]
      · rw [drop_iff hl j g1]
        exact fun h => he h.1.1
theorem evb_s1 {Q : Prop} (l m : List (S54)) (i : Nat) (h1 : i < l.length) (h2 : i < m.length) (hl : l[i].f0.length = m[i].f0.length) (hl1 : l[i].f1.length = m[i].f1.length) (hn : l[i].f0.length ≤ 9223372036854775806) (hn1 : l[i].f1.length ≤ 9223372036854775806) (hln : l.length ≤ 9223372036854775806) (hR : Evb (fun k => sentryref4_SameSentries.l0 k l m ((i + 1 : Nat) : Int)) Q) (d : Nat) : ∀ j : Nat, j + d = l[i].f0.length → Evb (fun k => sentryref4_SameSentries.l1 k l m (i : Int) (j : Int)) (l[i].f0.drop j = m[i].f0.drop j ∧ l[i].f1 = m[i].f1 ∧ Q) := by
  have r1 : rd_T54 l (i : Int) = l[i] := by simp [rd_T54, List.getD_eq_getElem?_getD, List.getElem?_eq_getElem h1]
  have r2 : rd_T54 m (i : Int) = m[i] := by simp [rd_T54, List.getD_eq_getElem?_getD, List.getElem?_eq_getElem h2]
  induction d with
  | zero =>
    intro j hj
    refine Evb.step (f := fun k => sentryref4_SameSentries.l2 k l m (i : Int) ((0 : Nat) : Int)) (fun k => ?_) ((evb_s2 l m i h1 h2 hl1 hn1 hln hR l[i].f1.length 0 (by omega)).iff ?_)
    · simp only [sentryref4_SameSentries.l1]
      rw [if_pos (by omega), if_pos (by omega), r1, if_neg (by omega)]
      rfl
    · rw [List.drop_of_length_le (l := l[i].f0) (by omega), List.drop_of_length_le (l := m[i].f0) (by omega)]
      simp
  | succ d ih =>
    intro j hj
    have g1 : j < l[i].f0.length := by omega
    have g2 : j < m[i].f0.length := by omega
    have q1 : rd_T103 l[i].f0 (j : Int) = l[i].f0[j] := by simp [rd_T103, List.getD_eq_getElem?_getD, List.getElem?_eq_getElem g1]
    have q2 : rd_T103 m[i].f0 (j : Int) = m[i].f0[j] := by simp [rd_T103, List.getD_eq_getElem?_getD, List.getElem?_eq_getElem g2]
    have hb : (!((l[i].f0[j].f0.toList) == (m[i].f0[j].f0.toList)) || (!(l[i].f0[j].f1 == m[i].f0[j].f1))) = true ↔ l[i].f0[j] ≠ m[i].f0[j] := by
      generalize l[i].f0[j] = a
      generalize m[i].f0[j] = b
      obtain ⟨a0, a1⟩ := a
      obtain ⟨b0, b1⟩ := b
      simp only [Bool.or_eq_true, Bool.not_eq_true', beq_eq_false_iff_ne, ne_eq, S103.mk.injEq]
      constructor
      · rintro (h | h) ⟨e1, e2⟩
        · exact h (by rw [e1])
        · exact h e2
      · intro h
        by_cases e1 : a0.toList = b0.toList
        · exact .inr (fun e3 => h ⟨ba_ext' e1, e3⟩)
        · exact .inl e1
    by_cases he : l[i].f0[j] = m[i].f0[j]
    · refine Evb.step (f := fun k => sentryref4_SameSentries.l1 k l m (i : Int) ((j + 1 : Nat) : Int)) (fun k => ?_) ((ih (j + 1) (by omega)).iff ?_)
      · simp only [sentryref4_SameSentries.l1]
        rw [if_pos (by omega), if_pos (by omega), r1, if_pos (by omega), if_pos (by omega), if_pos (by omega), r2, if_pos (by omega), q1, q2, if_neg (fun h => hb.1 h he), wrap_lt (n := (l[i].f0.length : Int)) (by omega) (by omega) (by omega)]
        rfl
      · rw [drop_iff hl j g1]
        exact ⟨fun h => ⟨⟨he, h.1⟩, h.2⟩, fun h => ⟨h.1.2, h.2⟩⟩
    · refine Evb.step (f := fun _ => some false) (fun k => ?_) (Evb.no ?_)
      · simp only [sentryref4_SameSentries.l1]
        rw [if_pos (by omega), if_pos (by omega), r1, if_pos (by omega), if_pos (by omega), if_pos (by omega), r2, if_pos (by omega), q1, q2, if_pos (hb.2 he)]
      · rw [drop_iff hl j g1]
        exact fun h => he h.1.1
def fitS (l : List (S54)) : Prop := l.length ≤ 9223372036854775806 ∧ ∀ s ∈ l, s.f0.length ≤ 9223372036854775806 ∧ s.f1.length ≤ 9223372036854775806
theorem evb_sents (l m : List (S54)) (hn : fitS l) : Evb (fun k => sentryref4_SameSentries.f k l m) (l = m) := by
  by_cases hl : l.length = m.length
  case neg => exact Evb.congr (fun k => by unfold sentryref4_SameSentries.f; exact if_neg (by omega)) (Evb.no (fun h => hl (by rw [h])))
  have main : ∀ (d i : Nat), i + d = l.length → Evb (fun k => sentryref4_SameSentries.l0 k l m (i : Int)) (l.drop i = m.drop i) := by
    intro d
    induction d with
    | zero =>
      intro i hi
      refine Evb.step (f := fun _ => some true) (fun k => ?_) (Evb.yes (by rw [List.drop_of_length_le (by omega), List.drop_of_length_le (by omega)]))
      simp only [sentryref4_SameSentries.l0]
      rw [if_neg (by omega)]
    | succ d ih =>
      intro i hi
      have h1 : i < l.length := by omega
      have h2 : i < m.length := by omega
      have r1 : rd_T54 l (i : Int) = l[i] := by simp [rd_T54, List.getD_eq_getElem?_getD, List.getElem?_eq_getElem h1]
      have r2 : rd_T54 m (i : Int) = m[i] := by simp [rd_T54, List.getD_eq_getElem?_getD, List.getElem?_eq_getElem h2]
      have hb := hn.2 _ (List.getElem_mem h1)
      have hno : ∀ b, b = true → Evb (fun k => sentryref4_SameSentries.j1 k l m (i : Int) b) False := fun b e => Evb.step (f := fun _ => some false) (fun k => by simp [sentryref4_SameSentries.j1, e]) (Evb.no id)
      have hln := hn.1
      by_cases e0 : l[i].f0.length = m[i].f0.length
      · by_cases e1 : l[i].f1.length = m[i].f1.length
        · refine Evb.step (f := fun k => sentryref4_SameSentries.j1 k l m (i : Int) false) (fun k => ?_) (Evb.step (f := fun k => sentryref4_SameSentries.l1 k l m (i : Int) ((0 : Nat) : Int)) (fun k => ?_) ((evb_s1 l m i h1 h2 e0 e1 hb.1 hb.2 hn.1 (ih (i + 1) (by omega)) l[i].f0.length 0 (by omega)).iff ?_))
          · simp only [sentryref4_SameSentries.l0]
            rw [if_pos (by omega), if_pos (by omega), if_pos (by omega), r1, r2, if_pos (by omega), show (((l[i].f1.length : Nat) : Int) != (m[i].f1.length : Int)) = false by rw [e1]; simp]
          · simp only [sentryref4_SameSentries.j1]
            rw [if_neg (by decide)]
            rfl
          · rw [drop_iff hl i h1]
            constructor
            · rintro ⟨a, b, c⟩
              refine ⟨?_, c⟩
              simp only [List.drop_zero] at a
              revert a b
              generalize l[i] = x
              generalize m[i] = y
              obtain ⟨x0, x1⟩ := x
              obtain ⟨y0, y1⟩ := y
              intro a b
              simp only at a b
              rw [a, b]
            · rintro ⟨a, c⟩
              exact ⟨by rw [a], by rw [a], c⟩
        · refine Evb.step (f := fun k => sentryref4_SameSentries.j1 k l m (i : Int) true) (fun k => ?_) ((hno true rfl).iff ?_)
          · simp only [sentryref4_SameSentries.l0]
            rw [if_pos (by omega), if_pos (by omega), if_pos (by omega), r1, r2, if_pos (by omega), show (((l[i].f1.length : Nat) : Int) != (m[i].f1.length : Int)) = true by simp; omega]
          · rw [drop_iff hl i h1]
            exact ⟨False.elim, fun h => e1 (by rw [h.1])⟩
      · refine Evb.step (f := fun k => sentryref4_SameSentries.j1 k l m (i : Int) true) (fun k => ?_) ((hno true rfl).iff ?_)
        · simp only [sentryref4_SameSentries.l0]
          rw [if_pos (by omega), if_pos (by omega), if_pos (by omega), r1, r2, if_neg (by omega)]
        · rw [drop_iff hl i h1]
          exact ⟨False.elim, fun h => e0 (by rw [h.1])⟩
  exact Evb.congr (fun k => by unfold sentryref4_SameSentries.f; exact if_pos (by omega)) (main l.length 0 (by omega))
theorem evb_item (x y : S48) (h5 : fitS x.f5) (h6 : fitS x.f6) : Evb (fun k => sentryref4_SameItem.f k x.f0 x.f1 x.f2 x.f3 x.f4 x.f5 x.f6 y.f0 y.f1 y.f2 y.f3 y.f4 y.f5 y.f6) (x = y) := by
  obtain ⟨x0, x1, x2, x3, x4, x5, x6⟩ := x
  obtain ⟨y0, y1, y2, y3, y4, y5, y6⟩ := y
  simp only at h5 h6 ⊢
  unfold sentryref4_SameItem.f
  rw [show ((⟨x0, x1, x2, x3, x4, x5, x6⟩ : S48) = ⟨y0, y1, y2, y3, y4, y5, y6⟩) = (x0 = y0 ∧ x1 = y1 ∧ x2 = y2 ∧ x3 = y3 ∧ x4 = y4 ∧ x5 = y5 ∧ x6 = y6) by rw [S48.mk.injEq]]
  by_cases e0 : x0.toList = y0.toList
  case neg => exact Evb.congr (fun k => if_neg e0) (Evb.no (fun h => e0 (by rw [h.1])))
  by_cases e1 : x1 = y1
  case neg => exact Evb.congr (fun k => by rw [if_pos e0, if_neg e1]) (Evb.no (fun h => e1 h.2.1))
  by_cases e2 : x2.toList = y2.toList
  case neg => exact Evb.congr (fun k => by rw [if_pos e0, if_pos e1, if_neg e2]) (Evb.no (fun h => e2 (by rw [h.2.2.1])))
  by_cases e3 : x3 = y3
  case neg => exact Evb.congr (fun k => by rw [if_pos e0, if_pos e1, if_pos e2, if_neg (by simpa using e3)]) (Evb.no (fun h => e3 h.2.2.2.1))
  by_cases e4 : x4 = y4
  case neg => exact Evb.congr (fun k => by rw [if_pos e0, if_pos e1, if_pos e2, if_pos (by simpa using e3), if_neg e4]) (Evb.no (fun h => e4 h.2.2.2.2.1))
  refine Evb.congr (fun k => by rw [if_pos e0, if_pos e1, if_pos e2, if_pos (by simpa using e3), if_pos e4]) ((Evb.and (evb_sents x5 y5 h5) (fun _ => Evb.congr (fun k => ?_) (evb_sents x6 y6 h6))).iff ?_)
  · cases sentryref4_SameSentries.f k x6 y6 <;> rfl
  · exact ⟨fun h => ⟨ba_ext' e0, e1, ba_ext' e2, e3, e4, h.1, h.2⟩, fun h => ⟨h.2.2.2.2.2.1, h.2.2.2.2.2.2⟩⟩
theorem evb_items (l m : List (S48)) (hn : l.length ≤ 9223372036854775806) (hs : ∀ x ∈ l, fitS x.f5 ∧ fitS x.f6) : Evb (fun k => sentryref4_SameItems.f k l m) (l = m) := by
  by_cases hl : l.length = m.length
  case neg => exact Evb.congr (fun k => by unfold sentryref4_SameItems.f; exact if_neg (by omega)) (Evb.no (fun h => hl (by rw [h])))
  have main : ∀ (d i : Nat), i + d = l.length → Evb (fun k => sentryref4_SameItems.l0 k l m (i : Int)) (l.drop i = m.drop i) := by
    intro d
    induction d with
    | zero =>
      intro i hi
      refine Evb.step (f := fun _ => some true) (fun k => ?_) (Evb.yes (by rw [List.drop_of_length_le (by omega), List.drop_of_length_le (by omega)]))
      simp only [sentryref4_SameItems.l0]
      rw [if_neg (by omega)]
    | succ d ih =>
      intro i hi
      have h1 : i < l.length := by omega
      have h2 : i < m.length := by omega
      have r1 : rd_T48 l (i : Int) = l[i] := by simp [rd_T48, List.getD_eq_getElem?_getD, List.getElem?_eq_getElem h1]
      have r2 : rd_T48 m (i : Int) = m[i] := by simp [rd_T48, List.getD_eq_getElem?_getD, List.getElem?_eq_getElem h2]
      have hb := hs _ (List.getElem_mem h1)
      refine Evb.step (fun k => ?_) ((Evb.and (evb_item l[i] m[i] hb.1 hb.2) (fun _ => ih (i + 1) (by omega))).iff (drop_iff hl i h1).symm)
      simp only [sentryref4_SameItems.l0]
      rw [if_pos (by omega), if_pos (by omega), if_pos (by omega), r1, r2, wrap_lt (n := (l.length : Int)) (by omega) (by omega) (by omega)]
      rfl
  exact Evb.congr (fun k => by unfold sentryref4_SameItems.f; exact if_pos (by omega)) (main l.length 0 (by omega))
theorem ev_same (fs gs : List ByteArray) (l m : List (S48)) (hf : fs.length ≤ 9223372036854775806) (hn : l.length ≤ 9223372036854775806) (hs : ∀ x ∈ l, fitS x.f5 ∧ fitS x.f6) : Evb (fun k => sentryref4_Same.f k fs l gs m) (fs = gs ∧ l = m) := by
  unfold sentryref4_Same.f
  refine Evb.and (evb_texts fs gs hf) (fun _ => Evb.congr (fun k => ?_) (evb_items l m hn hs))
  cases sentryref4_SameItems.f k l m <;> rfl
end Go.Proofs.Ytaiglhfmmdajdaa.Pm
end
section
namespace Go.Proofs.Ytaiglhfmmdajdaa.Pm
open Go.RowKit Go.Proofs.YtaiglhfmmdajdaaW.PrintWords Go.Proofs.YtaiglhfmmdajdaaW.PrintLast Go.Proofs.YtaiglhfmmdajdaaW.PrintMore
attribute [local go_sem] max2_int min2_int max_two min_two max_three min_three max_four min_four   -- for this text's walks alone
set_option linter.unusedVariables false
set_option linter.unusedSimpArgs false
def TB (v : Bool) (W : World) (e : Ending) (w' : World) : Prop := e = .returned (.bool v) ∧ Below W.heap.size W w'
/-- A model that reads so in w. -/
def Md (w : World) (A0 : Option Addr) (c0 : Nat) (fs : List ByteArray) (A1 : Option Addr) (c1 : Nat) (l : List (S48)) : Prop := (Kd.C Kd.string w A0 fs.length fs ∧ fs.length ≤ c0 ∧ Kd.C k48 w A1 l.length l ∧ l.length ≤ c1) ∧ fs.length ≤ 140737488351232 ∧ l.length ≤ 140737488351232 ∧ ∀ x ∈ l, goodItem x
section
variable {w : World} {A0 : Option Addr} {c0 : Nat} {fs : List ByteArray} {A1 : Option Addr} {c1 : Nat} {l : List (S48)}
theorem Md.heavy (h : Md w A0 c0 fs A1 c1 l) : ∃ v, ∀ W, Below w.heap.size w W → Calls Try.prog 13 #[.agg #[.slice A0 fs.length c0, .slice A1 l.length c1]] W (TB v W) := by
  obtain ⟨⟨h0, h1, h2, h3⟩, h4, h5, h6⟩ := h
  obtain ⟨v, ⟨k, hk⟩, -⟩ := ev_heavy fs l h4 h5 h6
  exact ⟨v, fun W hb => sentrylaw6_heavy.calls k A0 c0 fs A1 c1 l v W (Kd.C_below h0 hb) h1 (Kd.C_below h2 hb) h3 (hk k (Nat.le_refl _))⟩
theorem Md.is (h : Md w A0 c0 fs A1 c1 l) : ∀ W, Below w.heap.size w W → Calls Try.prog 19 #[.agg #[.slice A0 fs.length c0, .slice A1 l.length c1]] W (TB (isB fs l) W) := by
  obtain ⟨⟨h0, h1, h2, h3⟩, h4, h5, h6⟩ := h
  obtain ⟨k, hk⟩ := ev_ris fs l (fits_of fs l h4 h5 h6)
  exact fun W hb => sentryref4_Is.calls k A0 c0 fs A1 c1 l _ W (Kd.C_below h0 hb) h1 (Kd.C_below h2 hb) h3 (by rw [← ris_eq]; exact hk k (Nat.le_refl _))
theorem Md.pack (h : Md w A0 c0 fs A1 c1 l) (hB : isB fs l = true) : ∀ W, Below w.heap.size w W → Calls Try.prog 14 #[.agg #[.slice A0 fs.length c0, .slice A1 l.length c1]] W fun e w' => ∃ A c, e = .returned (.tuple #[.slice A (packL fs l).length c, .int .i64 0]) ∧ Kd.R (Kd.int .u8) 5 w' W.heap.size (fun _ => True) (.slice A (packL fs l).length c) (packL fs l) ∧ Below W.heap.size W w' := by
  obtain ⟨⟨h0, h1, h2, h3⟩, -⟩ := h
  intro W hb
  refine (pack_Pack.calls A0 c0 fs A1 c1 l (packL fs l) 0 W (Kd.C_below h0 hb) h1 (Kd.C_below h2 hb) h3 (by unfold pack_Pack.f; rw [if_pos hB])).mono ?_
  rintro e w' ⟨v, rfl, hR, hb'⟩
  obtain ⟨A, c, rfl⟩ := Kd.R_slice hR
  exact ⟨A, c, rfl, hR, hb'⟩
end
theorem fit_of {fs : List ByteArray} {l : List (S48)} (h : isB fs l = true) : fs.length ≤ 9223372036854775806 ∧ l.length ≤ 9223372036854775806 ∧ ∀ x ∈ l, fitS x.f5 ∧ fitS x.f6 := by
  have hm := MOk_of fs l h
  have h1 := hm.1
  have h2 := hm.2.1
  refine ⟨by omega, by omega, fun x hx => ?_⟩
  obtain ⟨-, -, -, h5, h6⟩ := hm.2.2.2 x hx
  exact ⟨⟨by omega, fun s hs => by have := (h5.2 s hs).1; have := (h5.2 s hs).2.1; constructor <;> omega⟩, ⟨by omega, fun s hs => by have := (h6.2 s hs).1; have := (h6.2 s hs).2.1; constructor <;> omega⟩⟩
theorem same_call (gs : List ByteArray) (m : List (S48)) (fs : List ByteArray) (l : List (S48)) (hf : gs.length ≤ 9223372036854775806 ∧ m.length ≤ 9223372036854775806 ∧ ∀ x ∈ m, fitS x.f5 ∧ fitS x.f6) : ∃ r : Bool, (r = true ↔ gs = fs ∧ m = l) ∧ ∀ (W : World) (A2 : Option Addr) (c2 : Nat) (A3 : Option Addr) (c3 : Nat) (A0 : Option Addr) (c0 : Nat) (A1 : Option Addr) (c1 : Nat), (Kd.C Kd.string W A2 gs.length gs ∧ gs.length ≤ c2 ∧ Kd.C k48 W A3 m.length m ∧ m.length ≤ c3) → (Kd.C Kd.string W A0 fs.length fs ∧ fs.length ≤ c0 ∧ Kd.C k48 W A1 l.length l ∧ l.length ≤ c1) →
    Calls Try.prog 20 #[.agg #[.slice A2 gs.length c2, .slice A3 m.length c3], .agg #[.slice A0 fs.length c0, .slice A1 l.length c1]] W (TB r W) := by
  obtain ⟨r, ⟨k, hk⟩, hr⟩ := ev_same gs fs m l hf.1 hf.2.1 hf.2.2
  exact ⟨r, hr, fun W A2 c2 A3 c3 A0 c0 A1 c1 h1 h2 => sentryref4_Same.calls k A2 c2 gs A3 c3 m A0 c0 fs A1 c1 l r W h1.1 h1.2.1 h1.2.2.1 h1.2.2.2 h2.1 h2.2.1 h2.2.2.1 h2.2.2.2 (hk k (Nat.le_refl _))⟩
theorem known_call (W : World) : Calls Try.prog 18 #[] W (TB true W) := sentrylaw6_known.calls true W rfl
end Go.Proofs.Ytaiglhfmmdajdaa.Pm
end
section
namespace Go.Proofs.Ytaiglhfmmdajdaa.Pm
open Go.RowKit Go.Proofs.YtaiglhfmmdajdaaW.PrintWords Go.Proofs.YtaiglhfmmdajdaaW.PrintLast Go.Proofs.YtaiglhfmmdajdaaW.PrintMore
attribute [local go_sem] max2_int min2_int max_two min_two max_three min_three max_four min_four   -- for this text's walks alone
set_option linter.unusedVariables false
set_option linter.unusedSimpArgs false
abbrev RSt := List Int × Bool
def Bytes (l : List Int) : Prop := ∀ x ∈ l, 0 ≤ x ∧ x ≤ 255
/-- What a reader in block g has left; the bytes are w0's. -/
def Rdr (w0 w : World) (g : Nat) (s : RSt) : Prop := ∃ A c, s.1.length ≤ c ∧ w.heap[g]? = some (.cells #[.slice A s.1.length c, .bool s.2] 71 (0, 0)) ∧ Kd.C (Kd.int .u8) w0 A s.1.length s.1 ∧ Bytes s.1 ∧ s.1.length ≤ 140737488351232
def Rs (w0 w wr : World) (g : Nat) (s : RSt) : Prop := Rdr w0 wr g s ∧ Below w0.heap.size w0 wr ∧ Kept w wr (fun k => k = g)
theorem C_kept {α : Type} {enc : α → Value} {h1 : ∀ x, (enc x).oneCell' = true} {w w' : World} {A : Option Addr} {n : Nat} {xs : List α} {S : Nat → Prop} (h : Kd.C (Kd.scalar enc h1) w A n xs) (hk : Kept w w' S) (ha : ∀ ad, A = some ad → ad.block < w.heap.size ∧ ¬ S ad.block) : Kd.C (Kd.scalar enc h1) w' A n xs := C_stay h (fun ad e => hk.2 _ (ha ad e).1 (ha ad e).2)
section
variable {w0 w w1 w2 : World} {g : Nat} {s s' : RSt}
theorem Rs.refl (h : Rdr w0 w g s) (hB : Below w0.heap.size w0 w) : Rs w0 w w g s := ⟨h, hB, Kept.refl _ _⟩
theorem Rdr.same (h : Rdr w0 w g s) (hb : w1.heap[g]? = w.heap[g]?) : Rdr w0 w1 g s := by
  obtain ⟨A, c, h1, h2, h3⟩ := h
  exact ⟨A, c, h1, hb.trans h2, h3⟩
theorem Rdr.lt (h : Rdr w0 w g s) : g < w.heap.size := by
  obtain ⟨A, c, -, h2, -⟩ := h
  exact blk_lt h2
theorem Rs.below (h : Rs w0 w w1 g s) (hb : Below w1.heap.size w1 w2) : Rs w0 w w2 g s := ⟨h.1.same (hb.block _ h.1.lt), below_then h.2.1 h.2.1.size hb, h.2.2.below hb⟩
theorem Rs.alloc (h : Rs w0 w w1 g s) (o : Obj) : Rs w0 w (w1.alloc o) g s := h.below (below_alloc (Below.refl _ _) o)
theorem Rs.drew (h : Rs w0 w w1 g s) : Rs w0 w w1.drew g s := h.below (below_drew1 (Below.refl _ _))
theorem Rs.then_ (h : Rs w0 w w1 g s) (k : Rs w0 w1 w2 g s') : Rs w0 w w2 g s' := ⟨k.1, k.2.1, h.2.2.then_ k.2.2 (fun _ e => .inl e)⟩
theorem Rs.stay {a : Addr} {v : Value} (h : Rs w0 w w1 g s) (hc : w.cell? a = some v) (hne : a.block ≠ g) : w1.cell? a = some v := cell_kept hc h.2.2 hne
theorem Rs.blk {b : Nat} {o : Obj} (h : Rs w0 w w1 g s) (hb : w.heap[b]? = some o) (hne : b ≠ g) : w1.heap[b]? = some o := (h.2.2.2 b (blk_lt hb) hne).trans hb
/-- A row of one's own, newer than w, has grown. -/
theorem Rs.grown {row : Option Nat} (h : Rs w0 w w1 g s) (hg : w1.grownBy w2 row) (hr : ∀ k, row = some k → k ≠ g ∧ w.heap.size ≤ k ∧ w0.heap.size ≤ k) : Rs w0 w w2 g s :=
  ⟨h.1.same (hg.block g h.1.lt (fun e => (hr g e.symm).1 rfl)), h.2.1.grown hg h.2.1.size (fun k e => (hr k e).2.2), Kept.of_grown hg h.2.2 (fun k e => .inr (hr k e).2.1)⟩
/-- A store into a block of one's own, newer than w. -/
theorem Rs.set {p : Addr} (h : Rs w0 w w1 g s) (v : Value) (hp : p.block ≠ g ∧ w.heap.size ≤ p.block ∧ w0.heap.size ≤ p.block) : Rs w0 w (w1.setCell p v) g s :=
  ⟨h.1.same (Below.heap_setCell _ _ _ _ (fun e => hp.1 e.symm)), h.2.1.setCell hp.2.2 v, h.2.2.setCell (.inr hp.2.1) v⟩
theorem Rs.put {v : Value} {j : Nat} (h : Rs w0 w w1 g s) (hg : w0.heap.size ≤ g) (hs : Rdr w0 (w1.setCell ⟨g, j, none⟩ v) g s') : Rs w0 w (w1.setCell ⟨g, j, none⟩ v) g s' := ⟨hs, h.2.1.setCell hg v, h.2.2.setCell (p := ⟨g, j, none⟩) (.inl rfl) v⟩
end
def takeR (n : Nat) (s : RSt) : List Int × RSt := if s.2 = true ∨ s.1.length < n then ([], (s.1, true)) else (s.1.take n, (s.1.drop n, false))
end Go.Proofs.Ytaiglhfmmdajdaa.Pm
end
section
namespace Go.Proofs.Ytaiglhfmmdajdaa.Pm
open Go.RowKit Go.Proofs.YtaiglhfmmdajdaaW.PrintWords Go.Proofs.YtaiglhfmmdajdaaW.PrintLast Go.Proofs.YtaiglhfmmdajdaaW.PrintMore
attribute [local go_sem] max2_int min2_int max_two min_two max_three min_three max_four min_four   -- for this text's walks alone
set_option linter.unusedVariables false
set_option linter.unusedSimpArgs false
def numGo (below : Int) : Nat → Nat → Int → RSt → Int × RSt
  | 0, _, _, s => (0, (s.1, true))
  | d + 1, i, n, s => if s.2 = true then (0, (s.1, true)) else match s.1 with
    | [] => (0, ([], true))
    | x :: r => if x < 128 then (n + (x % 128) * (128 : Int) ^ i, (r, decide (below ≤ n + (x % 128) * (128 : Int) ^ i))) else numGo below d (i + 1) (n + (x % 128) * (128 : Int) ^ i) (r, false)
def numR (below : Int) (s : RSt) : Int × RSt := numGo below 5 0 0 s
theorem Bytes.cons {x : Int} {r : List Int} (h : Bytes (x :: r)) : (0 ≤ x ∧ x ≤ 255) ∧ Bytes r := ⟨h x List.mem_cons_self, fun y hy => h y (List.mem_cons_of_mem _ hy)⟩
end Go.Proofs.Ytaiglhfmmdajdaa.Pm
end
section
namespace Go.Proofs.Ytaiglhfmmdajdaa.Pm
open Go.RowKit Go.Proofs.YtaiglhfmmdajdaaW.PrintWords Go.Proofs.YtaiglhfmmdajdaaW.PrintLast Go.Proofs.YtaiglhfmmdajdaaW.PrintMore
attribute [local go_sem] max2_int min2_int max_two min_two max_three min_three max_four min_four   -- for this text's walks alone
set_option linter.unusedVariables false
set_option linter.unusedSimpArgs false
theorem Rs.bytes {w0 w wr : World} {g : Nat} {s : RSt} (h : Rs w0 w wr g s) : Bytes s.1 := by
  obtain ⟨A, c, -, -, -, h8, -⟩ := h.1
  exact h8
def countR (m : Int) (s : RSt) : Int × RSt := if (numR (m + 1) s).2.2 = true then (0, (numR (m + 1) s).2) else numR (m + 1) s
def pickR (l : List ByteArray) (s : RSt) : ByteArray × RSt := if (numR l.length s).2.2 = true then (⟨#[]⟩, (numR l.length s).2) else (rdOf ByteArray.empty l (numR l.length s).1, (numR l.length s).2)
def unsgn (n : Int) : Int := if n % 2 = 1 then -((n + 1) / 2) else n / 2
def signedR (s : RSt) : Int × RSt := (unsgn (numR 2000001 s).1, (numR 2000001 s).2)
end Go.Proofs.Ytaiglhfmmdajdaa.Pm
end
section
namespace Go.Proofs.Ytaiglhfmmdajdaa.Pm
open Go.RowKit Go.Proofs.YtaiglhfmmdajdaaW.PrintWords Go.Proofs.YtaiglhfmmdajdaaW.PrintLast Go.Proofs.YtaiglhfmmdajdaaW.PrintMore
attribute [local go_sem] max2_int min2_int max_two min_two max_three min_three max_four min_four   -- for this text's walks alone
set_option linter.unusedVariables false
set_option linter.unusedSimpArgs false
end Go.Proofs.Ytaiglhfmmdajdaa.Pm
end
section
namespace Go.Proofs.Ytaiglhfmmdajdaa.Pm
open Go.RowKit Go.Proofs.YtaiglhfmmdajdaaW.PrintWords Go.Proofs.YtaiglhfmmdajdaaW.PrintLast Go.Proofs.YtaiglhfmmdajdaaW.PrintMore
attribute [local go_sem] max2_int min2_int max_two min_two max_three min_three max_four min_four   -- for this text's walks alone
set_option linter.unusedVariables false
set_option linter.unusedSimpArgs false
def onsR (ids : List ByteArray) : Nat → RSt → List (S103) × RSt
  | 0, s => ([], s)
  | d + 1, s => (⟨(pickR ids s).1, (numR 6 (pickR ids s).2).1⟩ :: (onsR ids d (numR 6 (pickR ids s).2).2).1, (onsR ids d (numR 6 (pickR ids s).2).2).2)
def ifsR (files : List ByteArray) : Nat → RSt → List (S50) × RSt
  | 0, s => ([], s)
  | d + 1, s => (⟨(pickR files s).1, (pickR opsL (pickR files s).2).1, (signedR (pickR opsL (pickR files s).2).2).1⟩ :: (ifsR files d (signedR (pickR opsL (pickR files s).2).2).2).1, (ifsR files d (signedR (pickR opsL (pickR files s).2).2).2).2)
def sentR (files ids : List ByteArray) (s : RSt) : S54 × RSt :=
  let c1 := countR 3 s
  let o := onsR ids c1.1.toNat c1.2
  let c2 := countR 2 o.2
  let f := ifsR files c2.1.toNat c2.2
  (⟨o.1, f.1⟩, f.2)
def sentsGo (files ids : List ByteArray) : Nat → RSt → List (S54) × RSt
  | 0, s => ([], s)
  | d + 1, s => ((sentR files ids s).1 :: (sentsGo files ids d (sentR files ids s).2).1, (sentsGo files ids d (sentR files ids s).2).2)
def sentsR (files ids : List ByteArray) (s : RSt) : List (S54) × RSt := sentsGo files ids (countR 3 s).1.toNat (countR 3 s).2
/-- A row of texts that is older than the reader. -/
def Txt (w0 w : World) (g : Nat) (A : Option Addr) (c : Nat) (l : List ByteArray) : Prop := Kd.C Kd.string w A l.length l ∧ l.length ≤ c ∧ (∀ ad, A = some ad → ad.block < w.heap.size ∧ ad.block ≠ g) ∧ l.length ≤ 1000000
theorem Txt.go {w0 w w1 : World} {g : Nat} {A : Option Addr} {c : Nat} {l : List ByteArray} {s : RSt} (h : Txt w0 w g A c l) (k : Rs w0 w w1 g s) : Txt w0 w1 g A c l :=
  ⟨C_kept h.1 k.2.2 h.2.2.1, h.2.1, fun ad e => ⟨Nat.lt_of_lt_of_le (h.2.2.1 ad e).1 k.2.2.1, (h.2.2.1 ad e).2⟩, h.2.2.2⟩
end Go.Proofs.Ytaiglhfmmdajdaa.Pm
end
section
namespace Go.Proofs.Ytaiglhfmmdajdaa.Pm
open Go.RowKit Go.Proofs.YtaiglhfmmdajdaaW.PrintWords Go.Proofs.YtaiglhfmmdajdaaW.PrintLast Go.Proofs.YtaiglhfmmdajdaaW.PrintMore
attribute [local go_sem] max2_int min2_int max_two min_two max_three min_three max_four min_four   -- for this text's walks alone
set_option linter.unusedVariables false
set_option linter.unusedSimpArgs false
def itemR (id : ByteArray) (files ids : List ByteArray) (s : RSt) : S48 × RSt :=
  let k := numR 6 s
  let p := pickR (⟨#[]⟩ :: ids) k.2
  let r := numR 2 p.2
  let t := numR 101 r.2
  let en := sentsR files ids t.2
  let ex := sentsR files ids en.2
  (⟨id, k.1, p.1, r.1 == 1, t.1, en.1, ex.1⟩, ex.2)
/-- A struct under way in a block of its own. -/
def XS (w0 w W : World) (g bx : Nat) (z : RSt) (cs : Array Value) : Prop := Rs w0 w W g z ∧ W.heap[bx]? = some (.cells cs 48 (0, 0))
section
variable {w0 w W w' : World} {g bx : Nat} {z z' : RSt} {cs : Array Value}
theorem XS.call (h : XS w0 w W g bx z cs) (s : Rs w0 W w' g z') (hne : bx ≠ g) : XS w0 w w' g bx z' cs := ⟨h.1.then_ s, s.blk h.2 hne⟩
theorem XS.put (h : XS w0 w W g bx z cs) (i : Nat) (u : Value) (cs' : Array Value) (e : cs.setIfInBounds i u = cs') (hne : bx ≠ g) (hw : w.heap.size ≤ bx) (hw0 : w0.heap.size ≤ bx) : XS w0 w (W.setCell ⟨bx, i, none⟩ u) g bx z cs' := ⟨h.1.set u ⟨hne, hw, hw0⟩, blk_put h.2 i u e⟩
end
end Go.Proofs.Ytaiglhfmmdajdaa.Pm
end
section
namespace Go.Proofs.Ytaiglhfmmdajdaa.Pm
open Go.RowKit Go.Proofs.YtaiglhfmmdajdaaW.PrintWords Go.Proofs.YtaiglhfmmdajdaaW.PrintLast Go.Proofs.YtaiglhfmmdajdaaW.PrintMore
attribute [local go_sem] max2_int min2_int max_two min_two max_three min_three max_four min_four   -- for this text's walks alone
set_option linter.unusedVariables false
set_option linter.unusedSimpArgs false
def textR (s : RSt) : ByteArray × RSt := (strOfNums (takeR (numR 13 s).1.toNat (numR 13 s).2).1, (takeR (numR 13 s).1.toNat (numR 13 s).2).2)
def textsGo : Nat → RSt → List ByteArray × RSt
  | 0, s => ([], s)
  | d + 1, s => ((textR s).1 :: (textsGo d (textR s).2).1, (textsGo d (textR s).2).2)
def itemsGo (files ids : List ByteArray) : List ByteArray → RSt → List (S48) × RSt
  | [], s => ([], s)
  | id :: l, s => ((itemR id files ids s).1 :: (itemsGo files ids l (itemR id files ids s).2).1, (itemsGo files ids l (itemR id files ids s).2).2)
def modelR (s : RSt) : (List ByteArray × List (S48)) × RSt :=
  let c := countR 22 s
  let ts := textsGo c.1.toNat c.2
  let n := countR ts.1.length ts.2
  let r := itemsGo (ts.1.take n.1.toNat) (ts.1.drop n.1.toNat) (ts.1.drop n.1.toNat) n.2
  ((ts.1.take n.1.toNat, r.1), r.2)
end Go.Proofs.Ytaiglhfmmdajdaa.Pm
end
section
namespace Go.Proofs.Ytaiglhfmmdajdaa.Pm
open Go.RowKit Go.Proofs.YtaiglhfmmdajdaaW.PrintWords Go.Proofs.YtaiglhfmmdajdaaW.PrintLast Go.Proofs.YtaiglhfmmdajdaaW.PrintMore
attribute [local go_sem] max2_int min2_int max_two min_two max_three min_three max_four min_four   -- for this text's walks alone
set_option linter.unusedVariables false
set_option linter.unusedSimpArgs false
theorem strOfNums_inj {xs : List Int} : ∀ {ys : List Int}, Bytes xs → Bytes ys → (strOfNums xs).toList = (strOfNums ys).toList → xs = ys := by
  have e : ∀ l : List Int, (strOfNums l).toList = l.map (fun n => UInt8.ofNat n.toNat) := fun l => by rw [ByteArray.toList_eq, strOfNums_data]
  intro ys hx hy h
  rw [e, e] at h
  clear e
  induction xs generalizing ys with
  | nil => cases ys with
    | nil => rfl
    | cons b ys => simp at h
  | cons a xs ih => cases ys with
    | nil => simp at h
    | cons b ys =>
      rw [List.map_cons, List.map_cons, List.cons.injEq] at h
      have ha := (Bytes.cons hx).1
      have hb := (Bytes.cons hy).1
      have h1 := congrArg UInt8.toNat h.1
      rw [UInt8.toNat_ofNat', UInt8.toNat_ofNat', Nat.mod_eq_of_lt (by omega), Nat.mod_eq_of_lt (by omega)] at h1
      rw [ih (Bytes.cons hx).2 (Bytes.cons hy).2 h.2, show a = b by omega]
def unpackR (l : List Int) : (List ByteArray × List (S48)) × Int :=
  if l.length < 8 then (([], []), 2) else
    let r := modelR (l.drop 8, false)
    if r.2.2 = false ∧ isB r.1.1 r.1.2 = true ∧ packL r.1.1 r.1.2 = l then (r.1, 0) else (([], []), 2)
theorem bytes_num (d : Nat) : ∀ n : Int, Bytes (numW d n) := by
  induction d with
  | zero => intro n x hx; simp [numW] at hx
  | succ d ih =>
    intro n x hx
    simp only [numW] at hx
    split at hx
    · rcases List.mem_cons.1 hx with rfl | hx
      · unfold byteW; rw [Lib.u8_or128_any _ (by omega) (by omega)]; omega
      · exact ih _ x hx
    · rw [List.mem_singleton.1 hx]; omega
theorem bytes_app {a b : List Int} (h1 : Bytes a) (h2 : Bytes b) : Bytes (a ++ b) := fun x hx => (List.mem_append.1 hx).elim (h1 x) (h2 x)
theorem bytes_flat {α : Type} (f : α → List Int) (l : List α) (h : ∀ x, Bytes (f x)) : Bytes (l.flatMap f) := fun x hx => by
  obtain ⟨y, -, h2⟩ := List.mem_flatMap.1 hx
  exact h y x h2
theorem bytes_str (s : ByteArray) : Bytes (bytesOf s) := fun x hx => by
  unfold bytesOf at hx
  obtain ⟨b, -, rfl⟩ := List.mem_map.1 hx
  have := b.toNat_lt
  omega
theorem bytes_model (fs : List ByteArray) (l : List (S48)) : Bytes (modelW fs l) := by
  unfold modelW
  refine bytes_app (bytes_app (bytes_app (bytes_num _ _) (bytes_flat _ _ fun s => bytes_app (bytes_num _ _) (bytes_str s))) (bytes_num _ _)) (bytes_flat _ _ fun x => ?_)
  have hs : ∀ ss, Bytes (sentsW fs l ss) := fun ss => bytes_app (bytes_num _ _) (bytes_flat _ _ fun s => bytes_app (bytes_app (bytes_app (bytes_num _ _) (bytes_flat _ _ fun o => bytes_app (bytes_num _ _) (bytes_num _ _))) (bytes_num _ _)) (bytes_flat _ _ fun c => bytes_app (bytes_app (bytes_num _ _) (bytes_num _ _)) (bytes_num _ _)))
  exact bytes_app (bytes_app (bytes_app (bytes_app (bytes_app (bytes_num _ _) (bytes_num _ _)) (bytes_num _ _)) (bytes_num _ _)) (hs _)) (hs _)
theorem bytes_seal {l : List Int} (h : Bytes l) : Bytes (sealL l) := by
  unfold sealL
  refine bytes_app (bytes_app (fun x hx => ?_) (fun x hx => ?_)) h
  · simp only [List.mem_cons, List.not_mem_nil, or_false] at hx
    omega
  · simp only [List.mem_cons, List.not_mem_nil, or_false] at hx
    omega
theorem bytes_pack (fs : List ByteArray) (l : List (S48)) : Bytes (packL fs l) := bytes_seal (bytes_model fs l)
end Go.Proofs.Ytaiglhfmmdajdaa.Pm
end
section
namespace Go.Proofs.Ytaiglhfmmdajdaa.Pm
open Go.RowKit Go.Proofs.YtaiglhfmmdajdaaW.PrintWords Go.Proofs.YtaiglhfmmdajdaaW.PrintLast Go.Proofs.YtaiglhfmmdajdaaW.PrintMore
attribute [local go_sem] max2_int min2_int max_two min_two max_three min_three max_four min_four   -- for this text's walks alone
set_option linter.unusedVariables false
set_option linter.unusedSimpArgs false
theorem ba_ext {a b : ByteArray} (h : a.toList = b.toList) : a = b := by
  rw [ByteArray.toList_eq, ByteArray.toList_eq] at h
  exact Go.WideShapes.bytes_inj h
theorem byteW_v (n : Int) : byteW n = n % 128 + 128 := by
  unfold byteW
  rw [Lib.u8_or128_any _ (by omega) (by omega)]
  omega
theorem numGo_numW (below : Int) (rest : List Int) (d : Nat) : ∀ (k : Nat) (n : Int) (i : Nat) (acc : Int), 0 ≤ n → n < (128 : Int) ^ d → 1 ≤ d → d ≤ k → numGo below d i acc (numW k n ++ rest, false) = (acc + n * (128 : Int) ^ i, (rest, decide (below ≤ acc + n * (128 : Int) ^ i))) := by
  induction d with
  | zero => intro k n i acc _ _ h; omega
  | succ d ih =>
    intro k n i acc h0 hn _ hk
    obtain ⟨k, rfl⟩ : ∃ m, k = m + 1 := ⟨k - 1, by omega⟩
    by_cases h : n ≥ 128
    · have hd1 : 1 ≤ d := by
        rcases Nat.eq_zero_or_pos d with rfl | h'
        · simp at hn; omega
        · exact h'
      have hn' : n / 128 < (128 : Int) ^ d := by
        rw [Int.pow_succ] at hn
        omega
      have e1 : byteW n % 128 = n % 128 := by rw [byteW_v]; omega
      simp only [numW]
      rw [if_pos h]
      show numGo below (d + 1) i acc (byteW n :: (numW k (n / 128) ++ rest), false) = _
      simp only [numGo]
      rw [if_neg (by decide), if_neg (by rw [byteW_v]; omega), e1, ih k (n / 128) (i + 1) _ (by omega) hn' hd1 (by omega)]
      have e2 : acc + n % 128 * (128 : Int) ^ i + n / 128 * (128 : Int) ^ (i + 1) = acc + n * (128 : Int) ^ i := by
        rw [Int.pow_succ, Int.add_assoc, ← Int.mul_assoc (n / 128), Int.mul_comm (n / 128 * 128 ^ i) 128, ← Int.mul_assoc 128, ← Int.add_mul, Int.emod_add_mul_ediv]
      rw [e2]
    · simp only [numW]
      rw [if_neg h]
      show numGo below (d + 1) i acc (n % 256 :: rest, false) = _
      simp only [numGo]
      have e1 : n % 256 % 128 = n := by omega
      rw [if_neg (by decide), if_pos (by omega), e1]
theorem numR_numW (below n : Int) (rest : List Int) (h0 : 0 ≤ n) (h1 : n < 34359738368) (h2 : n < below) : numR below (numW 10 n ++ rest, false) = (n, (rest, false)) := by
  unfold numR
  rw [numGo_numW below rest 5 10 n 0 0 h0 (by exact h1) (by decide) (by decide)]
  have e : (0 : Int) + n * (128 : Int) ^ 0 = n := by omega
  rw [e, decide_eq_false (by omega)]
theorem countR_numW (m n : Int) (rest : List Int) (h0 : 0 ≤ n) (h1 : n ≤ m) (hm : m ≤ 1000000) : countR m (numW 10 n ++ rest, false) = (n, (rest, false)) := by
  unfold countR
  rw [numR_numW (m + 1) n rest h0 (by omega) (by omega), if_neg (by simp)]
theorem pickR_numW (l : List ByteArray) (q : Nat) (rest : List Int) (hq : q < l.length) (hl : l.length ≤ 1000000) : pickR l (numW 10 (q : Int) ++ rest, false) = (l[q], (rest, false)) := by
  unfold pickR
  rw [numR_numW l.length q rest (by omega) (by omega) (by omega), if_neg (by simp), rdOf_get _ _ _ hq]
theorem unsgn_sgn (n : Int) : unsgn (sgn n) = n := by
  unfold unsgn sgn
  split <;> split <;> omega
theorem signedR_numW (n : Int) (rest : List Int) (h : -1000000 ≤ n ∧ n ≤ 1000000) : signedR (numW 10 (sgn n) ++ rest, false) = (n, (rest, false)) := by
  unfold signedR
  have h1 : 0 ≤ sgn n ∧ sgn n < 2000001 := by unfold sgn; split <;> omega
  rw [numR_numW 2000001 (sgn n) rest h1.1 (by omega) h1.2, unsgn_sgn]
theorem strOf_bytes (s : ByteArray) : strOfNums (bytesOf s) = s := by
  apply ba_ext
  rw [ByteArray.toList_eq, ByteArray.toList_eq, strOfNums_data]
  unfold bytesOf
  rw [List.map_map]
  have : (fun (n : Int) => UInt8.ofNat n.toNat) ∘ (fun (b : UInt8) => (b.toNat : Int)) = id := by
    funext b
    simp
  rw [this, List.map_id]
theorem textR_textW (s : ByteArray) (rest : List Int) (h : s.size ≤ 12) : textR (textW s ++ rest, false) = (s, (rest, false)) := by
  unfold textR textW
  rw [List.append_assoc, numR_numW 13 s.size _ (by omega) (by omega) (by omega)]
  have hl : (bytesOf s).length = s.size := bytesOf_length s
  have e : takeR (s.size : Int).toNat (bytesOf s ++ rest, false) = (bytesOf s, (rest, false)) := by
    rw [Int.toNat_natCast]
    unfold takeR
    rw [if_neg (by rw [List.length_append, hl]; simp), ← hl, List.take_left', List.drop_left'] <;> rfl
  simp only
  rw [e, strOf_bytes]
theorem textsGo_textW (rest : List Int) (l : List ByteArray) : (∀ s ∈ l, s.size ≤ 12) → textsGo l.length (l.flatMap textW ++ rest, false) = (l, (rest, false)) := by
  induction l with
  | nil => intro _; rfl
  | cons s l ih =>
    intro h
    rw [List.length_cons, List.flatMap_cons, List.append_assoc]
    simp only [textsGo]
    rw [textR_textW s _ (h s List.mem_cons_self)]
    simp only
    rw [ih (fun x hx => h x (List.mem_cons_of_mem _ hx))]
def gOn (ids : List ByteArray) (items : List (S48)) (x : S103) : Prop := (∃ p : Nat, ∃ h : p < ids.length, placeI items x.f0 = p ∧ ids[p] = x.f0) ∧ 0 ≤ x.f1 ∧ x.f1 < 6
def gIf (fs : List ByteArray) (c : S50) : Prop := (∃ p : Nat, ∃ h : p < fs.length, idxI fs c.f0 = p ∧ fs[p] = c.f0) ∧ (∃ p : Nat, ∃ h : p < opsL.length, idxI opsL c.f1 = p ∧ opsL[p] = c.f1) ∧ -1000000 ≤ c.f2 ∧ c.f2 ≤ 1000000
def gS (fs ids : List ByteArray) (items : List (S48)) (s : S54) : Prop := s.f0.length ≤ 3 ∧ s.f1.length ≤ 2 ∧ (∀ x ∈ s.f0, gOn ids items x) ∧ ∀ c ∈ s.f1, gIf fs c
def gI (fs ids : List ByteArray) (items : List (S48)) (x : S48) : Prop := (0 ≤ x.f1 ∧ x.f1 < 6) ∧ ((placeI items x.f2 = -1 ∧ x.f2 = ⟨#[]⟩) ∨ ∃ p : Nat, ∃ h : p < ids.length, placeI items x.f2 = p ∧ ids[p] = x.f2) ∧ (0 ≤ x.f4 ∧ x.f4 ≤ 100) ∧ (x.f5.length ≤ 3 ∧ ∀ s ∈ x.f5, gS fs ids items s) ∧ x.f6.length ≤ 3 ∧ ∀ s ∈ x.f6, gS fs ids items s
set_option linter.unusedSectionVars false
section
variable {fs ids : List ByteArray} {items : List (S48)} (hfs : fs.length ≤ 1000000) (hids : ids.length ≤ 100000)
include hfs hids
theorem onsR_W (rest : List Int) (l : List (S103)) : (∀ x ∈ l, gOn ids items x) → onsR ids l.length (l.flatMap (onW items) ++ rest, false) = (l, (rest, false)) := by
  induction l with
  | nil => intro _; rfl
  | cons x l ih =>
    intro h
    obtain ⟨⟨p, hp, h1, h2⟩, h3, h4⟩ := h x List.mem_cons_self
    rw [List.length_cons, List.flatMap_cons, List.append_assoc]
    simp only [onsR]
    unfold onW
    rw [List.append_assoc, h1, pickR_numW ids p _ hp (by omega)]
    simp only
    rw [numR_numW 6 x.f1 _ h3 (by omega) h4]
    simp only
    rw [show (l.flatMap fun x => numW 10 (placeI items x.f0) ++ numW 10 x.f1) = l.flatMap (onW items) from rfl, ih (fun y hy => h y (List.mem_cons_of_mem _ hy)), h2]
theorem ifsR_W (rest : List Int) (l : List (S50)) : (∀ x ∈ l, gIf fs x) → ifsR fs l.length (l.flatMap (ifW fs) ++ rest, false) = (l, (rest, false)) := by
  induction l with
  | nil => intro _; rfl
  | cons x l ih =>
    intro h
    obtain ⟨⟨p, hp, h1, h2⟩, ⟨q, hq, h3, h4⟩, h5⟩ := h x List.mem_cons_self
    have ih' := ih (fun y hy => h y (List.mem_cons_of_mem _ hy))
    rw [List.length_cons, List.flatMap_cons, List.append_assoc]
    simp only [ifsR]
    have e : ifW fs x ++ (l.flatMap (ifW fs) ++ rest) = numW 10 (p : Int) ++ (numW 10 (q : Int) ++ (numW 10 (sgn x.f2) ++ (l.flatMap (ifW fs) ++ rest))) := by
      unfold ifW
      rw [h1, h3]
      simp only [List.append_assoc]
    rw [e, pickR_numW fs p _ hp hfs]
    simp only
    rw [pickR_numW opsL q _ hq (by decide)]
    simp only
    rw [signedR_numW x.f2 _ h5]
    simp only
    rw [ih', h2, h4]
theorem sentR_W (rest : List Int) (s : S54) (h : gS fs ids items s) : sentR fs ids (sentW fs items s ++ rest, false) = (s, (rest, false)) := by
  obtain ⟨h1, h2, h3, h4⟩ := h
  have e : sentW fs items s ++ rest = numW 10 (s.f0.length : Int) ++ (s.f0.flatMap (onW items) ++ (numW 10 (s.f1.length : Int) ++ (s.f1.flatMap (ifW fs) ++ rest))) := by
    unfold sentW
    simp only [List.append_assoc]
  unfold sentR
  rw [e, countR_numW 3 s.f0.length _ (by omega) (by omega) (by omega)]
  simp only [Int.toNat_natCast]
  rw [onsR_W hfs hids _ s.f0 h3]
  simp only
  rw [countR_numW 2 s.f1.length _ (by omega) (by omega) (by omega)]
  simp only [Int.toNat_natCast]
  rw [ifsR_W hfs hids _ s.f1 h4]
theorem sentsGo_W (rest : List Int) (l : List (S54)) : (∀ x ∈ l, gS fs ids items x) → sentsGo fs ids l.length (l.flatMap (sentW fs items) ++ rest, false) = (l, (rest, false)) := by
  induction l with
  | nil => intro _; rfl
  | cons x l ih =>
    intro h
    rw [List.length_cons, List.flatMap_cons, List.append_assoc]
    simp only [sentsGo]
    rw [sentR_W hfs hids _ x (h x List.mem_cons_self)]
    simp only
    rw [ih (fun y hy => h y (List.mem_cons_of_mem _ hy))]
theorem sentsR_W (rest : List Int) (l : List (S54)) (h : l.length ≤ 3 ∧ ∀ x ∈ l, gS fs ids items x) : sentsR fs ids (sentsW fs items l ++ rest, false) = (l, (rest, false)) := by
  unfold sentsR sentsW
  rw [List.append_assoc, countR_numW 3 l.length _ (by omega) (by omega) (by omega)]
  simp only [Int.toNat_natCast]
  exact sentsGo_W hfs hids rest l h.2
theorem itemR_W (rest : List Int) (x : S48) (h : gI fs ids items x) : itemR x.f0 fs ids (itemW fs items x ++ rest, false) = (x, (rest, false)) := by
  obtain ⟨h1, h2, h3, h4, h5⟩ := h
  have e : itemW fs items x ++ rest = numW 10 x.f1 ++ (numW 10 (placeI items x.f2 + 1) ++ (numW 10 (if x.f3 = true then 1 else 0) ++ (numW 10 x.f4 ++ (sentsW fs items x.f5 ++ (sentsW fs items x.f6 ++ rest))))) := by
    unfold itemW
    simp only [List.append_assoc]
  unfold itemR
  rw [e, numR_numW 6 x.f1 _ h1.1 (by omega) h1.2]
  simp only
  have hp : ∀ r, pickR (⟨#[]⟩ :: ids) (numW 10 (placeI items x.f2 + 1) ++ r, false) = (x.f2, (r, false)) := by
    intro r
    rcases h2 with ⟨a, b⟩ | ⟨p, hp, a, b⟩
    · rw [a, b]
      have := pickR_numW (⟨#[]⟩ :: ids) 0 r (by simp) (by simp; omega)
      exact this
    · rw [a]
      have := pickR_numW (⟨#[]⟩ :: ids) (p + 1) r (by simp; omega) (by simp; omega)
      rw [show ((p : Int) + 1) = ((p + 1 : Nat) : Int) by omega, this]
      simp [b]
  rw [hp]
  simp only
  rw [numR_numW 2 (if x.f3 = true then 1 else 0) _ (by split <;> omega) (by split <;> omega) (by split <;> omega)]
  simp only
  rw [numR_numW 101 x.f4 _ h3.1 (by omega) (by omega)]
  simp only
  rw [sentsR_W hfs hids _ x.f5 h4]
  simp only
  rw [sentsR_W hfs hids _ x.f6 h5]
  have e3 : ((if x.f3 = true then (1 : Int) else 0) == 1) = x.f3 := by cases x.f3 <;> rfl
  rw [e3]
theorem itemsGo_W (rest : List Int) (l : List (S48)) : (∀ x ∈ l, gI fs ids items x) → itemsGo fs ids (l.map (fun x => x.f0)) (l.flatMap (itemW fs items) ++ rest, false) = (l, (rest, false)) := by
  induction l with
  | nil => intro _; rfl
  | cons x l ih =>
    intro h
    rw [List.map_cons, List.flatMap_cons, List.append_assoc]
    simp only [itemsGo]
    rw [itemR_W hfs hids _ x (h x List.mem_cons_self)]
    simp only
    rw [ih (fun y hy => h y (List.mem_cons_of_mem _ hy))]
end
theorem idx_at (l : List ByteArray) (s : ByteArray) (h : memB l s = true) : ∃ q : Nat, ∃ hq : q < l.length, idxI l s = q ∧ l[q] = s := by
  unfold memB at h
  cases hf : l.findIdx? (fun x => s.toList == x.toList) with
  | none =>
    rw [List.findIdx?_eq_none_iff] at hf
    obtain ⟨x, hx, hp⟩ := List.any_eq_true.1 h
    rw [hf x hx] at hp
    cases hp
  | some q =>
    obtain ⟨hq, h2, _⟩ := List.findIdx?_eq_some_iff_getElem.1 hf
    refine ⟨q, hq, by unfold idxI fidx; rw [hf], ?_⟩
    apply ba_ext
    simpa using (beq_iff_eq.1 h2).symm
theorem gS_of (fs : List ByteArray) (items : List (S48)) (ss : List (S54)) (h : sentsB fs items ss = true) : ss.length ≤ 3 ∧ ∀ s ∈ ss, gS fs (items.map (fun x => x.f0)) items s := by
  obtain ⟨h3, hok⟩ := sOk_of fs items ss h
  unfold sentsB at h
  rw [Bool.and_eq_true, decide_eq_true_eq, Bool.not_eq_true', List.any_eq_false] at h
  refine ⟨h3, fun s hs => ?_⟩
  have h2 := h.2 s hs
  rw [Bool.not_eq_true, Bool.not_eq_false'] at h2
  unfold sentryB at h2
  rw [Bool.and_eq_true, decide_eq_true_eq, Bool.and_eq_true, List.all_eq_true] at h2
  obtain ⟨⟨a, b, -⟩, c, d⟩ := h2
  refine ⟨a, b, fun x hx => ?_, fun y hy => ?_⟩
  · obtain ⟨i, hi, rfl⟩ := List.getElem_of_mem hx
    have := c i (List.mem_range.2 hi)
    unfold onOk at this
    rw [Bool.and_eq_true] at this
    have h3 := this.1
    have e : rd_T103 s.f0 (i : Int) = s.f0[i] := by simp [rd_T103, List.getD_eq_getElem?_getD, List.getElem?_eq_getElem hi]
    rw [e] at h3
    unfold onB at h3
    split at h3
    case isFalse => cases h3
    rename_i hp
    obtain ⟨p, hp2⟩ := Int.eq_ofNat_of_zero_le hp
    obtain ⟨hl, hn⟩ := placeI_at items _ p hp2
    refine ⟨⟨p, by rw [List.length_map]; exact hl, hp2, ?_⟩, ?_⟩
    · rw [List.getElem_map]
      apply ba_ext
      rw [← hn]
      show _ = ((rd_T48 items (p : Int)).f0).toList
      simp [rd_T48, List.getD_eq_getElem?_getD, List.getElem?_eq_getElem hl]
    · unfold legalB at h3
      split at h3
      · omega
      · split at h3
        · omega
        · split at h3
          · omega
          · cases h3
  · unfold ifsOk at d
    rw [Bool.not_eq_true', List.any_eq_false] at d
    have h3 := d y hy
    rw [Bool.not_eq_true, Bool.not_eq_false'] at h3
    unfold ifB at h3
    rw [Bool.and_eq_true, Bool.and_eq_true, decide_eq_true_eq] at h3
    have hm : ∀ l, memB l y.f0 = true → ∃ p : Nat, ∃ h : p < l.length, idxI l y.f0 = p ∧ l[p] = y.f0 := fun l hl => by
      obtain ⟨q, hq, hf, he⟩ := idx_at l y.f0 hl
      exact ⟨q, hq, hf, he⟩
    obtain ⟨q, hq, hf, he⟩ := idx_at opsL y.f1 h3.1
    exact ⟨hm fs h3.2.1, ⟨q, hq, hf, he⟩, h3.2.2⟩
theorem gI_of (fs : List ByteArray) (items : List (S48)) (h : isB fs items = true) : ∀ x ∈ items, gI fs (items.map (fun x => x.f0)) items x := by
  intro x hx
  have hf := legal_facts fs items h
  unfold isB at h
  rw [Bool.and_eq_true, Bool.and_eq_true, Bool.and_eq_true, Bool.and_eq_true, Bool.and_eq_true, decide_eq_true_eq, Bool.not_eq_true', List.any_eq_false] at h
  obtain ⟨-, -, -, -, -, f⟩ := h
  have h2 := f x hx
  rw [Bool.not_eq_true, Bool.not_eq_false'] at h2
  unfold itemB at h2
  rw [Bool.and_eq_true, Bool.and_eq_true, Bool.and_eq_true, Bool.and_eq_true, decide_eq_true_eq] at h2
  obtain ⟨p, q, r, s, -⟩ := h2
  refine ⟨by omega, ?_, ?_, gS_of fs items _ q, gS_of fs items _ r⟩
  · obtain ⟨i, hi, rfl⟩ := List.getElem_of_mem hx
    have e : rd_T48 items (i : Int) = items[i] := by simp [rd_T48, List.getD_eq_getElem?_getD, List.getElem?_eq_getElem hi]
    rcases Nat.eq_zero_or_pos i with rfl | hi0
    · left
      have h0 : (items[0].f2).toList = [] := by
        have := hf.2.2.2.2.1
        unfold paA at this
        rw [show (0 : Int) = ((0 : Nat) : Int) from rfl, e] at this
        exact this
      refine ⟨?_, ba_ext (by rw [h0, ByteArray.toList_eq])⟩
      have h1 : -1 ≤ placeI items items[0].f2 := fidx_ge _ _
      rcases Int.lt_or_le (placeI items items[0].f2) 0 with h0' | h0'
      · omega
      · obtain ⟨p, hp⟩ := Int.eq_ofNat_of_zero_le h0'
        obtain ⟨hl, hn⟩ := placeI_at items _ p hp
        exact absurd (hn.trans h0) (hf.2.2.2.1 p hl).2
    · right
      obtain ⟨p, hp, hpl, -, -⟩ := hf.2.2.2.2.2 i hi0 hi
      unfold paA at hpl
      rw [e] at hpl
      obtain ⟨hl, hn⟩ := placeI_at items _ p hpl
      refine ⟨p, by rw [List.length_map]; exact hl, hpl, ?_⟩
      rw [List.getElem_map]
      apply ba_ext
      rw [← hn]
      show _ = ((rd_T48 items (p : Int)).f0).toList
      simp [rd_T48, List.getD_eq_getElem?_getD, List.getElem?_eq_getElem hl]
  · split at s
    · rw [decide_eq_true_eq] at s; omega
    · rw [decide_eq_true_eq] at s; omega
theorem name12 (l : List ByteArray) (h : namesB l = true) : ∀ s ∈ l, s.size ≤ 12 := by
  intro s hs
  obtain ⟨i, hi, rfl⟩ := List.getElem_of_mem hs
  unfold namesB at h
  rw [List.all_eq_true] at h
  have := h i (List.mem_range.2 hi)
  unfold nameOk at this
  rw [rdOf_get _ _ _ hi, Bool.and_eq_true] at this
  have h1 := this.1
  unfold nameB at h1
  simp only [Bool.and_eq_true, decide_eq_true_eq] at h1
  omega
theorem modelR_W (fs : List ByteArray) (items : List (S48)) (rest : List Int) (h : isB fs items = true) : modelR (modelW fs items ++ rest, false) = ((fs, items), (rest, false)) := by
  have hg := gI_of fs items h
  have hm := MOk_of fs items h
  have h12 : ∀ s ∈ textsOf fs items, s.size ≤ 12 := by
    unfold isB at h
    rw [Bool.and_eq_true, Bool.and_eq_true, Bool.and_eq_true] at h
    intro s hs
    unfold textsOf at hs
    rcases List.mem_append.1 hs with hs | hs
    · exact name12 fs h.2.1 s hs
    · exact name12 _ h.2.2.1 s hs
  have hl : (textsOf fs items).length = fs.length + items.length := by unfold textsOf; rw [List.length_append, List.length_map]
  have h1 := hm.1
  have h2 := hm.2.1
  have e : modelW fs items ++ rest = numW 10 ((textsOf fs items).length : Int) ++ ((textsOf fs items).flatMap textW ++ (numW 10 (fs.length : Int) ++ (items.flatMap (itemW fs items) ++ rest))) := by
    unfold modelW
    simp only [List.append_assoc]
  unfold modelR
  rw [e, countR_numW 22 _ _ (by omega) (by omega) (by omega)]
  simp only [Int.toNat_natCast]
  rw [textsGo_textW _ _ h12]
  simp only
  rw [countR_numW _ (fs.length : Int) _ (by omega) (by omega) (by omega)]
  simp only [Int.toNat_natCast]
  have e1 : (textsOf fs items).take fs.length = fs := by unfold textsOf; exact List.take_left' rfl
  have e2 : (textsOf fs items).drop fs.length = items.map (fun x => x.f0) := by unfold textsOf; exact List.drop_left' rfl
  rw [e1, e2, itemsGo_W (by omega) (by rw [List.length_map]; omega) rest items hg]
theorem unpack_pack (fs : List ByteArray) (items : List (S48)) (h : isB fs items = true) : unpackR (packL fs items) = ((fs, items), 0) := by
  have hd : (packL fs items).drop 8 = modelW fs items := rfl
  have hl : (packL fs items).length = 8 + (modelW fs items).length := by unfold packL sealL; simp; omega
  have hm := modelR_W fs items [] h
  rw [List.append_nil] at hm
  unfold unpackR
  rw [if_neg (by omega), hd, hm]
  exact if_pos ⟨rfl, h, rfl⟩
theorem packL_inj {fs gs : List ByteArray} {l m : List (S48)} (h1 : isB fs l = true) (h2 : isB gs m = true) (h : packL fs l = packL gs m) : fs = gs ∧ l = m := by
  have a := unpack_pack fs l h1
  rw [h, unpack_pack gs m h2] at a
  have := congrArg Prod.fst a
  exact ⟨(congrArg Prod.fst this).symm, (congrArg Prod.snd this).symm⟩
end Go.Proofs.Ytaiglhfmmdajdaa.Pm
end
section
namespace Go.Proofs.Ytaiglhfmmdajdaa.Pm
open Go.RowKit Go.Proofs.YtaiglhfmmdajdaaW.PrintWords Go.Proofs.YtaiglhfmmdajdaaW.PrintLast Go.Proofs.YtaiglhfmmdajdaaW.PrintMore
attribute [local go_sem] max2_int min2_int max_two min_two max_three min_three max_four min_four   -- for this text's walks alone
set_option linter.unusedVariables false
set_option linter.unusedSimpArgs false
theorem conv_R {w : World} {base : Nat} {ok : Nat → Prop} {v : Value} {xs : List Int} (h : Kd.R (Kd.int .u8) 5 w base ok v xs) : (convert 26 9 v).run Try.prog w = .ok (.string (strOfNums xs)) w := own_string Try.underlying26 Try.underlying5 Try.underlying9 (Kd.own_of_R h)
set_option maxHeartbeats 16000000 in
set_option maxRecDepth 100000 in
theorem packUnlike_any (A0 : Option Addr) (c0 : Nat) (fs : List ByteArray) (A1 : Option Addr) (c1 : Nat) (l : List (S48)) (B0 : Option Addr) (d0 : Nat) (gs : List ByteArray) (B1 : Option Addr) (d1 : Nat) (m : List (S48)) (w : World) (hM : Md w A0 c0 fs A1 c1 l) (hM2 : Md w B0 d0 gs B1 d1 m) :
    Calls Try.prog 5 #[.agg #[.slice A0 fs.length c0, .slice A1 l.length c1], .agg #[.slice B0 gs.length d0, .slice B1 m.length d1]] w (TB true w) := by
  have hu25 := Try.underlying25
  obtain ⟨v1, hv1⟩ := hM.heavy
  obtain ⟨v2, hv2⟩ := hM2.heavy
  have HI1 := Lib.hid hM.is
  have HI2 := Lib.hid hM2.is
  have HP1 := Lib.hid hM.pack
  have HP2 := Lib.hid hM2.pack
  obtain ⟨wA, hwA⟩ : ∃ wA, wA = w.alloc (.cells #[.slice A0 fs.length c0, .slice A1 l.length c1] 25) := ⟨_, rfl⟩
  obtain ⟨wB, hwB⟩ : ∃ wB, wB = wA.alloc (.cells #[.slice B0 gs.length d0, .slice B1 m.length d1] 25) := ⟨_, rfl⟩
  have hbA : Below w.heap.size w wA := by rw [hwA]; exact below_alloc (Below.refl _ _) _
  have hbB : Below w.heap.size w wB := by rw [hwB]; exact below_alloc hbA _
  have hzA : wA.heap.size = w.heap.size + 1 := by rw [hwA]; simp
  have hgA : wB.heap[w.heap.size]? = some (.cells #[.slice A0 fs.length c0, .slice A1 l.length c1] 25 (0, 0)) := by rw [hwB]; exact blk_below (by rw [hwA]; exact heap_alloc_new w _) (below_alloc (Below.refl _ _) _)
  have hgB : wB.heap[w.heap.size + 1]? = some (.cells #[.slice B0 gs.length d0, .slice B1 m.length d1] 25 (0, 0)) := by rw [hwB, ← hzA]; exact heap_alloc_new wA _
  have HW := Lib.hid (And.intro hwA hwB)
  have HCZ := Lib.hid (And.intro hgA hgB)
  have HB0 := Lib.hid hbB
  have HM := Lib.hid (And.intro hM hM2)
  have HV2 := Lib.hid hv2
  have hv1 := hv1 _ hbB
  obtain ⟨n0, hn0⟩ : ∃ n0, n0 = fs.length := ⟨_, rfl⟩
  obtain ⟨n1, hn1⟩ : ∃ n1, n1 = l.length := ⟨_, rfl⟩
  obtain ⟨m0, hm0⟩ : ∃ m0, m0 = gs.length := ⟨_, rfl⟩
  obtain ⟨m1, hm1⟩ : ∃ m1, m1 = m.length := ⟨_, rfl⟩
  rw [← hn0, ← hn1] at hv1 HI1 HP1 HW HCZ ⊢
  rw [← hm0, ← hm1] at HV2 HI2 HP2 HW HCZ ⊢
  have HN := Lib.hid (And.intro hn0 (And.intro hn1 (And.intro hm0 hm1)))
  obtain ⟨i1, hi1⟩ : ∃ b, b = isB fs l := ⟨_, rfl⟩
  obtain ⟨i2, hi2⟩ : ∃ b, b = isB gs m := ⟨_, rfl⟩
  rw [← hi1] at HI1 HP1
  rw [← hi2] at HI2 HP2
  have HIB := Lib.hid (And.intro hi1 hi2)
  clear hM hM2 hv2 hwA hwB hbA hbB hzA hgA hgB hn0 hn1 hm0 hm1 hi1 hi2
  have hcc : ∀ W, Below wB.heap.size wB W → W.cell? ⟨w.heap.size, 0, none⟩ = some (.slice A0 n0 c0) ∧ W.cell? ⟨w.heap.size, 1, none⟩ = some (.slice A1 n1 c1) ∧ W.cell? ⟨w.heap.size + 1, 0, none⟩ = some (.slice B0 m0 d0) ∧ W.cell? ⟨w.heap.size + 1, 1, none⟩ = some (.slice B1 m1 d1) := fun W hb => ⟨(blk_cell (blk_below HCZ.out.1 hb) 0).trans rfl, (blk_cell (blk_below HCZ.out.1 hb) 1).trans rfl, (blk_cell (blk_below HCZ.out.2 hb) 0).trans rfl, (blk_cell (blk_below HCZ.out.2 hb) 1).trans rfl⟩
  have HCC := Lib.hid hcc
  clear hcc
  go_enter Try.func5, Try.ntmps5
  go_wp2_with fail
  rw [← HW.out.1, ← HW.out.2]
  refine hv1.mono ?_
  rintro e w2 ⟨rfl, hb2⟩
  have HB2 := Lib.hid hb2
  clear hb2 hv1
  cases v1 with
  | true =>
    go_wp2
    go_ret
    exact ⟨rfl, keepb HB2.out HB0.out⟩
  | false =>
  obtain ⟨hc_0, hc_1, hc_2, hc_3⟩ := HCC.out w2 HB2.out
  have hv2 := HV2.out w2 (keepb HB2.out HB0.out)
  go_wp2_with fail
  refine hv2.mono ?_
  rintro e w3 ⟨rfl, hb3⟩
  have HB3 := Lib.hid (below_then HB2.out HB2.out.size hb3)
  clear hb3 hv2 hc_0 hc_1 hc_2 hc_3
  cases v2 with
  | true =>
    go_wp2
    go_ret
    exact ⟨rfl, keepb HB3.out HB0.out⟩
  | false =>
  obtain ⟨hc_0, hc_1, hc_2, hc_3⟩ := HCC.out w3 HB3.out
  have hi := HI1.out w3 (keepb HB3.out HB0.out)
  go_wp2_with fail
  refine hi.mono ?_
  rintro e w4 ⟨rfl, hb4⟩
  have HB4 := Lib.hid (below_then HB3.out HB3.out.size hb4)
  clear hb4 hi hc_0 hc_1 hc_2 hc_3
  cases i1 with
  | false =>
    go_wp2
    go_ret
    exact ⟨rfl, keepb HB4.out HB0.out⟩
  | true =>
  obtain ⟨hc_0, hc_1, hc_2, hc_3⟩ := HCC.out w4 HB4.out
  have hi := HI2.out w4 (keepb HB4.out HB0.out)
  go_wp2_with fail
  refine hi.mono ?_
  rintro e w5 ⟨rfl, hb5⟩
  have HB5 := Lib.hid (below_then HB4.out HB4.out.size hb5)
  clear hb5 hi hc_0 hc_1 hc_2 hc_3
  cases i2 with
  | false =>
    go_wp2
    go_ret
    exact ⟨rfl, keepb HB5.out HB0.out⟩
  | true =>
  obtain ⟨r, hr, hsame⟩ := same_call fs l gs m (fit_of HIB.out.1.symm)
  have hq : (packL fs l = packL gs m) ↔ r = true := by
    rw [hr]
    exact ⟨fun h => packL_inj HIB.out.1.symm HIB.out.2.symm h, fun h => by rw [h.1, h.2]⟩
  have hqs : ((strOfNums (packL fs l)).toList == (strOfNums (packL gs m)).toList) = r := by
    cases r with
    | true => exact beq_iff_eq.mpr (by rw [hq.2 rfl])
    | false =>
      refine beq_eq_false_iff_ne.mpr (fun h => ?_)
      have := hq.1 (strOfNums_inj (bytes_pack fs l) (bytes_pack gs m) h)
      cases this
  have HSM := Lib.hid hsame
  have hp1 := HP1.out (by first | trivial | rfl) w5 (keepb HB5.out HB0.out)
  have hP2 := HP2.out (by first | trivial | rfl)
  obtain ⟨p1, hp1e⟩ : ∃ p, p = packL fs l := ⟨_, rfl⟩
  obtain ⟨p2, hp2e⟩ : ∃ p, p = packL gs m := ⟨_, rfl⟩
  rw [← hp1e] at hp1 hqs
  rw [← hp2e] at hP2 hqs
  obtain ⟨s1, hs1⟩ : ∃ s, s = strOfNums p1 := ⟨_, rfl⟩
  obtain ⟨s2, hs2⟩ : ∃ s, s = strOfNums p2 := ⟨_, rfl⟩
  rw [← hs1, ← hs2] at hqs
  have HS := Lib.hid (And.intro hs1 hs2)
  have HP2' := Lib.hid hP2
  have HQS := Lib.hid hqs
  clear hr hq hqs hsame hp1e hp2e hs1 hs2 hP2 HP1 HP2 HI1 HI2 HV2
  obtain ⟨q1, hq1⟩ : ∃ q, q = p1.length := ⟨_, rfl⟩
  rw [← hq1] at hp1
  clear hq1
  obtain ⟨hc_0, hc_1, hc_2, hc_3⟩ := HCC.out w5 HB5.out
  go_wp2_with fail
  refine hp1.mono ?_
  rintro e w6 ⟨A6, c6, rfl, hR6, hb6⟩
  have HB6 := Lib.hid (below_then HB5.out HB5.out.size hb6)
  have HR6 := Lib.hid hR6
  have hp2 := HP2'.out w6 (keepb HB6.out HB0.out)
  obtain ⟨q2, hq2⟩ : ∃ q, q = p2.length := ⟨_, rfl⟩
  rw [← hq2] at hp2
  clear hp1 hb6 hR6 hc_0 hc_1 hc_2 hc_3 hq2 HP2'
  obtain ⟨hc_0, hc_1, hc_2, hc_3⟩ := HCC.out w6 HB6.out
  go_wp2_with fail
  refine hp2.mono ?_
  rintro e w7 ⟨A7, c7, rfl, hR7, hb7⟩
  have HB7 := Lib.hid (below_then HB6.out HB6.out.size hb7)
  have HR7 := Lib.hid hR7
  have HR6 := Lib.hid (Kd.R_below HR6.out hb7)
  clear hp2 hb7 hR7 hc_0 hc_1 hc_2 hc_3
  go_wp2
  obtain ⟨hc_0, hc_1, hc_2, hc_3⟩ := HCC.out w7 HB7.out
  have hk1 := conv_R (Kd.R_drew HR6.out)
  have hk2 := conv_R (Kd.R_drew HR7.out)
  rw [← HS.out.1] at hk1
  rw [← HS.out.2] at hk2
  refine st_ (fun w' => w'.cell? ⟨w.heap.size, 0, none⟩ = some (.slice A0 n0 c0) ∧ w'.cell? ⟨w.heap.size, 1, none⟩ = some (.slice A1 n1 c1) ∧ w'.cell? ⟨w.heap.size + 1, 0, none⟩ = some (.slice B0 m0 d0) ∧ w'.cell? ⟨w.heap.size + 1, 1, none⟩ = some (.slice B1 m1 d1) ∧ (convert 26 9 (.slice A6 q1 c6)).run Try.prog w' = .ok (.string s1) w' ∧ (convert 26 9 (.slice A7 q2 c7)).run Try.prog w' = .ok (.string s2) w') 21 ⟨hc_0, hc_1, hc_2, hc_3, hk1, hk2⟩ (fun hHeld => ?_)
  have hBD : Below wB.heap.size wB w7.drew := below_drew1 HB7.out
  have hRD6 := Kd.R_drew HR6.out
  have hRD7 := Kd.R_drew HR7.out
  clear hc_0 hc_1 hc_2 hc_3 hk1 hk2
  generalize w7.drew = wD at hHeld hBD hRD6 hRD7 ⊢
  refine pu_ 0 (some 35) ?_
  refine pu_ 1 (some 36) ?_
  refine pu_ 2 (some 37) ?_
  refine pu_ 3 (some 38) ?_
  refine pu_ 4 (some 39) ?_
  refine pu_ 5 (some 40) ?_
  refine pu_ 6 (some 41) ?_
  refine pu_ 7 (some 42) ?_
  refine tk_ 8 (some 43) hHeld ?_ (hy := by rintro w' ⟨s0, s1_, s2_, s3, s4, s5⟩; go_simp; with_reducible rfl)
  refine pu_ 9 (some 44) ?_
  refine tk_ 10 (some 45) hHeld ?_ (hy := by rintro w' ⟨s0, s1_, s2_, s3, s4, s5⟩; go_simp; with_reducible rfl)
  have hqs := HQS.out
  refine pu_ 11 (some 46) ?_
  refine tk_ 12 (some 47) hHeld ?_ (hy := by rintro w' ⟨s0, s1_, s2_, s3, s4, s5⟩; go_simp; with_reducible rfl)
  refine tk_ 13 (some 48) hHeld ?_ (hy := by rintro w' ⟨s0, s1_, s2_, s3, s4, s5⟩; go_simp; with_reducible rfl)
  have hsm := HSM.out wD A0 c0 A1 c1 B0 d0 B1 d1 ⟨Kd.C_below HM.out.1.1.1 (keepb hBD HB0.out), HM.out.1.1.2.1, Kd.C_below HM.out.1.1.2.2.1 (keepb hBD HB0.out), HM.out.1.1.2.2.2⟩ ⟨Kd.C_below HM.out.2.1.1 (keepb hBD HB0.out), HM.out.2.1.2.1, Kd.C_below HM.out.2.1.2.2.1 (keepb hBD HB0.out), HM.out.2.1.2.2.2⟩
  rw [← HN.out.1, ← HN.out.2.1, ← HN.out.2.2.1, ← HN.out.2.2.2] at hsm
  have hstep : ∀ W, Below wD.heap.size wD W → W.cell? ⟨w.heap.size, 0, none⟩ = some (.slice A0 n0 c0) ∧ W.cell? ⟨w.heap.size, 1, none⟩ = some (.slice A1 n1 c1) ∧ W.cell? ⟨w.heap.size + 1, 0, none⟩ = some (.slice B0 m0 d0) ∧ W.cell? ⟨w.heap.size + 1, 1, none⟩ = some (.slice B1 m1 d1) ∧ (convert 26 9 (.slice A6 q1 c6)).run Try.prog W = .ok (.string s1) W ∧ (convert 26 9 (.slice A7 q2 c7)).run Try.prog W = .ok (.string s2) W := fun W hb => by
    obtain ⟨a, b, c, d⟩ := HCC.out W (below_then hBD hBD.size hb)
    have e1 := conv_R (Kd.R_below hRD6 hb)
    have e2 := conv_R (Kd.R_below hRD7 hb)
    rw [← HS.out.1] at e1
    rw [← HS.out.2] at e2
    exact ⟨a, b, c, d, e1, e2⟩
  have HST := Lib.hid hstep
  clear hstep hRD6 hRD7 hHeld
  refine ca_ 14 (some 49) Try.func20 #[.agg #[.slice A0 n0 c0, .slice A1 n1 c1], .agg #[.slice B0 m0 d0, .slice B1 m1 d1]] ?_
  refine hsm.mono ?_
  rintro e w8 ⟨rfl, hb8⟩
  have HB8 := Lib.hid hb8
  clear hsm hb8
  refine ⟨_, rfl, HST.out w8 HB8.out, fun hHeld => ⟨_, rfl, nz_ (some 49) ?_⟩⟩
  cases r
  all_goals
    refine pu_ 15 (some 50) ?_
    refine pu_ 16 (some 51) ?_
    refine pu_ 17 (some 52) ?_
    refine ca_ 18 (some 53) Try.func18 #[] ?_
    refine (known_call w8).mono ?_
    rintro e w9 ⟨rfl, hb9⟩
    have HB9 := Lib.hid (below_then HB8.out HB8.out.size hb9)
    clear hb9
    refine ⟨_, rfl, HST.out w9 HB9.out, fun hHeld => ⟨_, rfl, nz_ (some 53) ?_⟩⟩
    refine pu_ 19 (some 54) ?_
    refine pu_ 20 (some 4) ?_
    refine dn_ ?_
    go_wp2
    go_ret
    exact ⟨rfl, keepb (below_then hBD hBD.size HB9.out) HB0.out⟩
end Go.Proofs.Ytaiglhfmmdajdaa.Pm
end
section
namespace Go.Proofs.Ytaiglhfmmdajdaa.packUnlike
open Go.ChangeShapes Go.WideShapes Go.ChangeAt Go.RowKit Go.Proofs.YtaiglhfmmdajdaaW.PrintWords
open Go.ChangeMaps (open_string shut_string)
set_option linter.unusedVariables false
theorem own : ownKnob Try.prog.godebug = none := by kernel_rfl
theorem laidOut : laidOutB Try.prog = true := by kernel_rfl
set_option maxRecDepth 100000 in
theorem lifted (os : Os) (started : os.Started) (H : Type) (enc : TypeId × Value → H) :
    ReturnsInHanded {} Try.checked os 5 .any (Rows.packUnlikeSpec.pre6 enc Try.prog Try.f5 Rows.packUnlikeRow.domain false) (Rows.packUnlikeSpec.post enc Try.prog Try.f5 false true false false) := by
  refine returnsInHanded_of_change_sized (C := Try.checked) own started (by kernel_rfl) Try.func5
    (ChangeSpec.witness6 (enc := enc) (C := Try.checked) false ⟨#[], #[.agg #[.slice none 0 0, .slice none 0 0], .agg #[.slice none 0 0, .slice none 0 0]], []⟩ 8 (by kernel_rfl) (by kernel_rfl) (by kernel_rfl) (by kernel_rfl)) ?_
  intro W base args ds gs before hval0 hW hcnd hsz0 _
  have hsz : (DataW.weightsEach Try.prog (Try.f5.params.toList ++ Rows.packUnlikeSpec.plain.varTypes Try.prog) (ds ++ gs)).all (· ≤ reachBytes) = true := hsz0
  have hval : ∀ (j : Nat) t v, Try.f5.params[j]? = some t → args[j]? = some v → Value.okWide Try.prog W .any base t v := hval0
  have hW' := hW
  obtain ⟨p, q, hA0, hV, rfl, hfz, hnd⟩ := hW
  have hA : DataW.TrodAll enc Try.prog W 0 (fun _ => true) true Try.f5.params.toList args.toList ds p := hA0
  rw [Try.params5] at hA hval hsz
  obtain ⟨v0, vs0, d0, ds0, p0, q0, hargs, rfl, rfl, h0, r0⟩ := trodAll_cons hA
  obtain ⟨v1, vs1, d1, ds1, p1, q1, rfl, rfl, rfl, h1, r1⟩ := trodAll_cons r0
  obtain ⟨rfl, rfl, rfl⟩ := trodAll_nil r1
  obtain rfl : args = #[v0, v1] := by cases args; simp_all
  obtain ⟨rfl, rfl⟩ := trodVars_none hV
  have k0 := h0
  have lt0 : ∀ x ∈ p0, x.block < W.heap.size := by obtain ⟨m, hm⟩ := k0; exact DataW.trod_lt m _ _ _ hm
  obtain ⟨A0, c0, fs0, B0, e0, l0, rfl, rdf0, hcf0, rdl0, hcl0, hf0, hl0, hg0⟩ := Pm.open_model (hval 0 25 v0 rfl rfl) h0 (Pm.light_of hsz (j := 0) (t := 25) rfl rfl)
  have k1 := h1
  have lt1 : ∀ x ∈ p1, x.block < W.heap.size := by obtain ⟨m, hm⟩ := k1; exact DataW.trod_lt m _ _ _ hm
  obtain ⟨A1, c1, fs1, B1, e1, l1, rfl, rdf1, hcf1, rdl1, hcl1, hf1, hl1, hg1⟩ := Pm.open_model (hval 1 25 v1 rfl rfl) h1 (Pm.light_of hsz (j := 1) (t := 25) rfl rfl)
  clear hA0 hval0 hsz0 hsz
  refine ((Pm.packUnlike_any A0 c0 fs0 B0 e0 l0 A1 c1 fs1 B1 e1 l1 W ⟨⟨rdf0, hcf0, rdl0, hcl0⟩, hf0, hl0, hg0⟩ ⟨⟨rdf1, hcf1, rdl1, hcl1⟩, hf1, hl1, hg1⟩).mono fun e w' h => (⟨h.1, h.2⟩ : e = .returned (.bool true) ∧ Below W.heap.size W w')).mono fun e W' ⟨he, bel⟩ => ?_
  subst he
  exact ⟨_, rfl, _, _, _, [], _, [], hW', trodAll_mk1 (shut_bool Try.underlying4 _), (trodAll_cons_mk (Below.trod laidOut (by kernel_rfl) (of_decide_eq_true (by kernel_rfl)) k0 bel lt0) (trodAll_cons_mk (Below.trod laidOut (by kernel_rfl) (of_decide_eq_true (by kernel_rfl)) k1 bel lt1) trodAll_mk0)), rfl, bel.frame _, fun h => by cases h⟩
theorem over : Rows.packUnlikeRow.holds Try.pinned (OpenSpec.ofChange Rows.packUnlikeSpec) :=
  OpenClaim.holds_of_wide 5 Try.f5 rfl rfl rfl rfl rfl rfl rfl ⟨rfl, rfl, rfl, rfl, rfl⟩ rfl rfl rfl rfl rfl (by kernel_rfl) Try.func5 (by kernel_rfl)
    (of_decide_eq_true (by kernel_rfl)) (by unfold Func.isWrapper; first | (rw [if_pos (by decide +kernel)]; kernel_rfl) | (rw [if_neg (by decide +kernel)]; exact ⟨rfl, rfl⟩))
    (fun os started H enc _ => lifted os started H enc)
theorem proved : Rows.PackUnlikeSaid := over
end Go.Proofs.Ytaiglhfmmdajdaa.packUnlike
namespace Go.Proofs.Ytaiglhfmmdajdaa
/-- The row, under a short name, for the claim. -/
theorem packUnlike_holds : Rows.PackUnlikeSaid := packUnlike.proved
end Go.Proofs.Ytaiglhfmmdajdaa
end
