/- Walks and plain laws on the way to the law PackSealedOne: several texts of this workplace and of the kit's printer, merged; what is not used is struck, by a program. No condition. -/
import Derived.Lib.Hide
import Derived.Test.YtaiglhfmmdajdaaMPackSealedOne0
import Derived.Test.YtaiglhfmmdajdaaMPackSealedOne3
import Derived.Test.YtaiglhfmmdajdaaMPackSealedOne2
import Derived.Lib.AppendStr
import Derived.Lib.SliceRun
import Derived.Deep.Slices
import Derived.Lib.SmallJoins
import Derived.SizedLaws
import Derived.Test.YtaiglhfmmdajdaaMPackSealedOne1
section
namespace Go.Proofs.Ytaiglhfmmdajdaa.Pm
open Go.RowKit Go.Proofs.YtaiglhfmmdajdaaW.PrintWords Go.Proofs.YtaiglhfmmdajdaaW.PrintLast Go.Proofs.YtaiglhfmmdajdaaW.PrintMore
attribute [local go_sem] max2_int min2_int max_two min_two max_three min_three max_four min_four   -- for this text's walks alone
set_option linter.unusedVariables false
set_option linter.unusedSimpArgs false
def letterB (a : Int) : Bool := decide ((97 ≤ a ∧ a ≤ 122) ∨ (65 ≤ a ∧ a ≤ 90) ∨ a = 95)
def moreB (a : Int) : Bool := letterB a || decide ((48 ≤ a ∧ a ≤ 57) ∨ a = 45 ∨ a = 46)
theorem letter_eq (a : Int) : q38.f a = some (letterB a) := by
 unfold q38.f letterB
 by_cases h1 : a ≥ 97 <;> by_cases h2 : a ≤ 122 <;> by_cases h3 : a ≥ 65 <;> by_cases h4 : a ≤ 90 <;> simp [h1, h2, h3, h4] <;> first | omega | (by_cases h5 : a = 95 <;> simp [h5] <;> omega)
theorem more_eq (a : Int) : q44.f a = some (moreB a) := by
  unfold q44.f moreB
  rw [letter_eq, Option.bind_some]
  cases letterB a with
  | true => simp
  | false =>
    by_cases h1 : a ≥ 48 <;> by_cases h2 : a ≤ 57 <;> by_cases h3 : a = 45 <;> simp [h1, h2, h3] <;> first | omega | (by_cases h5 : a = 46 <;> simp [h5] <;> omega)
def byteAt (s : ByteArray) (i : Nat) : Int := ((s.data.toList.getD i 0).toNat : Int)
def nameB (s : ByteArray) : Bool := decide (1 ≤ s.size ∧ s.size ≤ 12) && letterB (byteAt s 0) && (List.range s.size).all (fun i => moreB (byteAt s i))
def q65.f (a0 : ByteArray) : Option Bool := some (nameB a0)
theorem empty_size (s : ByteArray) : s.toList.isEmpty = decide (s.size = 0) := by
 rw [ByteArray.toList_eq, ← data_length]
 cases s.data.toList with
 | nil => rfl
 | cons x l => simp
theorem byteAt_get (s : ByteArray) (h : 0 < s.size) : ((s[0]'h).toNat : Int) = byteAt s 0 := by
 simp only [byteAt, List.getD_eq_getElem?_getD]
 rw [List.getElem?_eq_getElem (by simpa using h)]
 rfl
set_option maxHeartbeats 4000000 in
set_option maxRecDepth 100000 in
theorem q65.calls (a0 : ByteArray) (r : Bool) (w : World) (h : q65.f a0 = some r) :
    Calls Try.prog 67 #[.string a0] w fun e w' => e = .returned (.bool r) ∧ Below w.heap.size w w' := by
  obtain rfl := Option.some.inj h
  clear h
  by_cases h0 : a0.size = 0
  · have e1 : a0.toList.isEmpty = true := by rw [empty_size]; exact decide_eq_true h0
    have e2 : nameB a0 = false := by simp [nameB, h0]
    rw [e2]
    clear e2 h0
    go_enter Try.func67, Try.ntmps67
    go_wp2
    go_ret
    exact ⟨rfl, Below.refl _ _⟩
  have e1 : a0.toList.isEmpty = false := by rw [empty_size]; exact decide_eq_false h0
  by_cases h12 : 12 < a0.size
  · have e2 : nameB a0 = false := by simp [nameB]; omega
    rw [e2]
    clear e2 h0
    have h12' : (12 : Int) < a0.size := by omega
    go_enter Try.func67, Try.ntmps67
    go_wp2
    go_ret
    exact ⟨rfl, Below.refl _ _⟩
  have h12' : ¬ (12 : Int) < a0.size := by omega
  have hp : 0 < a0.size := by omega
  have hp' : (0 : Int) < a0.size := by omega
  have hl := fun (W : World) => q38.calls (byteAt a0 0) _ W (letter_eq _)
  have HL := Lib.hid hl
  clear hl
  have hb0 := byteAt_get a0 hp
  cases hq : letterB (byteAt a0 0) with
  | false =>
    have e2 : nameB a0 = false := by simp [nameB, hq]
    have hl := HL.out w
    rw [hq] at hl
    rw [e2]
    clear e2 hq h0 HL
    go_enter Try.func67, Try.ntmps67
    go_wp2_with (go_at_call 81; refine hl.mono ?_; rintro e w' ⟨rfl, ⟨nd, rfl⟩⟩)
    go_ret
    exact ⟨rfl, q86 (Below.refl _ _) _⟩
  | true =>
    have hl := HL.out w
    rw [hq] at hl
    have hconv := fun (W : World) => Lib.run_convert_string_bytes (P := Try.prog) W 9 26 5 a0 Try.underlying9 Try.underlying26 Try.underlying5
    obtain ⟨n, hn⟩ : ∃ n, n = a0.size := ⟨_, rfl⟩
    obtain ⟨T, hT⟩ : ∃ T, T = nameB a0 := ⟨_, rfl⟩
    have HT : Hid (T = (List.range n).all (fun i => moreB (byteAt a0 i))) := Lib.hid (by rw [hT, hn]; simp [nameB, hq]; omega)
    rw [← hT]
    clear hT hq
    have HN := Lib.hid hn
    clear hn
    go_enter Try.func67, Try.ntmps67
    go_wp2_with (go_at_call 81; refine hl.mono ?_; rintro e w' ⟨rfl, ⟨nd, rfl⟩⟩)
    have hs := Lib.bytesWorld_size (w.drewN nd) 5 a0
    obtain ⟨W1, hW1⟩ : ∃ W1, W1 = Lib.bytesWorld (w.drewN nd) 5 a0 := ⟨_, rfl⟩
    have B1 : Below w.heap.size w W1 := by
      rw [hW1]
      refine ⟨rfl, rfl, rfl, ?_, fun i hi => ?_⟩
      · rw [hs]; simp
      · exact Lib.bytesWorld_at_old (w.drewN nd) _ a0 i hi
    have C1 : ∀ j, j < n → W1.cell? ⟨w.heap.size, j, none⟩ = some (.int .u8 (byteAt a0 j)) := by
      intro j hj
      rw [hW1]
      exact Lib.bytesWorld_cell (w.drewN nd) 5 a0 j (by rw [← HN.out]; exact hj)
    have hlt1 : w.heap.size < W1.heap.size := by rw [hW1, hs]; simp
    rw [← hW1]
    rw [← HN.out] at h12' ⊢
    have hn12 : n ≤ 12 := by omega
    have BB := Lib.hid (And.intro B1 C1)
    clear hs hW1 B1 C1 hl hconv HL hb0 h12 hp hp' h0
    generalize grownCap (w.drewN nd) n 0 5 = cap
    go_loopg [21] n (fun gg s21 wr => ∃ kk : Nat, kk ≤ n ∧ n - kk ≤ gg ∧ s21 = .int .i64 kk ∧ Aside (Below W1.heap.size W1 wr) ∧ Aside (∀ j, j < kk → moreB (byteAt a0 j) = true))
    case atStart => exact ⟨0, Nat.zero_le _, by omega, rfl, Below.refl _ _, fun j hj => absurd hj (Nat.not_lt_zero _)⟩
    case round =>
      obtain ⟨kk, hkk, hg, rfl, BW, A⟩ := hrel
      have BE : Below w.heap.size w wr := q70 BB.out.1 BB.out.1.size BW.out
      have BEH := Lib.hid BE
      clear BE
      by_cases hlt : kk < n
      · have hltz : (kk : Int) < (n : Int) := by omega
        have hk12 : (kk : Int) ≤ 12 := by omega
        have hx : wr.cell? ⟨w.heap.size, kk, none⟩ = some (.int .u8 (byteAt a0 kk)) := (BW.out.cell hlt1).trans (BB.out.2 kk hlt)
        have hm := q44.calls (byteAt a0 kk) _ wr (more_eq _)
        cases hq : moreB (byteAt a0 kk) with
        | false =>
          rw [hq] at hm
          have e2 : T = false := by
            rw [HT.out, List.all_eq_false]
            exact ⟨kk, List.mem_range.2 hlt, by rw [hq]; simp⟩
          have HE := Lib.hid e2
          clear e2 hq
          go_wp2_with (go_at_call 82; refine hm.mono ?_; rintro e w' ⟨rfl, ⟨nd2, rfl⟩⟩)
          go_ret
          exact ⟨by rw [HE.out]; rfl, q86 BEH.out _⟩
        | true =>
          rw [hq] at hm
          have HQ := Lib.hid hq
          clear hq
          go_wp2_with (go_at_call 82; refine hm.mono ?_; rintro e w' ⟨rfl, ⟨nd2, rfl⟩⟩)
          go_roundg (n - (kk + 1))
          case measure => omega
          case rel =>
            refine ⟨kk + 1, by omega, by omega, by go_num, (show Aside _ from q86 BW.out _), (show Aside _ from fun j hj => ?_)⟩
            by_cases e : j = kk
            · subst e; exact HQ.out
            · exact A.out j (by omega)
      · have hltz : ¬ (kk : Int) < (n : Int) := by omega
        obtain rfl : kk = n := by omega
        have e2 : T = true := by
          rw [HT.out, List.all_eq_true]
          intro j hj
          exact A.out j (List.mem_range.1 hj)
        have HE := Lib.hid e2
        clear e2
        go_wp2
        go_ret
        exact ⟨by rw [HE.out]; rfl, BEH.out⟩
def nameOk (l : List ByteArray) (i : Nat) : Bool := nameB (rdOf ByteArray.empty l (i : Int)) && !memB (l.take i) (rdOf ByteArray.empty l (i : Int))
def namesB (l : List ByteArray) : Bool := (List.range l.length).all (nameOk l)
def q33.f (l0 : List ByteArray) : Option Bool := some (namesB l0)
set_option maxHeartbeats 8000000 in
set_option maxRecDepth 100000 in
theorem q33.calls (A0 : Option Addr) (c0 : Nat) (l0 : List ByteArray) (r : Bool) (w : World) (hr0 : Kd.C Kd.string w A0 l0.length l0) (hc0 : l0.length ≤ c0) (h : q33.f l0 = some r) :
    Calls Try.prog 39 #[.slice A0 l0.length c0] w fun e w' => e = .returned (.bool r) ∧ Below w.heap.size w w' := by
  obtain rfl := Option.some.inj h
  clear h
  have HR := Lib.hid hr0
  have hbig : l0.length ≤ 9223372036854775807 := hr0.2.1
  clear hr0
  obtain ⟨n, hn⟩ : ∃ n, n = l0.length := ⟨_, rfl⟩
  have HN := Lib.hid hn
  rw [← hn] at hc0 hbig ⊢
  clear hn
  go_enter Try.func39, Try.ntmps39
  go_wp2
  go_loopg [7] n (fun gg s7 wr => ∃ i : Nat, s7 = .int .i64 i ∧ i ≤ n ∧ n - i ≤ gg ∧ Hid (Below w.heap.size w wr ∧ ∀ j, j < i → nameOk l0 j = true))
  case atStart => exact ⟨0, rfl, Nat.zero_le _, by omega, Lib.hid ⟨Below.refl _ _, fun j hj => by omega⟩⟩
  case round =>
    obtain ⟨i, rfl, hin, hig, X⟩ := hrel
    by_cases hlt : i < n
    case neg =>
      have hltz : ¬ (i : Int) < (n : Int) := by omega
      obtain rfl : i = n := by omega
      have he : namesB l0 = true := by unfold namesB; rw [List.all_eq_true, ← HN.out]; intro j hj; exact X.out.2 j (List.mem_range.1 hj)
      have HE := Lib.hid he
      clear he
      go_wp2
      go_ret
      exact ⟨by rw [HE.out]; rfl, X.out.1⟩
    have hltz : (i : Int) < (n : Int) := by omega
    obtain ⟨ad, e, hx⟩ := Kd.at_string HR.out (i : Int) (by omega) (by have := HN.out; omega)
    cases e
    simp only [Int.toNat_natCast] at hx
    replace hx := q83 X.out.1 hx
    obtain ⟨x, hxx⟩ : ∃ x, x = rdOf ByteArray.empty l0 (i : Int) := ⟨_, rfl⟩
    rw [← hxx] at hx
    have hok : nameOk l0 i = (nameB x && !memB (l0.take i) x) := by rw [hxx]; rfl
    have HOK := Lib.hid hok
    clear hxx hok
    have hnm := q65.calls x _ wr rfl
    have hic : i ≤ c0 := by omega
    have hic2 : (i : Int) ≤ (c0 : Int) := by omega
    have hi0 : (0 : Int) ≤ (i : Int) := by omega
    cases hq : nameB x with
    | false =>
      have he : namesB l0 = false := by unfold namesB; exact List.all_eq_false.2 ⟨i, List.mem_range.2 (by have := HN.out; omega), by rw [HOK.out, hq]; simp⟩
      have HE := Lib.hid he
      rw [hq] at hnm
      clear he hq
      go_wp2_with (go_at_call 67; refine hnm.mono ?_; rintro e w' ⟨rfl, hb'⟩)
      go_ret
      exact ⟨by rw [HE.out]; rfl, q82 hb' X.out.1⟩
    | true =>
      rw [hq] at hnm HOK
      clear hq
      go_wp2_with fail
      go_at_call 67
      refine hnm.mono ?_
      rintro e w' ⟨rfl, hb'⟩
      have el : (l0.take i).length = i := by rw [List.length_take]; have := HN.out; omega
      have hct := q5.calls (n + 1) (some ad) c0 (l0.take i) x _ w' (Kd.C_below (Kd.C_below (Kd.C_take HR.out (show i ≤ l0.length by have := HN.out; omega)) X.out.1) hb') (by rw [el]; omega) (contains_eq (l0.take i) x (by rw [el]; omega) (n + 1) (by rw [el]; omega))
      rw [el] at hct
      have HB := Lib.hid (q82 hb' X.out.1)
      clear hb' el hnm
      cases hq2 : memB (l0.take i) x with
      | true =>
        have he : namesB l0 = false := by unfold namesB; exact List.all_eq_false.2 ⟨i, List.mem_range.2 (by have := HN.out; omega), by rw [HOK.out, hq2]; simp⟩
        have HE := Lib.hid he
        rw [hq2] at hct
        clear he hq2
        go_wp2_with (go_at_call 68; refine hct.mono ?_; rintro e w2 ⟨rfl, ⟨nd, rfl⟩⟩)
        go_ret
        exact ⟨by rw [HE.out]; rfl, q86 HB.out _⟩
      | false =>
        rw [hq2] at hct HOK
        clear hq2
        go_wp2_with (go_at_call 68; refine hct.mono ?_; rintro e w2 ⟨rfl, ⟨nd, rfl⟩⟩)
        go_roundg (n - (i + 1))
        case measure => omega
        case rel =>
          refine ⟨i + 1, by go_num, by omega, by omega, Lib.hid ⟨q86 HB.out _, fun j hj => ?_⟩⟩
          by_cases e : j = i
          · subst e; rw [HOK.out]; rfl
          · exact X.out.2 j (by omega)
def idxP (s : ByteArray) (y : ByteArray) : Bool := s.toList == y.toList
theorem index_at (l : List ByteArray) (s : ByteArray) (hn : l.length ≤ 9223372036854775807) (d : Nat) : ∀ (i k : Nat), i + d = l.length → d < k → (∀ j, j < i → idxP s (l.getD j ByteArray.empty) = false) → q7.l0 k l s l.length i = some (fidx (idxP s) l) := by
  induction d with
  | zero =>
    intro i k hi hk hno
    obtain ⟨k, rfl⟩ : ∃ m, k = m + 1 := ⟨k - 1, by omega⟩
    simp only [q7.l0]
    rw [if_neg (by omega), fidx_miss (idxP s) l ByteArray.empty (fun j hj => hno j (by omega))]
  | succ d ih =>
    intro i k hi hk hno
    obtain ⟨k, rfl⟩ : ∃ m, k = m + 1 := ⟨k - 1, by omega⟩
    have hlt : i < l.length := by omega
    have hg : l.getD i ByteArray.empty = l[i] := by rw [List.getD_eq_getElem?_getD, List.getElem?_eq_getElem hlt]; rfl
    simp only [q7.l0]
    rw [if_pos (by omega), if_pos (by omega), if_pos (by omega), rdOf_get _ _ _ hlt]
    by_cases he : s.toList = l[i].toList
    · rw [if_pos he, fidx_hit (idxP s) l i ByteArray.empty hlt (by rw [hg]; simpa [idxP] using he) hno]
    · rw [if_neg he, wrap_lt (n := (l.length : Int)) (by omega) (by omega) (by omega)]
      refine ih (i + 1) k (by omega) (by omega) (fun j hj => ?_)
      by_cases e : j = i
      · subst e; rw [hg]; simpa [idxP] using he
      · exact hno j (by omega)
theorem index_eq (l : List ByteArray) (s : ByteArray) (hn : l.length ≤ 9223372036854775807) (k : Nat) (hk : l.length < k) : q7.f k l s = some (fidx (idxP s) l) :=
 index_at l s hn l.length 0 k (by omega) hk (fun j hj => by omega)
def stkStep (l : List (S48)) (i : Nat) (st : List ByteArray) : Option (List ByteArray) :=
 if i = 0 then some (st ++ [(q89 l i).f0]) else
  let t := st.take (fidx (idxP (q89 l i).f2) st + 1).toNat
  if t.length = 0 ∨ 5 < t.length ∨ (q89 l (q85 l (q89 l i).f2)).f1 ≠ 1 then none else some (t ++ [(q89 l i).f0])
def stk (l : List (S48)) : Nat → Option (List ByteArray)
 | 0 => some []
 | i + 1 => (stk l i).bind (stkStep l i)
def standsB (l : List (S48)) : Bool := (stk l l.length).isSome
def q41.f (l0_0 : List ByteArray) (l0_1 : List (S48)) : Option Bool := some (standsB l0_1)
theorem stk_none (l : List (S48)) (i : Nat) (h : stk l i = none) : ∀ d, stk l (i + d) = none := by
 intro d
 induction d with
 | zero => exact h
 | succ d ih => show (stk l (i + d)).bind _ = none; rw [ih]; rfl
theorem stk_false (l : List (S48)) (i : Nat) (hi : i < l.length) (st : List ByteArray) (h : stk l i = some st) (h2 : stkStep l i st = none) : standsB l = false := by
 have h3 : stk l (i + 1) = none := by show (stk l i).bind _ = none; rw [h]; exact h2
 have h4 := stk_none l (i + 1) h3 (l.length - (i + 1))
 rw [show i + 1 + (l.length - (i + 1)) = l.length by omega] at h4
 unfold standsB
 rw [h4]; rfl
theorem stkStep_length (l : List (S48)) (i : Nat) (st st' : List ByteArray) (h : stkStep l i st = some st') (hs : i = 0 → st = []) : 0 < st'.length ∧ st'.length ≤ 6 := by
 unfold stkStep at h
 split at h
 ·rename_i h0
  obtain rfl := Option.some.inj h
  rw [hs h0]; simp
 ·simp only at h
  split at h
  ·cases h
  ·rename_i h1
   obtain rfl := Option.some.inj h
   simp only [List.length_append, List.length_singleton]
   omega
theorem stkStep_mem (l : List (S48)) (i : Nat) (hi : i < l.length) (st st' : List ByteArray) (h : stkStep l i st = some st') (hm : ∀ s ∈ st, ∃ y ∈ l, y.f0 = s) : ∀ s ∈ st', ∃ y ∈ l, y.f0 = s := by
 have hx : q89 l (i : Int) ∈ l := by
  simp [q89, List.getD_eq_getElem?_getD, List.getElem?_eq_getElem hi]
 unfold stkStep at h
 split at h
 ·obtain rfl := Option.some.inj h
  intro s hs
  rcases List.mem_append.1 hs with hs | hs
  ·exact hm s hs
  ·rw [List.mem_singleton.1 hs]; exact ⟨_, hx, rfl⟩
 ·simp only at h
  split at h
  ·cases h
  ·obtain rfl := Option.some.inj h
   intro s hs
   rcases List.mem_append.1 hs with hs | hs
   ·exact hm s (List.mem_of_mem_take hs)
   ·rw [List.mem_singleton.1 hs]; exact ⟨_, hx, rfl⟩
theorem stk_facts (l : List (S48)) (i : Nat) (hi : i ≤ l.length) (st : List ByteArray) (h : stk l i = some st) : st.length ≤ 6 ∧ (0 < i → 0 < st.length) ∧ (i = 0 → st = []) ∧ ∀ s ∈ st, ∃ y ∈ l, y.f0 = s := by
  induction i generalizing st with
  | zero =>
    obtain rfl := Option.some.inj h
    exact ⟨by simp, by omega, fun _ => rfl, by simp⟩
  | succ i ih =>
    have h' : (stk l i).bind (stkStep l i) = some st := h
    obtain ⟨s0, hs0, h2⟩ := Option.bind_eq_some_iff.1 h'
    obtain ⟨_, _, h0, hm⟩ := ih (by omega) s0 hs0
    have hl := stkStep_length l i s0 st h2 h0
    exact ⟨hl.2, fun _ => hl.1, by omega, stkStep_mem l i (by omega) s0 st h2 hm⟩
theorem place_mem (l : List (S48)) (id : ByteArray) (h : ∃ y ∈ l, y.f0.toList = id.toList) : 0 ≤ q85 l id := by
 obtain ⟨y, hy, he⟩ := h
 have ha := fidx_any (q48.p id) l
 have h2 : l.any (q48.p id) = true := List.any_eq_true.2 ⟨y, hy, by simpa [q48.p] using he⟩
 rw [h2] at ha
 exact of_decide_eq_true ha
theorem stk_hit (l : List (S48)) (s : ByteArray) (st : List ByteArray) (hm : ∀ s ∈ st, ∃ y ∈ l, y.f0 = s) (j : Nat) (hj : fidx (idxP s) st = j) : j < st.length ∧ 0 ≤ q85 l s := by
  have hlt := fidx_lt (idxP s) st
  have hjl : j < st.length := by omega
  refine ⟨hjl, place_mem l s ?_⟩
  unfold fidx at hj
  cases h : st.findIdx? (idxP s) with
  | none => rw [h] at hj; simp only at hj; omega
  | some q =>
    obtain ⟨hq, hp, _⟩ := List.findIdx?_eq_some_iff_getElem.1 h
    obtain ⟨y, hy, he⟩ := hm st[q] (List.getElem_mem hq)
    exact ⟨y, hy, by rw [he]; unfold idxP at hp; exact (by simpa using hp : s.toList = st[q].toList).symm⟩
theorem info_str : (Try.prog.info? 9).map (fun i => (i.zero, i.size, i.bytes)) = some (some (.string ⟨#[]⟩), 1, 16) := by kernel_rfl
theorem append_full (B : Nat) (W : World) (A : Option Addr) (st : List ByteArray) (x : ByteArray) (hC : Kd.C Kd.string W A st.length st) (hs : st.length ≤ 6) (hB : B ≤ W.heap.size) :
    ∃ v' w', (Builtin.append_ #[22, 22] 22 #[.slice A st.length st.length, .slice (some ⟨W.heap.size, 0, none⟩) 1 1]).run Try.prog (W.alloc (.cells #[.string x] 9)) = .ok v' w' ∧ Kd.R Kd.string 9 w' B (fun _ => True) v' (st ++ [x]) ∧ Below W.heap.size W w' := by
  obtain ⟨i0, hi0, hz0, hz1, hz2⟩ := info_parts info_str
  have hnew : ∀ (j : Nat) (u : Value), [Value.string x][j]? = some u → (W.alloc (.cells #[.string x] 9)).cell? ((⟨W.heap.size, 0, none⟩ : Addr).add j) = some u := World.news_of_block (cs := #[.string x]) (t := 9) (fr := (0, 0)) (heap_alloc_new W _)
  have hsz : (W.alloc (.cells #[.string x] 9)).heap.size = W.heap.size + 1 := by simp
  have hba := q67 (Below.refl W.heap.size W) (.cells #[.string x] 9)
  cases A with
  | none =>
    have h0 : st.length = 0 := by
      rcases Nat.eq_zero_or_pos st.length with h0 | h0
      · exact h0
      · obtain ⟨ad, h, _⟩ := hC.2.2 h0
        cases h
    obtain rfl := List.eq_nil_of_length_eq_zero h0
    obtain ⟨v', w', hr, ho, hg, _, hat⟩ := run_append_own_at (P := Try.prog) (w := W.alloc (.cells #[.string x] 9)) B 22 22 9 i0 (.string ⟨#[]⟩) 1 16 Try.underlying22 hi0 hz0 hz1 hz2 rfl (by decide) (.slice none 0 0) 0 [] (World.ownsRow_nil _ _ _ _) ⟨W.heap.size, 0, none⟩ 1 1 [.string x] rfl hnew (by simp [Value.oneCell']) (by simp [maxLen]) (by omega) (by omega)
    refine ⟨v', w', hr, Kd.R_of_own (by simpa [encs] using ho) (fun _ _ => trivial), ?_⟩
    exact hba.grown hg (by omega) (by simp [Value.ownBlock])
  | some ad =>
    have hold : ∀ (j : Nat) (u : Value), (encs Value.string st)[j]? = some u → (W.alloc (.cells #[.string x] 9)).cell? (ad.add j) = some u := by
      intro j u hj
      have hjl : j < st.length := by simpa [encs] using (List.getElem?_eq_some_iff.1 hj).1
      obtain ⟨ad', c, e, _, hK, hcc⟩ := Kd.C_get hC ByteArray.empty (j : Int) (by omega) (by omega)
      cases e
      obtain rfl : c = [.string (st.getD j ByteArray.empty)] := hK
      have h1 := hcc 0 _ rfl
      have hu : u = .string (st.getD j ByteArray.empty) := by
        simp [encs, List.getElem?_map, List.getElem?_eq_getElem hjl] at hj
        rw [List.getD_eq_getElem?_getD, List.getElem?_eq_getElem hjl]
        exact hj.symm
      rw [hu]
      exact q83 hba (by simpa [Kd.string, Kd.scalar] using h1)
    obtain ⟨v', w', hr, ho, hg⟩ := run_append_arg_grows (P := Try.prog) (w := W.alloc (.cells #[.string x] 9)) 22 22 9 i0 (.string ⟨#[]⟩) 1 16 Try.underlying22 hi0 hz0 hz1 hz2 rfl (by decide) ad st.length st.length (encs Value.string st) (by simp [encs]) hold ⟨W.heap.size, 0, none⟩ 1 1 [.string x] rfl hnew (by omega) (by simp [maxLen]; omega) (by omega)
    refine ⟨v', w', hr, Kd.R_of_own (own_weaken (by simpa [encs] using ho) (by omega)) (fun _ _ => trivial), ?_⟩
    exact hba.grown hg (by omega) (by simp)
theorem app_event {P : Program} {o : Oper} {a : Act} {W w1 : World} {s x : Operand} {t : TypeId} {v u v1 : Value} (ho : o.op = .call { callee := .builtin .append, args := #[s, x], argTypes := #[t, t] }) (hs : a.eval s = v) (hx : a.eval x = u) (hr : (Builtin.append_ #[t, t] o.type #[v, u]).run P W = .ok v1 w1) : (execOp a.eval o).run P W = .ok (.value v1) w1 := by
 unfold execOp
 simp only [ho, resolve, invoke, builtin, Sem.run_bind, Sem.run_pure, Result.andThen_ok, List.map_toArray, List.map_cons, List.map_nil, hs, hx, hr]
theorem fidx_neg {α : Type} (p : α → Bool) (l : List α) (h : fidx p l < 0) : fidx p l = -1 := by
 unfold fidx at h ⊢
 cases e : l.findIdx? p with
 | none => rfl
 | some i => rw [e] at h; simp only at h; omega
set_option maxHeartbeats 16000000 in
set_option maxRecDepth 100000 in
theorem q41.calls (A0_0 : Option Addr) (c0_0 : Nat) (l0_0 : List ByteArray) (A0_1 : Option Addr) (c0_1 : Nat) (l0_1 : List (S48)) (r : Bool) (w : World) (hr0_0 : Kd.C Kd.string w A0_0 l0_0.length l0_0) (hc0_0 : l0_0.length ≤ c0_0) (hr0_1 : Kd.C k48 w A0_1 l0_1.length l0_1) (hc0_1 : l0_1.length ≤ c0_1) (h : q41.f l0_0 l0_1 = some r) :
 Calls Try.prog 42 #[.agg #[.slice A0_0 l0_0.length c0_0, .slice A0_1 l0_1.length c0_1]] w fun e w' => e = .returned (.bool r) ∧ Below w.heap.size w w' := by
 obtain rfl := Option.some.inj h
 clear h
 have hu36 := Try.underlying25
 have hu32 := Try.underlying48
 have HR := Lib.hid (And.intro hr0_0 hr0_1)
 have hbig : l0_1.length ≤ 9223372036854775807 := hr0_1.2.1
 clear hr0_0 hr0_1
 obtain ⟨n, hn⟩ : ∃ n, n = l0_1.length := ⟨_, rfl⟩
 have HN := Lib.hid hn
 rw [← hn] at hc0_1 hbig ⊢
 clear hn
 go_enter Try.func42, Try.ntmps42
 go_wp2
 obtain ⟨W1, hW1⟩ : ∃ W1, W1 = w.alloc (.cells #[.slice A0_0 l0_0.length c0_0, .slice A0_1 n c0_1] 25) := ⟨_, rfl⟩
 have hb1 : Below w.heap.size w W1 := by rw [hW1]; exact q67 (Below.refl _ _) _
 have hm0 : W1.cell? ⟨w.heap.size, 0, none⟩ = some (.slice A0_0 l0_0.length c0_0) := by rw [hW1]; simp
 have hm1 : W1.cell? ⟨w.heap.size, 1, none⟩ = some (.slice A0_1 n c0_1) := by rw [hW1]; simp
 have hsz : W1.heap.size = w.heap.size + 1 := by rw [hW1]; simp
 rw [← hW1]
 have H1 := Lib.hid (And.intro hb1 (And.intro hm0 (And.intro hm1 hsz)))
 clear hW1 hb1 hm0 hm1 hsz
 go_loopg [3, 9] n (fun gg s3 s9 wr => ∃ (i : Nat) (v : Value) (st : List ByteArray), s9 = .int .i64 i ∧ s3 = v ∧ i ≤ n ∧ n - i ≤ gg ∧ Hid (stk l0_1 i = some st ∧ Kd.R Kd.string 9 wr W1.heap.size (fun _ => True) v st ∧ Below W1.heap.size W1 wr))
 case atStart => exact ⟨0, _, [], rfl, rfl, Nat.zero_le _, by omega, Lib.hid ⟨rfl, Kd.R_nil _ _ _ _ _, Below.refl _ _⟩⟩
 case round =>
  obtain ⟨i, v, st, rfl, rfl, hin, hig, X⟩ := hrel
  have hbw : Below w.heap.size w wr := q70 H1.out.1 H1.out.1.size X.out.2.2
  have HBW := Lib.hid hbw
  clear hbw
  by_cases hlt : i < n
  case neg =>
   have hltz : ¬ (i : Int) < (n : Int) := by omega
   obtain rfl : i = n := by omega
   have he : standsB l0_1 = true := by unfold standsB; rw [← HN.out, X.out.1]; rfl
   have HE := Lib.hid he
   clear he
   go_wp2
   go_ret
   exact ⟨by rw [HE.out]; rfl, HBW.out⟩
  have hltz : (i : Int) < (n : Int) := by omega
  obtain ⟨ad, B5, d5, B6, d6, e, hx0, hx1, hx2, hx3, hx4, hx5, hx6, _, _, _, _⟩ := at_T48 HR.out.2 (i : Int) (by omega) (by have := HN.out; omega)
  cases e
  simp only [Int.toNat_natCast] at hx0 hx1 hx2 hx3 hx4 hx5 hx6
  obtain ⟨x, hx⟩ : ∃ x, x = q89 l0_1 (i : Int) := ⟨_, rfl⟩
  rw [← hx] at hx0 hx1 hx2 hx3 hx4 hx5 hx6
  have HX := Lib.hid hx
  clear hx
  replace hx0 := q83 HBW.out hx0
  replace hx1 := q83 HBW.out hx1
  replace hx2 := q83 HBW.out hx2
  replace hx3 := q83 HBW.out hx3
  replace hx4 := q83 HBW.out hx4
  replace hx5 := q83 HBW.out hx5
  replace hx6 := q83 HBW.out hx6
  obtain ⟨st1, st2, st3, st4⟩ := stk_facts l0_1 i (by have := HN.out; omega) st X.out.1
  have HS := Lib.hid (And.intro st1 (And.intro st2 (And.intro st3 st4)))
  clear st1 st2 st3 st4
  obtain ⟨A, cc, rfl, hlc, hCst⟩ := Kd.R_reads X.out.2.1
  have HC := Lib.hid hCst
  clear hCst
  have hsl : (st.length : Int) ≤ 6 := by have := HS.out.1; omega
  -- the world behind the box of x, and what it holds
  have key : ∃ W2, W2 = wr.alloc (.cells #[.string x.f0, .int .i64 x.f1, .string x.f2, .bool x.f3, .int .i64 x.f4, .slice B5 x.f5.length d5, .slice B6 x.f6.length d6] 48) ∧ Below wr.heap.size wr W2 ∧ W2.cell? ⟨wr.heap.size, 0, none⟩ = some (.string x.f0) ∧ W2.cell? ⟨wr.heap.size, 2, none⟩ = some (.string x.f2) := ⟨_, rfl, q67 (Below.refl _ _) _, by simp, by simp⟩
  obtain ⟨W2, hW2, hb2, hid0, hp2⟩ := key
  have hlo : w.heap.size + 1 ≤ wr.heap.size := by have := X.out.2.2.size; have := H1.out.2.2.2; omega
  have hm0 : W2.cell? ⟨w.heap.size, 0, none⟩ = some (.slice A0_0 l0_0.length c0_0) := q83 hb2 ((X.out.2.2.cell (p := ⟨_, _, none⟩) (by simp only; have := H1.out.2.2.2; omega)).trans H1.out.2.1)
  have hm1 : W2.cell? ⟨w.heap.size, 1, none⟩ = some (.slice (some ad) n c0_1) := q83 hb2 ((X.out.2.2.cell (p := ⟨_, _, none⟩) (by simp only; have := H1.out.2.2.2; omega)).trans H1.out.2.2.1)
  have hbw2 : Below w.heap.size w W2 := q82 hb2 HBW.out
  have F2 := Lib.hid (And.intro hb2 (And.intro hm0 (And.intro hm1 (And.intro hbw2 (And.intro hid0 hp2)))))
  have HW2 := Lib.hid hW2
  clear hb2 hid0 hp2 hm0 hm1 hbw2 hW2
  by_cases hi0 : i = 0
  ·have hnp : ¬ 0 < i := by omega
   have HI := Lib.hid hi0
   clear hi0
   obtain ⟨m, hm⟩ : ∃ m, m = st.length := ⟨_, rfl⟩
   have HM := Lib.hid hm
   rw [← hm] at hlc hsl ⊢
   clear hm
   have hm6 : m ≤ cc := hlc
   have hmz : (0 : Int) ≤ (m : Int) := by omega
   have hmc : (m : Int) ≤ (cc : Int) := by omega
   go_wp2
   rw [← HW2.out]
   clear hx0 hx1 hx2 hx3 hx4 hx5 hx6
   obtain ⟨W5, hW5⟩ : ∃ W, W = W2 := ⟨_, rfl⟩
   have hid0 : W5.cell? ⟨wr.heap.size, 0, none⟩ = some (.string x.f0) := by rw [hW5]; exact F2.out.2.2.2.2.1
   have hb5 : Below wr.heap.size wr W5 := by rw [hW5]; exact F2.out.1
   rw [← hW5]
   clear hW5
   have happ := fun (W6 : World) (h6 : Below W5.heap.size W5 W6) => append_full W1.heap.size W6 A st x.f0 (Kd.C_below (Kd.C_below HC.out hb5) h6) (by have := HS.out.1; omega) (by have := X.out.2.2.size; have := hb5.size; have := h6.size; omega)
   rw [← HM.out] at happ
   refine st_ (fun w' => w'.cell? ⟨wr.heap.size, 0, none⟩ = some (.string x.f0) ∧ Below W5.heap.size W5 w') 11 ⟨hid0, q68 (Below.refl _ _)⟩ (fun hHeld => ?_)
   generalize W5.drew = W6 at hHeld ⊢
   refine pu_ 0 (some 43) ?_
   refine pu_ 1 (some 44) ?_
   refine pu_ 2 (some 45) ?_
   refine pu_ 3 (some 46) ?_
   refine pu_ 4 (some 47) ?_
   refine pu_ 5 (some 48) ?_
   refine pu_ 6 (some 49) ?_
   refine tk_ 7 (some 50) hHeld ?_ (hy := by rintro w' ⟨s0, _⟩; go_simp; with_reducible rfl)
   refine oN_ 8 (some 51) (fun K hK => ?_)
   refine event_step (by rfl) (v := .slice (some ⟨W6.heap.size, 0, none⟩) 1 1) (w1 := W6.alloc (.cells #[.string x.f0] 9)) ?_ ?_
   ·go_simp
   refine hK.out _ _ ⟨q83 (q67 (Below.refl _ _) _) hHeld.1, q82 (q67 (Below.refl _ _) _) hHeld.2⟩ (fun hHeld2 => ?_)
   clear hK K
   refine nz_ (some 51) ?_
   obtain ⟨v9, w9, hrun9, hR9, hB9⟩ := happ W6 hHeld.2
   refine oN_ 9 (some 52) (fun K hK => ?_)
   refine event_step (by rfl) (v := v9) (w1 := w9) ?_ ?_
   ·exact app_event rfl rfl rfl hrun9
   refine hK.out _ _ ⟨q83 hB9 hHeld.1, q82 hB9 hHeld.2⟩ (fun hHeld3 => ?_)
   clear hK K
   refine nz_ (some 52) ?_
   refine pu_ 10 (some 3) ?_
   refine dn_ ?_
   have hnext : stk l0_1 (i + 1) = some (st ++ [x.f0]) := by
    show (stk l0_1 i).bind _ = _
    rw [X.out.1]
    show stkStep l0_1 i st = _
    unfold stkStep
    rw [if_pos HI.out, ← HX.out]
   have hbe : Below W1.heap.size W1 w9 := q70 (q70 X.out.2.2 X.out.2.2.size hb5) (q70 X.out.2.2 X.out.2.2.size hb5).size hHeld3.2
   have XX := Lib.hid (And.intro hnext (And.intro hR9 hbe))
   clear hnext hbe hHeld hHeld2 hHeld3 hrun9 hR9 hB9 happ hid0
   go_wp2
   go_roundg (n - (i + 1))
   case measure => omega
   case rel => exact ⟨i + 1, v9, st ++ [x.f0], by go_num, rfl, by omega, by omega, XX⟩
  ·have hipos : 0 < i := by omega
   clear hi0
   have hidx := q7.calls (st.length + 1) A cc st x.f2 _ W2 (Kd.C_below HC.out F2.out.1) hlc (index_eq st x.f2 (by have := HS.out.1; omega) (st.length + 1) (by omega))
   by_cases hneg : fidx (idxP x.f2) st < 0
   ·have e1 := fidx_neg _ _ hneg
    have he : standsB l0_1 = false := stk_false l0_1 i (by have := HN.out; omega) st X.out.1 (by
     unfold stkStep
     rw [if_neg (by omega), ← HX.out, e1]
     simp)
    have HE := Lib.hid he
    rw [e1] at hidx
    clear e1 hneg he
    go_wp2_with fail
    rw [← HW2.out]
    clear hx0 hx1 hx2 hx3 hx4 hx5 hx6
    refine hidx.mono ?_
    rintro e w3 ⟨rfl, ⟨nd, rfl⟩⟩
    obtain ⟨W3, hW3⟩ : ∃ W, W = W2.drewN nd := ⟨_, rfl⟩
    have hb3 : Below W2.heap.size W2 W3 := by rw [hW3]; exact q86 (Below.refl _ _) _
    rw [← hW3]
    clear hW3
    have hm0 := q83 hb3 F2.out.2.1
    have hm1 := q83 hb3 F2.out.2.2.1
    have hp2 := q83 hb3 F2.out.2.2.2.2.2
    have hbw3 := q82 hb3 F2.out.2.2.2.1
    have HB3 := Lib.hid hbw3
    clear hidx hb3 hbw3
    go_wp2
    refine st_ (fun w' => (w'.cell? ⟨w.heap.size, 0, none⟩ = some (.slice A0_0 l0_0.length c0_0) ∧ w'.cell? ⟨w.heap.size, 1, none⟩ = some (.slice (some ad) n c0_1) ∧ w'.cell? ⟨wr.heap.size, 2, none⟩ = some (.string x.f2)) ∧ Below W3.heap.size W3 w') 20 ⟨⟨hm0, hm1, hp2⟩, q68 (Below.refl _ _)⟩ (fun hHeld => ?_)
    generalize W3.drew = W4 at hHeld ⊢
    refine pu_ 0 (some 23) ?_
    refine pu_ 1 (some 24) ?_
    refine pu_ 2 (some 25) ?_
    refine pu_ 3 (some 26) ?_
    refine sk_ 4 (some 27) ?_
    refine sk_ 5 (some 28) ?_
    refine sk_ 6 (some 29) ?_
    refine pu_ 7 (some 30) ?_
    refine pu_ 8 (some 31) ?_
    refine sk_ 9 (some 32) ?_
    refine sk_ 10 (some 33) ?_
    refine sk_ 11 (some 34) ?_
    refine sk_ 12 (some 35) ?_
    refine sk_ 13 (some 36) ?_
    refine sk_ 14 (some 37) ?_
    refine sk_ 15 (some 38) ?_
    refine sk_ 16 (some 39) ?_
    refine sk_ 17 (some 40) ?_
    refine sk_ 18 (some 41) ?_
    refine pu_ 19 (some 42) ?_
    refine dn_ ?_
    have hfin := q82 hHeld.2 HB3.out
    have HF := Lib.hid hfin
    clear hHeld hfin
    go_wp2
    go_ret
    exact ⟨by rw [HE.out]; rfl, HF.out⟩
   ·obtain ⟨j, hj⟩ : ∃ j : Nat, fidx (idxP x.f2) st = j := ⟨(fidx (idxP x.f2) st).toNat, by omega⟩
    obtain ⟨hjl, hpl0⟩ := stk_hit l0_1 x.f2 st HS.out.2.2.2 j hj
    rw [hj] at hidx
    have HJ := Lib.hid hj
    clear hj hneg
    have htk : (st.take (fidx (idxP x.f2) st + 1).toNat) = st.take (j + 1) := by rw [HJ.out]; congr 1
    have hlen : (st.take (j + 1)).length = j + 1 := by rw [List.length_take]; omega
    have HT := Lib.hid (And.intro htk hlen)
    clear htk hlen
    have hj0 : (0 : Int) ≤ (j : Int) := by omega
    have hj6 : (j : Int) < 6 := by have := HS.out.1; omega
    have hjs : j + 1 ≤ st.length := by omega
    have hjs2 : (j : Int) + 1 ≤ (st.length : Int) := by omega
    have hjc : j + 1 ≤ cc := by omega
    have hjc2 : (j : Int) + 1 ≤ (cc : Int) := by omega
    have hd0 : ((j : Int) + 1 == 0) = false := by
     have : (j : Int) + 1 ≠ 0 := by omega
     simpa using this
    go_wp2_with fail
    rw [← HW2.out]
    clear hx0 hx1 hx2 hx3 hx4 hx5 hx6
    refine hidx.mono ?_
    rintro e w3 ⟨rfl, ⟨nd, rfl⟩⟩
    obtain ⟨W3, hW3⟩ : ∃ W, W = W2.drewN nd := ⟨_, rfl⟩
    have hb3 : Below W2.heap.size W2 W3 := by rw [hW3]; exact q86 (Below.refl _ _) _
    rw [← hW3]
    clear hW3
    have hm0 := q83 hb3 F2.out.2.1
    have hm1 := q83 hb3 F2.out.2.2.1
    have hp2 := q83 hb3 F2.out.2.2.2.2.2
    have hbw3 := q82 hb3 F2.out.2.2.2.1
    have HB3 := Lib.hid (And.intro hb3 hbw3)
    clear hidx hb3
    go_wp2
    by_cases h5 : 5 < j + 1
    ·have hd5 : decide (5 < (j : Int) + 1) = true := decide_eq_true (by omega)
     have he : standsB l0_1 = false := stk_false l0_1 i (by have := HN.out; omega) st X.out.1 (by
      unfold stkStep
      rw [if_neg (by omega), ← HX.out]
      simp only
      rw [HT.out.1, HT.out.2, if_pos (.inr (.inl h5))])
     have HE := Lib.hid he
     clear he
     refine st_ (fun w' => (w'.cell? ⟨w.heap.size, 0, none⟩ = some (.slice A0_0 l0_0.length c0_0) ∧ w'.cell? ⟨w.heap.size, 1, none⟩ = some (.slice (some ad) n c0_1) ∧ w'.cell? ⟨wr.heap.size, 2, none⟩ = some (.string x.f2)) ∧ Below W3.heap.size W3 w') 20 ⟨⟨hm0, hm1, hp2⟩, q68 (Below.refl _ _)⟩ (fun hHeld => ?_)
     generalize W3.drew = W4 at hHeld ⊢
     refine pu_ 0 (some 23) ?_
     refine pu_ 1 (some 24) ?_
     refine pu_ 2 (some 25) ?_
     refine pu_ 3 (some 26) ?_
     refine pu_ 4 (some 27) ?_
     refine pu_ 5 (some 28) ?_
     refine pu_ 6 (some 29) ?_
     refine pu_ 7 (some 30) ?_
     refine pu_ 8 (some 31) ?_
     refine sk_ 9 (some 32) ?_
     refine sk_ 10 (some 33) ?_
     refine sk_ 11 (some 34) ?_
     refine sk_ 12 (some 35) ?_
     refine sk_ 13 (some 36) ?_
     refine sk_ 14 (some 37) ?_
     refine sk_ 15 (some 38) ?_
     refine sk_ 16 (some 39) ?_
     refine sk_ 17 (some 40) ?_
     refine sk_ 18 (some 41) ?_
     refine pu_ 19 (some 42) ?_
     refine dn_ ?_
     have hfin := q82 hHeld.2 HB3.out.2
     have HF := Lib.hid hfin
     clear hHeld hfin hbw3
     go_wp2
     go_ret
     exact ⟨by rw [HE.out]; rfl, HF.out⟩
    ·have hd5 : decide (5 < (j : Int) + 1) = false := decide_eq_false (by omega)
     obtain ⟨p, hp⟩ : ∃ p : Nat, q85 l0_1 x.f2 = p := ⟨(q85 l0_1 x.f2).toNat, by omega⟩
     have hpn : p < n := by have := placeI_lt l0_1 x.f2; have := HN.out; omega
     have hpl := fun (W : World) (hb : Below w.heap.size w W) => q48.calls A0_0 c0_0 l0_0 _ c0_1 l0_1 x.f2 _ W (Kd.C_below HR.out.1 hb) hc0_0 (Kd.C_below HR.out.2 hb) (by have := HN.out; omega) (show q48.f l0_0 l0_1 x.f2 = some (p : Int) by rw [← hp]; rfl)
     rw [← HN.out] at hpl
     obtain ⟨ad', _, _, _, _, e, _, hk1, _⟩ := at_T48 HR.out.2 (p : Int) (by omega) (by have := HN.out; omega)
     cases e
     simp only [Int.toNat_natCast] at hk1
     obtain ⟨y1, hy1⟩ : ∃ y, y = (q89 l0_1 (p : Int)).f1 := ⟨_, rfl⟩
     rw [← hy1] at hk1
     have hky := q83 hbw3 hk1
     have HP := Lib.hid (And.intro hp hy1)
     have hpz : (0 : Int) ≤ (p : Int) := by omega
     have hpn2 : (p : Int) < (n : Int) := by omega
     clear hk1 hp hy1 hpl0
     refine st_ (fun w' => (w'.cell? ⟨w.heap.size, 0, none⟩ = some (.slice A0_0 l0_0.length c0_0) ∧ w'.cell? ⟨w.heap.size, 1, none⟩ = some (.slice (some ad) n c0_1) ∧ w'.cell? ⟨wr.heap.size, 2, none⟩ = some (.string x.f2) ∧ w'.cell? ⟨(ad.add (p * 7)).block, (ad.add (p * 7)).off + 1, none⟩ = some (.int .i64 y1)) ∧ Below W3.heap.size W3 w') 20 ⟨⟨hm0, hm1, hp2, hky⟩, q68 (Below.refl _ _)⟩ (fun hHeld => ?_)
     generalize W3.drew = W4 at hHeld ⊢
     refine pu_ 0 (some 23) ?_
     refine pu_ 1 (some 24) ?_
     refine pu_ 2 (some 25) ?_
     refine pu_ 3 (some 26) ?_
     refine pu_ 4 (some 27) ?_
     refine pu_ 5 (some 28) ?_
     refine pu_ 6 (some 29) ?_
     refine pu_ 7 (some 30) ?_
     refine pu_ 8 (some 31) ?_
     refine pu_ 9 (some 32) ?_
     refine tk_ 10 (some 33) hHeld ?_ (hy := by rintro w' ⟨⟨s0, s1, s2, s3⟩, _⟩; go_simp; with_reducible rfl)
     refine tk_ 11 (some 34) hHeld ?_ (hy := by rintro w' ⟨⟨s0, s1, s2, s3⟩, _⟩; go_simp; with_reducible rfl)
     refine pu_ 12 (some 35) ?_
     refine tk_ 13 (some 36) hHeld ?_ (hy := by rintro w' ⟨⟨s0, s1, s2, s3⟩, _⟩; go_simp; with_reducible rfl)
     refine oN_ 14 (some 37) (fun K hK => ?_)
     refine goes_ Try.func48 (by kernel_rfl) rfl #[.agg #[.slice A0_0 l0_0.length c0_0, .slice (some ad) n c0_1], .string x.f2] (by rfl) rfl rfl (by (try simp only [List.map_toArray, List.map_cons, List.map_nil]); first | done | rfl) ?_
     with_reducible refine (hpl _ (q82 hHeld.2 hbw3)).mono ?_
     rintro e w' ⟨rfl, hb'⟩
     refine ⟨_, rfl, ?_⟩
     refine hK.out _ _ ⟨⟨q83 hb' hHeld.1.1, q83 hb' hHeld.1.2.1, q83 hb' hHeld.1.2.2.1, q83 hb' hHeld.1.2.2.2⟩, q82 hb' hHeld.2⟩ (fun hHeld => ?_)
     clear hK K
     refine nz_ (some 37) ?_
     refine pu_ 15 (some 38) ?_
     refine pu_ 16 (some 39) ?_
     refine tk_ 17 (some 40) hHeld ?_ (hy := by rintro w' ⟨⟨s0, s1, s2, s3⟩, _⟩; go_simp; with_reducible rfl)
     refine pu_ 18 (some 41) ?_
     refine pu_ 19 (some 42) ?_
     refine dn_ ?_
     have HH := Lib.hid hHeld
     have hfin := q82 hHeld.2 HB3.out.2
     have HF := Lib.hid hfin
     clear hHeld hfin hbw3 hky hpl hm0 hm1 hp2 hd0 hd5 hjs hjs2 hpz hpn2
     by_cases hy : y1 = 1
     ·have hyb : (y1 != 1) = false := by simp [hy]
      have HY := Lib.hid hy
      clear hy
      go_wp2
      obtain ⟨W5, hW5⟩ : ∃ W, W = w' := ⟨_, rfl⟩
      have hb5 : Below W2.heap.size W2 W5 := by rw [hW5]; exact q70 HB3.out.1 HB3.out.1.size HH.out.2
      have hb5' : Below wr.heap.size wr W5 := q70 F2.out.1 F2.out.1.size hb5
      have hid0 : W5.cell? ⟨wr.heap.size, 0, none⟩ = some (.string x.f0) := q83 hb5 F2.out.2.2.2.2.1
      rw [← hW5]
      clear hW5
      have happ := fun (W6 : World) (h6 : Below W5.heap.size W5 W6) => append_full W1.heap.size W6 A (st.take (j + 1)) x.f0 (Kd.C_below (Kd.C_below (Kd.C_take HC.out (by have := HT.out.2; rw [List.length_take] at this; omega)) hb5') h6) (by have := HT.out.2; omega) (by have := X.out.2.2.size; have := hb5'.size; have := h6.size; omega)
      rw [HT.out.2] at happ
      have hj1 : (0 : Int) ≤ (j : Int) + 1 := by omega
      refine st_ (fun w' => w'.cell? ⟨wr.heap.size, 0, none⟩ = some (.string x.f0) ∧ Below W5.heap.size W5 w') 11 ⟨hid0, q68 (Below.refl _ _)⟩ (fun hHeld => ?_)
      generalize W5.drew = W6 at hHeld ⊢
      refine pu_ 0 (some 43) ?_
      refine pu_ 1 (some 44) ?_
      refine pu_ 2 (some 45) ?_
      refine pu_ 3 (some 46) ?_
      refine pu_ 4 (some 47) ?_
      refine pu_ 5 (some 48) ?_
      refine pu_ 6 (some 49) ?_
      refine tk_ 7 (some 50) hHeld ?_ (hy := by rintro w' ⟨s0, _⟩; go_simp; with_reducible rfl)
      refine oN_ 8 (some 51) (fun K hK => ?_)
      refine event_step (by rfl) (v := .slice (some ⟨W6.heap.size, 0, none⟩) 1 1) (w1 := W6.alloc (.cells #[.string x.f0] 9)) ?_ ?_
      ·go_simp
      refine hK.out _ _ ⟨q83 (q67 (Below.refl _ _) _) hHeld.1, q82 (q67 (Below.refl _ _) _) hHeld.2⟩ (fun hHeld2 => ?_)
      clear hK K
      refine nz_ (some 51) ?_
      obtain ⟨v9, w9, hrun9, hR9, hB9⟩ := happ W6 hHeld.2
      refine oN_ 9 (some 52) (fun K hK => ?_)
      refine event_step (by rfl) (v := v9) (w1 := w9) ?_ ?_
      ·exact app_event rfl rfl rfl hrun9
      refine hK.out _ _ ⟨q83 hB9 hHeld.1, q82 hB9 hHeld.2⟩ (fun hHeld3 => ?_)
      clear hK K
      refine nz_ (some 52) ?_
      refine pu_ 10 (some 3) ?_
      refine dn_ ?_
      have hnext : stk l0_1 (i + 1) = some (st.take (j + 1) ++ [x.f0]) := by
       show (stk l0_1 i).bind _ = _
       rw [X.out.1]
       show stkStep l0_1 i st = _
       unfold stkStep
       rw [if_neg (by omega), ← HX.out]
       simp only
       rw [HT.out.1, HT.out.2, HP.out.1, ← HP.out.2, HY.out, if_neg (by omega)]
      have hbe : Below W1.heap.size W1 w9 := q70 (q70 X.out.2.2 X.out.2.2.size hb5') (q70 X.out.2.2 X.out.2.2.size hb5').size hHeld3.2
      have XX := Lib.hid (And.intro hnext (And.intro hR9 hbe))
      clear hnext hbe hHeld hHeld2 hHeld3 hrun9 hR9 hB9 happ hid0
      go_wp2
      go_roundg (n - (i + 1))
      case measure => omega
      case rel => exact ⟨i + 1, v9, st.take (j + 1) ++ [x.f0], by go_num, rfl, by omega, by omega, XX⟩
     ·have hyb : (y1 != 1) = true := by simpa using hy
      have he : standsB l0_1 = false := stk_false l0_1 i (by have := HN.out; omega) st X.out.1 (by
       unfold stkStep
       rw [if_neg (by omega), ← HX.out]
       simp only
       rw [HT.out.1, HT.out.2, HP.out.1, ← HP.out.2, if_pos (.inr (.inr hy))])
      have HE := Lib.hid he
      clear he hy
      go_wp2
      go_ret
      exact ⟨by rw [HE.out]; rfl, HF.out⟩
theorem ids_at (fs : List ByteArray) (l : List (S48)) (hn : l.length ≤ 8796093022208) (d : Nat) : ∀ (i k : Nat) (acc : List ByteArray), i + d = l.length → d < k → acc.length = i → q60.l0 k acc l l.length i = some (acc ++ (l.drop i).map (·.f0)) := by
  induction d with
  | zero =>
    intro i k acc hi hk ha
    obtain ⟨k, rfl⟩ : ∃ m, k = m + 1 := ⟨k - 1, by omega⟩
    simp only [q60.l0]
    rw [if_neg (by omega), List.drop_of_length_le (by omega)]
    simp
  | succ d ih =>
    intro i k acc hi hk ha
    obtain ⟨k, rfl⟩ : ∃ m, k = m + 1 := ⟨k - 1, by omega⟩
    have hlt : i < l.length := by omega
    have hrd : q89 l (i : Int) = l[i] := by simp [q89, List.getD_eq_getElem?_getD, List.getElem?_eq_getElem hlt]
    simp only [q60.l0]
    rw [if_pos (by omega), if_pos (by omega), if_pos (by omega), if_pos (by omega), wrap_lt (n := (l.length : Int)) (by omega) (by omega) (by omega), hrd]
    have := ih (i + 1) k (acc ++ [l[i].f0]) (by omega) (by omega) (by simp [ha])
    rw [show ((i + 1 : Nat) : Int) = (i : Int) + 1 by omega] at this
    rw [this, List.drop_eq_getElem_cons hlt, List.map_cons, List.append_assoc]
    rfl
theorem ids_eq (fs : List ByteArray) (l : List (S48)) (hn : l.length ≤ 8796093022208) (k : Nat) (hk : l.length < k) : q60.f k fs l = some (l.map (·.f0)) := by
 have := ids_at fs l hn l.length 0 k [] (by omega) hk rfl
 unfold q60.f
 simpa using this
def planB (kind : Int) (parent : ByteArray) (req : Bool) (en ex : Nat) : Bool := decide (kind = 1) && (decide (parent.toList = []) && (!req && decide (en + ex = 0)))
theorem isPlan_eq (a0 : ByteArray) (a1 : Int) (a2 : ByteArray) (a3 : Bool) (a4 : Int) (l5 l6 : List (S54)) (h5 : l5.length ≤ 9223372036854775807) (h6 : l6.length ≤ 9223372036854775807) : q42.f a0 a1 a2 a3 a4 l5 l6 = some (planB a1 a2 a3 l5.length l6.length) := by
  unfold q42.f planB
  by_cases h1 : a1 = 1
  · by_cases h2 : a2.toList = []
    · cases a3 with
      | true => simp [h1, h2]
      | false =>
        simp only [h1, h2, if_true, Bool.false_eq_true, if_false, decide_true, Bool.true_and, Bool.not_false]
        congr 1
        rw [Bool.eq_iff_iff, beq_iff_eq, decide_eq_true_iff]
        unfold wrap64
        omega
    · simp [h1, h2]
  · simp [h1]
def itemB (fs : List ByteArray) (l : List (S48)) (kind : Int) (req : Bool) (ticks : Int) (en ex : List (S54)) : Bool :=
 decide (1 ≤ kind ∧ kind ≤ 5) && (sentsB fs l en && (sentsB fs l ex && ((if kind = 5 then decide (1 ≤ ticks ∧ ticks ≤ 100) else decide (ticks = 0)) && !(decide (kind = 4 ∨ kind = 5) && (req || decide (0 < en.length))))))
theorem isItem_eq (fs : List ByteArray) (l : List (S48)) (a0 : ByteArray) (a1 : Int) (a2 : ByteArray) (a3 : Bool) (a4 : Int) (l5 l6 : List (S54)) : q43.f 1 fs l a0 a1 a2 a3 a4 l5 l6 = some (itemB fs l a1 a3 a4 l5 l6) := by
  unfold q43.f itemB q18.f
  by_cases h1 : a1 < 1
  · rw [if_pos h1, decide_eq_false (by omega)]; simp [q43.j0]
  rw [if_neg h1]
  by_cases h2 : a1 > 5
  · rw [if_pos h2, decide_eq_false (by omega)]; simp [q43.j0]
  rw [if_neg h2, decide_eq_true (by omega), Option.bind_some]
  cases sentsB fs l l5 with
  | false => simp [q43.j0]
  | true =>
    rw [if_pos rfl, Option.bind_some]
    cases sentsB fs l l6 with
    | false => simp [q43.j0]
    | true =>
      simp only [q43.j0, Bool.not_true, Bool.false_eq_true, if_false, Bool.true_and]
      by_cases h5 : a1 = 5
      · subst h5
        by_cases ha : a4 ≥ 1 <;> by_cases hb : a4 ≤ 100 <;> cases a3 <;> simp [ha, hb] <;> omega
      · by_cases h4 : a1 = 4
        · subst h4
          by_cases ha : a4 ≥ 0 <;> by_cases hb : a4 ≤ 0 <;> cases a3 <;> simp [ha, hb] <;> omega
        · rw [if_neg h5, if_neg h4, if_neg h5]
          by_cases ha : a4 ≥ 0 <;> by_cases hb : a4 ≤ 0 <;> simp [ha, hb, h4, h5] <;> omega
def isB (fs : List ByteArray) (l : List (S48)) : Bool :=
 decide (fs.length ≤ 6 ∧ 1 ≤ l.length ∧ l.length ≤ 16) && (namesB fs && (namesB (l.map (·.f0)) && (planB (q89 l 0).f1 (q89 l 0).f2 (q89 l 0).f3 (q89 l 0).f5.length (q89 l 0).f6.length && (standsB l && !l.any (fun x => !itemB fs l x.f1 x.f3 x.f4 x.f5 x.f6)))))
def q61.l0 : Nat → Int → Int → List Int → Int → Int → Option (Int)
 | 0, _, _, _, _, _ => none
 | k + 1, x3, x4, x7, x8, x9 => if x9 < x8 then (if 0 ≤ x9 then (if x9 < (x7.length : Int) then (q61.l0 k (((x3 + ((rd x7 x9) % 4294967296)) % 4294967296) % 65521) (((x4 + (((x3 + ((rd x7 x9) % 4294967296)) % 4294967296) % 65521)) % 4294967296) % 65521) x7 x8 (wrap64 (x9 + 1))) else (none)) else (none)) else (some (Go.bits .or .u32 ((x4 * 65536) % 4294967296) x3))
def q61.f (k : Nat) (l0 : List Int) : Option (Int) := q61.l0 k 1 0 l0 (l0.length : Int) 0
theorem q61.mono_l : ∀ k, (∀ y0 y1 y2 y3 y4, LeO (q61.l0 k y0 y1 y2 y3 y4) (q61.l0 (k + 1) y0 y1 y2 y3 y4))
 | 0 => fun _ _ _ _ _ r h => by simp [q61.l0] at h
 | k + 1 => by
  have ih0 := q61.mono_l k
  ·intro y0 y1 y2 y3 y4
   unfold q61.l0
   repeat' first
   | (with_reducible exact ih0 _ _ _ _ _)
   | (with_reducible exact LeO.refl _)
   | (with_reducible exact LeO.none _)
   | (with_reducible refine LeO.ite ?_ ?_)
   | (with_reducible refine LeO.bind ?_ (fun _ => ?_))
   | exact ih0 _ _ _ _ _
   | exact LeO.none _
   | refine LeO.ite ?_ ?_
   | refine LeO.bind ?_ (fun _ => ?_)
theorem q61.mono : ∀ a0 k, LeO (q61.f k a0) (q61.f (k + 1) a0) := by
 intro a0 k
 have ih0 := q61.mono_l k
 unfold q61.f
 repeat' first
  | (with_reducible exact ih0 _ _ _ _ _)
  | (with_reducible exact LeO.refl _)
  | (with_reducible exact LeO.none _)
  | (with_reducible refine LeO.ite ?_ ?_)
  | (with_reducible refine LeO.bind ?_ (fun _ => ?_))
  | exact ih0 _ _ _ _ _
  | exact LeO.none _
  | refine LeO.ite ?_ ?_
  | refine LeO.bind ?_ (fun _ => ?_)
set_option maxHeartbeats 8000000 in
set_option maxRecDepth 100000 in
theorem q61.calls (k : Nat) (A0 : Option Addr) (c0 : Nat) (l0 : List Int) (r : Int) (w : World) (hr0 : Kd.C (Kd.int .u8) w A0 l0.length l0) (hc0 : l0.length ≤ c0) (h : q61.f k l0 = some r) :
 Calls Try.prog 16 #[.slice A0 l0.length c0] w fun e w' => e = .returned (.int .u32 r) ∧ Drawn0 w w' := by
 have HR0 := q66.mk hr0
 have HC0 := q66.mk hc0
 clear hr0 hc0
 have H : (q61.l0 k 1 0 l0 (l0.length : Int) 0) = some r := h
 clear h
 have H' := q66.mk H
 clear H
 go_enter Try.func16, Try.ntmps16
 go_wp2
 go_loopg [3, 4, 9] k (fun kq v3 v4 v9 w' => ∃ (x3_1 : Int) (x4_1 : Int) (x9_1 : Int), v3 = .int .u32 x3_1 ∧ v4 = .int .u32 x4_1 ∧ v9 = .int .i64 x9_1 ∧ q66 (q61.l0 kq x3_1 x4_1 l0 (l0.length : Int) x9_1 = some r) ∧ q66 (kq ≤ k) ∧ Drawn0 w w')
 case atStart => exact ⟨(1), (0), (0), rf_, rf_, rf_, H', ⟨Nat.le_refl _⟩, by repeat (first | exact Drawn0.refl _ | apply Drawn0.step)⟩
 case round =>
  clear H'
  try clear c1
  obtain ⟨x3_1, x4_1, x9_1, rfl, rfl, rfl, HA, HK1, ⟨m1, rfl⟩⟩ := hrel
  cases gk with
  | zero => exact absurd HA.out (by simp [q61.l0])
  | succ k1 =>
   have H := HA.out
   clear HA
   simp only [q61.l0] at H
   by_cases c2 : x9_1 < (l0.length : Int)
   ·rw [if_pos c2] at H
    replace c2 := decide_eq_true c2
    by_cases c3 : 0 ≤ x9_1
    ·rw [if_pos c3] at H
     replace c3 := decide_eq_true c3
     by_cases c4 : x9_1 < (l0.length : Int)
     ·rw [if_pos c4] at H
      replace c4 := decide_eq_true c4
      have H' := q66.mk H
      clear H
      obtain ⟨ad305, e305, hx305_0, p305, q305⟩ := au_int HR0 ⟨Below.refl _ _⟩ (x9_1)
      cases e305
      go_wp2
      go_roundg k1
      case measure => have := HK1.out; omega
      case rel => exact ⟨(((x3_1 + ((rd l0 x9_1) % 4294967296)) % 4294967296) % 65521), (((x4_1 + (((x3_1 + ((rd l0 x9_1) % 4294967296)) % 4294967296) % 65521)) % 4294967296) % 65521), (wrap64 (x9_1 + 1)), rf_, rf_, rf_, H', ⟨by have := HK1.out; omega⟩, by repeat (first | exact Drawn0.refl _ | apply Drawn0.step)⟩
     ·rw [if_neg c4] at H
      exact absurd H (by simp)
    ·rw [if_neg c3] at H
     exact absurd H (by simp)
   ·rw [if_neg c2] at H
    replace c2 := decide_eq_false c2
    obtain rfl := Option.some.inj H
    go_wp2
    go_ret
    exact ⟨by first | rfl | (simp; done) | (simp [*]; done), by repeat (first | exact Drawn0.refl _ | apply Drawn0.step)⟩
def q63.f (l0_0 : List ByteArray) (l0_1 : List (S48)) : Option Bool := some (isB l0_0 l0_1)
theorem q63.eg : ∀ args w, (callFunc 44 args).run Try.prog w = .ok (.enter 44 args) w := enters_of Try.func44 (by kernel_rfl) rfl
set_option maxHeartbeats 4000000 in
theorem q63.closure (b : Nat) (A0_0 : Option Addr) (c0_0 : Nat) (l0_0 : List ByteArray) (A0_1 : Option Addr) (c0_1 : Nat) (l0_1 : List (S48)) (W : World) (hm0 : W.cell? ⟨b, 0, none⟩ = some (.slice A0_0 l0_0.length c0_0)) (hm1 : W.cell? ⟨b, 1, none⟩ = some (.slice A0_1 l0_1.length c0_1))
 (hr0_0 : Kd.C Kd.string W A0_0 l0_0.length l0_0) (hc0_0 : l0_0.length ≤ c0_0) (hr0_1 : Kd.C k48 W A0_1 l0_1.length l0_1) (hc0_1 : l0_1.length ≤ c0_1) (x : S48) (cs : List Value) (hK : Kd.K k48 W x cs) :
 Calls Try.prog 44 (#[.agg cs.toArray] ++ #[.pointer (some ⟨b, 0, none⟩)]) W fun e w' => e = .returned (.bool (!itemB l0_0 l0_1 x.f1 x.f3 x.f4 x.f5 x.f6)) ∧ Below W.heap.size W w' := by
 obtain ⟨A5, c5, A6, c6, rfl, g5, h5, g6, h6⟩ := k48_open hK
 have hb := World.block_lt_of_cell? W _ hm0
 simp only at hb
 have hW1 := q67 (Below.refl W.heap.size W) (.cells #[.string x.f0, .int .i64 x.f1, .string x.f2, .bool x.f3, .int .i64 x.f4, .slice A5 x.f5.length c5, .slice A6 x.f6.length c6] 48)
 have hif := q43.calls 1 A0_0 c0_0 l0_0 A0_1 c0_1 l0_1 x.f0 x.f1 x.f2 x.f3 x.f4 A5 c5 x.f5 A6 c6 x.f6 _ _ (Kd.C_below hr0_0 hW1) hc0_0 (Kd.C_below hr0_1 hW1) hc0_1 (Kd.C_below h5 hW1) g5 (Kd.C_below h6 hW1) g6 (isItem_eq l0_0 l0_1 x.f0 x.f1 x.f2 x.f3 x.f4 x.f5 x.f6)
 have HW := Lib.hid hW1
 clear hr0_0 hr0_1 hW1 hK h5 h6
 obtain ⟨T, hT⟩ : ∃ T, T = itemB l0_0 l0_1 x.f1 x.f3 x.f4 x.f5 x.f6 := ⟨_, rfl⟩
 rw [← hT] at hif ⊢
 clear hT
 have hu36 := Try.underlying25
 have hu32 := Try.underlying48
 go_enter Try.func44, Try.ntmps44
 go_wp2_with (go_at_call 45; refine hif.mono ?_; rintro e w' ⟨rfl, hb'⟩)
 go_ret
 exact ⟨rfl, q82 hb' HW.out⟩
set_option maxHeartbeats 8000000 in
set_option maxRecDepth 100000 in
theorem q63.calls (A0_0 : Option Addr) (c0_0 : Nat) (l0_0 : List ByteArray) (A0_1 : Option Addr) (c0_1 : Nat) (l0_1 : List (S48)) (r : Bool) (w : World) (hr0_0 : Kd.C Kd.string w A0_0 l0_0.length l0_0) (hc0_0 : l0_0.length ≤ c0_0) (hr0_1 : Kd.C k48 w A0_1 l0_1.length l0_1) (hc0_1 : l0_1.length ≤ c0_1) (h : q63.f l0_0 l0_1 = some r) :
    Calls Try.prog 24 #[.agg #[.slice A0_0 l0_0.length c0_0, .slice A0_1 l0_1.length c0_1]] w fun e w' => e = .returned (.bool r) ∧ Below w.heap.size w w' := by
  obtain rfl := Option.some.inj h
  clear h
  have hu36 := Try.underlying25
  have hu32 := Try.underlying48
  have HR := Lib.hid (And.intro hr0_0 hr0_1)
  clear hr0_0 hr0_1
  have W1 := q67 (Below.refl w.heap.size w) (.cells #[.slice A0_0 l0_0.length c0_0, .slice A0_1 l0_1.length c0_1] 25)
  have HW1 := Lib.hid W1
  clear W1
  by_cases hA : 6 < l0_0.length
  · have e : isB l0_0 l0_1 = false := by simp [isB]; omega
    rw [e]
    have hA' : (6 : Int) < l0_0.length := by omega
    clear e
    go_enter Try.func24, Try.ntmps24
    go_wp2
    go_ret
    exact ⟨rfl, HW1.out⟩
  have hA' : ¬ (6 : Int) < l0_0.length := by omega
  by_cases hB : l0_1.length < 1
  · have e : isB l0_0 l0_1 = false := by simp [isB]; omega
    rw [e]
    have hB' : (l0_1.length : Int) < 1 := by omega
    clear e
    go_enter Try.func24, Try.ntmps24
    go_wp2
    go_ret
    exact ⟨rfl, HW1.out⟩
  have hB' : ¬ (l0_1.length : Int) < 1 := by omega
  by_cases hC : 16 < l0_1.length
  · have e : isB l0_0 l0_1 = false := by simp [isB]; omega
    rw [e]
    have hC' : (16 : Int) < l0_1.length := by omega
    clear e
    go_enter Try.func24, Try.ntmps24
    go_wp2
    go_ret
    exact ⟨rfl, HW1.out⟩
  have hC' : ¬ (16 : Int) < l0_1.length := by omega
  have hd : decide (l0_0.length ≤ 6 ∧ 1 ≤ l0_1.length ∧ l0_1.length ≤ 16) = true := decide_eq_true (by omega)
  obtain ⟨P0, hP0⟩ : ∃ P, P = planB (q89 l0_1 0).f1 (q89 l0_1 0).f2 (q89 l0_1 0).f3 (q89 l0_1 0).f5.length (q89 l0_1 0).f6.length := ⟨_, rfl⟩
  obtain ⟨T0, hT0⟩ : ∃ T, T = l0_1.any (fun x => !itemB l0_0 l0_1 x.f1 x.f3 x.f4 x.f5 x.f6) := ⟨_, rfl⟩
  have hI : isB l0_0 l0_1 = (namesB l0_0 && (namesB (l0_1.map (·.f0)) && (P0 && (standsB l0_1 && !T0)))) := by
    unfold isB
    rw [hd, ← hP0, ← hT0]; rfl
  have HI := Lib.hid hI
  have HP := Lib.hid (And.intro hP0 hT0)
  clear hI hd hP0 hT0
  -- the world behind the box
  obtain ⟨W1, hW1⟩ : ∃ W, W = w.alloc (.cells #[.slice A0_0 l0_0.length c0_0, .slice A0_1 l0_1.length c0_1] 25) := ⟨_, rfl⟩
  have hm0 : W1.cell? ⟨w.heap.size, 0, none⟩ = some (.slice A0_0 l0_0.length c0_0) := by rw [hW1]; simp
  have hm1 : W1.cell? ⟨w.heap.size, 1, none⟩ = some (.slice A0_1 l0_1.length c0_1) := by rw [hW1]; simp
  have hb1 : Below w.heap.size w W1 := by rw [hW1]; exact HW1.out
  have H1 := Lib.hid (And.intro hm0 (And.intro hm1 hb1))
  have HE1 := Lib.hid hW1
  have hn1 := fun (W : World) (hb : Below w.heap.size w W) => q33.calls A0_0 c0_0 l0_0 _ W (Kd.C_below HR.out.1 hb) hc0_0 rfl
  have hn1' := hn1 W1 hb1
  clear hn1 hW1 hm0 hm1 hb1
  go_enter Try.func24, Try.ntmps24
  go_wp2_with fail
  rw [← HE1.out]
  go_at_call 39
  cases hq1 : namesB l0_0 with
  | false =>
    rw [hq1] at hn1' HI
    have HI2 : Hid (isB l0_0 l0_1 = false) := Lib.hid (by rw [HI.out]; rfl)
    clear hq1 HI
    refine hn1'.mono ?_
    rintro e w2 ⟨rfl, hb2⟩
    have HB := Lib.hid (q82 hb2 H1.out.2.2)
    clear hn1' hb2
    go_wp2
    go_ret
    exact ⟨by rw [HI2.out]; rfl, HB.out⟩
  | true =>
  rw [hq1] at hn1' HI
  clear hq1
  refine hn1'.mono ?_
  rintro e w2 ⟨rfl, hb2⟩
  have hm0 := q83 hb2 H1.out.1
  have hm1 := q83 hb2 H1.out.2.1
  have HB2 := Lib.hid (And.intro (q82 hb2 H1.out.2.2) (And.intro hm0 hm1))
  clear hn1' hb2
  have hids := q60.calls (l0_1.length + 1) A0_0 c0_0 l0_0 A0_1 c0_1 l0_1 _ w2 (Kd.C_below HR.out.1 HB2.out.1) hc0_0 (Kd.C_below HR.out.2 HB2.out.1) hc0_1 (ids_eq l0_0 l0_1 (by omega) (l0_1.length + 1) (by omega))
  go_wp2_with fail
  go_at_call 40
  refine hids.mono ?_
  rintro e w3 ⟨v3, rfl, hR3, hb3⟩
  obtain ⟨A3, c3, rfl, hl3, hC3⟩ := Kd.R_reads hR3
  have hn2 := q33.calls A3 c3 (l0_1.map (·.f0)) _ w3 hC3 hl3 rfl
  rw [List.length_map] at hn2
  have hm03 := q83 hb3 hm0
  have hm13 := q83 hb3 hm1
  have HB3 := Lib.hid (And.intro (q82 hb3 HB2.out.1) (And.intro hm03 hm13))
  clear hids hR3 hb3 hC3 hm0 hm1
  go_wp2_with fail
  go_at_call 39
  cases hq2 : namesB (l0_1.map (·.f0)) with
  | false =>
    rw [hq2] at hn2 HI
    have HI2 : Hid (isB l0_0 l0_1 = false) := Lib.hid (by rw [HI.out]; rfl)
    clear hq2 HI
    refine hn2.mono ?_
    rintro e w4 ⟨rfl, hb4⟩
    have HB := Lib.hid (q82 hb4 HB3.out.1)
    clear hn2 hb4
    go_wp2
    go_ret
    exact ⟨by rw [HI2.out]; rfl, HB.out⟩
  | true =>
  rw [hq2] at hn2 HI
  clear hq2
  refine hn2.mono ?_
  rintro e w4 ⟨rfl, hb4⟩
  have hm04 := q83 hb4 hm03
  have hm14 := q83 hb4 hm13
  have HB4 := Lib.hid (And.intro (q82 hb4 HB3.out.1) (And.intro hm04 hm14))
  obtain ⟨ad, B5, d5, B6, d6, e, hx0, hx1, hx2, hx3, hx4, hx5, hx6, g5, h5, g6, h6⟩ := at_T48 HR.out.2 (0 : Int) (by omega) (by omega)
  cases e
  obtain ⟨x, hx⟩ : ∃ x, x = q89 l0_1 (0 : Int) := ⟨_, rfl⟩
  rw [← hx] at hx0 hx1 hx2 hx3 hx4 hx5 hx6 g5 h5 g6 h6 HP
  have hip := q42.calls x.f0 x.f1 x.f2 x.f3 x.f4 B5 d5 x.f5 B6 d6 x.f6 _ w4 (Kd.C_below h5 HB4.out.1) g5 (Kd.C_below h6 HB4.out.1) g6 (isPlan_eq x.f0 x.f1 x.f2 x.f3 x.f4 x.f5 x.f6 h5.2.1 h6.2.1)
  rw [← HP.out.1] at hip
  replace hx0 := q83 HB4.out.1 hx0
  replace hx1 := q83 HB4.out.1 hx1
  replace hx2 := q83 HB4.out.1 hx2
  replace hx3 := q83 HB4.out.1 hx3
  replace hx4 := q83 HB4.out.1 hx4
  replace hx5 := q83 HB4.out.1 hx5
  replace hx6 := q83 HB4.out.1 hx6
  rw [show (0 : Int).toNat * 7 = 0 by rfl, show ad.add 0 = ad by simp [Addr.add]] at hx0 hx1 hx2 hx3 hx4 hx5 hx6
  have hl0 : (0 : Int) < l0_1.length := by omega
  clear hx hn2 hb4 hm03 hm13 h5 h6 g5 g6
  go_wp2_with fail
  go_at_call 41
  have HBox := Lib.hid (And.intro hm04 hm14)
  clear hx0 hx1 hx2 hx3 hx4 hx5 hx6
  cases P0 with
  | false =>
    have HI2 : Hid (isB l0_0 l0_1 = false) := Lib.hid (by rw [HI.out]; rfl)
    clear HI
    refine hip.mono ?_
    rintro e w5 ⟨rfl, hb5⟩
    have HB := Lib.hid (q82 hb5 HB4.out.1)
    clear hip hb5
    go_wp2
    go_ret
    exact ⟨by rw [HI2.out]; rfl, HB.out⟩
  | true =>
  refine hip.mono ?_
  rintro e w5 ⟨rfl, hb5⟩
  have hm05 := q83 hb5 HBox.out.1
  have hm15 := q83 hb5 HBox.out.2
  have hb5w := q82 hb5 HB4.out.1
  have hst := q41.calls A0_0 c0_0 l0_0 (some ad) c0_1 l0_1 _ w5 (Kd.C_below HR.out.1 hb5w) hc0_0 (Kd.C_below HR.out.2 hb5w) hc0_1 rfl
  have HB5 := Lib.hid hb5w
  clear hip hb5 hm04 hm14 hb5w
  go_wp2_with fail
  go_at_call 42
  have HBox5 := Lib.hid (And.intro hm05 hm15)
  cases hq3 : standsB l0_1 with
  | false =>
    rw [hq3] at hst HI
    have HI2 : Hid (isB l0_0 l0_1 = false) := Lib.hid (by rw [HI.out]; rfl)
    clear HI hq3
    refine hst.mono ?_
    rintro e w6 ⟨rfl, hb6⟩
    have HB := Lib.hid (q82 hb6 HB5.out)
    clear hst hb6
    go_wp2
    go_ret
    exact ⟨by rw [HI2.out]; rfl, HB.out⟩
  | true =>
  rw [hq3] at hst HI
  clear hq3
  refine hst.mono ?_
  rintro e w6 ⟨rfl, hb6⟩
  have hm06 := q83 hb6 hm05
  have hm16 := q83 hb6 hm15
  have hb6w := q82 hb6 HB5.out
  have hany := anyItem (some ad) c0_1 l0_1 w6 (Kd.C_below HR.out.2 hb6w) hc0_1 44 #[.pointer (some ⟨w.heap.size, 0, none⟩)] q63.eg (fun x => !itemB l0_0 l0_1 x.f1 x.f3 x.f4 x.f5 x.f6) (fun W x cs hx hb hK => q63.closure w.heap.size A0_0 c0_0 l0_0 (some ad) c0_1 l0_1 W (q83 hb hm06) (q83 hb hm16) (Kd.C_below (Kd.C_below HR.out.1 hb6w) hb) hc0_0 (Kd.C_below (Kd.C_below HR.out.2 hb6w) hb) hc0_1 x cs hK)
  rw [← HP.out.2] at hany
  have HB6 := Lib.hid hb6w
  clear hst hb6 hm05 hm15 hb6w
  go_wp2_with fail
  go_at_call 43
  refine hany.mono ?_
  rintro e w7 ⟨rfl, hb7⟩
  have HB := Lib.hid (q82 hb7 HB6.out)
  clear hany hb7
  go_wp2
  go_ret
  exact ⟨by rw [HI.out]; rfl, HB.out⟩
theorem lit_ints (W : World) (b : Nat) (hb : b = W.heap.size) (e : TypeId) (xs : List Int) (hl : xs.length ≤ 9223372036854775807) : Kd.C (Kd.int .i64) (W.alloc (.cells (nums .i64 xs).toArray e)) (some ⟨b, 0, none⟩) xs.length xs := by
  subst hb
  refine ⟨rfl, hl, fun _ => ⟨_, rfl, fun j p hj => ⟨[.int .i64 p], rfl, rfl, fun i u hu => ?_⟩⟩⟩
  cases i with
  | succ i => simp at hu
  | zero =>
    cases hu
    rw [add_plain]
    have e2 : xs[j]? = some p := hj
    show (W.alloc (.cells (nums .i64 xs).toArray e)).cell? ⟨W.heap.size, j * 1 + 0, none⟩ = _
    unfold World.cell?
    rw [show (⟨W.heap.size, j * 1 + 0, none⟩ : Addr).block = W.heap.size from rfl, heap_alloc_new]
    simp [nums, e2]
theorem Wr.mono {w : World} {g base : Nat} {ok ok' : Nat → Prop} {xs : List Int} (h : Wr w g base ok xs) (hok : ∀ k, ok k → ok' k) : Wr w g base ok' xs := by
 obtain ⟨v, hg, hR⟩ := h
 exact ⟨v, hg, Kd.R_mono hR hok⟩
theorem Wr.below {w w' : World} {g base : Nat} {ok : Nat → Prop} {xs : List Int} (h : Wr w g base ok xs) (hb : Below w.heap.size w w') : Wr w' g base ok xs := by
 obtain ⟨v, hg, hR⟩ := h
 exact ⟨v, q72 hg hb, Kd.R_below hR hb⟩
theorem Wr.apart {w : World} {g base : Nat} {ok : Nat → Prop} {xs : List Int} (h : Wr w g base ok xs) (a : Nat) (ha : w.heap.size ≤ a) : Wr w g base (fun k => ok k ∧ k ≠ a) xs := by
 obtain ⟨v, hg, hR⟩ := h
 exact ⟨v, hg, Kd.R_elderB hR a ha⟩
theorem Wr.lt {w : World} {g base : Nat} {ok : Nat → Prop} {xs : List Int} (h : Wr w g base ok xs) : g < w.heap.size := by
 obtain ⟨v, hg, hR⟩ := h
 exact blk_lt hg
theorem num_call (w0 W : World) (g : Nat) (ok : Nat → Prop) (xs : List Int) (hB : Below w0.heap.size w0 W) (hg0 : w0.heap.size ≤ g) (hok : ∀ k, ok k → k ≠ g) (hfr : ∀ k, W.heap.size ≤ k → ok k) (hW : Wr W g w0.heap.size ok xs) (e : TypeId) (l : List Int) (hlim : xs.length + 10 * l.length ≤ 140737488000000) (hl : ∀ n ∈ l, n < 9223372036854775808) (b : Nat) (hb : b = W.heap.size) (m : Nat) (hm : m = l.length) :
 Calls Try.prog 47 #[.pointer (some ⟨g, 0, none⟩), .slice (some ⟨b, 0, none⟩) m m] (W.alloc (.cells (nums .i64 l).toArray e)) (WPost w0 W g ok (xs ++ l.flatMap (numW 10))) := by
 subst hb hm
 have hgl := hW.lt
 have hba := q67 (Below.refl W.heap.size W) (.cells (nums .i64 l).toArray e)
 have hsz : (W.alloc (.cells (nums .i64 l).toArray e)).heap.size = W.heap.size + 1 := by simp
 refine (num_any w0 (W.alloc (.cells (nums .i64 l).toArray e)) g (fun k => ok k ∧ k ≠ W.heap.size) xs _ _ l (q70 hB hB.size hba) hg0 (fun k h => hok k h.1) (fun k h => ⟨hfr k (by omega), by omega⟩) ((hW.apart _ (Nat.le_refl _)).below hba) (lit_ints W _ rfl e l (by omega)) (fun ad h => ?_) hlim hl).mono fun e' w' hp => ?_
 ·cases h
  exact ⟨by rw [hsz]; exact Nat.lt_succ_self _, fun h => h.2 rfl, by show W.heap.size ≠ g; omega⟩
 ·obtain ⟨h1, h2, h3, h4⟩ := hp
  refine ⟨h1, h2.mono (fun k h => h.1), h3, (Kept.of_below hba (fun k => ok k ∨ k = g)).then_ h4 (fun k h => ?_)⟩
  rcases h with h | h
  ·exact .inl (.inl h.1)
  ·exact .inl (.inr h)
def sgn (n : Int) : Int := if n < 0 then -2 * n - 1 else 2 * n
set_option maxHeartbeats 4000000 in
theorem signed_any (w0 w : World) (g : Nat) (ok : Nat → Prop) (xs : List Int) (x : Int) (hB : Below w0.heap.size w0 w) (hg0 : w0.heap.size ≤ g) (hok : ∀ k, ok k → k ≠ g) (hfr : ∀ k, w.heap.size ≤ k → ok k) (hW : Wr w g w0.heap.size ok xs) (hlim : xs.length + 10 ≤ 140737488000000) (hx : -1000000 ≤ x ∧ x ≤ 1000000) :
 Calls Try.prog 74 #[.pointer (some ⟨g, 0, none⟩), .int .i64 x] w (WPost w0 w g ok (xs ++ numW 10 (sgn x))) := by
 have hc := fun (l : List Int) (h1 : l.length = 1) (h2 : ∀ n ∈ l, n < 9223372036854775808) => num_call w0 w g ok xs hB hg0 hok hfr hW 3 l (by omega) h2 _ rfl 1 h1.symm
 by_cases h0 : x < 0
 ·have hcc := hc [-2 * x - 1] rfl (by simp; omega)
  have e : sgn x = -2 * x - 1 := by unfold sgn; rw [if_pos h0]
  rw [e]
  have hw1 : wrap64 (-2 * x) = -2 * x := by unfold wrap64; omega
  have hw2 : wrap64 (-2 * x - 1) = -2 * x - 1 := by unfold wrap64; omega
  have HC := Lib.hid hcc
  clear hc hcc hB hok hfr hW e
  go_enter Try.func74, Try.ntmps74
  go_wp2_with fail
  refine HC.out.mono ?_
  rintro e w' ⟨rfl, h1, h2, h3⟩
  have HH := Lib.hid (And.intro h1 (And.intro h2 h3))
  clear h1 h2 h3 HC
  go_wp2
  go_end0
  exact ⟨rfl, by simpa using HH.out.1, HH.out.2.1, HH.out.2.2⟩
 ·have hcc := hc [2 * x] rfl (by simp; omega)
  have e : sgn x = 2 * x := by unfold sgn; rw [if_neg h0]
  rw [e]
  have hw1 : wrap64 (2 * x) = 2 * x := by unfold wrap64; omega
  have HC := Lib.hid hcc
  clear hc hcc hB hok hfr hW e
  go_enter Try.func74, Try.ntmps74
  go_wp2_with fail
  refine HC.out.mono ?_
  rintro e w' ⟨rfl, h1, h2, h3⟩
  have HH := Lib.hid (And.intro h1 (And.intro h2 h3))
  clear h1 h2 h3 HC
  go_wp2
  go_end0
  exact ⟨rfl, by simpa using HH.out.1, HH.out.2.1, HH.out.2.2⟩
def St (w0 w wr : World) (g : Nat) (ok : Nat → Prop) (xs : List Int) : Prop := Wr wr g w0.heap.size ok xs ∧ Below w0.heap.size w0 wr ∧ Kept w wr (fun k => ok k ∨ k = g)
def Fx (w0 w : World) (g : Nat) (ok : Nat → Prop) : Prop := w0.heap.size ≤ g ∧ (∀ k, ok k → k ≠ g) ∧ (∀ k, w.heap.size ≤ k → ok k)
section
variable {w0 w wr w2 : World} {g b : Nat} {ok : Nat → Prop} {xs ys : List Int}
theorem St.refl (hW : Wr w g w0.heap.size ok xs) (hB : Below w0.heap.size w0 w) : St w0 w w g ok xs := ⟨hW, hB, Kept.refl _ _⟩
theorem St.below (s : St w0 w wr g ok xs) (hb : Below wr.heap.size wr w2) : St w0 w w2 g ok xs := ⟨s.1.below hb, q70 s.2.1 s.2.1.size hb, s.2.2.below hb⟩
theorem Fx.le (f : Fx w0 w g ok) (s : St w0 w wr g ok xs) : Fx w0 wr g ok := ⟨f.1, f.2.1, fun k hk => f.2.2 k (Nat.le_trans s.2.2.1 hk)⟩
theorem num_st (f : Fx w0 w g ok) (s : St w0 w wr g ok xs) (e : TypeId) (l : List Int) (hlim : xs.length + 10 * l.length ≤ 140737488000000) (hl : ∀ n ∈ l, n < 9223372036854775808) (b : Nat) (hb : b = wr.heap.size) (m : Nat) (hm : m = l.length) :
 Calls Try.prog 47 #[.pointer (some ⟨g, 0, none⟩), .slice (some ⟨b, 0, none⟩) m m] (wr.alloc (.cells (nums .i64 l).toArray e)) fun e w' => e = .returned (.tuple #[]) ∧ St w0 w w' g ok (xs ++ l.flatMap (numW 10)) :=
 (num_call w0 wr g ok xs s.2.1 f.1 f.2.1 (f.le s).2.2 s.1 e l hlim hl b hb m hm).mono fun e' w' h => ⟨h.1, h.2.1, h.2.2.1, s.2.2.then_ h.2.2.2 (fun k hk => .inl hk)⟩
theorem signed_st (f : Fx w0 w g ok) (s : St w0 w wr g ok xs) (x : Int) (hlim : xs.length + 10 ≤ 140737488000000) (hx : -1000000 ≤ x ∧ x ≤ 1000000) :
 Calls Try.prog 74 #[.pointer (some ⟨g, 0, none⟩), .int .i64 x] wr fun e w' => e = .returned (.tuple #[]) ∧ St w0 w w' g ok (xs ++ numW 10 (sgn x)) :=
 (signed_any w0 wr g ok xs x s.2.1 f.1 f.2.1 (f.le s).2.2 s.1 hlim hx).mono fun e' w' h => ⟨h.1, h.2.1, h.2.2.1, s.2.2.then_ h.2.2.2 (fun k hk => .inl hk)⟩
theorem Fx.box (f : Fx w0 w g ok) (s : St w0 w wr g ok xs) (o : Obj) (hb : b = wr.heap.size) : Fx w0 (wr.alloc o) g (fun k => ok k ∧ k ≠ b) := by
 have hsz : (wr.alloc o).heap.size = wr.heap.size + 1 := by simp
 exact ⟨f.1, fun k h => f.2.1 k h.1, fun k hk => ⟨(f.le s).2.2 k (by omega), by omega⟩⟩
theorem St.box (s : St w0 w wr g ok xs) (o : Obj) (hb : b = wr.heap.size) : St w0 (wr.alloc o) (wr.alloc o) g (fun k => ok k ∧ k ≠ b) xs :=
 St.refl ((s.1.apart b (by omega)).below (q67 (Below.refl _ _) o)) (q70 s.2.1 s.2.1.size (q67 (Below.refl _ _) o))
theorem St.back {o : Obj} (s : St w0 w wr g ok xs) (t : St w0 (wr.alloc o) w2 g (fun k => ok k ∧ k ≠ b) ys) : St w0 w w2 g ok ys :=
 ⟨t.1.mono (fun k h => h.1), t.2.1, (s.2.2.alloc o).then_ t.2.2 (fun k hk => .inl (hk.elim (fun h => .inl h.1) .inr))⟩
theorem St.stay {a : Addr} {v : Value} (s : St w0 w wr g ok xs) (hc : w.cell? a = some v) (h1 : ¬ ok a.block) (h2 : a.block ≠ g) : wr.cell? a = some v := cell_kept hc s.2.2 (fun h => h.elim h1 h2)
variable {P : Program} {md : Region.Mode} {ops : Array Oper} {Q : Exit → Act → World → Prop} {S : World → Prop} {ds : List Nat}
theorem onS_ {n m fuel : Nat} {oi : Oper} {a : Act} {w : World} (i : Nat) (N : Option Tmp)
 (h : ∀ K : Act → World → Prop, Shut (∀ a' w', S w' → (S w' → q92 P md ops Q S ds fuel (bits n (m ||| 1 <<< i)) a' w') → K a' w') → if Region.wanted oi (yielded ops a.tmps) = true then Oper.wp P oi a w K Q else K (a.put N undef) w)
 (hi : ops[i]? = some oi := by exact rfl) (hN : oi.dst = N := by exact rfl) (hc : readyB md ops (bits n m) (bits n (m ||| 1 <<< i)) i = true := by kernel_rfl) (hd : i ∉ ds := by decide) : q92 P md ops Q S ds (fuel + 1) (bits n m) a w :=
 one_ _ hi hN hc hd h
end
def idxI (l : List ByteArray) (s : ByteArray) : Int := fidx (fun x => s.toList == x.toList) l
def onW (items : List (S48)) (x : S103) : List Int := numW 10 (q85 items x.f0) ++ numW 10 x.f1
def ifW (fs : List ByteArray) (c : S50) : List Int := numW 10 (idxI fs c.f0) ++ numW 10 (idxI opsL c.f1) ++ numW 10 (sgn c.f2)
def sentW (fs : List ByteArray) (items : List (S48)) (s : S54) : List Int := numW 10 s.f0.length ++ s.f0.flatMap (onW items) ++ numW 10 s.f1.length ++ s.f1.flatMap (ifW fs)
def sentsW (fs : List ByteArray) (items : List (S48)) (l : List (S54)) : List Int := numW 10 l.length ++ l.flatMap (sentW fs items)
def sOk (s : S54) : Prop := s.f0.length ≤ 3 ∧ s.f1.length ≤ 2 ∧ (∀ x ∈ s.f0, x.f1 < 9223372036854775808) ∧ ∀ c ∈ s.f1, -1000000 ≤ c.f2 ∧ c.f2 ≤ 1000000
theorem flat_le {α : Type} (f : α → List Int) (c : Nat) (l : List α) (h : ∀ x ∈ l, (f x).length ≤ c) : (l.flatMap f).length ≤ c * l.length := by
  induction l with
  | nil => simp
  | cons a l ih =>
    rw [List.flatMap_cons, List.length_append, List.length_cons, Nat.mul_succ]
    have h1 := h a (List.mem_cons_self ..)
    have h2 := ih (fun x hx => h x (List.mem_cons_of_mem _ hx))
    omega
theorem onW_le (items : List (S48)) (x : S103) : (onW items x).length ≤ 20 := by
 unfold onW
 rw [List.length_append]
 have := q84 10 (q85 items x.f0)
 have := q84 10 x.f1
 omega
theorem ifW_le (fs : List ByteArray) (c : S50) : (ifW fs c).length ≤ 30 := by
 unfold ifW
 rw [List.length_append, List.length_append]
 have := q84 10 (idxI fs c.f0)
 have := q84 10 (idxI opsL c.f1)
 have := q84 10 (sgn c.f2)
 omega
theorem sentW_le (fs : List ByteArray) (items : List (S48)) (s : S54) (h : sOk s) : (sentW fs items s).length ≤ 140 := by
 unfold sentW
 rw [List.length_append, List.length_append, List.length_append]
 have := q84 10 s.f0.length
 have := q84 10 s.f1.length
 have := flat_le (onW items) 20 s.f0 (fun x _ => onW_le items x)
 have := flat_le (ifW fs) 30 s.f1 (fun x _ => ifW_le fs x)
 have := h.1
 have := h.2.1
 omega
theorem take_flat {α : Type} (f : α → List Int) (l : List α) (i : Nat) (hi : i < l.length) : (l.take (i + 1)).flatMap f = (l.take i).flatMap f ++ f (l[i]) := by
 rw [List.take_add_one, List.getElem?_eq_getElem hi, List.flatMap_append]
 simp
theorem index_fidx (l : List ByteArray) (s : ByteArray) (hn : l.length ≤ 9223372036854775807) (d : Nat) : ∀ (i k : Nat), i + d = l.length → d < k → q7.l0 k l s l.length i = some (match (l.drop i).findIdx? (fun x => s.toList == x.toList) with | some j => ((i + j : Nat) : Int) | none => -1) := by
  induction d with
  | zero =>
    intro i k hi hk
    obtain ⟨k, rfl⟩ : ∃ m, k = m + 1 := ⟨k - 1, by omega⟩
    simp only [q7.l0]
    rw [if_neg (by omega), List.drop_of_length_le (by omega)]
    rfl
  | succ d ih =>
    intro i k hi hk
    obtain ⟨k, rfl⟩ : ∃ m, k = m + 1 := ⟨k - 1, by omega⟩
    have hlt : i < l.length := by omega
    simp only [q7.l0]
    rw [if_pos (by omega), if_pos (by omega), if_pos (by omega), rdOf_get _ _ _ hlt, List.drop_eq_getElem_cons hlt, List.findIdx?_cons]
    by_cases he : s.toList = l[i].toList
    · rw [if_pos he]
      rw [show (s.toList == l[i].toList) = true by simpa using he]
      simp
    · rw [if_neg he, show (s.toList == l[i].toList) = false by simpa using he, wrap_lt (n := (l.length : Int)) (by omega) (by omega) (by omega)]
      have := ih (i + 1) k (by omega) (by omega)
      rw [show ((i : Int) + 1) = ((i + 1 : Nat) : Int) by omega, this]
      cases (List.drop (i + 1) l).findIdx? (fun x => s.toList == x.toList) with
      | none => rfl
      | some j => simp only [Option.map_some, Nat.add_assoc, Nat.add_comm 1 j]; rfl
theorem index_call (A : Option Addr) (c : Nat) (l : List ByteArray) (s : ByteArray) (w : World) (hr : Kd.C Kd.string w A l.length l) (hc : l.length ≤ c) :
 Calls Try.prog 69 #[.slice A l.length c, .string s] w fun e w' => e = .returned (.int .i64 (idxI l s)) ∧ Below w.heap.size w w' := by
 refine (q7.calls (l.length + 1) A c l s (idxI l s) w hr hc ?_).mono fun e w' h => ⟨h.1, h.2.below⟩
 have := index_fidx l s hr.2.1 l.length 0 (l.length + 1) (by omega) (by omega)
 unfold q7.f
 have e : ((0 : Nat) : Int) = 0 := rfl
 rw [e] at this
 rw [this]
 unfold idxI fidx
 rw [List.drop_zero]
 cases l.findIdx? (fun x => s.toList == x.toList) with
 | none => rfl
 | some j => simp
theorem ops_call (w : World) : Calls Try.prog 73 #[] w fun e w' => ∃ A c, e = .returned (.slice A 6 c) ∧ 6 ≤ c ∧ Kd.C Kd.string w' A 6 opsL ∧ Below w.heap.size w w' := by
 refine (q62.calls opsL w rfl).mono fun e w' h => ?_
 obtain ⟨v, rfl, hR, hB⟩ := h
 obtain ⟨A, c, rfl, hl, hC⟩ := Kd.R_reads hR
 exact ⟨A, c, rfl, hl, hC, hB⟩
set_option maxHeartbeats 8000000 in
set_option maxRecDepth 100000 in
theorem sents_any (w0 w : World) (g : Nat) (ok : Nat → Prop) (xs : List Int) (A0 : Option Addr) (c0 : Nat) (fs : List ByteArray) (A1 : Option Addr) (c1 : Nat) (items : List (S48)) (A2 : Option Addr) (c2 : Nat) (l : List (S54))
 (F : Fx w0 w g ok) (s0 : St w0 w w g ok xs)
 (hr0 : Kd.C Kd.string w0 A0 fs.length fs) (hc0 : fs.length ≤ c0) (hr1 : Kd.C k48 w0 A1 items.length items) (hc1 : items.length ≤ c1) (hr2 : Kd.C k54 w0 A2 l.length l) (hc2 : l.length ≤ c2)
 (hl : l.length ≤ 3) (hs : ∀ s ∈ l, sOk s) (hlim : xs.length + 1000 ≤ 140737488000000) :
 Calls Try.prog 50 #[.pointer (some ⟨g, 0, none⟩), .agg #[.slice A0 fs.length c0, .slice A1 items.length c1], .slice A2 l.length c2] w fun e w' => e = .returned (.tuple #[]) ∧ St w0 w w' g ok (xs ++ sentsW fs items l) := by
 have hu25 := Try.underlying25
 have hu54 := Try.underlying54
 have hu103 := Try.underlying103
 have hu50 := Try.underlying50
 have F1 := Lib.hid (F.box (b := w.heap.size) s0 (.cells #[.slice A0 fs.length c0, .slice A1 items.length c1] 25) rfl)
 have s1 := s0.box (b := w.heap.size) (.cells #[.slice A0 fs.length c0, .slice A1 items.length c1] 25) rfl
 have HS0 := Lib.hid s0
 have HR := Lib.hid (And.intro hr0 (And.intro hr1 hr2))
 have HS := Lib.hid hs
 have hgl := s0.1.lt
 obtain ⟨n, hn⟩ : ∃ n, n = l.length := ⟨_, rfl⟩
 rw [← hn] at hl hc2 ⊢
 have HN := Lib.hid hn
 have HF := Lib.hid F
 clear s0 hr0 hr1 hr2 hs hn F
 go_enter Try.func50, Try.ntmps50
 go_wp2_with fail
 obtain ⟨W1, hW1⟩ : ∃ W1, W1 = w.alloc (.cells #[.slice A0 fs.length c0, .slice A1 items.length c1] 25) := ⟨_, rfl⟩
 have hb1 : W1.heap.size = w.heap.size + 1 := by rw [hW1]; simp
 have hm0 : W1.cell? ⟨w.heap.size, 0, none⟩ = some (.slice A0 fs.length c0) := by rw [hW1]; simp
 have hm1 : W1.cell? ⟨w.heap.size, 1, none⟩ = some (.slice A1 items.length c1) := by rw [hW1]; simp
 rw [← hW1] at F1 s1 ⊢
 have HW1 := Lib.hid hW1
 clear hW1
 have HM := Lib.hid (And.intro hm0 hm1)
 have HZ1 := Lib.hid hb1
 refine (num_st F1.out s1 3 [(n : Int)] (by simp; omega) (by simp; omega) (w.heap.size + 1) hb1.symm 1 rfl).mono ?_
 rintro e w2 ⟨rfl, s2⟩
 have HS2 := Lib.hid s2
 clear s1 s2 hb1 hm0 hm1
 go_wp2
 go_loopg [19] n (fun gg s19 wr => ∃ i : Nat, s19 = .int .i64 i ∧ i ≤ n ∧ n - i ≤ gg ∧ Hid (St w0 W1 wr g (fun k => ok k ∧ k ≠ w.heap.size) (xs ++ numW 10 n ++ (l.take i).flatMap (sentW fs items))))
 case atStart => exact ⟨0, rfl, Nat.zero_le _, by omega, Lib.hid (by simpa using HS2.out)⟩
 case round =>
  obtain ⟨i, rfl, hin, hig, X⟩ := hrel
  obtain ⟨wO, rfl⟩ : ∃ wO, wO = wr := ⟨_, rfl⟩
  by_cases hlt : i < n
  case neg =>
   have hltz : ¬ (i : Int) < (n : Int) := by omega
   obtain rfl : n = i := by omega
   go_wp2
   go_end0
   refine ⟨rfl, ?_⟩
   have h1 := X.out
   rw [HW1.out, show l.take n = l by rw [HN.out, List.take_length]] at h1
   have h2 := HS0.out.back h1
   unfold sentsW
   rw [← HN.out, ← List.append_assoc]
   exact h2
  have hltz : (i : Int) < (n : Int) := by omega
  obtain ⟨ad, B0, d0, B1, d1, e, hx0, hx1, hl0, hC0, hl1, hC1⟩ := at_T54 HR.out.2.2 (i : Int) (by omega) (by have := HN.out; omega)
  cases e
  simp only [Int.toNat_natCast] at hx0 hx1
  have hil : i < l.length := by have := HN.out; omega
  obtain ⟨s, hsx⟩ : ∃ s, s = q91 l (i : Int) := ⟨_, rfl⟩
  have hsl : s = l[i] := by rw [hsx]; simp [q91, List.getD_eq_getElem?_getD, List.getElem?_eq_getElem hil]
  rw [← hsx] at hx0 hx1 hC0 hC1 hl0 hl1
  have hsok : sOk s := by rw [hsl]; exact HS.out _ (List.getElem_mem _)
  have hnx := take_flat (sentW fs items) l i hil
  rw [← hsl] at hnx
  have hx0 := q83 X.out.2.1 hx0
  have hx1 := q83 X.out.2.1 hx1
  obtain ⟨ys, hys⟩ : ∃ ys, ys = xs ++ numW 10 n ++ (l.take i).flatMap (sentW fs items) := ⟨_, rfl⟩
  have hyl : ys.length + 500 ≤ 140737488000000 := by
   rw [hys, List.length_append, List.length_append]
   have h1 := q84 10 (n : Int)
   have h2 := flat_le (sentW fs items) 140 (l.take i) (fun x hx => sentW_le fs items x (HS.out x (List.mem_of_mem_take hx)))
   rw [List.length_take] at h2
   omega
  rw [← hys] at X
  have HYS := Lib.hid hys
  have HNX := Lib.hid hnx
  obtain ⟨n0, hn0⟩ : ∃ n0, n0 = s.f0.length := ⟨_, rfl⟩
  obtain ⟨n1, hn1⟩ : ∃ n1, n1 = s.f1.length := ⟨_, rfl⟩
  rw [← hn0] at hx0 hl0 hC0
  rw [← hn1] at hx1 hl1 hC1
  have hn03 : n0 ≤ 3 := by have := hsok.1; omega
  have hn12 : n1 ≤ 2 := by have := hsok.2.1; omega
  have HN0 := Lib.hid hn0
  have HN1 := Lib.hid hn1
  have HOK := Lib.hid hsok
  have HC0 := Lib.hid hC0
  have HC1 := Lib.hid hC1
  clear hys hnx hn0 hn1 hsok hC0 hC1 hsl hsx hil
  go_wp2_with fail
  clear hx0 hx1
  obtain ⟨W2, hW2⟩ : ∃ W2, W2 = wO.alloc (.cells #[.slice B0 n0 d0, .slice B1 n1 d1] 54) := ⟨_, rfl⟩
  have hwr1 : w.heap.size + 1 ≤ wO.heap.size := by have := X.out.2.2.1; have := HZ1.out; omega
  have hb2 : W2.heap.size = wO.heap.size + 1 := by rw [hW2]; simp
  have hs0 : W2.cell? ⟨wO.heap.size, 0, none⟩ = some (.slice B0 n0 d0) := by rw [hW2]; simp
  have hs1 : W2.cell? ⟨wO.heap.size, 1, none⟩ = some (.slice B1 n1 d1) := by rw [hW2]; simp
  have hgne : w.heap.size ≠ g := by omega
  have hm0 : W2.cell? ⟨w.heap.size, 0, none⟩ = some (.slice A0 fs.length c0) := by rw [hW2]; exact q83 (q67 (Below.refl _ _) _) (X.out.stay HM.out.1 (fun h => h.2 rfl) hgne)
  have hm1 : W2.cell? ⟨w.heap.size, 1, none⟩ = some (.slice A1 items.length c1) := by rw [hW2]; exact q83 (q67 (Below.refl _ _) _) (X.out.stay HM.out.2 (fun h => h.2 rfl) hgne)
  have F2 := F1.out.box (b := wO.heap.size) X.out (.cells #[.slice B0 n0 d0, .slice B1 n1 d1] 54) rfl
  have t2 := X.out.box (b := wO.heap.size) (.cells #[.slice B0 n0 d0, .slice B1 n1 d1] 54) rfl
  rw [← hW2] at F2 t2 ⊢
  have HW2 := Lib.hid hW2
  have HF2 := Lib.hid F2
  have HM2 := Lib.hid (And.intro hm0 (And.intro hm1 (And.intro hs0 hs1)))
  have HSZ := Lib.hid (And.intro hb2 hwr1)
  obtain ⟨ok2, hok2⟩ : ∃ ok2, ok2 = (fun k => (ok k ∧ k ≠ w.heap.size) ∧ k ≠ wO.heap.size) := ⟨_, rfl⟩
  rw [← hok2] at HF2 t2
  have hb2k : ∀ k, ok2 k → k ≠ w.heap.size ∧ k ≠ wO.heap.size := by rw [hok2]; exact fun k h => ⟨h.1.2, h.2⟩
  have HO2 := Lib.hid hok2
  have HK2 := Lib.hid hb2k
  clear hW2 F2 hm0 hm1 hs0 hs1 hok2 hb2k
  refine (num_st HF2.out t2 3 [(n0 : Int)] (by simp; omega) (by simp; omega) (wO.heap.size + 1) hb2.symm 1 rfl).mono ?_
  clear hb2
  rintro e w3 ⟨rfl, s3⟩
  have HS3 := Lib.hid s3
  clear s3 t2
  have hwg : wO.heap.size ≠ g := by have := HSZ.out.2; omega
  have hs0 := HS3.out.stay HM2.out.2.2.1 (fun h => (HK2.out _ h).2 rfl) hwg
  go_wp2
  clear hs0
  go_loopg [32] n0 (fun gg s32 wq => ∃ j : Nat, s32 = .int .i64 j ∧ j ≤ n0 ∧ n0 - j ≤ gg ∧ Hid (St w0 W2 wq g ok2 (ys ++ numW 10 n0 ++ (s.f0.take j).flatMap (onW items))))
  case atStart => exact ⟨0, rfl, Nat.zero_le _, by omega, Lib.hid (by simpa using HS3.out)⟩
  case round =>
   obtain ⟨j, rfl, hjn, hjg, Y⟩ := hrel
   obtain ⟨wq, rfl⟩ : ∃ wq, wq = wr := ⟨_, rfl⟩
   by_cases hlj : j < n0
   case pos =>
    have hltj : (j : Int) < (n0 : Int) := by omega
    obtain ⟨ao, e, hy0, hy1⟩ := at_T103 HC0.out (j : Int) (by omega) (by omega)
    cases e
    simp only [Int.toNat_natCast] at hy0 hy1
    have hjl : j < s.f0.length := by have := HN0.out; omega
    obtain ⟨x, hx⟩ : ∃ x, x = q87 s.f0 (j : Int) := ⟨_, rfl⟩
    have hxl : x = s.f0[j] := by rw [hx]; simp [q87, List.getD_eq_getElem?_getD, List.getElem?_eq_getElem hjl]
    rw [← hx] at hy0 hy1
    have hnx := take_flat (onW items) s.f0 j hjl
    rw [← hxl] at hnx
    have hx63 : x.f1 < 9223372036854775808 := by rw [hxl]; exact HOK.out.2.2.1 _ (List.getElem_mem _)
    have hy0 := q83 Y.out.2.1 hy0
    have hy1 := q83 Y.out.2.1 hy1
    have hs0 := Y.out.stay HM2.out.2.2.1 (fun h => (HK2.out _ h).2 rfl) hwg
    obtain ⟨zs, hzs⟩ : ∃ zs, zs = ys ++ numW 10 n0 ++ (s.f0.take j).flatMap (onW items) := ⟨_, rfl⟩
    have hzl : zs.length + 100 ≤ 140737488000000 := by
     rw [hzs, List.length_append, List.length_append]
     have h1 := q84 10 (n0 : Int)
     have h2 := flat_le (onW items) 20 (s.f0.take j) (fun x hx => onW_le items x)
     rw [List.length_take] at h2
     omega
    rw [← hzs] at Y
    have HZS := Lib.hid hzs
    have HNJ := Lib.hid hnx
    have HX63 := Lib.hid hx63
    have HZL := Lib.hid hzl
    clear hzs hnx hx hxl hjl hx63 hzl
    go_wp2
    clear hy0 hy1 hs0
    have hwq1 : W2.heap.size ≤ wq.heap.size := Y.out.2.2.1
    have hm0 := Y.out.stay HM2.out.1 (fun h => (HK2.out _ h).1 rfl) hgne
    have hm1 := Y.out.stay HM2.out.2.1 (fun h => (HK2.out _ h).1 rfl) hgne
    obtain ⟨W3, hW3⟩ : ∃ W3, W3 = wq.alloc (.cells #[.string x.f0, .int .i64 x.f1] 103) := ⟨_, rfl⟩
    have hb3 : W3.heap.size = wq.heap.size + 1 := by rw [hW3]; simp
    have hx0 : W3.cell? ⟨wq.heap.size, 0, none⟩ = some (.string x.f0) := by rw [hW3]; simp
    have hx1 : W3.cell? ⟨wq.heap.size, 1, none⟩ = some (.int .i64 x.f1) := by rw [hW3]; simp
    have hm0 := q83 (by rw [hW3]; exact q67 (Below.refl _ _) _ : Below wq.heap.size wq W3) hm0
    have hm1 := q83 (by rw [hW3]; exact q67 (Below.refl _ _) _ : Below wq.heap.size wq W3) hm1
    have F3 := (HF2.out.box (b := wq.heap.size) Y.out (.cells #[.string x.f0, .int .i64 x.f1] 103) rfl)
    have t3 := (Y.out.box (b := wq.heap.size) (.cells #[.string x.f0, .int .i64 x.f1] 103) rfl)
    rw [← hW3] at F3 t3 ⊢
    have HW3 := Lib.hid hW3
    have HF3 := Lib.hid F3
    have HB3 := Lib.hid hb3
    have HC3 := Lib.hid (And.intro hm0 (And.intro hm1 (And.intro hx0 hx1)))
    clear hW3 F3 hb3
    refine st_ (fun w' => w'.cell? ⟨w.heap.size, 0, none⟩ = some (.slice A0 fs.length c0) ∧ w'.cell? ⟨w.heap.size, 1, none⟩ = some (.slice A1 items.length c1) ∧ w'.cell? ⟨wq.heap.size, 0, none⟩ = some (.string x.f0) ∧ w'.cell? ⟨wq.heap.size, 1, none⟩ = some (.int .i64 x.f1)) 9 ⟨hm0, hm1, hx0, hx1⟩ (fun hHeld => ?_)
    clear hm0 hm1 hx0 hx1
    have t4 := t3.below (q68 (Below.refl _ _))
    clear t3
    refine pu_ 0 (some 36) ?_
    refine tk_ 1 (some 37) hHeld ?_ (hy := by rintro w' ⟨s0, s1, s2, s3⟩; go_simp; with_reducible rfl)
    refine pu_ 2 (some 38) ?_
    refine tk_ 3 (some 39) hHeld ?_ (hy := by rintro w' ⟨s0, s1, s2, s3⟩; go_simp; with_reducible rfl)
    refine pu_ 5 (some 41) ?_
    refine tk_ 6 (some 42) hHeld ?_ (hy := by rintro w' ⟨s0, s1, s2, s3⟩; go_simp; with_reducible rfl)
    generalize W3.drew = wD at hHeld t4 ⊢
    refine ca_ 4 (some 40) Try.func48 #[.agg #[.slice A0 fs.length c0, .slice A1 items.length c1], .string x.f0] ?_
    refine (q48.calls A0 c0 fs A1 c1 items x.f0 (q85 items x.f0) wD (Kd.C_below HR.out.1 t4.2.1) hc0 (Kd.C_below HR.out.2.1 t4.2.1) hc1 rfl).mono ?_
    rintro e wP ⟨rfl, hbP⟩
    have t5 := t4.below hbP
    have hH5 : _ ∧ _ ∧ _ ∧ _ := ⟨q83 hbP hHeld.1, q83 hbP hHeld.2.1, q83 hbP hHeld.2.2.1, q83 hbP hHeld.2.2.2⟩
    clear hHeld t4
    refine ⟨_, rfl, hH5, fun _ => ⟨_, rfl, nz_ (some 40) ?_⟩⟩
    have hp63 : q85 items x.f0 < 9223372036854775808 := by have := placeI_lt items x.f0; have := HR.out.2.1.2.1; omega
    obtain ⟨p, hp⟩ : ∃ p, p = q85 items x.f0 := ⟨_, rfl⟩
    rw [← hp] at hp63 ⊢
    have HP := Lib.hid hp
    clear hp
    refine onS_ 7 (some 43) (fun K hK => ?_)
    go_simp
    refine hK.out _ _ ⟨q83 (q67 (Below.refl _ _) _) hH5.1, q83 (q67 (Below.refl _ _) _) hH5.2.1, q83 (q67 (Below.refl _ _) _) hH5.2.2.1, q83 (q67 (Below.refl _ _) _) hH5.2.2.2⟩ (fun _ => ?_)
    clear hK K
    have hnum := num_st HF3.out t5 3 [p, x.f1] (by have := HZL.out; simp; omega) (by have := HX63.out; simp; omega) wP.heap.size rfl 2 rfl
    refine ca_ 8 (some 44) Try.func47 #[.pointer (some ⟨g, 0, none⟩), .slice (some ⟨wP.heap.size, 0, none⟩) 2 2] ?_
    refine hnum.mono ?_
    rintro e w6 ⟨rfl, t6⟩
    have hqg : wq.heap.size ≠ g := by have := HSZ.out; omega
    refine ⟨_, rfl, ⟨t6.stay HC3.out.1 (fun h => (HK2.out _ h.1).1 rfl) hgne, t6.stay HC3.out.2.1 (fun h => (HK2.out _ h.1).1 rfl) hgne, t6.stay HC3.out.2.2.1 (fun h => h.2 rfl) hqg, t6.stay HC3.out.2.2.2 (fun h => h.2 rfl) hqg⟩, fun _ => ⟨_, rfl, nz_ (some 44) ?_⟩⟩
    refine dn_ ?_
    have HT := Lib.hid (Y.out.back (HW3.out ▸ t6))
    clear t5 t6 hH5 hnum hp63
    go_wp2
    go_roundg (n0 - (j + 1))
    case measure => omega
    case rel => exact ⟨j + 1, by go_num, by omega, by omega, Lib.hid (by rw [HNJ.out, ← List.append_assoc, ← HZS.out]; simpa [onW, HP.out] using HT.out)⟩
   have hltj : ¬ (j : Int) < (n0 : Int) := by omega
   obtain rfl : n0 = j := by omega
   have hs1 := Y.out.stay HM2.out.2.2.2 (fun h => (HK2.out _ h).2 rfl) hwg
   have hY := Y.out
   rw [show s.f0.take n0 = s.f0 by rw [HN0.out, List.take_length]] at hY
   obtain ⟨us, hus⟩ : ∃ us, us = ys ++ numW 10 n0 ++ s.f0.flatMap (onW items) := ⟨_, rfl⟩
   have hul : us.length + 200 ≤ 140737488000000 := by
    rw [hus, List.length_append, List.length_append]
    have h1 := q84 10 (n0 : Int)
    have h2 := flat_le (onW items) 20 s.f0 (fun x hx => onW_le items x)
    have := HN0.out
    omega
   rw [← hus] at hY
   have HUS := Lib.hid hus
   have HY := Lib.hid hY
   have HUL := Lib.hid hul
   clear hus hY hul Y
   go_wp2_with fail
   clear hs1
   refine (num_st HF2.out HY.out 3 [(n1 : Int)] (by have := HUL.out; simp; omega) (by simp; omega) wq.heap.size rfl 1 rfl).mono ?_
   rintro e w4 ⟨rfl, s4⟩
   have HS4 := Lib.hid s4
   clear s4 HY
   have hs1 := HS4.out.stay HM2.out.2.2.2 (fun h => (HK2.out _ h).2 rfl) hwg
   go_wp2
   clear hs1
   go_loopg [55] n1 (fun gg s55 wr => ∃ j : Nat, s55 = .int .i64 j ∧ j ≤ n1 ∧ n1 - j ≤ gg ∧ Hid (St w0 W2 wr g ok2 (us ++ numW 10 n1 ++ (s.f1.take j).flatMap (ifW fs))))
   case atStart => exact ⟨0, rfl, Nat.zero_le _, by omega, Lib.hid (by simpa using HS4.out)⟩
   case round =>
    obtain ⟨j, rfl, hjn, hjg, Y⟩ := hrel
    obtain ⟨wz, rfl⟩ : ∃ wz, wz = wr := ⟨_, rfl⟩
    by_cases hlk : j < n1
    case neg =>
     have hltj : ¬ (j : Int) < (n1 : Int) := by omega
     obtain rfl : n1 = j := by omega
     have hY := Y.out
     rw [show s.f1.take n1 = s.f1 by rw [HN1.out, List.take_length]] at hY
     have HT : Hid (St w0 W1 wz g (fun k => ok k ∧ k ≠ w.heap.size) (xs ++ numW 10 n ++ (l.take (i + 1)).flatMap (sentW fs items))) := Lib.hid (by
      rw [HO2.out, HW2.out] at hY
      have h2 := X.out.back hY
      rw [HNX.out, ← List.append_assoc, ← HYS.out]
      unfold sentW
      rw [← HN0.out, ← HN1.out, ← List.append_assoc, ← List.append_assoc, ← List.append_assoc, ← HUS.out]
      exact h2)
     clear hY
     go_wp2
     go_roundg (n - (i + 1))
     case measure => omega
     case rel => exact ⟨i + 1, by go_num, by omega, by omega, HT⟩
    have hltj : (j : Int) < (n1 : Int) := by omega
    obtain ⟨ao, e, hy0, hy1, hy2⟩ := at_T50 HC1.out (j : Int) (by omega) (by omega)
    cases e
    simp only [Int.toNat_natCast] at hy0 hy1 hy2
    have hjl : j < s.f1.length := by have := HN1.out; omega
    obtain ⟨x, hx⟩ : ∃ x, x = q90 s.f1 (j : Int) := ⟨_, rfl⟩
    have hxl : x = s.f1[j] := by rw [hx]; simp [q90, List.getD_eq_getElem?_getD, List.getElem?_eq_getElem hjl]
    rw [← hx] at hy0 hy1 hy2
    have hnx := take_flat (ifW fs) s.f1 j hjl
    rw [← hxl] at hnx
    have hxm : -1000000 ≤ x.f2 ∧ x.f2 ≤ 1000000 := by rw [hxl]; exact HOK.out.2.2.2 _ (List.getElem_mem _)
    have hy0 := q83 Y.out.2.1 hy0
    have hy1 := q83 Y.out.2.1 hy1
    have hy2 := q83 Y.out.2.1 hy2
    obtain ⟨zs, hzs⟩ : ∃ zs, zs = us ++ numW 10 n1 ++ (s.f1.take j).flatMap (ifW fs) := ⟨_, rfl⟩
    have hzl : zs.length + 100 ≤ 140737488000000 := by
     rw [hzs, List.length_append, List.length_append]
     have h1 := q84 10 (n1 : Int)
     have h2 := flat_le (ifW fs) 30 (s.f1.take j) (fun x hx => ifW_le fs x)
     rw [List.length_take] at h2
     have := HUL.out
     omega
    rw [← hzs] at Y
    have HZS := Lib.hid hzs
    have HNJ := Lib.hid hnx
    have HXM := Lib.hid hxm
    have HZL := Lib.hid hzl
    clear hzs hnx hx hxl hjl hxm hzl
    go_wp2
    clear hy0 hy1 hy2
    have hwq1 : W2.heap.size ≤ wz.heap.size := Y.out.2.2.1
    have hm0 := Y.out.stay HM2.out.1 (fun h => (HK2.out _ h).1 rfl) hgne
    obtain ⟨W3, hW3⟩ : ∃ W3, W3 = wz.alloc (.cells #[.string x.f0, .string x.f1, .int .i64 x.f2] 50) := ⟨_, rfl⟩
    have hb3 : W3.heap.size = wz.heap.size + 1 := by rw [hW3]; simp
    have hx0 : W3.cell? ⟨wz.heap.size, 0, none⟩ = some (.string x.f0) := by rw [hW3]; simp
    have hx1 : W3.cell? ⟨wz.heap.size, 1, none⟩ = some (.string x.f1) := by rw [hW3]; simp
    have hx2 : W3.cell? ⟨wz.heap.size, 2, none⟩ = some (.int .i64 x.f2) := by rw [hW3]; simp
    have hm0 := q83 (by rw [hW3]; exact q67 (Below.refl _ _) _ : Below wz.heap.size wz W3) hm0
    have F3 := (HF2.out.box (b := wz.heap.size) Y.out (.cells #[.string x.f0, .string x.f1, .int .i64 x.f2] 50) rfl)
    have t3 := (Y.out.box (b := wz.heap.size) (.cells #[.string x.f0, .string x.f1, .int .i64 x.f2] 50) rfl)
    rw [← hW3] at F3 t3 ⊢
    have HW3 := Lib.hid hW3
    have HF3 := Lib.hid F3
    have HB3 := Lib.hid hb3
    have HC3 := Lib.hid (And.intro hm0 (And.intro hx0 (And.intro hx1 hx2)))
    clear hW3 F3 hb3
    refine st_ (fun w' => w'.cell? ⟨w.heap.size, 0, none⟩ = some (.slice A0 fs.length c0) ∧ w'.cell? ⟨wz.heap.size, 0, none⟩ = some (.string x.f0) ∧ w'.cell? ⟨wz.heap.size, 1, none⟩ = some (.string x.f1) ∧ w'.cell? ⟨wz.heap.size, 2, none⟩ = some (.int .i64 x.f2)) 12 ⟨hm0, hx0, hx1, hx2⟩ (fun hHeld => ?_)
    clear hm0 hx0 hx1 hx2
    have t4 := t3.below (q68 (Below.refl _ _))
    clear t3
    refine pu_ 0 (some 59) ?_
    refine pu_ 1 (some 60) ?_
    refine tk_ 2 (some 61) hHeld ?_ (hy := by rintro w' ⟨s0, s1, s2, s3⟩; go_simp; with_reducible rfl)
    refine pu_ 3 (some 62) ?_
    refine tk_ 4 (some 63) hHeld ?_ (hy := by rintro w' ⟨s0, s1, s2, s3⟩; go_simp; with_reducible rfl)
    refine pu_ 7 (some 66) ?_
    refine tk_ 8 (some 67) hHeld ?_ (hy := by rintro w' ⟨s0, s1, s2, s3⟩; go_simp; with_reducible rfl)
    generalize W3.drew = wD at hHeld t4 ⊢
    refine ca_ 5 (some 64) Try.func69 #[.slice A0 fs.length c0, .string x.f0] ?_
    refine (index_call A0 c0 fs x.f0 wD (Kd.C_below HR.out.1 t4.2.1) hc0).mono ?_
    rintro e wP ⟨rfl, hbP⟩
    have t5 := t4.below hbP
    have hH5 : _ ∧ _ ∧ _ ∧ _ := ⟨q83 hbP hHeld.1, q83 hbP hHeld.2.1, q83 hbP hHeld.2.2.1, q83 hbP hHeld.2.2.2⟩
    clear hHeld t4
    refine ⟨_, rfl, hH5, fun _ => ⟨_, rfl, nz_ (some 64) ?_⟩⟩
    refine ca_ 6 (some 65) Try.func73 #[] ?_
    refine (ops_call wP).mono ?_
    rintro e wQ ⟨Ao, co, rfl, hco, hCo, hbQ⟩
    have t6 := t5.below hbQ
    have hH6 : _ ∧ _ ∧ _ ∧ _ := ⟨q83 hbQ hH5.1, q83 hbQ hH5.2.1, q83 hbQ hH5.2.2.1, q83 hbQ hH5.2.2.2⟩
    clear hH5 t5
    refine ⟨_, rfl, hH6, fun _ => ⟨_, rfl, nz_ (some 65) ?_⟩⟩
    refine ca_ 9 (some 68) Try.func69 #[.slice Ao 6 co, .string x.f1] ?_
    refine (index_call Ao co opsL x.f1 wQ hCo hco).mono ?_
    rintro e wR ⟨rfl, hbR⟩
    have t7 := t6.below hbR
    have hH7 : _ ∧ _ ∧ _ ∧ _ := ⟨q83 hbR hH6.1, q83 hbR hH6.2.1, q83 hbR hH6.2.2.1, q83 hbR hH6.2.2.2⟩
    clear hH6 t6
    refine ⟨_, rfl, hH7, fun _ => ⟨_, rfl, nz_ (some 68) ?_⟩⟩
    have hp63 : idxI fs x.f0 < 9223372036854775808 := by have : idxI fs x.f0 < fs.length := fidx_lt _ _; have := HR.out.1.2.1; omega
    have hq63 : idxI opsL x.f1 < 9223372036854775808 := by have : idxI opsL x.f1 < opsL.length := fidx_lt _ _; have : opsL.length = 6 := rfl; omega
    obtain ⟨p, hp⟩ : ∃ p, p = idxI fs x.f0 := ⟨_, rfl⟩
    obtain ⟨q, hq⟩ : ∃ q, q = idxI opsL x.f1 := ⟨_, rfl⟩
    rw [← hp] at hp63 ⊢
    rw [← hq] at hq63 ⊢
    have HP := Lib.hid hp
    have HQ := Lib.hid hq
    clear hp hq
    refine onS_ 10 (some 69) (fun K hK => ?_)
    go_simp
    refine hK.out _ _ ⟨q83 (q67 (Below.refl _ _) _) hH7.1, q83 (q67 (Below.refl _ _) _) hH7.2.1, q83 (q67 (Below.refl _ _) _) hH7.2.2.1, q83 (q67 (Below.refl _ _) _) hH7.2.2.2⟩ (fun _ => ?_)
    clear hK K
    have hnum := num_st HF3.out t7 3 [p, q] (by have := HZL.out; simp; omega) (by simp; omega) wR.heap.size rfl 2 rfl
    refine ca_ 11 (some 70) Try.func47 #[.pointer (some ⟨g, 0, none⟩), .slice (some ⟨wR.heap.size, 0, none⟩) 2 2] ?_
    refine hnum.mono ?_
    rintro e w8 ⟨rfl, t8⟩
    have hqg : wz.heap.size ≠ g := by have := HSZ.out; omega
    refine ⟨_, rfl, ⟨t8.stay HC3.out.1 (fun h => (HK2.out _ h.1).1 rfl) hgne, t8.stay HC3.out.2.1 (fun h => h.2 rfl) hqg, t8.stay HC3.out.2.2.1 (fun h => h.2 rfl) hqg, t8.stay HC3.out.2.2.2 (fun h => h.2 rfl) hqg⟩, fun _ => ⟨_, rfl, nz_ (some 70) ?_⟩⟩
    refine dn_ ?_
    have hx2 := t8.stay HC3.out.2.2.2 (fun h => h.2 rfl) hqg
    have HT8 := Lib.hid t8
    clear t7 t8 hH7 hnum hp63 hq63 hCo hco
    go_wp2_with fail
    clear hx2
    refine (signed_st HF3.out HT8.out x.f2 (by have := HZL.out; have := q84 10 p; have := q84 10 q; simp; omega) HXM.out).mono ?_
    rintro e w9 ⟨rfl, t9⟩
    have HT := Lib.hid (Y.out.back (HW3.out ▸ t9))
    clear t9
    go_wp2
    go_roundg (n1 - (j + 1))
    case measure => omega
    case rel => exact ⟨j + 1, by go_num, by omega, by omega, Lib.hid (by rw [HNJ.out, ← List.append_assoc, ← HZS.out]; simpa [ifW, HP.out, HQ.out] using HT.out)⟩
theorem R_void {α : Type} (d : Kd α) (e base : Nat) (w : World) (ok : Nat → Prop) (hok : ok w.heap.size) (hb : base ≤ w.heap.size) : d.R e (w.alloc (.cells #[] e)) base ok (.slice (some ⟨w.heap.size, 0, none⟩) 0 0) [] := by
 refine ⟨fun k hk => ?_, [], ?_, ⟨by simp, fun j p hj => by simp at hj⟩⟩
 ·have : w.heap.size = k := by simpa [Value.ownBlock] using hk
  subst this
  exact hok
 ·have h2 := World.ownsRow_lit (base := base) (e := e) (size := d.sz) w #[] 0 hb (by simp [maxLen]) (by simp)
  simpa using h2
theorem strCells_encs (s : ByteArray) : Lib.strCells s = encs (Value.int .u8) (bytesOf s) := by
 unfold Lib.strCells encs bytesOf
 rw [List.map_map]
 rfl
theorem bytesOf_length (s : ByteArray) : (bytesOf s).length = s.size := by
 unfold bytesOf
 rw [List.length_map, Array.length_toList]
 rfl
theorem own_str_run {P : Program} (w : World) (base : Nat) (t u ty e : TypeId) (i : TypeInfo) (ht : P.underlying t = some (.slice e)) (hu : P.underlying u = some .string) (hi : P.info? e = some i) (hz : i.zero = some (.int .u8 0)) (hsize : i.size = 1) (hby : i.bytes = 1)
 (v : Value) (n : Nat) (xs : List Value) (hown : w.ownsRow base e 1 v n xs) (s : ByteArray) (hbytes : n + s.size ≤ 140737488355328) (hbase : base ≤ w.heap.size) :
 ∃ v' w', (Builtin.append_ #[t, u] ty #[v, .string s]).run P w = .ok v' w' ∧ w'.ownsRow base e 1 v' (n + s.size) (xs ++ Lib.strCells s) ∧ w.grownBy w' v.ownBlock ∧ (v'.ownBlock = v.ownBlock ∨ ∃ b, v'.ownBlock = some b ∧ w.heap.size ≤ b) := by
 obtain ⟨v', w', hr, h2, h3, h4⟩ := Lib.run_append_own_string (P := P) w base t u ty e i ht hu hi hz hsize hby v n xs hown s (by simp [maxLen]; omega) hbytes hbase
 refine ⟨v', w', hr, h2, h3, ?_⟩
 rcases hown.2 with ⟨rfl, rfl⟩ | ⟨g, cap, cur, rfl, hbg, hg, hnc, hcm, hcs, htake⟩
 ·by_cases hm : s.size = 0
  ·rw [h4.2 ⟨rfl, hm⟩]
   exact .inl rfl
  ·have hr' := run_append_nil_string (P := P) w t u ty e i (.int .u8 0) ht hu hi hz s (by omega) (by omega) (by rw [hby]; omega)
   rw [hr'] at hr
   simp only [Result.ok.injEq] at hr
   obtain ⟨rfl, -⟩ := hr
   exact .inr ⟨_, rfl, Nat.le_refl _⟩
 ·by_cases hroom : n + s.size ≤ cap
  ·have hr' := Lib.run_append_room_string (P := P) w t u ty e i ht hu hi hsize g n cap cur hg s hroom (by omega)
   rw [hr'] at hr
   simp only [Result.ok.injEq] at hr
   obtain ⟨rfl, -⟩ := hr
   exact .inl rfl
  ·have hxl : xs.length = n := by simpa using hown.1
   have hr' := Lib.run_append_grow_string (P := P) w t u ty e i (.int .u8 0) ht hu hi hz ⟨g, 0, none⟩ n cap xs (by rw [hsize]; simpa using hxl) (hown.cells (g := g) rfl) s (by omega) (by omega) (by rw [hby]; exact growslice_fits (by omega) (by omega))
   rw [hr'] at hr
   simp only [Result.ok.injEq] at hr
   obtain ⟨rfl, -⟩ := hr
   exact .inr ⟨_, rfl, Nat.le_refl _⟩
theorem append_str {ops : Array Oper} {Q : Exit → Act → World → Prop} {rest : List Oper} {o : Oper} {a : Act} {w0 W : World} (base : Nat) (hgd : o.guard = none) (s x : Operand)
 (ho : o.op = .call { callee := .builtin .append, args := #[s, x], argTypes := #[26, 9] })
 (v : Value) (xs : List Int) (z : ByteArray) (ok : Nat → Prop) (hs : a.eval s = v) (hx : a.eval x = .string z) (hfresh : ∀ k, W.heap.size ≤ k → ok k)
 (HO : Kd.R (Kd.int .u8) 5 W base ok v xs) (HB : Below base w0 W) (hbase : base ≤ W.heap.size) (hl : xs.length + z.size ≤ 140737488355328)
 (h : ∀ v1 w1, Kd.R (Kd.int .u8) 5 w1 base ok v1 (xs ++ bytesOf z) → Below base w0 w1 → W.grownBy w1 v.ownBlock → (v1.ownBlock = v.ownBlock ∨ ∃ b, v1.ownBlock = some b ∧ W.heap.size ≤ b) → wpList Try.prog ops Q rest (a.put o.dst v1) w1) :
 wpList Try.prog ops Q (o :: rest) a W := by
 obtain ⟨i0, hi0, hz0, hz1, hz2⟩ := info_parts info5
 obtain ⟨v1, w1, hr, h2, h3, h4⟩ := own_str_run (P := Try.prog) W base 26 9 o.type 5 i0 Try.underlying26 Try.underlying9 hi0 hz0 hz1 hz2 v xs.length _ (Kd.own_of_R HO) z hl hbase
 refine wpList_plain hgd fun K hK => ?_
 unfold Oper.wp execOp
 simp only [ho, resolve, invoke, builtin, Sem.run_bind, Sem.run_pure, Result.andThen_ok, List.map_toArray, List.map_cons, List.map_nil, hs, hx, hr]
 refine hK _ _ (h v1 w1 (Kd.R_of_own ?_ ?_) (HB.grown h3 hbase (Kd.R_base HO)) h3 h4)
 ·rw [List.length_append, bytesOf_length]
  have e : encs (Value.int .u8) (xs ++ bytesOf z) = encs (Value.int .u8) xs ++ Lib.strCells z := by rw [strCells_encs]; unfold encs; rw [List.map_append]
  rw [e]
  exact h2
 ·intro k hk
  rcases h4 with h4 | ⟨b, hb, hle⟩
  ·exact HO.1 k (h4 ▸ hk)
  ·rw [hb] at hk
   cases hk
   exact hfresh _ hle
set_option maxHeartbeats 2000000 in
set_option maxRecDepth 100000 in
theorem clone_call (w : World) (A : Option Addr) (c : Nat) (l : List ByteArray) (hr : Kd.C Kd.string w A l.length l) (hc : l.length ≤ c) (hl : l.length * 16 ≤ 140737488355328) :
    Calls Try.prog 46 #[.slice A l.length c] w fun e w' => ∃ v, e = .returned v ∧ Kd.R Kd.string 9 w' w.heap.size (fun _ => True) v l ∧ Below w.heap.size w w' := by
  cases A with
  | none =>
    have h0 : l = [] := by
      rcases l with _ | ⟨a, l⟩
      · rfl
      · obtain ⟨ad, e, _⟩ := hr.2.2 (by simp)
        cases e
    subst h0
    clear hr
    have hz : ∀ W, (binOp .eql 22 (.slice none 0 c) (.slice none 0 0)).run Try.prog W = .ok (.bool true) W := fun W => Lib.run_eql_slice_nil W 22 9 none 0 c 0 0 Try.underlying22
    go_enter Try.func46, Try.ntmps46
    go_wp2
    go_ret
    exact ⟨_, rfl, Kd.R_nil _ _ _ _ _, Below.refl _ _⟩
  | some ad =>
    have HR := Lib.hid hr
    obtain ⟨n, hn⟩ : ∃ n, n = l.length := ⟨_, rfl⟩
    have HN := Lib.hid hn
    rw [← hn] at hc hl ⊢
    clear hr hn
    have hz : ∀ W, (binOp .eql 22 (.slice (some ad) n c) (.slice none 0 0)).run Try.prog W = .ok (.bool false) W := fun W => Lib.run_eql_slice_nil W 22 9 (some ad) n c 0 0 Try.underlying22
    go_enter Try.func46, Try.ntmps46
    go_wp2_with (first | ((with_reducible refine q79 (b := .append) (xs := #[.tmp 5, .tmp 6]) rfl ?_); at_builtin; refine Kd.R_append_rows Kd.string (w0 := w) w.heap.size rfl (.tmp 5) (.tmp 6) 22 9 (.string ⟨#[]⟩) 16 rfl Try.underlying22 info9 rfl (by decide) (by omega) (.slice (some ⟨w.heap.size, 0, none⟩) 0 0) [] l _ _ _ (fun _ => True) (fun _ => False) rfl rfl (R_void Kd.string 9 w.heap.size w _ trivial (Nat.le_refl _)) (HN.out ▸ Kd.C_alloc HR.out _) (fun _ _ h => h) (fun _ h => h.elim) (fun _ _ => trivial) (q67 (Below.refl _ _) _) (q67 (Below.refl _ _) _).size (by simpa using hl) ?_; intro v2 w2 hR2 hB2 hg1 hg2; clear hg1 hg2))
    go_ret
    exact ⟨_, rfl, by simpa using hR2, hB2⟩
set_option maxHeartbeats 2000000 in
set_option maxRecDepth 100000 in
theorem grow_call (w : World) (n : Nat) (h0 : 0 < n) (hl : n ≤ 140737488355328) :
 Calls Try.prog 51 #[.slice none 0 0, .int .i64 n] w fun e w' => ∃ v, e = .returned v ∧ Kd.R (Kd.int .u8) 5 w' w.heap.size (fun _ => True) v [] ∧ Below w.heap.size w w' := by
 have h1 : ¬ (n : Int) < 0 := by omega
 have h2 : (n : Int) > 0 := by omega
 go_enter Try.func51, Try.ntmps51
 go_wp2_with (first | ((with_reducible refine q79 (b := .append) (xs := #[.tmp 20, .tmp 21]) rfl ?_); at_builtin; refine Kd.R_append_zeros (Kd.int .u8) (w0 := w) w.heap.size rfl (.tmp 20) (.tmp 21) 26 3 5 (.int .u8 0) 1 rfl Try.underlying26 Try.underlying3 info5 rfl (by decide) (by omega) (.slice none 0 0) [] (0 : Int) n (fun _ => True) rfl rfl rfl (fun _ _ => trivial) (Kd.R_nil _ _ _ _ _) (by omega) (Below.refl _ _) (Nat.le_refl _) (by simpa using hl) ?_; intro v1 w1 hR1 hB1 hg1 hg2; clear hg1 hg2; obtain ⟨A1, c1, rfl⟩ := Kd.R_slice hR1; have hRT := Kd.R_take hR1 (Nat.zero_le _)))
 go_ret
 exact ⟨_, rfl, by simpa using hRT, hB1⟩
def totN (f : Nat → Nat) : Nat → Nat
 | 0 => 0
 | i + 1 => totN f i + f i
def catL (bs : Nat → List Int) : Nat → List Int
 | 0 => []
 | i + 1 => catL bs i ++ bs i
theorem catL_length (bs : Nat → List Int) (i : Nat) : (catL bs i).length = totN (fun k => (bs k).length) i := by
 induction i with
 | zero => rfl
 | succ i ih => simp only [catL, totN, List.length_append, ih]
theorem totN_le (f : Nat → Nat) {i j : Nat} (h : i ≤ j) : totN f i ≤ totN f j := by
  induction j with
  | zero => obtain rfl : i = 0 := by omega
            exact Nat.le_refl _
  | succ j ih =>
    rcases Nat.lt_or_ge j i with h' | h'
    · obtain rfl : i = j + 1 := by omega
      exact Nat.le_refl _
    · have := ih h'
      simp only [totN]
      omega
set_option maxHeartbeats 4000000 in
set_option maxRecDepth 100000 in
theorem concat_call (w : World) (rw_ : Addr) (m : Nat) (A : Nat → Option Addr) (c : Nat → Nat) (bs : Nat → List Int)
 (hcell : ∀ i, i < m → w.cell? (rw_.add i) = some (.slice (A i) (bs i).length (c i))) (hC : ∀ i, i < m → Kd.C (Kd.int .u8) w (A i) (bs i).length (bs i)) (hm : m ≤ 1000) (h0 : 0 < totN (fun k => (bs k).length) m) (hl : totN (fun k => (bs k).length) m ≤ 140737488355328) :
 Calls Try.prog 26 #[.slice (some rw_) m m] w fun e w' => ∃ v, e = .returned v ∧ Kd.R (Kd.int .u8) 5 w' w.heap.size (fun _ => True) v (catL bs m) ∧ Below w.heap.size w w' := by
 have HC := Lib.hid hC
 have HCell := Lib.hid hcell
 clear hC hcell
 go_enter Try.func26, Try.ntmps26
 go_wp2
 go_loopg [3, 11] m (fun gg s3 s11 wr => ∃ i : Nat, s3 = .int .i64 (totN (fun k => (bs k).length) i : Nat) ∧ s11 = .int .i64 i ∧ i ≤ m ∧ m - i ≤ gg ∧ wr = w)
 case atStart => exact ⟨0, rfl, rfl, Nat.zero_le _, by omega, rfl⟩
 case round =>
  obtain ⟨i, rfl, rfl, him, hig, rfl⟩ := hrel
  obtain ⟨w0_, rfl⟩ : ∃ w0_, w0_ = wr := ⟨_, rfl⟩
  by_cases hlt : i < m
  case pos =>
   have hltz : (i : Int) < (m : Int) := by omega
   have hx0 := HCell.out i hlt
   have hle := totN_le (fun k => (bs k).length) (show i + 1 ≤ m by omega)
   have hsum : totN (fun k => (bs k).length) (i + 1) = totN (fun k => (bs k).length) i + (bs i).length := rfl
   obtain ⟨n, hn⟩ : ∃ n, n = (bs i).length := ⟨_, rfl⟩
   obtain ⟨t, ht⟩ : ∃ t, t = totN (fun k => (bs k).length) i := ⟨_, rfl⟩
   rw [← hn] at hx0 hsum
   rw [← ht] at hsum ⊢
   have HS := Lib.hid hsum
   have htn : t + n ≤ 140737488355328 := by omega
   have hneg : ¬ (t : Int) + (n : Int) < 0 := by omega
   have hw : wrap64 ((t : Int) + (n : Int)) = (t : Int) + (n : Int) := by unfold wrap64; omega
   clear hn ht hle hsum
   go_wp2
   go_roundg (m - (i + 1))
   case measure => omega
   case rel => exact ⟨i + 1, by rw [HS.out]; go_num, by go_num, by omega, by omega, rfl⟩
  have hltz : ¬ (i : Int) < (m : Int) := by omega
  obtain rfl : m = i := by omega
  obtain ⟨t, ht⟩ : ∃ t, t = totN (fun k => (bs k).length) m := ⟨_, rfl⟩
  rw [← ht] at h0 hl ⊢
  have HT := Lib.hid ht
  clear ht
  go_wp2_with fail
  refine (grow_call w0_ t h0 hl).mono ?_
  rintro e w1 ⟨v1, rfl, hR1, hB1⟩
  have HR1 := Lib.hid hR1
  have HB1 := Lib.hid hB1
  clear hR1 hB1
  go_wp2
  go_loopg [6, 27] m (fun gg s6 s27 wq => ∃ i : Nat, s27 = .int .i64 i ∧ i ≤ m ∧ m - i ≤ gg ∧ Hid (Kd.R (Kd.int .u8) 5 wq w0_.heap.size (fun _ => True) s6 (catL bs i) ∧ Below w0_.heap.size w0_ wq))
  case atStart => exact ⟨0, rfl, Nat.zero_le _, by omega, Lib.hid ⟨HR1.out, HB1.out⟩⟩
  case round =>
   obtain ⟨i, rfl, hin, hjg, Y⟩ := hrel
   obtain ⟨wz, rfl⟩ : ∃ wz, wz = wr := ⟨_, rfl⟩
   obtain ⟨hR, hB⟩ := Y.out
   obtain ⟨Av, cv, rfl⟩ := Kd.R_slice hR
   by_cases hlk : i < m
   case neg =>
    have hltj : ¬ (i : Int) < (m : Int) := by omega
    obtain rfl : m = i := by omega
    have HR := Lib.hid hR
    have HB := Lib.hid hB
    clear hR hB Y
    go_wp2
    go_ret
    exact ⟨_, rfl, HR.out, HB.out⟩
   have hltj : (i : Int) < (m : Int) := by omega
   have hx0 := q83 hB (HCell.out i hlk)
   have hle := totN_le (fun k => (bs k).length) (show i + 1 ≤ m by omega)
   have hsum : totN (fun k => (bs k).length) (i + 1) = totN (fun k => (bs k).length) i + (bs i).length := rfl
   have hcl := catL_length bs i
   have hCi := Kd.C_below (HC.out i hlk) hB
   obtain ⟨n, hn⟩ : ∃ n, n = (bs i).length := ⟨_, rfl⟩
   obtain ⟨lv, hlv⟩ : ∃ lv, lv = (catL bs i).length := ⟨_, rfl⟩
   rw [← hn] at hx0 hsum hCi
   have hfit : ((catL bs i).length + n) * 1 ≤ 140737488355328 := by have := HT.out; omega
   rw [← hlv] at hR ⊢
   have HR := Lib.hid hR
   have HB := Lib.hid hB
   have HCI := Lib.hid hCi
   have HFIT := Lib.hid hfit
   clear hR hB Y hn hle hsum hcl hlv hCi hfit
   go_wp2_with (first | ((with_reducible refine q79 (b := .append) (xs := #[.tmp 31, .tmp 32]) rfl ?_); at_builtin; refine Kd.R_append_rows (Kd.int .u8) (w0 := w0_) w0_.heap.size rfl (.tmp 31) (.tmp 32) 26 5 (.int .u8 0) 1 rfl Try.underlying26 info5 rfl (by decide) (by omega) (.slice Av lv cv) (catL bs i) (bs i) _ _ _ (fun _ => True) (fun _ => False) rfl rfl HR.out HCI.out (fun _ _ h => h) (fun _ h => h.elim) (fun _ _ => trivial) HB.out HB.out.size HFIT.out ?_; intro v2 w2 hR2 hB2 hg1 hg2; clear hg1 hg2; have HR2 := Lib.hid hR2; have HB2 := Lib.hid hB2; clear hR2 hB2))
   go_roundg (m - (i + 1))
   case measure => omega
   case rel => exact ⟨i + 1, by go_num, by omega, by omega, Lib.hid ⟨HR2.out, HB2.out⟩⟩
def q52.f (a0 : Bool) : Option (Int) := if a0 = true then (some 1) else (some 0)
set_option maxHeartbeats 8000000 in
set_option maxRecDepth 100000 in
theorem q52.calls (a0 : Bool) (r : Int) (w : World) (h : q52.f a0 = some r) :
 Calls Try.prog 49 #[.bool a0] w fun e w' => e = .returned (.int .i64 r) ∧ Drawn0 w w' := by
 have H : (if a0 = true then (some 1) else (some 0)) = some r := h
 clear h
 by_cases c2 : a0 = true
 ·subst c2
  have H1 : (some 1) = some r := by rw [if_pos rfl] at H; exact H
  clear H
  have H := H1
  clear H1
  obtain rfl := Option.some.inj H
  go_enter Try.func49, Try.ntmps49
  go_wp2
  go_ret
  exact ⟨by first | rfl | (simp; done) | (simp [*]; done), by repeat (first | exact Drawn0.refl _ | apply Drawn0.step)⟩
 ·replace c2 := Bool.eq_false_iff.mpr c2
  subst c2
  have H1 : (some 0) = some r := by rw [if_neg (show ¬ (false = true) by decide)] at H; exact H
  clear H
  have H := H1
  clear H1
  obtain rfl := Option.some.inj H
  go_enter Try.func49, Try.ntmps49
  go_wp2
  go_ret
  exact ⟨by first | rfl | (simp; done) | (simp [*]; done), by repeat (first | exact Drawn0.refl _ | apply Drawn0.step)⟩
theorem sents_st {w0 w wr : World} {g : Nat} {ok : Nat → Prop} {xs : List Int} (A0 : Option Addr) (c0 : Nat) (fs : List ByteArray) (A1 : Option Addr) (c1 : Nat) (items : List (S48)) (A2 : Option Addr) (c2 : Nat) (l : List (S54))
 (F : Fx w0 w g ok) (s : St w0 w wr g ok xs)
 (hr0 : Kd.C Kd.string w0 A0 fs.length fs) (hc0 : fs.length ≤ c0) (hr1 : Kd.C k48 w0 A1 items.length items) (hc1 : items.length ≤ c1) (hr2 : Kd.C k54 w0 A2 l.length l) (hc2 : l.length ≤ c2)
 (hl : l.length ≤ 3) (hs : ∀ s ∈ l, sOk s) (hlim : xs.length + 1000 ≤ 140737488000000) :
 Calls Try.prog 50 #[.pointer (some ⟨g, 0, none⟩), .agg #[.slice A0 fs.length c0, .slice A1 items.length c1], .slice A2 l.length c2] wr fun e w' => e = .returned (.tuple #[]) ∧ St w0 w w' g ok (xs ++ sentsW fs items l) :=
 (sents_any w0 wr g ok xs A0 c0 fs A1 c1 items A2 c2 l (F.le s) (St.refl s.1 s.2.1) hr0 hc0 hr1 hc1 hr2 hc2 hl hs hlim).mono fun e' w' h => ⟨h.1, h.2.1, h.2.2.1, s.2.2.then_ h.2.2.2 (fun k hk => .inl hk)⟩
theorem alloc_sz (w : World) (o : Obj) : (w.alloc o).heap.size = w.heap.size + 1 := by simp
def textW (s : ByteArray) : List Int := numW 10 s.size ++ bytesOf s
def itemW (fs : List ByteArray) (items : List (S48)) (x : S48) : List Int := numW 10 x.f1 ++ numW 10 (q85 items x.f2 + 1) ++ numW 10 (if x.f3 = true then 1 else 0) ++ numW 10 x.f4 ++ sentsW fs items x.f5 ++ sentsW fs items x.f6
def textsOf (fs : List ByteArray) (items : List (S48)) : List ByteArray := fs ++ items.map (fun x => x.f0)
def modelW (fs : List ByteArray) (items : List (S48)) : List Int := numW 10 (textsOf fs items).length ++ (textsOf fs items).flatMap textW ++ numW 10 fs.length ++ items.flatMap (itemW fs items)
def iOk (x : S48) : Prop := x.f0.size ≤ 1000 ∧ x.f1 < 9223372036854775808 ∧ x.f4 < 9223372036854775808 ∧ (x.f5.length ≤ 3 ∧ ∀ s ∈ x.f5, sOk s) ∧ x.f6.length ≤ 3 ∧ ∀ s ∈ x.f6, sOk s
def MOk (fs : List ByteArray) (items : List (S48)) : Prop := fs.length ≤ 6 ∧ items.length ≤ 16 ∧ (∀ s ∈ fs, s.size ≤ 1000) ∧ ∀ x ∈ items, iOk x
theorem sentsW_le (fs : List ByteArray) (items : List (S48)) (l : List (S54)) (hl : l.length ≤ 3) (hs : ∀ s ∈ l, sOk s) : (sentsW fs items l).length ≤ 430 := by
 unfold sentsW
 rw [List.length_append]
 have := q84 10 l.length
 have := flat_le (sentW fs items) 140 l (fun x hx => sentW_le fs items x (hs x hx))
 omega
theorem itemW_le (fs : List ByteArray) (items : List (S48)) (x : S48) (h : iOk x) : (itemW fs items x).length ≤ 900 := by
 unfold itemW
 simp only [List.length_append]
 have := q84 10 x.f1
 have := q84 10 (q85 items x.f2 + 1)
 have := q84 10 (if x.f3 = true then 1 else 0)
 have := q84 10 x.f4
 have := sentsW_le fs items x.f5 h.2.2.2.1.1 h.2.2.2.1.2
 have := sentsW_le fs items x.f6 h.2.2.2.2.1 h.2.2.2.2.2
 omega
theorem textW_le (s : ByteArray) (h : s.size ≤ 1000) : (textW s).length ≤ 1010 := by
 unfold textW
 rw [List.length_append, bytesOf_length]
 have := q84 10 s.size
 omega
theorem texts_size {fs : List ByteArray} {items : List (S48)} (h : MOk fs items) : (∀ s ∈ textsOf fs items, s.size ≤ 1000) ∧ (textsOf fs items).length = fs.length + items.length := by
 unfold textsOf
 refine ⟨fun s hs => ?_, by rw [List.length_append, List.length_map]⟩
 rcases List.mem_append.1 hs with hs | hs
 ·exact h.2.2.1 s hs
 ·obtain ⟨x, hx, rfl⟩ := List.mem_map.1 hs
  exact (h.2.2.2 x hx).1
theorem fidx_ge {α : Type} (p : α → Bool) (l : List α) : -1 ≤ fidx p l := by
 unfold fidx
 cases l.findIdx? p with
 | none => show (-1 : Int) ≤ -1; omega
 | some i => show (-1 : Int) ≤ (i : Int); omega
theorem truth_call (b : Bool) (w : World) : Calls Try.prog 49 #[.bool b] w fun e w' => e = .returned (.int .i64 (if b = true then 1 else 0)) ∧ Below w.heap.size w w' :=
 (q52.calls b _ w (by unfold q52.f; cases b <;> rfl)).mono fun e w' h => ⟨h.1, h.2.below⟩
set_option maxHeartbeats 8000000 in
set_option maxRecDepth 100000 in
theorem q57 (w0 w : World) (g : Nat) (ok : Nat → Prop) (xs : List Int) (A0 : Option Addr) (c0 : Nat) (fs : List ByteArray) (A1 : Option Addr) (c1 : Nat) (items : List (S48))
 (F : Fx w0 w g ok) (s0 : St w0 w w g ok xs)
 (hr0 : Kd.C Kd.string w0 A0 fs.length fs) (hc0 : fs.length ≤ c0) (hr1 : Kd.C k48 w0 A1 items.length items) (hc1 : items.length ≤ c1)
 (hm : MOk fs items) (hlim : xs.length + 1000000 ≤ 140737488000000) :
 Calls Try.prog 25 #[.pointer (some ⟨g, 0, none⟩), .agg #[.slice A0 fs.length c0, .slice A1 items.length c1]] w fun e w' => e = .returned (.tuple #[]) ∧ St w0 w w' g ok (xs ++ modelW fs items) := by
 have hu25 := Try.underlying25
 have hu48 := Try.underlying48
 have hu58 := Try.underlying58
 have HS0 := Lib.hid s0
 have HR := Lib.hid (And.intro hr0 hr1)
 have hfl := hm.1
 have hil := hm.2.1
 have HMO := Lib.hid hm
 have hgl := s0.1.lt
 have HF := Lib.hid F
 clear s0 hr0 hr1 hm F
 go_enter Try.func25, Try.ntmps25
 go_wp2_with fail
 obtain ⟨W1, hW1⟩ : ∃ W1, W1 = w.alloc (.cells #[.slice A0 fs.length c0, .slice A1 items.length c1] 25) := ⟨_, rfl⟩
 have hb1 : W1.heap.size = w.heap.size + 1 := by rw [hW1]; simp
 have hbw : Below w.heap.size w W1 := by rw [hW1]; exact q67 (Below.refl _ _) _
 have hm0 : W1.cell? ⟨w.heap.size, 0, none⟩ = some (.slice A0 fs.length c0) := by rw [hW1]; simp
 have hm1 : W1.cell? ⟨w.heap.size, 1, none⟩ = some (.slice A1 items.length c1) := by rw [hW1]; simp
 rw [← hW1]
 have HBW1 := Lib.hid (q70 HS0.out.2.1 HS0.out.2.1.size hbw)
 have HBW := Lib.hid hbw
 clear hW1 hbw
 have HM := Lib.hid (And.intro hm0 hm1)
 have HZ1 := Lib.hid hb1
 clear hb1
 refine (clone_call W1 A0 c0 fs (Kd.C_below HR.out.1 HBW1.out) hc0 (by omega)).mono ?_
 rintro e w2 ⟨v2, rfl, hR2, hB2⟩
 have HR2 := Lib.hid hR2
 have HB2 := Lib.hid hB2
 have hm0 := q83 hB2 hm0
 have hm1 := q83 hB2 hm1
 clear hR2 hB2
 go_wp2
 clear hm0 hm1
 go_loopg [4, 17] items.length (fun gg s4 s17 wr => ∃ i : Nat, s17 = .int .i64 i ∧ i ≤ items.length ∧ items.length - i ≤ gg ∧ Hid (Kd.R Kd.string 9 wr W1.heap.size (fun _ => True) s4 (fs ++ (items.take i).map (fun x => x.f0)) ∧ Below W1.heap.size W1 wr))
 case atStart => exact ⟨0, rfl, Nat.zero_le _, by omega, Lib.hid ⟨by simpa using HR2.out, HB2.out⟩⟩
 case round =>
  obtain ⟨i, rfl, hin, hig, X⟩ := hrel
  obtain ⟨wO, rfl⟩ : ∃ wO, wO = wr := ⟨_, rfl⟩
  obtain ⟨hR, hB⟩ := X.out
  obtain ⟨Av, cv, rfl⟩ := Kd.R_slice hR
  by_cases hlt : i < items.length
  case pos =>
   have hltz : (i : Int) < (items.length : Int) := by omega
   obtain ⟨ad, B5, d5, B6, d6, e, hx0, hx1, hx2, hx3, hx4, hx5, hx6, -⟩ := at_T48 HR.out.2 (i : Int) (by omega) (by omega)
   cases e
   simp only [Int.toNat_natCast] at hx0 hx1 hx2 hx3 hx4 hx5 hx6
   obtain ⟨x, hx⟩ : ∃ x, x = q89 items (i : Int) := ⟨_, rfl⟩
   have hxl : x = items[i] := by rw [hx]; simp [q89, List.getD_eq_getElem?_getD, List.getElem?_eq_getElem hlt]
   rw [← hx] at hx0 hx1 hx2 hx3 hx4 hx5 hx6
   have hnx : (items.take (i + 1)).map (fun x => x.f0) = (items.take i).map (fun x => x.f0) ++ [x.f0] := by
    rw [List.take_add_one, List.getElem?_eq_getElem hlt, List.map_append, hxl]; rfl
   have HBX := Lib.hid (q70 HBW1.out HBW1.out.size hB)
   have hx0 := q83 HBX.out hx0
   have hx1 := q83 HBX.out hx1
   have hx2 := q83 HBX.out hx2
   have hx3 := q83 HBX.out hx3
   have hx4 := q83 HBX.out hx4
   have hx5 := q83 HBX.out hx5
   have hx6 := q83 HBX.out hx6
   obtain ⟨l0, hl0⟩ : ∃ l0, l0 = fs ++ (items.take i).map (fun x => x.f0) := ⟨_, rfl⟩
   have hfit : (l0.length + 1) * 16 ≤ 140737488355328 := by
    rw [hl0, List.length_append, List.length_map, List.length_take]
    omega
   rw [← hl0] at hR ⊢
   have HL0 := Lib.hid hl0
   have HNX := Lib.hid hnx
   have HFIT := Lib.hid hfit
   have HRr := Lib.hid (Kd.R_alloc hR (.cells #[.string x.f0, .int .i64 x.f1, .string x.f2, .bool x.f3, .int .i64 x.f4, .slice B5 x.f5.length d5, .slice B6 x.f6.length d6] 48))
   have HBr := Lib.hid (q67 hB (.cells #[.string x.f0, .int .i64 x.f1, .string x.f2, .bool x.f3, .int .i64 x.f4, .slice B5 x.f5.length d5, .slice B6 x.f6.length d6] 48))
   clear hl0 hnx hfit hR hB hx hxl X
   go_wp2_with (first | ((with_reducible refine q79 (b := .append) (xs := #[.tmp 21, .tmp 24]) rfl ?_); at_builtin; refine Kd.R_append Kd.string (w0 := W1) W1.heap.size rfl (.tmp 21) (.tmp 24) 22 9 (.string ⟨#[]⟩) 16 rfl Try.underlying22 info9 rfl (by decide) (by omega) (.slice Av l0.length cv) l0 x.f0 [.string x.f0] (fun _ => True) (fun _ => False) rfl (by rw [alloc_sz]; rfl) rfl (fun _ h => h.elim) (fun _ _ => trivial) HRr.out HBr.out HBr.out.size HFIT.out ?_; intro v1 w1 hR1 hB1 hgr hat; clear hgr hat; have HR1 := Lib.hid hR1; have HB1 := Lib.hid hB1; clear hR1 hB1))
   go_roundg (items.length - (i + 1))
   case measure => omega
   case rel => exact ⟨i + 1, by go_num, by omega, by omega, Lib.hid ⟨by rw [HNX.out, ← List.append_assoc, ← HL0.out]; exact HR1.out, HB1.out⟩⟩
  have hltz : ¬ (i : Int) < (items.length : Int) := by omega
  obtain rfl : i = items.length := by omega
  rw [List.take_length] at hR
  change Kd.R Kd.string 9 wO W1.heap.size (fun _ => True) _ (textsOf fs items) at hR
  obtain ⟨hts, htl⟩ := texts_size HMO.out
  obtain ⟨T, hT⟩ : ∃ T, T = textsOf fs items := ⟨_, rfl⟩
  have hlen : (fs ++ (items.take items.length).map (fun x => x.f0)).length = T.length := by rw [hT, List.take_length]; rfl
  rw [hlen]
  rw [← hT] at hR hts htl
  have hT22 : T.length ≤ 22 := by omega
  clear htl
  have hTb := Kd.R_base hR
  have hTl := Kd.R_lt hR
  have hTC := (Kd.R_reads' hR).2.2
  obtain ⟨bT, hbT⟩ : ∃ bT, (w.heap.size ≤ bT ∧ bT < wO.heap.size ∧ ∀ ad, Av = some ad → ad.block = bT) := by
   cases Av with
   | none => exact ⟨w.heap.size, Nat.le_refl _, by have := hB.size; have := HZ1.out; omega, fun ad e => by cases e⟩
   | some ad => exact ⟨ad.block, by have := hTb ad.block (by simp [Value.ownBlock]); have := HZ1.out; omega, hTl ad.block (by simp [Value.ownBlock]), fun ad' e => by cases e; rfl⟩
  have hBO : Below w0.heap.size w0 wO := q70 HBW1.out HBW1.out.size hB
  have hBwO : Below w.heap.size w wO := q70 HBW.out HBW.out.size hB
  obtain ⟨ok2, hok2⟩ : ∃ ok2 : Nat → Prop, ok2 = (fun k => (ok k ∧ k ≠ w.heap.size) ∧ k ≠ bT) := ⟨_, rfl⟩
  have hb2k : ∀ k, ok2 k → ok k ∧ k ≠ w.heap.size ∧ k ≠ bT := by rw [hok2]; exact fun k h => ⟨h.1.1, h.1.2, h.2⟩
  have F2 : Fx w0 wO g ok2 := ⟨HF.out.1, fun k hk => HF.out.2.1 k (hb2k k hk).1, fun k hk => by rw [hok2]; exact ⟨⟨HF.out.2.2 k (by have := hBwO.size; omega), by have := hB.size; have := HZ1.out; omega⟩, by have := hbT.2.1; omega⟩⟩
  have t2 : St w0 wO wO g ok2 xs := by
   refine St.refl ?_ hBO
   rw [hok2]
   have h1 := HS0.out.1.apart w.heap.size (Nat.le_refl _)
   exact (h1.apart bT hbT.1).below hBwO
  have hback : ∀ w' ys, St w0 wO w' g ok2 ys → St w0 w w' g ok ys := fun w' ys s => ⟨s.1.mono (fun k h => (hb2k k h).1), s.2.1, (Kept.of_below hBwO _).then_ s.2.2 (fun k hk => hk.elim (fun h => .inl (.inl (hb2k k h).1)) (fun h => .inl (.inr h)))⟩
  have hm0 := q83 hB HM.out.1
  have hm1 := q83 hB HM.out.2
  have HF2 := Lib.hid F2
  have HBT := Lib.hid hbT
  have HBACK := Lib.hid hback
  have HK2 := Lib.hid hb2k
  have HMT := Lib.hid (And.intro hm0 hm1)
  have HTS := Lib.hid hts
  have HTE := Lib.hid hT
  have HTC := Lib.hid hTC
  have HOS := Lib.hid hBwO.size
  clear hR hlen hTb hTl hTC hbT hBO hBwO hok2 hb2k F2 hback hm0 hm1 hts hT X
  go_wp2_with fail
  refine (num_st HF2.out t2 3 [(T.length : Int)] (by simp; omega) (by simp; omega) wO.heap.size rfl 1 rfl).mono ?_
  rintro e w3 ⟨rfl, s3⟩
  have HS3 := Lib.hid s3
  clear s3 t2
  go_wp2
  go_loopg [34] T.length (fun gg s34 wr => ∃ i : Nat, s34 = .int .i64 i ∧ i ≤ T.length ∧ T.length - i ≤ gg ∧ Hid (St w0 wO wr g ok2 (xs ++ numW 10 T.length ++ (T.take i).flatMap textW)))
  case atStart => exact ⟨0, rfl, Nat.zero_le _, by omega, Lib.hid (by simpa using HS3.out)⟩
  case round =>
   obtain ⟨i, rfl, hin, hig, X⟩ := hrel
   obtain ⟨wq, rfl⟩ : ∃ wq, wq = wr := ⟨_, rfl⟩
   by_cases hlt : i < T.length
   case pos =>
    have hltz : (i : Int) < (T.length : Int) := by omega
    have hCr : Kd.C Kd.string wq Av T.length T := C_stay HTC.out (fun ad e => X.out.2.2.2 _ (by rw [HBT.out.2.2 ad e]; exact HBT.out.2.1) (fun h => h.elim (fun h => (HK2.out _ h).2.2 (HBT.out.2.2 ad e)) (fun h => by have := HBT.out.2.2 ad e; have := HBT.out.1; omega)))
    obtain ⟨ad, e, hx0⟩ := Kd.at_string hCr (i : Int) (by omega) (by omega)
    cases e
    simp only [Int.toNat_natCast] at hx0
    obtain ⟨z, hz⟩ : ∃ z, z = rdOf ByteArray.empty T (i : Int) := ⟨_, rfl⟩
    have hzl : z = T[i] := by rw [hz, rdOf_get _ _ _ hlt]
    rw [← hz] at hx0
    have hzs : z.size ≤ 1000 := by rw [hzl]; exact HTS.out _ (List.getElem_mem _)
    have hnx := take_flat textW T i hlt
    rw [← hzl] at hnx
    obtain ⟨pre, hpre⟩ : ∃ p, p = xs ++ numW 10 T.length ++ (T.take i).flatMap textW := ⟨_, rfl⟩
    have hpl : pre.length + 100000 ≤ 140737488000000 := by
     rw [hpre, List.length_append, List.length_append]
     have h1 := q84 10 T.length
     have h2 := flat_le textW 1010 (T.take i) (fun x hx => textW_le x (HTS.out x (List.mem_of_mem_take hx)))
     rw [List.length_take] at h2
     omega
    rw [← hpre] at X
    have HPRE := Lib.hid hpre
    have HNX := Lib.hid hnx
    have HPL := Lib.hid hpl
    have HZS := Lib.hid hzs
    clear hpre hnx hpl hzs hz hzl hCr
    go_wp2_with fail
    clear hx0
    refine (num_st HF2.out X.out 3 [(z.size : Int)] (by have := HPL.out; simp; omega) (by have := HZS.out; simp; omega) wq.heap.size rfl 1 rfl).mono ?_
    rintro e w4 ⟨rfl, s4⟩
    obtain ⟨v, hg, hR⟩ := s4.1
    obtain ⟨Ag, cg, rfl⟩ := Kd.R_slice hR
    obtain ⟨zs, hzs⟩ : ∃ zs, zs = pre ++ [(z.size : Int)].flatMap (numW 10) := ⟨_, rfl⟩
    rw [← hzs] at hg hR
    have hlz : zs.length + z.size ≤ 140737488355328 := by
     rw [hzs, List.length_append]
     have := q84 10 (z.size : Int)
     have := HPL.out
     have := HZS.out
     simp
     omega
    obtain ⟨lv, hlv⟩ : ∃ lv, lv = zs.length := ⟨_, rfl⟩
    rw [← hlv] at hg hR
    have hne : some g ≠ (Value.slice Ag lv cg).ownBlock := Kd.R_away hR (fun k hk => HF2.out.2.1 k hk)
    have hcv : w4.cell? ⟨g, 0, none⟩ = some (.slice Ag lv cg) := (q73 hg 0).trans rfl
    have HLZ := Lib.hid hlz
    have HNE := Lib.hid (fun h => hne h)
    have HGL := Lib.hid (blk_lt hg)
    have HG := Lib.hid hg
    have HRv := Lib.hid hR
    have HBr := Lib.hid s4.2.1
    have HKr := Lib.hid s4.2.2
    have HFf := Lib.hid (fun k (hk : w4.heap.size ≤ k) => HF2.out.2.2 k (Nat.le_trans s4.2.2.1 hk))
    have HZZ := Lib.hid hzs
    clear hg hR hlz hne hzs hlv s4
    go_wp2_with (first | ((with_reducible refine q79 (b := .append) (xs := #[.tmp 47, .tmp 48]) rfl ?_); at_builtin; refine append_str (w0 := w0) w0.heap.size rfl (.tmp 47) (.tmp 48) rfl (.slice Ag lv cg) zs z ok2 rfl rfl HFf.out HRv.out HBr.out HBr.out.size HLZ.out ?_; intro v1 w1 hR1 hB1 hgr hat; obtain ⟨A1_, c1_, rfl⟩ := Kd.R_slice hR1; have hg1 := (hgr.block g HGL.out HNE.out).trans HG.out; have hcz := (q73 hg1 0).trans rfl; have hfz := q77 hg1 0; have HR1 := Lib.hid hR1; have HB1 := Lib.hid hB1; have HG1 := Lib.hid hg1; have HGR := Lib.hid hgr; clear hR1 hB1 hg1 hgr hat))
    have hwr := wr_put HG.out HF2.out.2.1 HR1.out HG1.out
    rw [List.length_append] at hwr
    have HWR := Lib.hid hwr
    clear hwr
    have HKK := Lib.hid ((Kept.of_grown HGR.out HKr.out (fun k e => .inl (.inl (HRv.out.1 k e)))).setCell (p := ⟨g, 0, none⟩) (.inl (.inr rfl)) (.slice A1_ (zs.length + (bytesOf z).length) c1_))
    have HBB := Lib.hid (HB1.out.setCell HF2.out.1 (.slice A1_ (zs.length + (bytesOf z).length) c1_) : Below w0.heap.size w0 (w1.setCell ⟨g, 0, none⟩ (.slice A1_ (zs.length + (bytesOf z).length) c1_)))
    have HT : Hid (zs ++ bytesOf z = xs ++ numW 10 T.length ++ (T.take (i + 1)).flatMap textW) := Lib.hid (by rw [HNX.out, ← List.append_assoc, ← HPRE.out, HZZ.out]; simp [textW])
    go_roundg (T.length - (i + 1))
    case measure => omega
    case rel => exact ⟨i + 1, by go_num, by omega, by omega, Lib.hid ⟨by rw [← HT.out]; exact HWR.out, HBB.out, HKK.out⟩⟩
   have hltz : ¬ (i : Int) < (T.length : Int) := by omega
   obtain rfl : i = T.length := by omega
   have hgne : w.heap.size ≠ g := by omega
   have hmm : ∀ W ys, St w0 wO W g ok2 ys → W.cell? ⟨w.heap.size, 0, none⟩ = some (.slice A0 fs.length c0) ∧ W.cell? ⟨w.heap.size, 1, none⟩ = some (.slice A1 items.length c1) := fun W ys s => ⟨s.stay HMT.out.1 (fun h => (HK2.out _ h).2.1 rfl) hgne, s.stay HMT.out.2 (fun h => (HK2.out _ h).2.1 rfl) hgne⟩
   have HMM := Lib.hid hmm
   clear hmm
   obtain ⟨hm0, hm1⟩ := HMM.out _ _ X.out
   have hX := X.out
   rw [List.take_length] at hX
   obtain ⟨us, hus⟩ : ∃ us, us = xs ++ numW 10 T.length ++ T.flatMap textW := ⟨_, rfl⟩
   have hul : us.length + 500000 ≤ 140737488000000 := by
    rw [hus, List.length_append, List.length_append]
    have h1 := q84 10 T.length
    have h2 := flat_le textW 1010 T (fun x hx => textW_le x (HTS.out x hx))
    omega
   rw [← hus] at hX
   have HUS := Lib.hid hus
   have HUL := Lib.hid hul
   have HX := Lib.hid hX
   clear hus hul hX X
   go_wp2_with fail
   clear hm0 hm1
   refine (num_st HF2.out HX.out 3 [(fs.length : Int)] (by have := HUL.out; simp; omega) (by simp; omega) wq.heap.size rfl 1 rfl).mono ?_
   rintro e w5 ⟨rfl, s5⟩
   have HS5 := Lib.hid s5
   obtain ⟨hm0, hm1⟩ := HMM.out _ _ s5
   clear s5 HX
   go_wp2
   clear hm0 hm1
   go_loopg [62] items.length (fun gg s62 wr => ∃ j : Nat, s62 = .int .i64 j ∧ j ≤ items.length ∧ items.length - j ≤ gg ∧ Hid (St w0 wO wr g ok2 (us ++ numW 10 fs.length ++ (items.take j).flatMap (itemW fs items))))
   case atStart => exact ⟨0, rfl, Nat.zero_le _, by omega, Lib.hid (by simpa using HS5.out)⟩
   case round =>
    obtain ⟨j, rfl, hjn, hjg, Y⟩ := hrel
    obtain ⟨wz, rfl⟩ : ∃ wz, wz = wr := ⟨_, rfl⟩
    by_cases hlk : j < items.length
    case neg =>
     have hltj : ¬ (j : Int) < (items.length : Int) := by omega
     obtain rfl : j = items.length := by omega
     have HT : Hid (St w0 w wz g ok (xs ++ modelW fs items)) := Lib.hid (by
      have h1 := HBACK.out _ _ Y.out
      rw [List.take_length, HUS.out] at h1
      unfold modelW
      rw [← HTE.out, ← List.append_assoc, ← List.append_assoc, ← List.append_assoc]
      exact h1)
     go_wp2
     go_end0
     exact ⟨rfl, HT.out⟩
    have hltj : (j : Int) < (items.length : Int) := by omega
    obtain ⟨ad, B5, d5, B6, d6, e, hx0, hx1, hx2, hx3, hx4, hx5, hx6, hl5, hC5, hl6, hC6⟩ := at_T48 HR.out.2 (j : Int) (by omega) (by omega)
    cases e
    simp only [Int.toNat_natCast] at hx0 hx1 hx2 hx3 hx4 hx5 hx6
    obtain ⟨x, hx⟩ : ∃ x, x = q89 items (j : Int) := ⟨_, rfl⟩
    have hxl : x = items[j] := by rw [hx]; simp [q89, List.getD_eq_getElem?_getD, List.getElem?_eq_getElem hlk]
    rw [← hx] at hx0 hx1 hx2 hx3 hx4 hx5 hx6 hl5 hC5 hl6 hC6
    have hnx := take_flat (itemW fs items) items j hlk
    rw [← hxl] at hnx
    have hiok : iOk x := by rw [hxl]; exact HMO.out.2.2.2 _ (List.getElem_mem _)
    have HC5 := Lib.hid hC5
    have HC6 := Lib.hid hC6
    have HIOK := Lib.hid hiok
    have hx0 := q83 Y.out.2.1 hx0
    have hx1 := q83 Y.out.2.1 hx1
    have hx2 := q83 Y.out.2.1 hx2
    have hx3 := q83 Y.out.2.1 hx3
    have hx4 := q83 Y.out.2.1 hx4
    have hx5 := q83 Y.out.2.1 hx5
    have hx6 := q83 Y.out.2.1 hx6
    obtain ⟨zs, hzs⟩ : ∃ zs, zs = us ++ numW 10 fs.length ++ (items.take j).flatMap (itemW fs items) := ⟨_, rfl⟩
    have hzl : zs.length + 100000 ≤ 140737488000000 := by
     rw [hzs, List.length_append, List.length_append]
     have h1 := q84 10 (fs.length : Int)
     have h2 := flat_le (itemW fs items) 900 (items.take j) (fun x hx => itemW_le fs items x (HMO.out.2.2.2 x (List.mem_of_mem_take hx)))
     rw [List.length_take] at h2
     have := HUL.out
     omega
    rw [← hzs] at Y
    have HZS := Lib.hid hzs
    have HNJ := Lib.hid hnx
    have HZL := Lib.hid hzl
    clear hzs hnx hx hxl hzl hiok hC5 hC6
    go_wp2
    clear hx0 hx1 hx2 hx3 hx4 hx5 hx6
    have hwq1 : wO.heap.size ≤ wz.heap.size := Y.out.2.2.1
    obtain ⟨hm0, hm1⟩ := HMM.out _ _ Y.out
    obtain ⟨W3, hW3⟩ : ∃ W3, W3 = wz.alloc (.cells #[.string x.f0, .int .i64 x.f1, .string x.f2, .bool x.f3, .int .i64 x.f4, .slice B5 x.f5.length d5, .slice B6 x.f6.length d6] 48) := ⟨_, rfl⟩
    have hx1 : W3.cell? ⟨wz.heap.size, 1, none⟩ = some (.int .i64 x.f1) := by rw [hW3]; simp
    have hx2 : W3.cell? ⟨wz.heap.size, 2, none⟩ = some (.string x.f2) := by rw [hW3]; simp
    have hx3 : W3.cell? ⟨wz.heap.size, 3, none⟩ = some (.bool x.f3) := by rw [hW3]; simp
    have hx4 : W3.cell? ⟨wz.heap.size, 4, none⟩ = some (.int .i64 x.f4) := by rw [hW3]; simp
    have hx5 : W3.cell? ⟨wz.heap.size, 5, none⟩ = some (.slice B5 x.f5.length d5) := by rw [hW3]; simp
    have hx6 : W3.cell? ⟨wz.heap.size, 6, none⟩ = some (.slice B6 x.f6.length d6) := by rw [hW3]; simp
    have hm0 := q83 (by rw [hW3]; exact q67 (Below.refl _ _) _ : Below wz.heap.size wz W3) hm0
    have hm1 := q83 (by rw [hW3]; exact q67 (Below.refl _ _) _ : Below wz.heap.size wz W3) hm1
    have F3 := (HF2.out.box (b := wz.heap.size) Y.out (.cells #[.string x.f0, .int .i64 x.f1, .string x.f2, .bool x.f3, .int .i64 x.f4, .slice B5 x.f5.length d5, .slice B6 x.f6.length d6] 48) rfl)
    have t3 := (Y.out.box (b := wz.heap.size) (.cells #[.string x.f0, .int .i64 x.f1, .string x.f2, .bool x.f3, .int .i64 x.f4, .slice B5 x.f5.length d5, .slice B6 x.f6.length d6] 48) rfl)
    rw [← hW3] at F3 t3 ⊢
    have HW3 := Lib.hid hW3
    have HF3 := Lib.hid F3
    have hzg : wz.heap.size ≠ g := by have := HOS.out; omega
    have hcc : ∀ W ys, St w0 W3 W g (fun k => ok2 k ∧ k ≠ wz.heap.size) ys → (W.cell? ⟨w.heap.size, 0, none⟩ = some (.slice A0 fs.length c0) ∧ W.cell? ⟨w.heap.size, 1, none⟩ = some (.slice (some ad) items.length c1) ∧ W.cell? ⟨wz.heap.size, 1, none⟩ = some (.int .i64 x.f1) ∧ W.cell? ⟨wz.heap.size, 2, none⟩ = some (.string x.f2) ∧ W.cell? ⟨wz.heap.size, 3, none⟩ = some (.bool x.f3) ∧ W.cell? ⟨wz.heap.size, 4, none⟩ = some (.int .i64 x.f4)) ∧ W.cell? ⟨wz.heap.size, 5, none⟩ = some (.slice B5 x.f5.length d5) ∧ W.cell? ⟨wz.heap.size, 6, none⟩ = some (.slice B6 x.f6.length d6) := fun W ys s =>
     ⟨⟨s.stay hm0 (fun h => (HK2.out _ h.1).2.1 rfl) hgne, s.stay hm1 (fun h => (HK2.out _ h.1).2.1 rfl) hgne, s.stay hx1 (fun h => h.2 rfl) hzg, s.stay hx2 (fun h => h.2 rfl) hzg, s.stay hx3 (fun h => h.2 rfl) hzg, s.stay hx4 (fun h => h.2 rfl) hzg⟩, s.stay hx5 (fun h => h.2 rfl) hzg, s.stay hx6 (fun h => h.2 rfl) hzg⟩
    have HCC := Lib.hid hcc
    clear hW3 F3 hcc hm0 hm1 hx1 hx2 hx3 hx4 hx5 hx6
    refine st_ (fun w' => w'.cell? ⟨w.heap.size, 0, none⟩ = some (.slice A0 fs.length c0) ∧ w'.cell? ⟨w.heap.size, 1, none⟩ = some (.slice (some ad) items.length c1) ∧ w'.cell? ⟨wz.heap.size, 1, none⟩ = some (.int .i64 x.f1) ∧ w'.cell? ⟨wz.heap.size, 2, none⟩ = some (.string x.f2) ∧ w'.cell? ⟨wz.heap.size, 3, none⟩ = some (.bool x.f3) ∧ w'.cell? ⟨wz.heap.size, 4, none⟩ = some (.int .i64 x.f4)) 15 (HCC.out _ _ t3).1 (fun hHeld => ?_)
    have t4 := t3.below (q68 (Below.refl _ _))
    clear t3
    refine pu_ 0 (some 66) ?_
    refine pu_ 1 (some 67) ?_
    refine tk_ 2 (some 68) hHeld ?_ (hy := by rintro w' ⟨s0, s1, s2, s3, s4, s5⟩; go_simp; with_reducible rfl)
    refine tk_ 3 (some 69) hHeld ?_ (hy := by rintro w' ⟨s0, s1, s2, s3, s4, s5⟩; go_simp; with_reducible rfl)
    refine pu_ 4 (some 70) ?_
    refine tk_ 5 (some 71) hHeld ?_ (hy := by rintro w' ⟨s0, s1, s2, s3, s4, s5⟩; go_simp; with_reducible rfl)
    refine pu_ 8 (some 74) ?_
    refine tk_ 9 (some 75) hHeld ?_ (hy := by rintro w' ⟨s0, s1, s2, s3, s4, s5⟩; go_simp; with_reducible rfl)
    refine pu_ 11 (some 77) ?_
    refine tk_ 12 (some 78) hHeld ?_ (hy := by rintro w' ⟨s0, s1, s2, s3, s4, s5⟩; go_simp; with_reducible rfl)
    generalize W3.drew = wD at hHeld t4 ⊢
    clear hHeld
    refine ca_ 6 (some 72) Try.func48 #[.agg #[.slice A0 fs.length c0, .slice (some ad) items.length c1], .string x.f2] ?_
    refine (q48.calls A0 c0 fs (some ad) c1 items x.f2 (q85 items x.f2) wD (Kd.C_below HR.out.1 t4.2.1) hc0 (Kd.C_below HR.out.2 t4.2.1) hc1 rfl).mono ?_
    rintro e wP ⟨rfl, hbP⟩
    have t5 := t4.below hbP
    clear t4
    refine ⟨_, rfl, (HCC.out _ _ t5).1, fun _ => ⟨_, rfl, nz_ (some 72) ?_⟩⟩
    have hp63 : q85 items x.f2 < 16 := by have := placeI_lt items x.f2; omega
    have hpm : -1 ≤ q85 items x.f2 := fidx_ge _ _
    obtain ⟨p, hp⟩ : ∃ p, p = q85 items x.f2 := ⟨_, rfl⟩
    rw [← hp] at hp63 hpm ⊢
    have HP := Lib.hid hp
    clear hp
    have hw : wrap64 (p + 1) = p + 1 := by unfold wrap64; omega
    refine pu_ 7 (some 73) ?_
    refine ca_ 10 (some 76) Try.func49 #[.bool x.f3] ?_
    refine (truth_call x.f3 wP).mono ?_
    rintro e wQ ⟨rfl, hbQ⟩
    have t6 := t5.below hbQ
    clear t5
    refine ⟨_, rfl, (HCC.out _ _ t6).1, fun _ => ⟨_, rfl, nz_ (some 76) ?_⟩⟩
    obtain ⟨q, hq⟩ : ∃ q : Int, q = if x.f3 = true then 1 else 0 := ⟨_, rfl⟩
    have hq63 : q < 2 := by rw [hq]; split <;> omega
    rw [← hq]
    have HQ := Lib.hid hq
    clear hq
    refine onS_ 13 (some 79) (fun K hK => ?_)
    go_simp
    refine hK.out _ _ (HCC.out _ _ (t6.below (q67 (Below.refl _ _) _))).1 (fun _ => ?_)
    clear hK K
    have hnum := num_st HF3.out t6 3 [x.f1, p + 1, q, x.f4] (by have := HZL.out; simp; omega) (by have := HIOK.out.2.1; have := HIOK.out.2.2.1; simp; omega) wQ.heap.size rfl 4 rfl
    refine ca_ 14 (some 80) Try.func47 #[.pointer (some ⟨g, 0, none⟩), .slice (some ⟨wQ.heap.size, 0, none⟩) 4 4] ?_
    refine hnum.mono ?_
    rintro e w8 ⟨rfl, t8⟩
    refine ⟨_, rfl, (HCC.out _ _ t8).1, fun _ => ⟨_, rfl, nz_ (some 80) ?_⟩⟩
    refine dn_ ?_
    obtain ⟨⟨hm0, hm1, -⟩, hx5, -⟩ := HCC.out _ _ t8
    have HT8 := Lib.hid t8
    clear t6 t8 hnum hp63 hpm hw hq63
    go_wp2_with fail
    clear hm0 hm1 hx5
    refine (sents_st A0 c0 fs _ c1 items B5 d5 x.f5 HF3.out HT8.out HR.out.1 hc0 HR.out.2 hc1 HC5.out hl5 HIOK.out.2.2.2.1.1 HIOK.out.2.2.2.1.2 (by have := HZL.out; have := q84 10 p; have := q84 10 x.f1; have := q84 10 (p + 1); have := q84 10 q; have := q84 10 x.f4; simp; omega)).mono ?_
    rintro e w9 ⟨rfl, t9⟩
    obtain ⟨⟨hm0, hm1, -⟩, -, hx6⟩ := HCC.out _ _ t9
    have HT9 := Lib.hid t9
    clear t9 HT8
    go_wp2_with fail
    clear hm0 hm1 hx6
    refine (sents_st A0 c0 fs _ c1 items B6 d6 x.f6 HF3.out HT9.out HR.out.1 hc0 HR.out.2 hc1 HC6.out hl6 HIOK.out.2.2.2.2.1 HIOK.out.2.2.2.2.2 (by have := HZL.out; have := q84 10 p; have := q84 10 x.f1; have := q84 10 (p + 1); have := q84 10 q; have := q84 10 x.f4; have := sentsW_le fs items x.f5 HIOK.out.2.2.2.1.1 HIOK.out.2.2.2.1.2; simp; omega)).mono ?_
    rintro e w10 ⟨rfl, t10⟩
    have HT := Lib.hid (Y.out.back (HW3.out ▸ t10))
    clear t10 HT9
    go_wp2
    go_roundg (items.length - (j + 1))
    case measure => omega
    case rel => exact ⟨j + 1, by go_num, by omega, by omega, Lib.hid (by rw [HNJ.out, ← List.append_assoc, ← HZS.out]; simpa [itemW, HP.out, HQ.out] using HT.out)⟩
theorem q46 (l : List Int) (hn : l.length ≤ 9223372036854775806) (d : Nat) : ∀ (i k : Nat) (a c : Int), i + d = l.length → d < k → q61.l0 k a c l l.length i = some (Go.bits .or .u32 (((sumSt (l.drop i) a c).2 * 65536) % 4294967296) (sumSt (l.drop i) a c).1) := by
  induction d with
  | zero =>
    intro i k a c hi hk
    obtain ⟨k, rfl⟩ : ∃ m, k = m + 1 := ⟨k - 1, by omega⟩
    simp only [q61.l0]
    rw [if_neg (by omega), List.drop_eq_nil_of_le (by omega)]
    rfl
  | succ d ih =>
    intro i k a c hi hk
    obtain ⟨k, rfl⟩ : ∃ m, k = m + 1 := ⟨k - 1, by omega⟩
    simp only [q61.l0]
    rw [if_pos (by omega), if_pos (by omega), if_pos (by omega), List.drop_eq_getElem_cons (by omega)]
    have hw : wrap64 ((i : Int) + 1) = ((i + 1 : Nat) : Int) := by unfold wrap64; omega
    have hr : rd l (i : Int) = l[i] := by simp [rd, List.getD_eq_getElem?_getD, List.getElem?_eq_getElem (show i < l.length by omega)]
    rw [hw, hr, ih (i + 1) k _ _ (by omega) (by omega)]
    rfl
theorem q64 (l : List Int) (hn : l.length ≤ 9223372036854775806) (k : Nat) (hk : l.length < k) : q61.f k l = some (sumL l) := q46 l hn l.length 0 k 1 0 (by omega) hk
theorem sOk_of (fs : List ByteArray) (items : List (S48)) (ss : List (S54)) (h : sentsB fs items ss = true) : ss.length ≤ 3 ∧ ∀ s ∈ ss, sOk s := by
 unfold sentsB at h
 rw [Bool.and_eq_true, decide_eq_true_eq, Bool.not_eq_true', List.any_eq_false] at h
 refine ⟨h.1, fun s hs => ?_⟩
 have h2 := h.2 s hs
 rw [Bool.not_eq_true, Bool.not_eq_false'] at h2
 unfold sentryB at h2
 rw [Bool.and_eq_true, decide_eq_true_eq, Bool.and_eq_true, List.all_eq_true] at h2
 obtain ⟨⟨a, b, -⟩, c, d⟩ := h2
 refine ⟨a, b, fun x hx => ?_, fun y hy => ?_⟩
 ·obtain ⟨i, hi, rfl⟩ := List.getElem_of_mem hx
  have := c i (List.mem_range.2 hi)
  unfold onOk at this
  rw [Bool.and_eq_true] at this
  have h3 := this.1
  have e : q87 s.f0 (i : Int) = s.f0[i] := by simp [q87, List.getD_eq_getElem?_getD, List.getElem?_eq_getElem hi]
  rw [e] at h3
  unfold onB legalB at h3
  split at h3
  ·split at h3
   ·omega
   ·split at h3
    ·omega
    ·split at h3
     ·omega
     ·cases h3
  ·cases h3
 ·unfold ifsOk at d
  rw [Bool.not_eq_true', List.any_eq_false] at d
  have h3 := d y hy
  rw [Bool.not_eq_true, Bool.not_eq_false'] at h3
  unfold ifB at h3
  rw [Bool.and_eq_true, Bool.and_eq_true, decide_eq_true_eq] at h3
  exact h3.2.2
theorem q56 (l : List ByteArray) (h : namesB l = true) : ∀ s ∈ l, s.size ≤ 1000 := by
 intro s hs
 obtain ⟨i, hi, rfl⟩ := List.getElem_of_mem hs
 unfold namesB at h
 rw [List.all_eq_true] at h
 have := h i (List.mem_range.2 hi)
 unfold nameOk at this
 rw [rdOf_get _ _ _ hi, Bool.and_eq_true] at this
 have h1 := this.1
 unfold nameB at h1
 simp only [Bool.and_eq_true, decide_eq_true_eq] at h1
 omega
theorem MOk_of (fs : List ByteArray) (items : List (S48)) (h : isB fs items = true) : MOk fs items := by
 unfold isB at h
 rw [Bool.and_eq_true, Bool.and_eq_true, Bool.and_eq_true, Bool.and_eq_true, Bool.and_eq_true, decide_eq_true_eq, Bool.not_eq_true', List.any_eq_false] at h
 obtain ⟨⟨a, b, c⟩, d, e, -, -, f⟩ := h
 refine ⟨a, c, q56 fs d, fun x hx => ?_⟩
 have h2 := f x hx
 rw [Bool.not_eq_true, Bool.not_eq_false'] at h2
 unfold itemB at h2
 rw [Bool.and_eq_true, Bool.and_eq_true, Bool.and_eq_true, Bool.and_eq_true, decide_eq_true_eq] at h2
 obtain ⟨p, q, r, s, -⟩ := h2
 refine ⟨q56 _ e _ (List.mem_map_of_mem hx), by omega, ?_, sOk_of fs items _ q, sOk_of fs items _ r⟩
 split at s
 ·rw [decide_eq_true_eq] at s; omega
 ·rw [decide_eq_true_eq] at s; omega
theorem modelW_le (fs : List ByteArray) (items : List (S48)) (h : MOk fs items) : (modelW fs items).length ≤ 100000 := by
 unfold modelW
 rw [List.length_append, List.length_append, List.length_append]
 obtain ⟨hts, htl⟩ := texts_size h
 have := q84 10 (textsOf fs items).length
 have := q84 10 fs.length
 have := flat_le textW 1010 (textsOf fs items) (fun x hx => textW_le x (hts x hx))
 have := flat_le (itemW fs items) 900 items (fun x hx => itemW_le fs items x (h.2.2.2 x hx))
 have := h.1
 have := h.2.1
 omega
theorem mark_size (W : World) (a : Addr) : (markW W a).heap.size = W.heap.size := by
 unfold markW
 split
 ·unfold World.freeze
  simp only [Nat.succ_ne_zero, ↓reduceIte, Array.size_modify]
 ·rfl
def packL (fs : List ByteArray) (items : List (S48)) : List Int := sealL (modelW fs items)
def q58.f (l0_0 : List ByteArray) (l0_1 : List (S48)) : Option (List Int × Int) := if isB l0_0 l0_1 = true then some (packL l0_0 l0_1, 0) else some ([], 1)
set_option maxHeartbeats 8000000 in
set_option maxRecDepth 100000 in
theorem q58.calls (A0_0 : Option Addr) (c0_0 : Nat) (l0_0 : List ByteArray) (A0_1 : Option Addr) (c0_1 : Nat) (l0_1 : List (S48)) (r1 : List Int) (r2 : Int) (w : World) (hr0_0 : Kd.C Kd.string w A0_0 l0_0.length l0_0) (hc0_0 : l0_0.length ≤ c0_0) (hr0_1 : Kd.C k48 w A0_1 l0_1.length l0_1) (hc0_1 : l0_1.length ≤ c0_1) (h : q58.f l0_0 l0_1 = some (r1, r2)) :
    Calls Try.prog 14 #[.agg #[.slice A0_0 l0_0.length c0_0, .slice A0_1 l0_1.length c0_1]] w fun e w' => ∃ v0_ : Value, e = .returned (.tuple #[v0_, .int .i64 r2]) ∧ Kd.R (Kd.int .u8) 5 w' w.heap.size (fun _ => True) v0_ r1 ∧ Below w.heap.size w w' := by
  have hu25 := Try.underlying25
  have hu58 := Try.underlying58
  have hbw := q67 (Below.refl w.heap.size w) (.cells #[.slice A0_0 l0_0.length c0_0, .slice A0_1 l0_1.length c0_1] 25)
  have his := q63.calls A0_0 c0_0 l0_0 A0_1 c0_1 l0_1 (isB l0_0 l0_1) _ (Kd.C_below hr0_0 hbw) hc0_0 (Kd.C_below hr0_1 hbw) hc0_1 rfl
  have HR := Lib.hid (And.intro hr0_0 hr0_1)
  have HBW := Lib.hid hbw
  have HF : Hid (isB l0_0 l0_1 = true → MOk l0_0 l0_1) := Lib.hid (MOk_of _ _)
  unfold q58.f at h
  clear hr0_0 hr0_1 hbw
  obtain ⟨b, hb⟩ : ∃ b, b = isB l0_0 l0_1 := ⟨_, rfl⟩
  rw [← hb] at his h HF
  clear hb
  cases b with
  | false =>
    rw [if_neg (by decide)] at h
    cases h
    go_enter Try.func14, Try.ntmps14
    go_wp2_with fail
    refine his.mono ?_
    rintro e w2 ⟨rfl, hb2⟩
    have HB2 := Lib.hid (q82 hb2 HBW.out)
    clear his hb2
    go_wp2
    go_ret2
    exact ⟨_, rfl, Kd.R_nil _ _ _ _ _, HB2.out⟩
  | true =>
    rw [if_pos rfl] at h
    cases h
    have HM := Lib.hid (HF.out rfl)
    clear HF
    have hml := modelW_le l0_0 l0_1 HM.out
    unfold packL sealL
    obtain ⟨body, hbody⟩ : ∃ b, b = modelW l0_0 l0_1 := ⟨_, rfl⟩
    rw [← hbody] at hml ⊢
    obtain ⟨s, hss⟩ : ∃ s, s = sumL body := ⟨_, rfl⟩
    rw [← hss]
    have HBO := Lib.hid hbody
    have HSS := Lib.hid hss
    have HML := Lib.hid hml
    clear hbody hss hml
    go_enter Try.func14, Try.ntmps14
    go_wp2_with fail
    refine his.mono ?_
    rintro e w2 ⟨rfl, hb2⟩
    have HB2 := Lib.hid (q82 hb2 HBW.out)
    have hm0 := q83 hb2 (by simp : (w.alloc (.cells #[.slice A0_0 l0_0.length c0_0, .slice A0_1 l0_1.length c0_1] 25)).cell? ⟨w.heap.size, 0, none⟩ = some (.slice A0_0 l0_0.length c0_0))
    have hm1 := q83 hb2 (by simp : (w.alloc (.cells #[.slice A0_0 l0_0.length c0_0, .slice A0_1 l0_1.length c0_1] 25)).cell? ⟨w.heap.size, 1, none⟩ = some (.slice A0_1 l0_1.length c0_1))
    have hlt2 : w.heap.size < w2.heap.size := World.block_lt_of_cell? _ _ hm0
    clear his hb2
    go_wp2_with fail
    clear hm0 hm1
    obtain ⟨g, hg⟩ : ∃ g, g = w2.heap.size := ⟨_, rfl⟩
    obtain ⟨W2, hW2⟩ : ∃ W2, W2 = w2.alloc (.cells #[.slice none 0 0] 58) := ⟨_, rfl⟩
    have hgb : W2.heap[g]? = some (.cells #[.slice none 0 0] 58 (0, 0)) := by rw [hW2, hg]; exact heap_alloc_new w2 _
    have hbW : Below w2.heap.size w2 W2 := by rw [hW2]; exact q67 (Below.refl _ _) _
    have hsz : W2.heap.size = g + 1 := by rw [hW2, hg]; simp
    have F : Fx w2 W2 g (fun k => g < k) := ⟨by omega, fun k h => by omega, fun k h => by omega⟩
    have s0 : St w2 W2 W2 g (fun k => g < k) [] := St.refl ⟨_, hgb, Kd.R_nil _ _ _ _ _⟩ hbW
    rw [← hW2, ← hg]
    have HG2 := Lib.hid hg
    clear hW2 hg hgb hsz hbW hlt2
    refine (q57 w2 W2 g (fun k => g < k) [] A0_0 c0_0 l0_0 A0_1 c0_1 l0_1 F s0 (Kd.C_below HR.out.1 HB2.out) hc0_0 (Kd.C_below HR.out.2 HB2.out) hc0_1 HM.out (by simp)).mono ?_
    rintro e w3 ⟨rfl, s3⟩
    rw [List.nil_append] at s3
    clear F s0
    rw [← HBO.out] at s3
    obtain ⟨v, hg, hR⟩ := s3.1
    obtain ⟨Ag, cg, rfl⟩ := Kd.R_slice hR
    have hrd := Kd.R_reads' hR
    have hsum := q61.calls (body.length + 1) Ag cg body _ w3 hrd.2.2 (by have := hrd.2.1; omega) (q64 body (by have := HML.out; omega) _ (by omega))
    have hC3 := hrd.2.2
    obtain ⟨n, hn⟩ : ∃ n, n = body.length := ⟨_, rfl⟩
    rw [← hn] at hg hC3 hsum
    have hcv : w3.cell? ⟨g, 0, none⟩ = some (.slice Ag n cg) := (q73 hg 0).trans rfl
    have HB3 := Lib.hid (q70 HB2.out HB2.out.size s3.2.1)
    have HN := Lib.hid hn
    have HC3 := Lib.hid hC3
    rw [← HSS.out] at hsum
    have hml2 : n ≤ 100000 := by have := HML.out; omega
    have hgl : g < w3.heap.size := blk_lt hg
    have hgw : w.heap.size ≤ g := by rw [HG2.out]; exact HB2.out.size
    clear s3 hg hR hrd hn hC3
    have HCV := Lib.hid hcv
    go_wp2_with fail
    refine hsum.mono ?_
    rintro e w4 ⟨rfl, hd⟩
    have hb4 := hd.below
    have hcv := q83 hb4 HCV.out
    have HB4 := Lib.hid (q70 HB3.out HB3.out.size hb4)
    have HC4 := Lib.hid (Kd.C_below HC3.out hb4)
    have hg4 : g < w4.heap.size := by have := hb4.size; omega
    clear hd hb4 hsum
    have kb := fun W a n c => kcv (P := Try.prog) 26 5 Try.underlying26 Try.underlying5 W a n c
    have hmk := fun W a b => mark_cell W a b
    have hms := fun W a => mark_size W a
    have hg5 : g < w4.heap.size + 1 := by omega
    have hg6 : g < w4.heap.size + 1 + 1 := by omega
    go_wp2_with fail
    obtain ⟨Wa, hWa⟩ : ∃ Wa, Wa = markW (w4.alloc (.cells #[.int .u8 83, .int .u8 78, .int .u8 84, .int .u8 49] 5)) ⟨w4.heap.size, 0, none⟩ := ⟨_, rfl⟩
    have hsa : Wa.heap.size = w4.heap.size + 1 := by rw [hWa, mark_size]; simp
    have hba : Below w4.heap.size w4 Wa := by rw [hWa]; exact mark_below (q67 (Below.refl _ _) _) (Nat.le_refl _)
    have hca : Kd.C (Kd.int .u8) Wa (some ⟨w4.heap.size, 0, none⟩) 4 [83, 78, 84, 49] := by rw [hWa]; exact mark_C (lit_reads w4 _ rfl 5 [83, 78, 84, 49] (by decide))
    rw [← hWa]
    clear hWa
    obtain ⟨Wb, hWb⟩ : ∃ Wb, Wb = Wa.alloc (.cells #[.int .u8 ((s / 16777216) % 256), .int .u8 ((s / 65536) % 256), .int .u8 ((s / 256) % 256), .int .u8 (s % 256)] 5) := ⟨_, rfl⟩
    have hsb : Wb.heap.size = w4.heap.size + 1 + 1 := by rw [hWb, ← hsa]; simp
    have hbb : Below Wa.heap.size Wa Wb := by rw [hWb]; exact q67 (Below.refl _ _) _
    have hcb : Kd.C (Kd.int .u8) Wb (some ⟨w4.heap.size + 1, 0, none⟩) 4 [(s / 16777216) % 256, (s / 65536) % 256, (s / 256) % 256, s % 256] := by rw [hWb]; exact lit_reads Wa _ hsa.symm 5 [(s / 16777216) % 256, (s / 65536) % 256, (s / 256) % 256, s % 256] (by simp)
    rw [← hWb]
    clear hWb
    obtain ⟨Wc, hWc⟩ : ∃ Wc, Wc = Wb.alloc (.cells #[.slice (some ⟨w4.heap.size, 0, none⟩) 4 4, .slice (some ⟨w4.heap.size + 1, 0, none⟩) 4 4, .slice Ag n cg] 26) := ⟨_, rfl⟩
    have hbc : Below Wb.heap.size Wb Wc := by rw [hWc]; exact q67 (Below.refl _ _) _
    have hc0 : Wc.cell? ⟨w4.heap.size + 1 + 1, 0, none⟩ = some (.slice (some ⟨w4.heap.size, 0, none⟩) 4 4) := by rw [hWc, ← hsb]; simp
    have hc1 : Wc.cell? ⟨w4.heap.size + 1 + 1, 1, none⟩ = some (.slice (some ⟨w4.heap.size + 1, 0, none⟩) 4 4) := by rw [hWc, ← hsb]; simp
    have hc2 : Wc.cell? ⟨w4.heap.size + 1 + 1, 2, none⟩ = some (.slice Ag n cg) := by rw [hWc, ← hsb]; simp
    rw [← hWc]
    clear hWc
    have hb0c : Below w4.heap.size w4 Wc := q70 (q70 hba hba.size hbb) (q70 hba hba.size hbb).size hbc
    have HBC := Lib.hid (q70 HB4.out HB4.out.size hb0c)
    have hcc := concat_call Wc ⟨w4.heap.size + 1 + 1, 0, none⟩ 3
      (fun i => match i with | 0 => some ⟨w4.heap.size, 0, none⟩ | 1 => some ⟨w4.heap.size + 1, 0, none⟩ | _ => Ag)
      (fun i => match i with | 0 => 4 | 1 => 4 | _ => cg)
      (fun i => match i with | 0 => [83, 78, 84, 49] | 1 => [(s / 16777216) % 256, (s / 65536) % 256, (s / 256) % 256, s % 256] | _ => body)
      (fun i hi => match i, hi with
        | 0, _ => by rw [add_plain]; exact hc0
        | 1, _ => by rw [add_plain]; exact hc1
        | 2, _ => by rw [add_plain]; exact HN.out ▸ hc2)
      (fun i hi => match i, hi with
        | 0, _ => Kd.C_below (Kd.C_below hca hbb) hbc
        | 1, _ => Kd.C_below hcb hbc
        | 2, _ => HN.out ▸ Kd.C_below HC4.out hb0c)
      (by decide) (by simp [totN]; omega) (by have := HML.out; simp [totN]; omega)
    refine hcc.mono ?_
    rintro e w5 ⟨v5, rfl, hR5, hB5⟩
    have HR5 := Lib.hid (Kd.R_lower hR5 HBC.out.size)
    have HB5 := Lib.hid (q70 HBC.out HBC.out.size hB5)
    clear hcc hR5 hB5 hca hcb hc0 hc1 hc2 hba hbb hbc hb0c hsa hsb hcv kb hmk hms
    go_wp2
    go_ret2
    exact ⟨_, rfl, by simpa [catL, sealL] using HR5.out, HB5.out⟩
def itemR (id : ByteArray) (files ids : List ByteArray) (s : RSt) : S48 × RSt :=
 let k := numR 6 s
 let p := pickR (⟨#[]⟩ :: ids) k.2
 let r := numR 2 p.2
 let t := numR 101 r.2
 let en := sentsR files ids t.2
 let ex := sentsR files ids en.2
 (⟨id, k.1, p.1, r.1 == 1, t.1, en.1, ex.1⟩, ex.2)
theorem lit_str (W : World) (b : Nat) (hb : b = W.heap.size) (s : ByteArray) : Kd.R Kd.string 9 (W.alloc (.cells #[.string s] 9)) b (fun _ => True) (.slice (some ⟨b, 0, none⟩) 1 1) [s] := by
 subst hb
 exact Kd.R_of_own (by simpa [encs] using World.ownsRow_lit (base := W.heap.size) (e := 9) (size := 1) W #[.string s] 1 (Nat.le_refl _) (by decide) (by simp)) (fun _ _ => trivial)
def XST (T : TypeId) (w0 w W : World) (g bx : Nat) (z : RSt) (cs : Array Value) : Prop := RsT T w0 w W g z ∧ W.heap[bx]? = some (.cells cs 48 (0, 0))
abbrev XS (w0 w W : World) (g bx : Nat) (z : RSt) (cs : Array Value) : Prop := XST 71 w0 w W g bx z cs
section
variable {T : TypeId} {w0 w W w' : World} {g bx : Nat} {z z' : RSt} {cs : Array Value}
theorem XST.call (h : XST T w0 w W g bx z cs) (s : RsT T w0 W w' g z') (hne : bx ≠ g) : XST T w0 w w' g bx z' cs := ⟨h.1.then_ s, s.blk h.2 hne⟩
theorem XST.put (h : XST T w0 w W g bx z cs) (i : Nat) (u : Value) (cs' : Array Value) (e : cs.setIfInBounds i u = cs') (hne : bx ≠ g) (hw : w.heap.size ≤ bx) (hw0 : w0.heap.size ≤ bx) : XST T w0 w (W.setCell ⟨bx, i, none⟩ u) g bx z cs' := ⟨h.1.set u ⟨hne, hw, hw0⟩, q78 h.2 i u e⟩
theorem XST.txt {A : Option Addr} {c : Nat} {l : List ByteArray} (h : XST T w0 w W g bx z cs) (t : Txt w0 w g A c l) : Txt w0 W g A c l := t.go h.1
end
def ItemPost (w0 w : World) (g : Nat) (r : S48 × RSt) (e : Ending) (w' : World) : Prop := ∃ v5 v6, e = .returned (.agg #[.string r.1.f0, .int .i64 r.1.f1, .string r.1.f2, .bool r.1.f3, .int .i64 r.1.f4, v5, v6]) ∧ Kd.R k54 54 w' w.heap.size (fun _ => True) v5 r.1.f5 ∧ Kd.R k54 54 w' w.heap.size (fun _ => True) v6 r.1.f6 ∧ Rs w0 w w' g r.2
set_option maxHeartbeats 16000000 in
set_option maxRecDepth 100000 in
theorem itemr_any (w0 w : World) (g : Nat) (s : RSt) (id : ByteArray) (A1 : Option Addr) (c1 : Nat) (files : List ByteArray) (A2 : Option Addr) (c2 : Nat) (ids : List ByteArray) (hg0 : w0.heap.size ≤ g) (h : Rs w0 w w g s) (ht1 : Txt w0 w g A1 c1 files) (ht2 : Txt w0 w g A2 c2 ids) (hi : ids.length ≤ 1000) :
 Calls Try.prog 65 #[.pointer (some ⟨g, 0, none⟩), .string id, .slice A1 files.length c1, .slice A2 ids.length c2] w (ItemPost w0 w g (itemR id files ids s)) := by
 have hu48 := Try.underlying48
 obtain ⟨R, hR⟩ : ∃ R, R = itemR id files ids s := ⟨_, rfl⟩
 rw [← hR]
 unfold itemR at hR
 obtain ⟨⟨k, z1⟩, h1⟩ : ∃ r, r = numR 6 s := ⟨_, rfl⟩
 rw [← h1] at hR
 obtain ⟨⟨p, z2⟩, h2⟩ : ∃ r, r = pickR (⟨#[]⟩ :: ids) z1 := ⟨_, rfl⟩
 simp only at hR
 rw [← h2] at hR
 obtain ⟨⟨r, z3⟩, h3⟩ : ∃ r, r = numR 2 z2 := ⟨_, rfl⟩
 simp only at hR
 rw [← h3] at hR
 obtain ⟨⟨t, z4⟩, h4⟩ : ∃ r, r = numR 101 z3 := ⟨_, rfl⟩
 simp only at hR
 rw [← h4] at hR
 obtain ⟨⟨en, z5⟩, h5⟩ : ∃ r, r = sentsR files ids z4 := ⟨_, rfl⟩
 simp only at hR
 rw [← h5] at hR
 obtain ⟨⟨ex, z6⟩, h6⟩ : ∃ r, r = sentsR files ids z5 := ⟨_, rfl⟩
 simp only at hR
 rw [← h6] at hR
 simp only at hR
 have HR := Lib.hid hR
 have HH := Lib.hid (And.intro h1 (And.intro h2 (And.intro h3 (And.intro h4 (And.intro h5 h6)))))
 have HS := Lib.hid h
 have hgl := h.1.lt
 obtain ⟨wA, hwA⟩ : ∃ wA, wA = w.alloc (.cells #[.string ⟨#[]⟩, .int .i64 0, .string ⟨#[]⟩, .bool false, .int .i64 0, .slice none 0 0, .slice none 0 0] 48) := ⟨_, rfl⟩
 have hsA : Rs w0 w wA g s := by rw [hwA]; exact h.alloc _
 have hbA : wA.heap[w.heap.size]? = some (.cells #[.string ⟨#[]⟩, .int .i64 0, .string ⟨#[]⟩, .bool false, .int .i64 0, .slice none 0 0, .slice none 0 0] 48 (0, 0)) := by rw [hwA]; exact heap_alloc_new w _
 have hzA : wA.heap.size = w.heap.size + 1 := by rw [hwA]; simp
 have hc1 := num_rs (w0 := w0) (w := wA) 6 hg0 hsA.here
 rw [← h1] at hc1
 have HSA := Lib.hid hsA
 have HBA := Lib.hid hbA
 have HWA := Lib.hid hwA
 have HZA := Lib.hid hzA
 have HT1 := Lib.hid (ht1.go hsA)
 have HT2 := Lib.hid (ht2.go hsA)
 clear hR h1 h2 h3 h4 h5 h6 h ht1 ht2 hsA hbA hwA hzA
 go_enter Try.func65, Try.ntmps65
 go_wp2_with fail
 rw [← HWA.out]
 refine hc1.mono ?_
 rintro e w1 ⟨rfl, s1⟩
 have HX1 : Hid (XS w0 wA (w1.alloc (.cells #[.string id, .int .i64 k, .string ⟨#[]⟩, .bool false, .int .i64 0, .slice none 0 0, .slice none 0 0] 48)) g w1.heap.size z1 #[.string id, .int .i64 k, .string ⟨#[]⟩, .bool false, .int .i64 0, .slice none 0 0, .slice none 0 0]) := Lib.hid ⟨s1.alloc _, heap_alloc_new w1 _⟩
 have hzs : w.heap.size + 1 ≤ w1.heap.size := by have := s1.2.2.1; have := HZA.out; omega
 have hzw : wA.heap.size ≤ w1.heap.size := s1.2.2.1
 have hw0w := HS.out.2.1.size
 have HT2a : Hid (Kd.C Kd.string ((w1.alloc (.cells #[.string id, .int .i64 k, .string ⟨#[]⟩, .bool false, .int .i64 0, .slice none 0 0, .slice none 0 0] 48)).alloc (.cells #[.string ⟨#[]⟩] 9)) A2 ids.length ids) := Lib.hid (Kd.C_alloc (HX1.out.txt HT2.out).1 _)
 clear s1 hc1
 go_wp2_with (first | ((with_reducible refine q79 (b := .append) (xs := #[.tmp 15, .tmp 16]) rfl ?_); at_builtin; refine Kd.R_append_rows Kd.string (w0 := _) (w1.heap.size + 1) rfl (.tmp 15) (.tmp 16) 22 9 (.string ⟨#[]⟩) 16 rfl Try.underlying22 info9 rfl (by decide) (by omega) (.slice (some ⟨w1.heap.size + 1, 0, none⟩) 1 1) [⟨#[]⟩] ids A2 ids.length c2 (fun _ => True) (fun _ => False) rfl rfl (lit_str _ _ (by simp) ⟨#[]⟩) HT2a.out (fun _ _ h => h) (fun _ h => h.elim) (fun _ _ => trivial) (Below.refl _ _) (by simp) (by simp; omega) ?_; intro v3 w3 hR3 hB3 hgr hat; have hX3 : XS w0 wA w3 g w1.heap.size z1 #[.string id, .int .i64 k, .string ⟨#[]⟩, .bool false, .int .i64 0, .slice none 0 0, .slice none 0 0] := ⟨(HX1.out.1.alloc (.cells #[.string ⟨#[]⟩] 9)).grown hgr (fun kk ek => by (have : w1.heap.size + 1 = kk := by simpa [Value.ownBlock] using ek); omega), (hgr.block _ (by simp; omega) (by simp [Value.ownBlock])).trans (q72 HX1.out.2 (q67 (Below.refl _ _) _))⟩; clear hB3 hgr hat))
 have HX3 := Lib.hid hX3
 obtain ⟨A3, c3, rfl⟩ := Kd.R_slice hR3
 have ht3 : Txt w0 w3 g A3 c3 (⟨#[]⟩ :: ids) := by
  have hrd := Kd.R_reads' hR3
  refine ⟨hrd.2.2, hrd.2.1, fun ad e => ?_, by simp; omega⟩
  subst e
  have h1_ := Kd.R_base hR3 ad.block (by simp [Value.ownBlock])
  have h2_ := Kd.R_lt hR3 ad.block (by simp [Value.ownBlock])
  exact ⟨h2_, by omega⟩
 have hc2 := pick_txt (w0 := w0) (w := w3) hg0 hX3.1.here ht3
 rw [← HH.out.2.1] at hc2
 clear hX3 hR3 ht3 HX1 HT2a
 refine hc2.mono ?_
 rintro e w4 ⟨rfl, s4⟩
 have hne : w1.heap.size ≠ g := by omega
 have hx4 := HX3.out.call s4 hne
 clear s4 hc2 HX3
 have hcz := (q73 hx4.2 2).trans rfl
 have hfz := q77 hx4.2 2
 have hx5 := hx4.put 2 (.string p) _ rfl hne (by omega) (by omega)
 have hc3 := num_rs (w0 := w0) (w := w4.setCell ⟨w1.heap.size, 2, none⟩ (.string p)) 2 hg0 hx5.1.here
 rw [← HH.out.2.2.1] at hc3
 have HX5 := Lib.hid hx5
 clear hx4 hx5
 go_wp2_with fail
 refine hc3.mono ?_
 rintro e w6 ⟨rfl, s6⟩
 have hx6 := HX5.out.call s6 hne
 clear s6 hc3 HX5 hcz hfz
 have hcz := (q73 hx6.2 3).trans rfl
 have hfz := q77 hx6.2 3
 have hx7 := hx6.put 3 (.bool (r == 1)) _ rfl hne (by omega) (by omega)
 have hc4 := num_rs (w0 := w0) (w := w6.setCell ⟨w1.heap.size, 3, none⟩ (.bool (r == 1))) 101 hg0 hx7.1.here
 rw [← HH.out.2.2.2.1] at hc4
 have HX7 := Lib.hid hx7
 clear hx6 hx7
 go_wp2_with fail
 refine hc4.mono ?_
 rintro e w8 ⟨rfl, s8⟩
 have hx8 := HX7.out.call s8 hne
 clear s8 hc4 HX7 hcz hfz
 have hcz := (q73 hx8.2 4).trans rfl
 have hfz := q77 hx8.2 4
 have hx9 := hx8.put 4 (.int .i64 t) _ rfl hne (by omega) (by omega)
 have hc5 := sentsr_any w0 (w8.setCell ⟨w1.heap.size, 4, none⟩ (.int .i64 t)) g z4 A1 c1 files A2 c2 ids hg0 hx9.1.here (hx9.txt HT1.out) (hx9.txt HT2.out)
 rw [← HH.out.2.2.2.2.1] at hc5
 have HX9 := Lib.hid hx9
 clear hx8 hx9
 go_wp2_with fail
 refine hc5.mono ?_
 rintro e w10 ⟨v5, rfl, hR5, s10⟩
 obtain ⟨A5, c5, rfl⟩ := Kd.R_slice hR5
 have hx10 := HX9.out.call s10 hne
 clear s10 hc5 hcz hfz
 have hcz := (q73 hx10.2 5).trans rfl
 have hfz := q77 hx10.2 5
 have hbase5 : w1.heap.size < (w8.setCell ⟨w1.heap.size, 4, none⟩ (.int .i64 t)).heap.size := blk_lt HX9.out.2
 have hg9 : g < w1.heap.size := by omega
 have hx11 := hx10.put 5 (.slice A5 en.length c5) _ rfl hne (by omega) (by omega)
 have hR511 := R_set2 hR5 ⟨w1.heap.size, 5, none⟩ (.slice A5 en.length c5) hbase5
 have hc6 := sentsr_any w0 (w10.setCell ⟨w1.heap.size, 5, none⟩ (.slice A5 en.length c5)) g z5 A1 c1 files A2 c2 ids hg0 hx11.1.here (hx11.txt HT1.out) (hx11.txt HT2.out)
 rw [← HH.out.2.2.2.2.2] at hc6
 have HX11 := Lib.hid hx11
 have HR5 := Lib.hid (Kd.R_lower hR511 (show w1.heap.size + 1 ≤ _ from hbase5))
 have hbase6 : w1.heap.size < (w10.setCell ⟨w1.heap.size, 5, none⟩ (.slice A5 en.length c5)).heap.size := blk_lt HX11.out.2
 have HB6 := Lib.hid hbase6
 clear hx10 hx11 HX9 hR5 hR511 hbase5 hbase6
 go_wp2_with fail
 refine hc6.mono ?_
 rintro e w12 ⟨v6, rfl, hR6, s12⟩
 obtain ⟨A6, c6, rfl⟩ := Kd.R_slice hR6
 have hx12 := HX11.out.call s12 hne
 clear hc6 hcz hfz
 have hcz := (q73 hx12.2 6).trans rfl
 have hfz := q77 hx12.2 6
 have h12_0 := (q73 hx12.2 0).trans rfl
 have h12_1 := (q73 hx12.2 1).trans rfl
 have h12_2 := (q73 hx12.2 2).trans rfl
 have h12_3 := (q73 hx12.2 3).trans rfl
 have h12_4 := (q73 hx12.2 4).trans rfl
 have h12_5 := (q73 hx12.2 5).trans rfl
 have hbz := hx12.1.blk HBA.out (by omega)
 have hz_0 := (q73 hbz 0).trans rfl
 have hz_1 := (q73 hbz 1).trans rfl
 have hz_2 := (q73 hbz 2).trans rfl
 have hz_3 := (q73 hbz 3).trans rfl
 have hz_4 := (q73 hbz 4).trans rfl
 have hz_5 := (q73 hbz 5).trans rfl
 have hz_6 := (q73 hbz 6).trans rfl
 have hq_0 := q77 hbz 0
 have hq_1 := q77 hbz 1
 have hq_2 := q77 hbz 2
 have hq_3 := q77 hbz 3
 have hq_4 := q77 hbz 4
 have hq_5 := q77 hbz 5
 have hq_6 := q77 hbz 6
 have hbn : w.heap.size ≠ w1.heap.size := by omega
 have hbn2 : w1.heap.size ≠ w.heap.size := by omega
 have HX13 := Lib.hid (hx12.put 6 (.slice A6 ex.length c6) _ rfl hne (by omega) (by omega))
 have HR5 := Lib.hid (R_set2 (R_rs HR5.out s12 (by omega)) ⟨w1.heap.size, 6, none⟩ (.slice A6 ex.length c6) (Nat.lt_succ_self _))
 have HR6 := Lib.hid (Kd.R_lower (R_set2 hR6 ⟨w1.heap.size, 6, none⟩ (.slice A6 ex.length c6) HB6.out) (show w1.heap.size + 1 ≤ _ from HB6.out))
 have HBZ := Lib.hid ((Below.heap_setCell w12 ⟨w1.heap.size, 6, none⟩ (.slice A6 ex.length c6) w.heap.size hbn).trans hbz)
 clear s12 hR6 hx12 HX11 HB6 hbz
 go_wp2_with fail
 have hwl : w.heap.size < w1.heap.size + 1 := by omega
 have hwl2 : w.heap.size ≤ w1.heap.size + 1 := by omega
 have hx0 : w0.heap.size ≤ w.heap.size := hw0w
 have hgw : w.heap.size ≠ g := by omega
 have HF : Hid (Kd.R k54 54 ((((((((w12.setCell ⟨w1.heap.size, 6, none⟩ (.slice A6 ex.length c6)).setCell ⟨w.heap.size, 0, none⟩ (.string id)).setCell ⟨w.heap.size, 1, none⟩ (.int .i64 k)).setCell ⟨w.heap.size, 2, none⟩ (.string p)).setCell ⟨w.heap.size, 3, none⟩ (.bool (r == 1))).setCell ⟨w.heap.size, 4, none⟩ (.int .i64 t)).setCell ⟨w.heap.size, 5, none⟩ (.slice A5 en.length c5)).setCell ⟨w.heap.size, 6, none⟩ (.slice A6 ex.length c6)) w.heap.size (fun _ => True) (.slice A5 en.length c5) en ∧ Kd.R k54 54 ((((((((w12.setCell ⟨w1.heap.size, 6, none⟩ (.slice A6 ex.length c6)).setCell ⟨w.heap.size, 0, none⟩ (.string id)).setCell ⟨w.heap.size, 1, none⟩ (.int .i64 k)).setCell ⟨w.heap.size, 2, none⟩ (.string p)).setCell ⟨w.heap.size, 3, none⟩ (.bool (r == 1))).setCell ⟨w.heap.size, 4, none⟩ (.int .i64 t)).setCell ⟨w.heap.size, 5, none⟩ (.slice A5 en.length c5)).setCell ⟨w.heap.size, 6, none⟩ (.slice A6 ex.length c6)) w.heap.size (fun _ => True) (.slice A6 ex.length c6) ex ∧ Rs w0 w ((((((((w12.setCell ⟨w1.heap.size, 6, none⟩ (.slice A6 ex.length c6)).setCell ⟨w.heap.size, 0, none⟩ (.string id)).setCell ⟨w.heap.size, 1, none⟩ (.int .i64 k)).setCell ⟨w.heap.size, 2, none⟩ (.string p)).setCell ⟨w.heap.size, 3, none⟩ (.bool (r == 1))).setCell ⟨w.heap.size, 4, none⟩ (.int .i64 t)).setCell ⟨w.heap.size, 5, none⟩ (.slice A5 en.length c5)).setCell ⟨w.heap.size, 6, none⟩ (.slice A6 ex.length c6)) g z6) := Lib.hid ⟨Kd.R_lower (by
  iterate 7 refine R_set2 ?_ _ _ hwl
  exact HR5.out) hwl2, Kd.R_lower (by
  iterate 7 refine R_set2 ?_ _ _ hwl
  exact HR6.out) hwl2, by
  iterate 7 refine RsT.set ?_ _ ⟨hgw, Nat.le_refl _, hx0⟩
  exact HSA.out.then_ HX13.out.1⟩
 have HG := Lib.hid (q78 (q78 (q78 (q78 (q78 (q78 (q78 HBZ.out 0 (.string id) rfl) 1 (.int .i64 k) rfl) 2 (.string p) rfl) 3 (.bool (r == 1)) rfl) 4 (.int .i64 t) rfl) 5 (.slice A5 en.length c5) rfl) 6 (.slice A6 ex.length c6) rfl)
 clear h12_0 h12_1 h12_2 h12_3 h12_4 h12_5 hz_0 hz_1 hz_2 hz_3 hz_4 hz_5 hz_6 hq_0 hq_1 hq_2 hq_3 hq_4 hq_5 hq_6 hcz hfz
 refine bodyPost_ret (results_cell_row rfl _ _ w.heap.size 48 #[.string id, .int .i64 k, .string p, .bool (r == 1), .int .i64 t, .slice A5 en.length c5, .slice A6 ex.length c6] (0, 0) _ rfl HG.out Try.underlying48 rfl (by kernel_rfl)) rfl ?_
 rw [HR.out]
 exact ⟨_, _, rfl, HF.out.1, HF.out.2.1, HF.out.2.2⟩
end Go.Proofs.Ytaiglhfmmdajdaa.Pm
end
section
namespace Go.Proofs.Ytaiglhfmmdajdaa.OpenKd
open Go Go.RowKit Go.ChangeShapes Go.WideShapes Go.Deep Go.Proofs.YtaiglhfmmdajdaaW.PrintWords
set_option linter.unusedVariables false
set_option linter.unusedSectionVars false
section
variable {H : Type} {enc : TypeId × Value → H} {P : Program} {w : World} {α β : Type}
theorem weights_mem_all {e : TypeId} : ∀ {ds : List (DataW H)} {d : DataW H}, d ∈ ds → ∀ n ∈ d.weights P e, n ∈ DataW.weightsAll P e ds
  | [], _, h, _, _ => by simp at h
  | x :: ds, d, h, n, hn => by
    rcases List.mem_cons.1 h with rfl | h
    · simp [DataW.weightsAll, hn]
    · simp [DataW.weightsAll, weights_mem_all h n hn]
def Light (P : Program) (t : TypeId) (d : DataW H) : Prop := ∀ n ∈ d.weights P t, n ≤ reachBytes
structure Opens (enc : TypeId × Value → H) (P : Program) (w : World) (t : TypeId) (d : Kd α) (good : α → Prop) : Prop where
 cells : P.cellsOf t = d.sz
 go : ∀ (fuel : Nat) (cs : List Value) (x : DataW H × List MemPlace), DataW.trod enc P w 0 (fun _ => true) true fuel t cs = some x → Light P t x.1 → ∃ a, d.K w a cs ∧ good a
theorem opens_int {t : TypeId} {k : IntKind} (hu : P.underlying t = some (.int k)) (hc : P.cellsOf t = 1) : Opens enc P w t (Kd.int k) (fun n => (Lit.int k n).wf = true) :=
 ⟨hc, fun fuel cs x h _ => by
  obtain ⟨n, rfl, _, hw⟩ := DataW.trod_int hu h
  exact ⟨n, rfl, hw⟩⟩
theorem opens_bool {t : TypeId} (hu : P.underlying t = some .bool) (hc : P.cellsOf t = 1) : Opens enc P w t Kd.bool (fun _ => True) :=
 ⟨hc, fun fuel cs x h _ => by
  obtain ⟨n, rfl, _⟩ := DataW.trod_bool hu h
  exact ⟨n, rfl, trivial⟩⟩
theorem opens_string {t : TypeId} (hu : P.underlying t = some .string) (hc : P.cellsOf t = 1) : Opens enc P w t Kd.string (fun s => s.size ≤ 140737488351232) :=
 ⟨hc, fun fuel cs x h hl => by
  obtain ⟨s, rfl, rfl, _⟩ := DataW.trod_string hu h
  refine ⟨s, rfl, ?_⟩
  have := hl s.data.toList.length (by simp [DataW.weights])
  simpa [reachBytes] using this⟩
theorem opens_slice {t e : TypeId} {d : Kd α} {good : α → Prop} (hu : P.underlying t = some (.slice e)) (hc : P.cellsOf t = 1) (h : Opens enc P w e d good) : Opens enc P w t (Kd.slice e d) (fun xs => xs.length * P.bytesOf e ≤ 140737488351232 ∧ ∀ x ∈ xs, good x) :=
  ⟨hc, fun fuel cs x hx hl => by
    rcases open_slice hu hx with ⟨rfl, rfl⟩ | ⟨a, len, cap, m, n, D, Pl, rfl, hb, hlc, hcm, hm, rfl, hel⟩
    · exact ⟨[], ⟨none, 0, rfl, Nat.le_refl _, ⟨rfl, by simp, fun h => by simp at h⟩⟩, by simp, by simp⟩
    · have hle : len ≤ m := by rw [hm]; split <;> omega
      have hmem : ∀ i, i < m → D i ∈ (List.range len).map D ∨ D i ∈ (List.range (m - len)).map fun j => D (len + j) := by
        intro i hi
        by_cases h1 : i < len
        · exact .inl (List.mem_map.2 ⟨i, List.mem_range.2 h1, rfl⟩)
        · exact .inr (List.mem_map.2 ⟨i - len, List.mem_range.2 (by omega), by congr 1; omega⟩)
      have hlight : ∀ i, i < m → Light P e (D i) := by
        intro i hi q hq
        refine hl q ?_
        simp only [DataW.weights, hu]
        rcases hmem i hi with h1 | h1
        · exact List.mem_cons_of_mem _ (List.mem_append_left _ (weights_mem_all h1 q hq))
        · exact List.mem_cons_of_mem _ (List.mem_append_right _ (weights_mem_all h1 q hq))
      have hall : ∀ i, i < len → ∃ x : α, good x ∧ ∃ c, c.length = d.sz ∧ d.K w x c ∧ ∀ j u, c[j]? = some u → w.cell? (a.add (i * d.sz + j)) = some u := by
        intro i hi
        obtain ⟨cs', hcs, htr⟩ := hel i (by omega)
        obtain ⟨y, hK, hg⟩ := h.go n cs' _ htr (hlight i (by omega))
        obtain ⟨_, hcl, hcc⟩ := World.cells?_some hcs
        refine ⟨y, hg, cs', by rw [hcl, h.cells], hK, fun j u hj => ?_⟩
        have hjl : j < P.cellsOf e := by rw [← hcl]; exact (List.getElem?_eq_some_iff.1 hj).1
        have := hcc j hjl
        rw [hj, Deep.add_add, h.cells] at this
        exact this
      have hlist : ∃ xs : List α, xs.length = len ∧ ∀ i (x : α), xs[i]? = some x → good x ∧ ∃ c, c.length = d.sz ∧ d.K w x c ∧ ∀ j u, c[j]? = some u → w.cell? (a.add (i * d.sz + j)) = some u := by
        clear hmem hlight hle hlc hl hel hx hm
        induction len with
        | zero => exact ⟨[], rfl, fun i x h => by simp at h⟩
        | succ len ih =>
          obtain ⟨xs, hxl, hxs⟩ := ih (fun i hi => hall i (by omega))
          obtain ⟨y, hy⟩ := hall len (by omega)
          refine ⟨xs ++ [y], by simp [hxl], fun i x hi => ?_⟩
          by_cases h1 : i < xs.length
          · rw [List.getElem?_append_left h1] at hi
            exact hxs i x hi
          · rw [List.getElem?_append_right (by omega)] at hi
            have h2 : i = xs.length := by
              have := (List.getElem?_eq_some_iff.1 hi).1
              simp at this
              omega
            subst h2
            simp at hi
            subst hi
            rw [hxl]
            exact hy
      obtain ⟨xs, hxl, hxs⟩ := hlist
      subst hxl
      refine ⟨xs, ⟨some a, cap, rfl, hlc, rfl, by have := hcm; unfold maxLen at this; omega, fun _ => ⟨a, rfl, fun j p hj => (hxs j p hj).2⟩⟩, ?_, fun x hx => ?_⟩
      · have hw := hl ((((List.range xs.length).map D).length + ((List.range (m - xs.length)).map fun j => D (xs.length + j)).length) * P.bytesOf e) (by simp [DataW.weights, hu])
        simp only [List.length_map, List.length_range] at hw
        have h2 : xs.length * P.bytesOf e ≤ (xs.length + (m - xs.length)) * P.bytesOf e := Nat.mul_le_mul_right _ (by omega)
        unfold reachBytes at hw
        omega
      · obtain ⟨i, hi, rfl⟩ := List.getElem_of_mem hx
        exact (hxs i _ (List.getElem?_eq_getElem hi)).1⟩
structure OpensF (enc : TypeId × Value → H) (P : Program) (w : World) (fs : List Field) (o : Nat) (d : Kd α) (good : α → Prop) : Prop where
 go : ∀ (n : Nat) (cs : List Value) (xs : List (DataW H × List MemPlace)), (∀ (i : Nat) (f : Field), fs[i]? = some f → DataW.trod enc P w 0 (fun _ => true) true n f.type ((cs.drop f.offset).take (P.cellsOf f.type)) = xs[i]?) →
  xs.length = fs.length → cs.length = o + d.sz → (∀ q ∈ DataW.weightsEach P (fs.map (·.type)) (xs.map (·.1)), q ≤ reachBytes) → ∃ a, d.K w a (cs.drop o) ∧ good a
theorem opens_last {f : Field} {o : Nat} {d : Kd α} {good : α → Prop} (ho : f.offset = o) (h : Opens enc P w f.type d good) : OpensF enc P w [f] o d good :=
  ⟨fun n cs xs hx hxl hcl hw => by
    match xs, hxl with
    | [x], _ =>
      have h0 := hx 0 f rfl
      rw [ho, h.cells, List.take_of_length_le (by rw [List.length_drop]; omega)] at h0
      exact h.go n _ x (by simpa using h0) (fun q hq => hw q (by simp [DataW.weightsEach, hq]))⟩
theorem opens_cons {f : Field} {fs : List Field} {o o2 : Nat} {a : Kd α} {b : Kd β} {ga : α → Prop} {gb : β → Prop} (ho : f.offset = o) (h : Opens enc P w f.type a ga) (ho2 : o2 = o + a.sz) (h2 : OpensF enc P w fs o2 b gb) :
    OpensF enc P w (f :: fs) o (Kd.pair a b) (fun p => ga p.1 ∧ gb p.2) :=
  ⟨fun n cs xs hx hxl hcl hw => by
    match xs, hxl with
    | x :: xs, hxl =>
      have h0 := hx 0 f rfl
      rw [ho, h.cells] at h0
      have hcl' : cs.length = o + (a.sz + b.sz) := hcl
      obtain ⟨x1, hK1, hg1⟩ := h.go n _ x (by simpa using h0) (fun q hq => hw q (by simp [DataW.weightsEach, hq]))
      obtain ⟨x2, hK2, hg2⟩ := h2.go n cs xs (fun i f' hf => by simpa using hx (i + 1) f' (by simpa using hf)) (by simpa using hxl) (by omega) (fun q hq => hw q (by
        simp only [List.map_cons, DataW.weightsEach]
        exact List.mem_append_right _ hq))
      refine ⟨(x1, x2), ⟨(cs.drop o).take a.sz, cs.drop o2, ?_, hK1, hK2⟩, hg1, hg2⟩
      have h3 := List.take_append_drop a.sz (cs.drop o)
      rw [List.drop_drop] at h3
      rw [ho2]
      exact h3.symm⟩
theorem opens_struct {t : TypeId} {fs : Array Field} {d : Kd α} {good : α → Prop} (hu : P.underlying t = some (.struct fs)) (hc : P.cellsOf t = d.sz) (h : OpensF enc P w fs.toList 0 d good) {f : β → α} (g : α → β) (hg : ∀ a, f (g a) = a) :
 Opens enc P w t (Kd.iso d f) (fun y => good (f y)) :=
 ⟨hc, fun fuel cs x hx hl => by
  obtain ⟨xs, n, _, rfl, hcl, hxl, hxs⟩ := DataW.trod_struct hu hx
  obtain ⟨a, hK, hga⟩ := h.go n cs xs (fun i f' hf => hxs i f' (by rw [← Array.getElem?_toList]; exact hf)) (by simpa using hxl) (by rw [hcl, hc]; omega) (fun q hq => hl q (by simpa [DataW.weights, hu] using hq))
  refine ⟨g a, ?_, by rw [hg]; exact hga⟩
  show d.K w (f (g a)) cs
  rw [hg]
  simpa using hK⟩
end
end Go.Proofs.Ytaiglhfmmdajdaa.OpenKd
end
section
namespace Go.Proofs.Ytaiglhfmmdajdaa.Pm
open Go.RowKit Go.Proofs.YtaiglhfmmdajdaaW.PrintWords Go.Proofs.YtaiglhfmmdajdaaW.PrintLast Go.Proofs.YtaiglhfmmdajdaaW.PrintMore
attribute [local go_sem] max2_int min2_int max_two min_two max_three min_three max_four min_four   -- for this text's walks alone
set_option linter.unusedVariables false
set_option linter.unusedSimpArgs false
open OpenKd
def goodSentry (x : S54) : Prop := x.f0.length ≤ 140737488351232 ∧ x.f1.length ≤ 140737488351232
def goodItem (x : S48) : Prop := x.f0.size ≤ 140737488351232 ∧ x.f2.size ≤ 140737488351232 ∧ x.f5.length ≤ 140737488351232 ∧ x.f6.length ≤ 140737488351232 ∧ (∀ s ∈ x.f5, goodSentry s) ∧ ∀ s ∈ x.f6, goodSentry s
theorem Opens.imp {H : Type} {enc : TypeId × Value → H} {P : Program} {w : World} {t : TypeId} {α : Type} {d : Kd α} {g g' : α → Prop} (h : Opens enc P w t d g) (hg : ∀ x, g x → g' x) : Opens enc P w t d g' :=
 ⟨h.cells, fun n cs x hx hl => let ⟨a, hK, ha⟩ := h.go n cs x hx hl; ⟨a, hK, hg a ha⟩⟩
section
variable {H : Type} {enc : TypeId × Value → H} {w : World}
set_option maxRecDepth 100000 in
theorem opens_on : Opens enc Try.prog w 103 k103 (fun _ => True) :=
 Opens.imp (opens_struct Try.underlying103 (by kernel_rfl) (opens_cons rfl (opens_string Try.underlying9 (by kernel_rfl)) rfl (opens_last rfl (opens_int Try.underlying3 (by kernel_rfl)))) (fun a => ⟨a.1, a.2⟩) (fun _ => rfl)) (fun _ _ => trivial)
set_option maxRecDepth 100000 in
theorem opens_cond : Opens enc Try.prog w 50 k50 (fun _ => True) :=
 Opens.imp (opens_struct Try.underlying50 (by kernel_rfl) (opens_cons rfl (opens_string Try.underlying9 (by kernel_rfl)) rfl (opens_cons rfl (opens_string Try.underlying9 (by kernel_rfl)) rfl (opens_last rfl (opens_int Try.underlying3 (by kernel_rfl))))) (fun a => ⟨a.1, a.2.1, a.2.2⟩) (fun _ => rfl)) (fun _ _ => trivial)
set_option maxRecDepth 100000 in
theorem opens_ons : Opens enc Try.prog w 52 (Kd.slice 103 k103) (fun xs => xs.length ≤ 140737488351232) :=
 Opens.imp (opens_slice Try.underlying52 (by kernel_rfl) opens_on) (fun xs h => by have := h.1; rw [show Try.prog.bytesOf 103 = 24 by kernel_rfl] at this; omega)
set_option maxRecDepth 100000 in
theorem opens_conds : Opens enc Try.prog w 51 (Kd.slice 50 k50) (fun xs => xs.length ≤ 140737488351232) :=
 Opens.imp (opens_slice Try.underlying51 (by kernel_rfl) opens_cond) (fun xs h => by have := h.1; rw [show Try.prog.bytesOf 50 = 40 by kernel_rfl] at this; omega)
set_option maxRecDepth 100000 in
theorem opens_sentry : Opens enc Try.prog w 54 k54 goodSentry :=
 Opens.imp (opens_struct Try.underlying54 (by kernel_rfl) (opens_cons rfl opens_ons rfl (opens_last rfl opens_conds)) (fun a => ⟨a.1, a.2⟩) (fun _ => rfl)) (fun _ h => h)
set_option maxRecDepth 100000 in
theorem opens_sentries : Opens enc Try.prog w 46 (Kd.slice 54 k54) (fun xs => xs.length ≤ 140737488351232 ∧ ∀ s ∈ xs, goodSentry s) :=
 Opens.imp (opens_slice Try.underlying46 (by kernel_rfl) opens_sentry) (fun xs h => ⟨by have := h.1; rw [show Try.prog.bytesOf 54 = 48 by kernel_rfl] at this; omega, h.2⟩)
set_option maxRecDepth 100000 in
theorem opens_item : Opens enc Try.prog w 48 k48 goodItem :=
 Opens.imp (opens_struct Try.underlying48 (by kernel_rfl) (opens_cons rfl (opens_string Try.underlying9 (by kernel_rfl)) rfl (opens_cons rfl (opens_int Try.underlying3 (by kernel_rfl)) rfl (opens_cons rfl (opens_string Try.underlying9 (by kernel_rfl)) rfl (opens_cons rfl (opens_bool Try.underlying4 (by kernel_rfl)) rfl (opens_cons rfl (opens_int Try.underlying3 (by kernel_rfl)) rfl (opens_cons rfl opens_sentries rfl (opens_last rfl opens_sentries)))))))
  (fun a => ⟨a.1, a.2.1, a.2.2.1, a.2.2.2.1, a.2.2.2.2.1, a.2.2.2.2.2.1, a.2.2.2.2.2.2⟩) (fun _ => rfl)) (fun x h => ⟨h.1, h.2.2.1, h.2.2.2.2.2.1.1, h.2.2.2.2.2.2.1, h.2.2.2.2.2.1.2, h.2.2.2.2.2.2.2⟩)
set_option maxRecDepth 100000 in
theorem opens_items : Opens enc Try.prog w 23 (Kd.slice 48 k48) (fun xs => xs.length ≤ 140737488351232 ∧ ∀ x ∈ xs, goodItem x) :=
 Opens.imp (opens_slice Try.underlying23 (by kernel_rfl) opens_item) (fun xs h => ⟨by have := h.1; rw [show Try.prog.bytesOf 48 = 104 by kernel_rfl] at this; omega, h.2⟩)
set_option maxRecDepth 100000 in
theorem opens_files : Opens enc Try.prog w 22 (Kd.slice 9 Kd.string) (fun xs => xs.length ≤ 140737488351232) :=
 Opens.imp (opens_slice Try.underlying22 (by kernel_rfl) (opens_string Try.underlying9 (by kernel_rfl))) (fun xs h => by have := h.1; rw [show Try.prog.bytesOf 9 = 16 by kernel_rfl] at this; omega)
set_option maxRecDepth 100000 in
theorem opens_model : Opens enc Try.prog w 25 (Kd.iso (Kd.pair (Kd.slice 9 Kd.string) (Kd.slice 48 k48)) (fun (p : List ByteArray × List (S48)) => p)) (fun p => p.1.length ≤ 140737488351232 ∧ p.2.length ≤ 140737488351232 ∧ ∀ x ∈ p.2, goodItem x) :=
 opens_struct Try.underlying25 (by kernel_rfl) (opens_cons rfl opens_files rfl (opens_last rfl opens_items)) (fun a => a) (fun _ => rfl)
set_option maxRecDepth 100000 in
theorem open_model {b0 : Nat} {v : Value} {d : DataW H} {p : List MemPlace} (hv : Value.okWide Try.prog w .any b0 25 v) (h : DataW.Trod enc Try.prog w 0 (fun _ => true) true 25 v d p) (hl : Light Try.prog 25 d) :
 ∃ A0 c0 fs A1 c1 l, v = .agg #[.slice A0 fs.length c0, .slice A1 l.length c1] ∧ Kd.C Kd.string w A0 fs.length fs ∧ fs.length ≤ c0 ∧ Kd.C k48 w A1 l.length l ∧ l.length ≤ c1 ∧ fs.length ≤ 140737488351232 ∧ l.length ≤ 140737488351232 ∧ ∀ x ∈ l, goodItem x := by
 obtain ⟨cs, rfl, hsz⟩ := Go.WideShapes.okWide_struct Try.underlying25 hv
 obtain ⟨fuel, hf⟩ := h
 obtain ⟨⟨fs, l⟩, hK, h1, h2, h3⟩ := opens_model.go fuel _ _ hf hl
 obtain ⟨z0, z1, hz, ⟨A0, c0, rfl, q1, q2⟩, ⟨A1, c1, rfl, q3, q4⟩⟩ := hK
 have hz' : cs = #[.slice A0 fs.length c0, .slice A1 l.length c1] := by
  have : cs.toList = [.slice A0 fs.length c0, .slice A1 l.length c1] := by simpa [Value.cells] using hz
  rw [← Array.toArray_toList (xs := cs), this]
 exact ⟨A0, c0, fs, A1, c1, l, by rw [hz'], q2, q1, q4, q3, h1, h2, h3⟩
set_option maxRecDepth 100000 in
theorem light_of {ts : List TypeId} {ds : List (DataW H)} (h : (DataW.weightsEach Try.prog ts ds).all (· ≤ reachBytes) = true) {j : Nat} {t : TypeId} {d : DataW H} (ht : ts[j]? = some t) (hd : ds[j]? = some d) : Light Try.prog t d := by
 intro n hn
 have := List.all_eq_true.1 h n (DataW.weights_mem_each ht hd n hn)
 simpa using this
end
end Go.Proofs.Ytaiglhfmmdajdaa.Pm
end
section
namespace Go.Proofs.Ytaiglhfmmdajdaa.Pm
open Go.RowKit Go.Proofs.YtaiglhfmmdajdaaW.PrintWords Go.Proofs.YtaiglhfmmdajdaaW.PrintLast Go.Proofs.YtaiglhfmmdajdaaW.PrintMore
attribute [local go_sem] max2_int min2_int max_two min_two max_three min_three max_four min_four   -- for this text's walks alone
set_option linter.unusedVariables false
set_option linter.unusedSimpArgs false
theorem bt_at (s : ByteArray) (i : Nat) (h : i < s.size) : bt s (i : Int) = byteAt s i := by
 unfold bt byteAt
 rw [dif_pos (by simpa using h), List.getD_eq_getElem?_getD, List.getElem?_eq_getElem (by simpa using h)]
 rfl
theorem first_eq (a : Int) : q23.f a = some (letterB a) := letter_eq a
theorem rbyte_eq (a : Int) : q29.f a = some (moreB a) := more_eq a
theorem ref_name_at (s : ByteArray) (hs : s.size ≤ 12) (d : Nat) : ∀ i k, i + d = s.size → d < k → q37.l0 k s (i : Nat) = some ((List.range' i d).all (fun j => moreB (byteAt s j))) := by
  induction d with
  | zero =>
    intro i k hi hk
    obtain ⟨k, rfl⟩ : ∃ m, k = m + 1 := ⟨k - 1, by omega⟩
    simp only [q37.l0]
    rw [if_neg (by omega)]
    rfl
  | succ d ih =>
    intro i k hi hk
    obtain ⟨k, rfl⟩ : ∃ m, k = m + 1 := ⟨k - 1, by omega⟩
    simp only [q37.l0]
    rw [if_pos (by omega), if_pos (by omega), bt_at s i (by omega), rbyte_eq, Option.bind_some, List.range'_succ, List.all_cons]
    cases moreB (byteAt s i) with
    | false => simp
    | true =>
      rw [if_pos rfl, wrap_lt (n := (s.size : Int)) (by omega) (by omega) (by omega), Bool.true_and]
      exact ih (i + 1) k (by omega) (by omega)
theorem ref_name (s : ByteArray) (k : Nat) (hk : 15 ≤ k) : q37.f k s = some (nameB s) := by
  obtain ⟨k, rfl⟩ : ∃ m, k = m + 1 := ⟨k - 1, by omega⟩
  unfold q37.f nameB
  by_cases h1 : s.size < 1
  · rw [if_pos (by omega), decide_eq_false (by omega)]; simp [q37.j0]
  by_cases h2 : s.size > 12
  · rw [if_neg (by omega), if_pos (by omega), decide_eq_false (by omega)]; simp [q37.j0]
  rw [if_neg (by omega), if_neg (by omega), if_pos (by omega), decide_eq_true (by omega), show (0 : Int) = ((0 : Nat) : Int) from rfl, bt_at s 0 (by omega), first_eq, Option.bind_some]
  cases letterB (byteAt s 0) with
  | false => simp [q37.j0]
  | true =>
    simp only [q37.j0, Bool.not_true, Bool.false_eq_true, if_false]
    rw [show (0 : Int) = ((0 : Nat) : Int) from rfl, ref_name_at s (by omega) s.size 0 k (by omega) (by omega), List.range_eq_range']
    rfl
theorem mem_any_at (l : List ByteArray) (s : ByteArray) (hn : l.length ≤ 9223372036854775807) (d : Nat) : ∀ (i k : Nat), i + d = l.length → d < k → q31.l0 k l s (i : Nat) = some ((l.drop i).any (fun x => s.toList == x.toList)) := by
  induction d with
  | zero =>
    intro i k hi hk
    obtain ⟨k, rfl⟩ : ∃ m, k = m + 1 := ⟨k - 1, by omega⟩
    simp only [q31.l0]
    rw [if_neg (by omega), List.drop_of_length_le (by omega)]
    rfl
  | succ d ih =>
    intro i k hi hk
    obtain ⟨k, rfl⟩ : ∃ m, k = m + 1 := ⟨k - 1, by omega⟩
    have hlt : i < l.length := by omega
    simp only [q31.l0]
    rw [if_pos (by omega), if_pos (by omega), rdOf_get _ _ _ hlt, List.drop_eq_getElem_cons hlt, List.any_cons]
    by_cases he : l[i].toList = s.toList
    · rw [if_pos he, show (s.toList == l[i].toList) = true by rw [he]; simp]; rfl
    · rw [if_neg he, show (s.toList == l[i].toList) = false by simpa using Ne.symm he, Bool.false_or, wrap_lt (n := (l.length : Int)) (by omega) (by omega) (by omega)]
      exact ih (i + 1) k (by omega) (by omega)
theorem ref_file (l : List ByteArray) (s : ByteArray) (hn : l.length ≤ 9223372036854775807) (k : Nat) (hk : l.length < k) : q31.f k l s = some (memB l s) := mem_any_at l s hn l.length 0 k (by omega) hk
theorem ref_op_at (s : ByteArray) (l : List ByteArray) (hn : l.length ≤ 9223372036854775807) (d : Nat) : ∀ (i k : Nat), i + d = l.length → d < k → ∃ r, q39.l0 k s l (i : Nat) = some r ∧ decide (r < 0) = !((l.drop i).any (fun x => s.toList == x.toList)) := by
  induction d with
  | zero =>
    intro i k hi hk
    obtain ⟨k, rfl⟩ : ∃ m, k = m + 1 := ⟨k - 1, by omega⟩
    refine ⟨-1, ?_, ?_⟩
    · simp only [q39.l0]
      rw [if_neg (by omega)]
    · rw [List.drop_of_length_le (by omega)]; rfl
  | succ d ih =>
    intro i k hi hk
    obtain ⟨k, rfl⟩ : ∃ m, k = m + 1 := ⟨k - 1, by omega⟩
    have hlt : i < l.length := by omega
    simp only [q39.l0]
    rw [if_pos (by omega), if_pos (by omega), rdOf_get _ _ _ hlt, List.drop_eq_getElem_cons hlt, List.any_cons]
    by_cases he : l[i].toList = s.toList
    · rw [if_pos he]
      refine ⟨i, rfl, ?_⟩
      rw [show (s.toList == l[i].toList) = true by rw [he]; simp, decide_eq_false (by omega)]; rfl
    · rw [if_neg he, show (s.toList == l[i].toList) = false by simpa using Ne.symm he, Bool.false_or, wrap_lt (n := (l.length : Int)) (by omega) (by omega) (by omega)]
      exact ih (i + 1) k (by omega) (by omega)
theorem ref_op (s : ByteArray) (k : Nat) (hk : 6 < k) : ∃ r, q39.f k s = some r ∧ decide (r < 0) = !memB opsL s := ref_op_at s opsL (by decide) 6 0 k (by decide) hk
theorem ref_place_at (fs : List ByteArray) (l : List (S48)) (id : ByteArray) (hn : l.length ≤ 9223372036854775807) (d : Nat) : ∀ (i k : Nat), i + d = l.length → d < k → (∀ j, j < i → q48.p id (l.getD j z48) = false) → q24.l0 k id (i : Nat) fs l = some (q85 l id) := by
  induction d with
  | zero =>
    intro i k hi hk hno
    obtain ⟨k, rfl⟩ : ∃ m, k = m + 1 := ⟨k - 1, by omega⟩
    simp only [q24.l0]
    rw [if_neg (by omega)]
    unfold q85
    rw [fidx_miss _ l z48 (fun j hj => hno j (by omega))]
  | succ d ih =>
    intro i k hi hk hno
    obtain ⟨k, rfl⟩ : ∃ m, k = m + 1 := ⟨k - 1, by omega⟩
    have hlt : i < l.length := by omega
    have hrd : q89 l (i : Int) = l.getD i z48 := rfl
    simp only [q24.l0]
    rw [if_pos (by omega), if_pos (by omega), hrd]
    by_cases he : (l.getD i z48).f0.toList = id.toList
    · rw [if_pos he]
      unfold q85
      rw [fidx_hit _ l i z48 hlt (by unfold q48.p; simpa using he) hno]
    · rw [if_neg he, wrap_lt (n := (l.length : Int)) (by omega) (by omega) (by omega)]
      refine ih (i + 1) k (by omega) (by omega) (fun j hj => ?_)
      by_cases e : j = i
      · subst e; unfold q48.p; simpa using he
      · exact hno j (by omega)
theorem ref_place (fs : List ByteArray) (l : List (S48)) (id : ByteArray) (hn : l.length ≤ 9223372036854775807) (k : Nat) (hk : l.length < k) : q24.f k fs l id = some (q85 l id) := ref_place_at fs l id hn l.length 0 k (by omega) hk (fun j hj => by omega)
theorem refLegal3 (a b : Int) : q19.f 3 a b = some (legalB a b) := by
 unfold q19.f legalB
 by_cases h1 : a < 1
 ·rw [if_pos h1]
  simp only [q19.j0, if_true]
  by_cases h15 : b = 1 ∨ b = 5
  ·rw [if_pos h15, decide_eq_false (by omega)]
  ·rw [if_neg h15]
   by_cases h23 : b = 2 ∨ b = 3
   ·rw [if_pos h23, decide_eq_false (by omega)]
   ·rw [if_neg h23]
    by_cases h4 : b = 4
    ·rw [if_pos h4, decide_eq_false (by omega)]
    ·rw [if_neg h4]
 ·rw [if_neg h1]
  by_cases h5 : a > 5
  ·rw [decide_eq_true h5]
   simp only [q19.j0, if_true]
   by_cases h15 : b = 1 ∨ b = 5
   ·rw [if_pos h15, decide_eq_false (by omega)]
   ·rw [if_neg h15]
    by_cases h23 : b = 2 ∨ b = 3
    ·rw [if_pos h23, decide_eq_false (by omega)]
    ·rw [if_neg h23]
     by_cases h4 : b = 4
     ·rw [if_pos h4, decide_eq_false (by omega)]
     ·rw [if_neg h4]
  ·rw [decide_eq_false h5]
   simp only [q19.j0, Bool.false_eq_true, if_false]
   by_cases e1 : b = 1
   ·subst e1; simp [q19.j1]; omega
   ·rw [if_neg e1]
    by_cases e5 : b = 5
    ·subst e5; simp [q19.j1]; omega
    ·rw [show (b == 5) = false by simpa using e5, if_neg (by omega)]
     simp only [q19.j1, Bool.false_eq_true, if_false]
     by_cases e2 : b = 2
     ·subst e2; simp [q19.j2]; rw [Bool.eq_iff_iff]; simp; omega
     ·rw [if_neg e2]
      by_cases e3 : b = 3
      ·subst e3; simp [q19.j2]; rw [Bool.eq_iff_iff]; simp; omega
      ·rw [show (b == 3) = false by simpa using e3, if_neg (by omega)]
       simp only [q19.j2, Bool.false_eq_true, if_false]
       by_cases e4 : b = 4
       ·subst e4; simp; rw [Bool.eq_iff_iff]; simp; omega
       ·simp [e4]
theorem Ev.at {α : Type} {g : Nat → Option α} {r : α} (K : Nat) (h : ∀ k, K ≤ k → g k = some r) : Ev g r := ⟨K, h⟩
theorem ev_place (fs : List ByteArray) (l : List (S48)) (id : ByteArray) (hn : l.length ≤ 9223372036854775807) : Ev (fun k => q24.f k fs l id) (q85 l id) := Ev.at (l.length + 1) (fun k hk => ref_place fs l id hn k (by omega))
theorem ev_l2 (fs : List ByteArray) (l : List (S48)) (on : List (S103)) (ifs : List (S50)) (hf : fs.length ≤ 9223372036854775807) (hn : ifs.length ≤ 9223372036854775807) (d : Nat) : ∀ i : Nat, i + d = ifs.length → Ev (fun k => q16.l2 k (i : Int) fs l on ifs) ((ifs.drop i).all (fun c => ifB fs c.f0 c.f1 c.f2)) := by
  induction d with
  | zero =>
    intro i hi
    refine Ev.step (f := fun _ => some true) (fun k => ?_) ?_
    · simp only [q16.l2]
      rw [if_neg (by omega)]
    · rw [List.drop_of_length_le (by omega)]
      exact Ev.now true
  | succ d ih =>
    intro i hi
    have hlt : i < ifs.length := by omega
    have hrd : q90 ifs (i : Int) = ifs[i] := by simp [q90, List.getD_eq_getElem?_getD, List.getElem?_eq_getElem hlt]
    refine Ev.step (f := fun k => (q31.f k fs (ifs[i]).f0).bind fun t => (if t = true then ((q39.f k (ifs[i]).f1).bind fun t2 => (if t2 < 0 then (some false) else (if (ifs[i]).f2 < (-1000000) then (some false) else (if (ifs[i]).f2 > 1000000 then (some false) else (q16.l2 k (((i + 1 : Nat)) : Int) fs l on ifs))))) else (some false))) (fun k => ?_) ?_
    · simp only [q16.l2]
      rw [if_pos (by omega), if_pos (by omega), hrd, wrap_lt (n := (ifs.length : Int)) (by omega) (by omega) (by omega)]
      rfl
    · rw [List.drop_eq_getElem_cons hlt, List.all_cons]
      refine Ev.bind (Ev.at (fs.length + 1) (fun k hk => ref_file fs _ hf k (by omega))) ?_
      unfold ifB
      cases memB fs (ifs[i]).f0 with
      | false =>
        refine Ev.congr (fun k => if_neg (by simp)) ?_
        rw [Bool.false_and, Bool.and_false, Bool.false_and]
        exact Ev.now false
      | true =>
        refine Ev.congr (fun k => if_pos rfl) ?_
        obtain ⟨r, hr, hd⟩ := ref_op (ifs[i]).f1 7 (by omega)
        refine Ev.bind (Ev.at 7 (fun k hk => at_rounds (fun k => q39.mono _ k) hk hr)) ?_
        by_cases h0 : r < 0
        · have : memB opsL (ifs[i]).f1 = false := by rw [decide_eq_true h0] at hd; simpa using hd.symm
          rw [this, Bool.false_and, Bool.false_and]
          refine Ev.congr (fun k => if_pos h0) (Ev.now false)
        · have : memB opsL (ifs[i]).f1 = true := by rw [decide_eq_false h0] at hd; simpa using hd.symm
          rw [this, Bool.true_and, Bool.true_and]
          refine Ev.congr (fun k => if_neg h0) ?_
          by_cases h1 : (ifs[i]).f2 < -1000000
          · rw [decide_eq_false (by omega), Bool.false_and]
            exact Ev.congr (fun k => if_pos h1) (Ev.now false)
          · by_cases h2 : (ifs[i]).f2 > 1000000
            · rw [decide_eq_false (by omega), Bool.false_and]
              exact Ev.congr (fun k => (if_neg h1).trans (if_pos h2)) (Ev.now false)
            · rw [decide_eq_true (by omega), Bool.true_and]
              exact Ev.congr (fun k => (if_neg h1).trans (if_neg h2)) (ih (i + 1) (by omega))
theorem ev_l1 (fs : List ByteArray) (l : List (S48)) (on : List (S103)) (ifs : List (S50)) (hn : on.length ≤ 9223372036854775807) (i : Nat) (hi : i < on.length) (R : Bool) (hR : Ev (fun k => q16.l0 k (((i + 1 : Nat)) : Int) fs l on ifs) R) (d : Nat) : ∀ j : Nat, j + d = i → Ev (fun k => q16.l1 k (i : Int) (j : Int) fs l on ifs) (!(((on.take i).drop j).any (hasOn_p (q87 on i).f0 (q87 on i).f1)) && R) := by
  induction d with
  | zero =>
    intro j hj
    refine Ev.step (f := fun k => q16.l0 k (((i + 1 : Nat)) : Int) fs l on ifs) (fun k => ?_) ?_
    · simp only [q16.l1]
      rw [if_neg (by omega), wrap_lt (n := (on.length : Int)) (by omega) (by omega) (by omega)]
      rfl
    · rw [List.drop_of_length_le (by rw [List.length_take]; omega)]
      simpa using hR
  | succ d ih =>
    intro j hj
    have hjl : j < (on.take i).length := by rw [List.length_take]; omega
    have hrd : q87 on (j : Int) = (on.take i)[j] := by simp [q87, List.getD_eq_getElem?_getD, List.getElem?_eq_getElem (show j < on.length by omega)]
    rw [List.drop_eq_getElem_cons hjl, List.any_cons]
    have hsym : ((((on.take i)[j]).f0.toList == (q87 on i).f0.toList) && (((on.take i)[j]).f1 == (q87 on i).f1)) = hasOn_p (q87 on i).f0 (q87 on i).f1 (on.take i)[j] := by
      unfold hasOn_p
      rw [Bool.eq_iff_iff]
      simp only [Bool.and_eq_true, beq_iff_eq]
      exact ⟨fun h => ⟨h.1.symm, h.2.symm⟩, fun h => ⟨h.1.symm, h.2.symm⟩⟩
    refine Ev.step (f := fun k => if hasOn_p (q87 on i).f0 (q87 on i).f1 (on.take i)[j] = true then some false else q16.l1 k (i : Int) (((j + 1 : Nat)) : Int) fs l on ifs) (fun k => ?_) ?_
    · simp only [q16.l1]
      rw [if_pos (by omega), if_pos (by omega), if_pos (by omega), if_pos (by omega), if_pos (by omega), hrd, hsym, wrap_lt (n := (on.length : Int)) (by omega) (by omega) (by omega)]
      rfl
    · cases hq : hasOn_p (q87 on i).f0 (q87 on i).f1 (on.take i)[j] with
      | true => exact Ev.congr (fun k => if_pos rfl) (by simpa using Ev.now false)
      | false => exact Ev.congr (fun k => if_neg (by simp)) (by simpa using ih (j + 1) (by omega))
theorem ev_l0 (fs : List ByteArray) (l : List (S48)) (on : List (S103)) (ifs : List (S50)) (hf : fs.length ≤ 9223372036854775807) (hl : l.length ≤ 9223372036854775807) (hn : on.length ≤ 9223372036854775807) (hi2 : ifs.length ≤ 9223372036854775807) (d : Nat) : ∀ i : Nat, i + d = on.length → Ev (fun k => q16.l0 k (i : Int) fs l on ifs) ((List.range' i d).all (onOk l on) && ifs.all (fun c => ifB fs c.f0 c.f1 c.f2)) := by
  induction d with
  | zero =>
    intro i hi
    refine Ev.step (f := fun k => q16.l2 k ((0 : Nat) : Int) fs l on ifs) (fun k => ?_) ?_
    · simp only [q16.l0]
      rw [if_neg (by omega)]
      rfl
    · simpa using ev_l2 fs l on ifs hf hi2 ifs.length 0 (by omega)
  | succ d ih =>
    intro i hi
    have hlt : i < on.length := by omega
    rw [List.range'_succ, List.all_cons]
    have hok : onOk l on i = (onB l (q87 on i).f0 (q87 on i).f1 && !hasOn (on.take i) (q87 on i).f0 (q87 on i).f1) := rfl
    rw [hok]
    refine Ev.step (f := fun k => (q24.f k fs l (q87 on i).f0).bind fun t => (if t < 0 then (q16.j2 k (i : Int) true fs l on ifs) else (if 0 ≤ t then (if t < (l.length : Int) then ((q19.f k ((q89 l t).f1) ((q87 on i).f1)).bind fun t2 => (q16.j2 k (i : Int) (!t2) fs l on ifs)) else (none)) else (none)))) (fun k => ?_) ?_
    · simp only [q16.l0]
      rw [if_pos (by omega), if_pos (by omega)]
    · refine Ev.bind (ev_place fs l _ hl) ?_
      have hj2f : Ev (fun k => q16.j2 k (i : Int) true fs l on ifs) false := Ev.step (f := fun _ => some false) (fun k => by simp [q16.j2]) (Ev.now false)
      have hj2t : Ev (fun k => q16.j2 k (i : Int) false fs l on ifs) (!hasOn (on.take i) (q87 on i).f0 (q87 on i).f1 && ((List.range' (i + 1) d).all (onOk l on) && ifs.all (fun c => ifB fs c.f0 c.f1 c.f2))) := by
        refine Ev.step (f := fun k => q16.l1 k (i : Int) ((0 : Nat) : Int) fs l on ifs) (fun k => by simp [q16.j2]) ?_
        have := ev_l1 fs l on ifs hn i hlt _ (ih (i + 1) (by omega)) i 0 (by omega)
        simpa [hasOn] using this
      unfold onB
      by_cases hp : 0 ≤ q85 l (q87 on i).f0
      · rw [if_pos hp]
        refine Ev.congr (fun k => (if_neg (by omega)).trans ((if_pos hp).trans (if_pos (placeI_lt l _)))) ?_
        refine Ev.bind (Ev.at 3 (fun k hk => at_rounds (fun k => q19.mono _ _ k) hk (refLegal3 _ _))) ?_
        cases legalB (q89 l (q85 l (q87 on i).f0)).f1 (q87 on i).f1 with
        | true => simpa [Bool.and_assoc] using hj2t
        | false => simpa using hj2f
      · rw [if_neg hp]
        exact Ev.congr (fun k => if_pos (by omega)) (by simpa using hj2f)
theorem ev_sentry (fs : List ByteArray) (l : List (S48)) (on : List (S103)) (ifs : List (S50)) (hf : fs.length ≤ 9223372036854775807) (hl : l.length ≤ 9223372036854775807) (hn : on.length ≤ 9223372036854775807) (hi2 : ifs.length ≤ 9223372036854775807) : Ev (fun k => q16.f k fs l on ifs) (sentryB fs l on ifs) := by
 have hjf : Ev (fun k => q16.j0 k true fs l on ifs) false := Ev.step (f := fun _ => some false) (fun k => by simp [q16.j0]) (Ev.now false)
 unfold q16.f sentryB
 by_cases h3 : on.length > 3
 ·rw [decide_eq_false (by omega), Bool.false_and]
  exact Ev.congr (fun k => if_pos (by omega)) hjf
 by_cases h2 : ifs.length > 2
 ·rw [decide_eq_false (by omega), Bool.false_and]
  exact Ev.congr (fun k => (if_neg (by omega)).trans (if_pos (by omega))) hjf
 refine Ev.congr (fun k => (if_neg (by omega)).trans (if_neg (by omega))) ?_
 have hw : wrap64 ((on.length : Int) + (ifs.length : Int)) = (on.length : Int) + (ifs.length : Int) := by unfold wrap64; omega
 rw [hw]
 by_cases h0 : on.length + ifs.length = 0
 ·rw [decide_eq_false (by omega), Bool.false_and, show (((on.length : Int) + (ifs.length : Int)) == 0) = true by simp; omega]
  exact hjf
 ·rw [decide_eq_true (by omega), Bool.true_and, show (((on.length : Int) + (ifs.length : Int)) == 0) = false by
   have : (on.length : Int) + (ifs.length : Int) ≠ 0 := by omega
   simpa using this]
  refine Ev.step (f := fun k => q16.l0 k ((0 : Nat) : Int) fs l on ifs) (fun k => by simp [q16.j0]) ?_
  have := ev_l0 fs l on ifs hf hl hn hi2 on.length 0 (by omega)
  rw [List.range_eq_range']
  have he : ifsOk fs ifs = ifs.all (fun c => ifB fs c.f0 c.f1 c.f2) := by unfold ifsOk; rw [List.not_any_eq_all_not]; simp
  rw [he]
  exact this
theorem ev_sentries_at (fs : List ByteArray) (l : List (S48)) (ss : List (S54)) (hf : fs.length ≤ 9223372036854775807) (hl : l.length ≤ 9223372036854775807) (hs : ss.length ≤ 9223372036854775807) (hg : ∀ s ∈ ss, s.f0.length ≤ 9223372036854775807 ∧ s.f1.length ≤ 9223372036854775807) (d : Nat) : ∀ i : Nat, i + d = ss.length → Ev (fun k => q12.l0 k ss (i : Int) fs l) ((ss.drop i).all (fun s => sentryB fs l s.f0 s.f1) && decide (ss.length ≤ 3)) := by
  induction d with
  | zero =>
    intro i hi
    refine Ev.step (f := fun _ => some (decide ((ss.length : Int) ≤ 3))) (fun k => ?_) ?_
    · simp only [q12.l0]
      rw [if_neg (by omega)]
    · rw [List.drop_of_length_le (by omega), List.all_nil, Bool.true_and, show decide (ss.length ≤ 3) = decide ((ss.length : Int) ≤ 3) by rw [decide_eq_decide]; omega]
      exact Ev.now _
  | succ d ih =>
    intro i hi
    have hlt : i < ss.length := by omega
    have hrd : q91 ss (i : Int) = ss[i] := by simp [q91, List.getD_eq_getElem?_getD, List.getElem?_eq_getElem hlt]
    rw [List.drop_eq_getElem_cons hlt, List.all_cons]
    refine Ev.step (f := fun k => (q16.f k fs l (ss[i]).f0 (ss[i]).f1).bind fun t => (if t = true then (q12.l0 k ss (((i + 1 : Nat)) : Int) fs l) else (some false))) (fun k => ?_) ?_
    · simp only [q12.l0]
      rw [if_pos (by omega), if_pos (by omega), hrd, wrap_lt (n := (ss.length : Int)) (by omega) (by omega) (by omega)]
      rfl
    · have hgi := hg ss[i] (List.getElem_mem hlt)
      refine Ev.bind (ev_sentry fs l _ _ hf hl hgi.1 hgi.2) ?_
      cases sentryB fs l (ss[i]).f0 (ss[i]).f1 with
      | true => exact Ev.congr (fun k => if_pos rfl) (by simpa using ih (i + 1) (by omega))
      | false => exact Ev.congr (fun k => if_neg (by simp)) (by simpa using Ev.now false)
theorem ev_sentries (fs : List ByteArray) (l : List (S48)) (ss : List (S54)) (hf : fs.length ≤ 9223372036854775807) (hl : l.length ≤ 9223372036854775807) (hs : ss.length ≤ 9223372036854775807) (hg : ∀ s ∈ ss, s.f0.length ≤ 9223372036854775807 ∧ s.f1.length ≤ 9223372036854775807) : Ev (fun k => q12.f k fs l ss) (sentsB fs l ss) := by
 have := ev_sentries_at fs l ss hf hl hs hg ss.length 0 (by omega)
 have e : sentsB fs l ss = ((ss.drop 0).all (fun s => sentryB fs l s.f0 s.f1) && decide (ss.length ≤ 3)) := by
  unfold sentsB
  rw [List.not_any_eq_all_not, Bool.and_comm]
  simp
 rw [e]
 exact this
theorem ev_name (s : ByteArray) : Ev (fun k => q37.f k s) (nameB s) := Ev.at 15 (fun k hk => ref_name s k hk)
abbrev nmA (l : List (S48)) (i : Int) : ByteArray := (q89 l i).f0
abbrev kdA (l : List (S48)) (i : Int) : Int := (q89 l i).f1
abbrev paA (l : List (S48)) (i : Int) : ByteArray := (q89 l i).f2
def wnF (l : List (S48)) (id : ByteArray) : Nat → Int → Bool
 | 0, _ => false
 | d + 1, x => if x ≥ 0 then (if (nmA l x).toList = id.toList then true else wnF l id d (q85 l (paA l x))) else false
def dpF (l : List (S48)) : Nat → Int → Int → Int
 | 0, _, _ => -1
 | d + 1, x, c => if x > 0 then dpF l d (q85 l (paA l x)) (c + 1) else if x < 0 then -1 else c
theorem ev_within_at (fs : List ByteArray) (l : List (S48)) (id : ByteArray) (hn : l.length ≤ 9223372036854775806) (d : Nat) : ∀ (x : Int) (c : Nat), c + d = l.length + 1 → x < l.length → Ev (fun k => q17.l0 k x id (c : Int) fs l) (wnF l id d x) := by
  induction d with
  | zero =>
    intro x c hc hx
    unfold wnF
    by_cases h : x ≥ 0
    · refine Ev.step (f := fun k => q17.j1 k x id (c : Int) false fs l) (fun k => ?_) ?_
      · simp only [q17.l0]
        rw [if_pos h, decide_eq_false (by omega)]
      · exact Ev.step (f := fun _ => some false) (fun k => by simp [q17.j1]) (Ev.now false)
    · refine Ev.step (f := fun k => q17.j1 k x id (c : Int) false fs l) (fun k => ?_) ?_
      · simp only [q17.l0]
        rw [if_neg h]
      · exact Ev.step (f := fun _ => some false) (fun k => by simp [q17.j1]) (Ev.now false)
  | succ d ih =>
    intro x c hc hx
    unfold wnF
    by_cases h : x ≥ 0
    · rw [if_pos h]
      refine Ev.step (f := fun k => q17.j1 k x id (c : Int) true fs l) (fun k => ?_) ?_
      · simp only [q17.l0]
        rw [if_pos h, decide_eq_true (by omega)]
      · refine Ev.step (f := fun k => if (nmA l x).toList = id.toList then (some true) else ((q24.f k fs l (paA l x)).bind fun t => (q17.l0 k t id (((c + 1 : Nat)) : Int) fs l))) (fun k => ?_) ?_
        · simp only [q17.j1]
          rw [if_pos trivial, if_pos h, if_pos hx, show wrap64 ((c : Int) + 1) = ((c + 1 : Nat) : Int) by unfold wrap64; omega]
        · by_cases he : (nmA l x).toList = id.toList
          · rw [if_pos he]
            exact Ev.congr (fun k => if_pos he) (Ev.now true)
          · rw [if_neg he]
            exact Ev.congr (fun k => if_neg he) (Ev.bind (ev_place fs l _ (by omega)) (ih _ (c + 1) (by omega) (placeI_lt l _)))
    · rw [if_neg h]
      refine Ev.step (f := fun k => q17.j1 k x id (c : Int) false fs l) (fun k => ?_) ?_
      · simp only [q17.l0]
        rw [if_neg h]
      · exact Ev.step (f := fun _ => some false) (fun k => by simp [q17.j1]) (Ev.now false)
theorem ev_within (fs : List ByteArray) (l : List (S48)) (id : ByteArray) (hn : l.length ≤ 9223372036854775806) (x : Int) (hx : x < l.length) : Ev (fun k => q17.f k fs l x id) (wnF l id (l.length + 1) x) := ev_within_at fs l id hn (l.length + 1) x 0 (by omega) hx
theorem ev_depth_at (fs : List ByteArray) (l : List (S48)) (hn : l.length ≤ 9223372036854775806) (d : Nat) : ∀ (x : Int) (c : Nat), c + d = l.length + 1 → x < l.length → Ev (fun k => q21.l0 k x (c : Int) fs l) (dpF l d x c) := by
  induction d with
  | zero =>
    intro x c hc hx
    unfold dpF
    refine Ev.step (f := fun _ => some (-1)) (fun k => ?_) (Ev.now _)
    simp only [q21.l0]
    by_cases h : x > 0
    · rw [if_pos h, if_neg (by omega), if_neg (by omega), if_pos (by omega)]
    · rw [if_neg h]
      by_cases h2 : x < 0
      · rw [if_pos h2]
      · rw [if_neg h2, if_pos (by omega)]
  | succ d ih =>
    intro x c hc hx
    unfold dpF
    by_cases h : x > 0
    · rw [if_pos h]
      refine Ev.step (f := fun k => ((q24.f k fs l (paA l x)).bind fun t => (q21.l0 k t (((c + 1 : Nat)) : Int) fs l))) (fun k => ?_) ?_
      · simp only [q21.l0]
        rw [if_pos h, if_pos (by omega), if_pos (by omega), if_pos hx, show wrap64 ((c : Int) + 1) = ((c + 1 : Nat) : Int) by unfold wrap64; omega]
      · exact Ev.bind (ev_place fs l _ (by omega)) (ih _ (c + 1) (by omega) (placeI_lt l _))
    · rw [if_neg h]
      by_cases h2 : x < 0
      · rw [if_pos h2]
        refine Ev.step (f := fun _ => some (-1)) (fun k => ?_) (Ev.now _)
        simp only [q21.l0]
        rw [if_neg h, if_pos h2]
      · rw [if_neg h2]
        refine Ev.step (f := fun _ => some (c : Int)) (fun k => ?_) (Ev.now _)
        simp only [q21.l0]
        rw [if_neg h, if_neg h2, if_neg (by omega)]
theorem ev_depth (fs : List ByteArray) (l : List (S48)) (hn : l.length ≤ 9223372036854775806) (x : Int) (hx : x < l.length) : Ev (fun k => q21.f k fs l x) (dpF l (l.length + 1) x 0) := ev_depth_at fs l hn (l.length + 1) x 0 (by omega) hx
def rplace (l : List (S48)) (i : Nat) : Bool :=
 if i = 0 then planB (q89 l i).f1 (q89 l i).f2 (q89 l i).f3 (q89 l i).f5.length (q89 l i).f6.length
 else !decide ((paA l i).toList = []) && (decide (0 ≤ q85 l (paA l i) ∧ q85 l (paA l i) < i ∧ kdA l (q85 l (paA l i)) = 1) && (wnF l (paA l i) (l.length + 1) ((i : Int) - 1) && decide (1 ≤ dpF l (l.length + 1) i 0 ∧ dpF l (l.length + 1) i 0 ≤ 5)))
def rown (x : S48) : Bool := decide (1 ≤ x.f1 ∧ x.f1 ≤ 5) && ((if x.f1 = 5 then decide (1 ≤ x.f4 ∧ x.f4 ≤ 100) else decide (x.f4 = 0)) && !(decide (x.f1 ≥ 4) && (x.f3 || decide (0 < x.f5.length))))
def ritem (l : List (S48)) (i : Nat) : Bool :=
 nameB (nmA l i) && (decide (q85 l (nmA l i) = i) && (rown (q89 l i) && rplace l i))
theorem ev_j2f (fs : List ByteArray) (l : List (S48)) (i : Int) (a0 : ByteArray) (a1 : Int) (a2 : ByteArray) (a3 : Bool) (a4 : Int) (l5 l6 : List (S54)) : Ev (fun k => q32.j2 k i true fs l a0 a1 a2 a3 a4 l5 l6) false := Ev.step (f := fun _ => some false) (fun k => by simp [q32.j2]) (Ev.now false)
theorem ev_j2 (fs : List ByteArray) (l : List (S48)) (hn : l.length ≤ 9223372036854775806) (i : Nat) (hi : i < l.length) (x : S48) (hx : x = q89 l i) : Ev (fun k => q32.j2 k i false fs l x.f0 x.f1 x.f2 x.f3 x.f4 x.f5 x.f6) (rplace l i) := by
  unfold rplace
  rw [← hx]
  show Ev _ (if i = 0 then planB x.f1 x.f2 x.f3 x.f5.length x.f6.length else !decide ((paA l i).toList = []) && (decide (0 ≤ q85 l (paA l i) ∧ q85 l (paA l i) < i ∧ kdA l (q85 l (paA l i)) = 1) && (wnF l (paA l i) (l.length + 1) ((i : Int) - 1) && decide (1 ≤ dpF l (l.length + 1) i 0 ∧ dpF l (l.length + 1) i 0 ≤ 5))))
  have hpa : paA l i = x.f2 := by rw [hx]
  rw [hpa]
  by_cases h0 : i = 0
  · rw [if_pos h0]
    unfold planB
    refine Ev.step (f := fun _ => some (decide (x.f1 = 1) && (decide (x.f2.toList = []) && (!x.f3 && decide (x.f5.length + x.f6.length = 0))))) (fun k => ?_) (Ev.now _)
    simp only [q32.j2]
    rw [if_neg (by simp), if_pos (by omega)]
    by_cases h1 : x.f1 = 1
    · by_cases h2 : x.f2.toList = []
      · cases h3 : x.f3 with
        | true => simp [h1, h2]
        | false =>
          by_cases h5 : x.f5.length = 0
          · by_cases h6 : x.f6.length = 0 <;> simp [h1, h2, h5, h6] <;> omega
          · have : ¬ ((x.f5.length : Int) = 0) := by omega
            simp [h1, h2, h5, this]
            
      · simp [h1, h2]
    · simp [h1]
  · rw [if_neg h0]
    refine Ev.step (f := fun k => ((q24.f k fs l x.f2).bind fun t180 => (if x.f2.toList = ([] : List UInt8) then (some false) else (if t180 ≥ 0 then (if t180 < (i : Int) then (if 0 ≤ t180 then (if t180 < (l.length : Int) then (if ((q89 l t180).f1) = 1 then ((q17.f k fs l ((i : Int) - 1) x.f2).bind fun t182 => (if t182 = true then ((q21.f k fs l i).bind fun t183 => (if t183 ≥ 1 then ((q21.f k fs l i).bind fun t184 => (some (decide (t184 ≤ 5)))) else (some false))) else (some false))) else (some false)) else (none)) else (none)) else (some false)) else (some false))))) (fun k => ?_) ?_
    · simp only [q32.j2]
      rw [if_neg (by simp), if_neg (by omega), show wrap64 ((i : Int) - 1) = (i : Int) - 1 by unfold wrap64; omega]
    · refine Ev.bind (ev_place fs l _ (by omega)) ?_
      by_cases h1 : x.f2.toList = []
      · rw [decide_eq_true h1, Bool.not_true, Bool.false_and]
        exact Ev.congr (fun k => if_pos h1) (Ev.now false)
      rw [decide_eq_false h1, Bool.not_false, Bool.true_and]
      refine Ev.congr (fun k => if_neg h1) ?_
      by_cases h2 : 0 ≤ q85 l x.f2
      case neg =>
        rw [decide_eq_false (fun h => h2 h.1), Bool.false_and]
        exact Ev.congr (fun k => if_neg h2) (Ev.now false)
      refine Ev.congr (fun k => if_pos h2) ?_
      by_cases h3 : q85 l x.f2 < (i : Int)
      case neg =>
        rw [decide_eq_false (fun h => h3 h.2.1), Bool.false_and]
        exact Ev.congr (fun k => if_neg h3) (Ev.now false)
      refine Ev.congr (fun k => (if_pos h3).trans ((if_pos h2).trans (if_pos (placeI_lt l _)))) ?_
      by_cases h4 : kdA l (q85 l x.f2) = 1
      case neg =>
        rw [decide_eq_false (fun h => h4 h.2.2), Bool.false_and]
        exact Ev.congr (fun k => if_neg h4) (Ev.now false)
      rw [decide_eq_true ⟨h2, h3, h4⟩, Bool.true_and]
      refine Ev.congr (fun k => if_pos h4) ?_
      refine Ev.bind (ev_within fs l x.f2 hn _ (by omega)) ?_
      cases wnF l x.f2 (l.length + 1) ((i : Int) - 1) with
      | false => exact Ev.congr (fun k => if_neg (by simp)) (by simpa using Ev.now false)
      | true =>
        rw [Bool.true_and]
        refine Ev.congr (fun k => if_pos rfl) ?_
        refine Ev.bind (ev_depth fs l hn _ (by omega)) ?_
        by_cases h5 : dpF l (l.length + 1) i 0 ≥ 1
        case neg =>
          rw [decide_eq_false (fun h => h5 h.1)]
          exact Ev.congr (fun k => if_neg h5) (Ev.now false)
        refine Ev.congr (fun k => if_pos h5) ?_
        refine Ev.bind (ev_depth fs l hn _ (by omega)) ?_
        rw [show decide (1 ≤ dpF l (l.length + 1) i 0 ∧ dpF l (l.length + 1) i 0 ≤ 5) = decide (dpF l (l.length + 1) i 0 ≤ 5) by rw [decide_eq_decide]; exact ⟨fun h => h.2, fun h => ⟨h5, h⟩⟩]
        exact Ev.now _
theorem ev_item (fs : List ByteArray) (l : List (S48)) (hn : l.length ≤ 9223372036854775806) (i : Nat) (hi : i < l.length) : Ev (fun k => q32.f k fs l i) (ritem l i) := by
  obtain ⟨x, hx⟩ : ∃ x, x = q89 l i := ⟨_, rfl⟩
  unfold q32.f ritem nmA
  rw [← hx]
  refine Ev.congr (fun k => (if_pos (by omega)).trans (if_pos (by omega))) ?_
  refine Ev.bind (ev_name _) ?_
  have hj0f : Ev (fun k => q32.j0 k i true fs l x.f0 x.f1 x.f2 x.f3 x.f4 x.f5 x.f6) false := Ev.step (f := fun _ => some false) (fun k => by simp [q32.j0]) (Ev.now false)
  cases nameB x.f0 with
  | false => exact Ev.congr (fun k => if_neg (by simp)) (by simpa using hj0f)
  | true =>
    rw [Bool.true_and]
    refine Ev.congr (fun k => if_pos rfl) (Ev.bind (ev_place fs l _ (by omega)) ?_)
    by_cases h1 : q85 l x.f0 = (i : Int)
    case neg =>
      rw [decide_eq_false h1, Bool.false_and]
      exact Ev.congr (fun k => if_neg h1) hj0f
    rw [decide_eq_true h1, Bool.true_and]
    refine Ev.congr (fun k => if_pos h1) ?_
    unfold rown
    by_cases h2 : x.f1 < 1
    · rw [decide_eq_false (p := 1 ≤ x.f1 ∧ x.f1 ≤ 5) (by omega), Bool.false_and, Bool.false_and]
      exact Ev.congr (fun k => if_pos h2) hj0f
    refine Ev.congr (fun k => if_neg h2) ?_
    by_cases h3 : x.f1 > 5
    · rw [decide_eq_false (p := 1 ≤ x.f1 ∧ x.f1 ≤ 5) (by omega), Bool.false_and, Bool.false_and, decide_eq_true (p := x.f1 > 5) h3]
      exact hj0f
    rw [decide_eq_true (p := 1 ≤ x.f1 ∧ x.f1 ≤ 5) (by omega), Bool.true_and, decide_eq_false (p := x.f1 > 5) h3]
    obtain ⟨T, hT⟩ : ∃ T, T = (if x.f1 = 5 then decide (1 ≤ x.f4 ∧ x.f4 ≤ 100) else decide (x.f4 = 0)) := ⟨_, rfl⟩
    rw [← hT]
    refine Ev.step (f := fun k => q32.j1 k i T fs l x.f0 x.f1 x.f2 x.f3 x.f4 x.f5 x.f6) (fun k => ?_) ?_
    · simp only [q32.j0, Bool.false_eq_true, if_false]
      rw [hT]
      by_cases h5 : x.f1 = 5
      · rw [if_pos h5, if_pos h5]
        by_cases ha : x.f4 ≥ 1
        · rw [if_pos ha, show decide (1 ≤ x.f4 ∧ x.f4 ≤ 100) = decide (x.f4 ≤ 100) by rw [decide_eq_decide]; omega]
        · rw [if_neg ha, decide_eq_false (by omega)]
      · rw [if_neg h5, if_neg h5]
        rfl
    · have hj2 := ev_j2 fs l hn i hi x hx
      have hj2f := ev_j2f fs l i x.f0 x.f1 x.f2 x.f3 x.f4 x.f5 x.f6
      cases T with
      | false => exact Ev.step (f := fun k => q32.j2 k i true fs l x.f0 x.f1 x.f2 x.f3 x.f4 x.f5 x.f6) (fun k => by simp [q32.j1]) (by simpa using hj2f)
      | true =>
        by_cases h4 : x.f1 ≥ 4
        · rw [decide_eq_true (p := x.f1 ≥ 4) h4, Bool.true_and]
          cases h6 : x.f3 with
          | true =>
            refine Ev.step (f := fun k => q32.j2 k i true fs l x.f0 x.f1 x.f2 true x.f4 x.f5 x.f6) (fun k => by simp [q32.j1, h4]) ?_
            rw [h6] at hj2f
            simpa using hj2f
          | false =>
            rw [h6] at hj2 hj2f
            by_cases h7 : 0 < x.f5.length
            · refine Ev.step (f := fun k => q32.j2 k i true fs l x.f0 x.f1 x.f2 false x.f4 x.f5 x.f6) (fun k => ?_) ?_
              · simp only [q32.j1]
                rw [if_pos trivial, if_pos h4, if_neg (by simp), decide_eq_true (by omega)]
              · rw [decide_eq_true h7]; simpa using hj2f
            · refine Ev.step (f := fun k => q32.j2 k i false fs l x.f0 x.f1 x.f2 false x.f4 x.f5 x.f6) (fun k => ?_) ?_
              · simp only [q32.j1]
                rw [if_pos trivial, if_pos h4, if_neg (by simp), decide_eq_false (by omega)]
              · rw [decide_eq_false h7]; simpa using hj2
        · rw [decide_eq_false (p := x.f1 ≥ 4) h4, Bool.false_and]
          refine Ev.step (f := fun k => q32.j2 k i false fs l x.f0 x.f1 x.f2 x.f3 x.f4 x.f5 x.f6) (fun k => ?_) (by simpa using hj2)
          simp only [q32.j1]
          rw [if_pos trivial, if_neg h4]
def risB (fs : List ByteArray) (l : List (S48)) : Bool :=
 decide (fs.length ≤ 6 ∧ 1 ≤ l.length ∧ l.length ≤ 16) && (namesB fs && ((List.range l.length).all (ritem l) && l.all (fun x => sentsB fs l x.f5 && sentsB fs l x.f6)))
def Fits (fs : List ByteArray) (l : List (S48)) : Prop := fs.length ≤ 9223372036854775806 ∧ l.length ≤ 9223372036854775806 ∧ ∀ x ∈ l, (x.f5.length ≤ 9223372036854775806 ∧ ∀ s ∈ x.f5, s.f0.length ≤ 9223372036854775806 ∧ s.f1.length ≤ 9223372036854775806) ∧ (x.f6.length ≤ 9223372036854775806 ∧ ∀ s ∈ x.f6, s.f0.length ≤ 9223372036854775806 ∧ s.f1.length ≤ 9223372036854775806)
theorem ev_is2 (fs : List ByteArray) (l : List (S48)) (hF : Fits fs l) (d : Nat) : ∀ i : Nat, i + d = l.length → Ev (fun k => q40.l2 k (i : Int) fs l) ((l.drop i).all (fun x => sentsB fs l x.f5 && sentsB fs l x.f6)) := by
  obtain ⟨h1, h2, h3⟩ := hF
  induction d with
  | zero =>
    intro i hi
    refine Ev.step (f := fun _ => some true) (fun k => ?_) ?_
    · simp only [q40.l2]
      rw [if_neg (by omega)]
    · rw [List.drop_of_length_le (by omega)]
      exact Ev.now true
  | succ d ih =>
    intro i hi
    have hlt : i < l.length := by omega
    have hrd : q89 l (i : Int) = l[i] := by simp [q89, List.getD_eq_getElem?_getD, List.getElem?_eq_getElem hlt]
    rw [List.drop_eq_getElem_cons hlt, List.all_cons]
    obtain ⟨⟨a5, b5⟩, a6, b6⟩ := h3 l[i] (List.getElem_mem hlt)
    refine Ev.step (f := fun k => ((q12.f k fs l (l[i].f5)).bind fun t213 => (if t213 = true then ((q12.f k fs l (l[i].f6)).bind fun t215 => (if t215 = true then (q40.l2 k (((i + 1 : Nat)) : Int) fs l) else (some false))) else (some false)))) (fun k => ?_) ?_
    · simp only [q40.l2]
      rw [if_pos (by omega), if_pos (by omega), hrd, wrap_lt (n := (l.length : Int)) (by omega) (by omega) (by omega)]
      rfl
    · refine Ev.bind (ev_sentries fs l _ (by omega) (by omega) (by omega) (fun s hs => ⟨by have := (b5 s hs).1; omega, by have := (b5 s hs).2; omega⟩)) ?_
      cases sentsB fs l l[i].f5 with
      | false => exact Ev.congr (fun k => if_neg (by simp)) (by simpa using Ev.now false)
      | true =>
        rw [Bool.true_and]
        refine Ev.congr (fun k => if_pos rfl) ?_
        refine Ev.bind (ev_sentries fs l _ (by omega) (by omega) (by omega) (fun s hs => ⟨by have := (b6 s hs).1; omega, by have := (b6 s hs).2; omega⟩)) ?_
        cases sentsB fs l l[i].f6 with
        | false => exact Ev.congr (fun k => if_neg (by simp)) (by simpa using Ev.now false)
        | true => exact Ev.congr (fun k => if_pos rfl) (by simpa using ih (i + 1) (by omega))
theorem ev_is1 (fs : List ByteArray) (l : List (S48)) (hF : Fits fs l) (d : Nat) : ∀ i : Nat, i + d = l.length → Ev (fun k => q40.l1 k (i : Int) fs l) ((List.range' i d).all (ritem l) && l.all (fun x => sentsB fs l x.f5 && sentsB fs l x.f6)) := by
  have h2 := hF.2.1
  induction d with
  | zero =>
    intro i hi
    refine Ev.step (f := fun k => q40.l2 k ((0 : Nat) : Int) fs l) (fun k => ?_) ?_
    · simp only [q40.l1]
      rw [if_neg (by omega)]
      rfl
    · simpa using ev_is2 fs l hF l.length 0 (by omega)
  | succ d ih =>
    intro i hi
    have hlt : i < l.length := by omega
    rw [List.range'_succ, List.all_cons]
    refine Ev.step (f := fun k => ((q32.f k fs l i).bind fun t211 => (if t211 = true then (q40.l1 k (((i + 1 : Nat)) : Int) fs l) else (some false)))) (fun k => ?_) ?_
    · simp only [q40.l1]
      rw [if_pos (by omega), wrap_lt (n := (l.length : Int)) (by omega) (by omega) (by omega)]
      rfl
    · refine Ev.bind (ev_item fs l h2 i hlt) ?_
      cases ritem l i with
      | false => exact Ev.congr (fun k => if_neg (by simp)) (by simpa using Ev.now false)
      | true => exact Ev.congr (fun k => if_pos rfl) (by simpa using ih (i + 1) (by omega))
theorem ev_is0 (fs : List ByteArray) (l : List (S48)) (hF : Fits fs l) (d : Nat) : ∀ i : Nat, i + d = fs.length → Ev (fun k => q40.l0 k (i : Int) fs l) ((List.range' i d).all (nameOk fs) && ((List.range l.length).all (ritem l) && l.all (fun x => sentsB fs l x.f5 && sentsB fs l x.f6))) := by
  have h1 := hF.1
  induction d with
  | zero =>
    intro i hi
    refine Ev.step (f := fun k => q40.l1 k ((0 : Nat) : Int) fs l) (fun k => ?_) ?_
    · simp only [q40.l0]
      rw [if_neg (by omega)]
      rfl
    · have := ev_is1 fs l hF l.length 0 (by omega)
      rw [List.range_eq_range']
      simpa using this
  | succ d ih =>
    intro i hi
    have hlt : i < fs.length := by omega
    rw [List.range'_succ, List.all_cons]
    refine Ev.step (f := fun k => ((q37.f k (rdOf ByteArray.empty fs i)).bind fun t207 => (if t207 = true then ((q31.f k (fs.take i) (rdOf ByteArray.empty fs i)).bind fun t210 => (if t210 = true then (some false) else (q40.l0 k (((i + 1 : Nat)) : Int) fs l))) else (some false)))) (fun k => ?_) ?_
    · simp only [q40.l0]
      rw [if_pos (by omega), if_pos (by omega), if_pos (by omega), wrap_lt (n := (fs.length : Int)) (by omega) (by omega) (by omega)]
      rfl
    · refine Ev.bind (ev_name _) ?_
      have hok : nameOk fs i = (nameB (rdOf ByteArray.empty fs i) && !memB (fs.take i) (rdOf ByteArray.empty fs i)) := rfl
      rw [hok]
      cases nameB (rdOf ByteArray.empty fs i) with
      | false => exact Ev.congr (fun k => if_neg (by simp)) (by simpa using Ev.now false)
      | true =>
        rw [Bool.true_and]
        refine Ev.congr (fun k => if_pos rfl) ?_
        refine Ev.bind (Ev.at ((fs.take i).length + 1) (fun k hk => ref_file _ _ (by rw [List.length_take]; omega) k (by omega))) ?_
        cases memB (fs.take i) (rdOf ByteArray.empty fs i) with
        | true => exact Ev.congr (fun k => if_pos rfl) (by simpa using Ev.now false)
        | false => exact Ev.congr (fun k => if_neg (by simp)) (by simpa using ih (i + 1) (by omega))
theorem ev_ris (fs : List ByteArray) (l : List (S48)) (hF : Fits fs l) : Ev (fun k => q40.f k fs l) (risB fs l) := by
 unfold q40.f risB
 have hjf : Ev (fun k => q40.j0 k true fs l) false := Ev.step (f := fun _ => some false) (fun k => by simp [q40.j0]) (Ev.now false)
 by_cases h1 : fs.length > 6
 ·rw [decide_eq_false (p := fs.length ≤ 6 ∧ 1 ≤ l.length ∧ l.length ≤ 16) (by omega), Bool.false_and]
  exact Ev.congr (fun k => if_pos (by omega)) hjf
 refine Ev.congr (fun k => if_neg (by omega)) ?_
 by_cases h2 : l.length < 1
 ·rw [decide_eq_false (p := fs.length ≤ 6 ∧ 1 ≤ l.length ∧ l.length ≤ 16) (by omega), Bool.false_and]
  exact Ev.congr (fun k => if_pos (by omega)) hjf
 refine Ev.congr (fun k => if_neg (by omega)) ?_
 by_cases h3 : l.length > 16
 ·rw [decide_eq_false (p := fs.length ≤ 6 ∧ 1 ≤ l.length ∧ l.length ≤ 16) (by omega), Bool.false_and, decide_eq_true (p := (l.length : Int) > 16) (by omega)]
  exact hjf
 rw [decide_eq_true (p := fs.length ≤ 6 ∧ 1 ≤ l.length ∧ l.length ≤ 16) (by omega), Bool.true_and, decide_eq_false (p := (l.length : Int) > 16) (by omega)]
 refine Ev.step (f := fun k => q40.l0 k ((0 : Nat) : Int) fs l) (fun k => by simp [q40.j0]) ?_
 have := ev_is0 fs l hF fs.length 0 (by omega)
 unfold namesB
 rw [List.range_eq_range' (n := fs.length)]
 exact this
end Go.Proofs.Ytaiglhfmmdajdaa.Pm
end
