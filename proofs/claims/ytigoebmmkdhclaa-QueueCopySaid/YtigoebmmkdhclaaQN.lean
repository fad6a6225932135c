import Derived.Test.YtigoebmmkdhclaaQM
namespace Go.Proofs.Ytigoebmmkdhclaa.Pq
open Go.RowKit Go.Proofs.YtigoebmmkdhclaaW.PrintWords Go.Proofs.YtigoebmmkdhclaaW.PrintLast Go.Proofs.YtigoebmmkdhclaaW.PrintMore
open QHeap
set_option linter.unusedVariables false
set_option linter.unusedSimpArgs false

theorem at_int {w : World} {A : Option Addr} {n : Nat} {l : List Int} (h : Kd.C (Kd.int .i64) w A n l) (i : Nat) (hi : i < n) : ∃ ad, A = some ad ∧ w.cell? (ad.add i) = some (.int .i64 (l.getD i 0)) := by
  obtain ⟨ad, c, e, _, hK, hc⟩ := Kd.C_get h (0 : Int) (i : Int) (by omega) (by omega)
  obtain rfl : c = [.int .i64 (l.getD i 0)] := hK
  refine ⟨ad, e, ?_⟩
  have := hc 0 _ rfl
  simpa [Kd.int, Kd.scalar] using this
def nth (L : List S48) (i : Nat) : S48 := L.getD i z48
theorem drop_nth (L : List S48) (i : Nat) (h : i < L.length) : L.drop i = nth L i :: L.drop (i + 1) := by
  rw [List.drop_eq_getElem_cons h]
  simp [nth, List.getD_eq_getElem?_getD, List.getElem?_eq_getElem h]
theorem sorted_nth (L : List S48) (h : Sorted L) (i j : Nat) (hij : i < j) (hj : j < L.length) : le (nth L i) (nth L j) := by
  have := List.pairwise_iff_getElem.1 h i j (by omega) hj hij
  simpa [nth, List.getD_eq_getElem?_getD, List.getElem?_eq_getElem hj, List.getElem?_eq_getElem (show i < L.length by omega)] using this
theorem sorted_nil : Sorted [] := List.Pairwise.nil

/-- The queue once the first i have been put in, each with its third's rest. -/
def put3 (l : List Int) : Nat → List S48
  | 0 => []
  | i + 1 => ins ⟨l.getD i 0, ((i % 3 : Nat) : Int)⟩ (put3 l i)
theorem put3_length (l : List Int) (i : Nat) : (put3 l i).length = i := by
  induction i with
  | zero => rfl
  | succ i ih => unfold put3; rw [ins_length, ih]
theorem put3_sorted (l : List Int) (i : Nat) : Sorted (put3 l i) := by
  induction i with
  | zero => exact sorted_nil
  | succ i ih => unfold put3; exact ins_sorted _ _ ih
def sumI (l : List Int) : Nat → Int
  | 0 => 0
  | i + 1 => wrap64 (sumI l i + l.getD i 0)
def sumE (L : List S48) : Nat → Int
  | 0 => 0
  | i + 1 => wrap64 (sumE L i + (nth L i).f0)
def tot : List S48 → Int
  | [] => 0
  | x :: L => x.f0 + tot L
theorem tot_perm {A B : List S48} (h : A.Perm B) : tot A = tot B := by
  induction h with
  | nil => rfl
  | cons x _ ih => simp [tot, ih]
  | swap x y l => simp [tot]; omega
  | trans _ _ h1 h2 => rw [h1, h2]
theorem sumI_tot (l : List Int) (i : Nat) : sumI l i = wrap64 (tot (put3 l i)) := by
  induction i with
  | zero => simp [sumI, put3, tot, wrap64]
  | succ i ih =>
    have h := tot_perm (ins_perm (⟨l.getD i 0, ((i % 3 : Nat) : Int)⟩ : S48) (put3 l i))
    unfold sumI put3
    rw [h, ih]
    show _ = wrap64 (l.getD i 0 + tot (put3 l i))
    unfold wrap64
    omega
theorem tot_take (L : List S48) (i : Nat) (h : i < L.length) : tot (L.take (i + 1)) = tot (L.take i) + (nth L i).f0 := by
  have e : L.take (i + 1) = L.take i ++ [nth L i] := by
    rw [List.take_succ_eq_append_getElem h]
    simp [nth, List.getD_eq_getElem?_getD, List.getElem?_eq_getElem h]
  have h2 := tot_perm (List.perm_append_singleton (nth L i) (L.take i))
  rw [e, h2]
  show (nth L i).f0 + _ = _
  omega
theorem sumE_tot (L : List S48) (i : Nat) (h : i ≤ L.length) : sumE L i = wrap64 (tot (L.take i)) := by
  induction i with
  | zero => simp [sumE, tot, wrap64]
  | succ i ih =>
    unfold sumE
    rw [ih (by omega), tot_take L i (by omega)]
    unfold wrap64
    omega
theorem sums_eq (l : List Int) : sumE (put3 l l.length) l.length = sumI l l.length := by
  have h := put3_length l l.length
  rw [sumI_tot, sumE_tot _ _ (by omega), List.take_of_length_le (by omega)]

/-- What the last round has left, where there was one. -/
def lastOf (L : List S48) (i : Nat) (a b : Int) : Prop := ∀ j, i = j + 1 → a = (nth L j).f0 ∧ b = (nth L j).f1

theorem lastOf_next (L : List S48) (j : Nat) : lastOf L (j + 1) (nth L j).f0 (nth L j).f1 := fun j' h => by
  obtain rfl : j = j' := by omega
  exact ⟨rfl, rfl⟩

set_option maxHeartbeats 8000000 in
set_option maxRecDepth 100000 in
theorem queueSorts_walk (A : Option Addr) (c : Nat) (l : List Int) (w : World) (hr : Kd.C (Kd.int .i64) w A l.length l) (hc : l.length ≤ c) : Calls Try.prog 3 #[.slice A l.length c] w fun e w' => e = .returned (.bool true) ∧ Below w.heap.size w w' := by
  by_cases h100 : l.length ≤ 100
  case neg =>
    have h100' : (100 : Int) < l.length := by omega
    clear hr
    go_enter Try.func3, Try.ntmps3
    go_wp2
    go_ret
    exact ⟨rfl, Below.refl _ _⟩
  have h100' : ¬ (100 : Int) < l.length := by omega
  have HR := Lib.hid hr
  clear hr
  obtain ⟨n, hn⟩ : ∃ n, n = l.length := ⟨_, rfl⟩
  have HN := Lib.hid hn
  rw [← hn] at hc h100 h100' ⊢
  clear hn
  have h1 := one_new w w (Below.refl _ _)
  go_enter Try.func3, Try.ntmps3
  go_wp2_with fail
  go_at_call 10
  refine h1.mono ?_
  rintro e w1 ⟨g, rfl, q1⟩
  have X1 := Lib.hid q1
  clear q1 h1
  go_wp2
  go_loopg [4] n (fun gg s4 wr => ∃ i : Nat, s4 = .int .i64 i ∧ i + gg = n ∧ Hid (One w wr g (put3 l i)))
  case atStart => exact ⟨0, rfl, by omega, X1⟩
  case round =>
    obtain ⟨i, rfl, hig, X⟩ := hrel
    by_cases hlt : i < n
    · have hl := put3_length l i
      obtain ⟨ad, rfl, hx0⟩ := at_int HR.out i (by have := HN.out; omega)
      have hx : wr.cell? (ad.add i) = some (.int .i64 (l.getD i 0)) := (X.out.1.cell (World.block_lt_of_cell? w _ hx0)).trans hx0
      clear hx0
      have hp := one_room w wr g (put3 l i) (l.getD i 0) ((i : Int) % 3) X.out (by omega)
      clear hl
      have hlt' : (i : Int) < n := by omega
      have hi2 : (i : Int) ≤ 100 := by omega
      have hi3 : 0 ≤ (i : Int) % 3 := by omega
      go_wp2_with (go_at_call 11; refine hp.mono ?_; rintro e w2 ⟨rfl, q2⟩; (have X2 := Lib.hid q2); clear q2)
      go_roundg (n - (i + 1))
      case measure => omega
      case rel => exact ⟨i + 1, by go_num, by omega, X2⟩
    · obtain rfl : i = n := by omega
      clear hlt hig
      obtain ⟨wl, rfl⟩ : ∃ wl : World, wl = wr := ⟨_, rfl⟩
      go_wp2
      go_loopg [5, 7] i (fun gg s5 s7 wr => ∃ k : Nat, s7 = .int .i64 k ∧ k + gg = i ∧ s5 = .int .i64 (sumI l k) ∧ Hid (One w wr g (put3 l i)))
      case atStart => exact ⟨0, rfl, by omega, rfl, X⟩
      case round =>
        clear X
        obtain ⟨k, rfl, hkg, rfl, X⟩ := hrel
        by_cases hlt : k < i
        · obtain ⟨ad, rfl, hx0⟩ := at_int HR.out k (by have := HN.out; omega)
          have hx : wr.cell? (ad.add k) = some (.int .i64 (l.getD k 0)) := (X.out.1.cell (World.block_lt_of_cell? w _ hx0)).trans hx0
          clear hx0
          have hlt' : (k : Int) < i := by omega
          have hi2 : (k : Int) ≤ 100 := by omega
          go_wp2
          go_roundg (i - (k + 1))
          case measure => omega
          case rel => exact ⟨k + 1, by go_num, by omega, rfl, X⟩
        · obtain rfl : k = i := by omega
          clear hlt hkg
          obtain ⟨wl2, rfl⟩ : ∃ wl : World, wl = wr := ⟨_, rfl⟩
          have hlen := Lib.hid (put3_length l k)
          obtain ⟨L, hL⟩ : ∃ L, L = put3 l k := ⟨_, rfl⟩
          have HL := Lib.hid hL
          have HS : Hid (Sorted L) := Lib.hid (by rw [hL]; exact put3_sorted l k)
          rw [← hL] at X hlen
          clear hL
          obtain ⟨S, hS⟩ : ∃ S, S = sumI l k := ⟨_, rfl⟩
          have HSS := Lib.hid hS
          rw [← hS]
          clear hS
          go_wp2
          go_loopg [6, 8, 9, 10] k (fun gg s6 s8 s9 s10 wr => ∃ (j : Nat) (a b : Int), s10 = .int .i64 j ∧ j + gg = k ∧ s6 = .int .i64 (sumE L j) ∧ s8 = .int .i64 a ∧ s9 = .int .i64 b ∧ Hid (lastOf L j a b) ∧ Hid (One w wr g (L.drop j)))
          case atStart => exact ⟨0, 0, 0, rfl, by omega, rfl, rfl, rfl, Lib.hid (fun j h => by omega), X⟩
          case round =>
            clear X
            obtain ⟨j, a, b, rfl, hjg, rfl, rfl, rfl, HLA, X⟩ := hrel
            by_cases hlt : j < k
            · have ed := drop_nth L j (by have := hlen.out; omega)
              have hq := X.out
              rw [ed] at hq
              clear ed
              have hp := one_pop w wr g _ _ hq (by have := hlen.out; simp; omega)
              clear hq
              have hlt' : (j : Int) < k := by omega
              have hi2 : (j : Int) ≤ 100 := by omega
              have HE : Hid (lastOf L (j + 1) (nth L j).f0 (nth L j).f1) := Lib.hid (lastOf_next L j)
              have HSU : Hid (wrap64 (sumE L j + (nth L j).f0) = sumE L (j + 1)) := Lib.hid rfl
              rcases Nat.eq_zero_or_pos j with h0 | h0
              · subst h0
                go_wp2_with (go_at_call 12; refine hp.mono ?_; rintro e w2 ⟨rfl, q2⟩; (have X2 := Lib.hid q2); clear q2)
                go_roundg (k - (0 + 1))
                case measure => omega
                case rel => exact ⟨1, _, _, by go_num, by omega, rfl, rfl, rfl, HE, X2⟩
              · obtain ⟨j1, rfl⟩ : ∃ j1, j = j1 + 1 := ⟨j - 1, by omega⟩
                have hla := HLA.out j1 rfl
                have hle := sorted_nth L HS.out j1 (j1 + 1) (by omega) (by have := hlen.out; omega)
                unfold le at hle
                rw [← hla.1, ← hla.2] at hle
                clear hla
                have hpos : ((j1 + 1 : Nat) : Int) > 0 := by omega
                have t1 : decide ((nth L (j1 + 1)).f0 < a) = false := by simp; omega
                generalize nth L (j1 + 1) = x at hp hle HE HSU t1
                obtain ⟨x0, x1⟩ := x
                simp only at hp hle HE HSU t1
                by_cases he : x0 = a
                · have t3 : decide (x1 < b) = false := by simp; omega
                  subst he
                  clear hle
                  go_wp2_with (go_at_call 12; refine hp.mono ?_; rintro e w2 ⟨rfl, q2⟩; (have X2 := Lib.hid q2); clear q2)
                  go_roundg (k - (j1 + 1 + 1))
                  case measure => omega
                  case rel => exact ⟨j1 + 1 + 1, _, _, by go_num, by omega, by rw [← HSU.out], rfl, rfl, HE, X2⟩
                · have t2 : (x0 == a) = false := by simpa using he
                  clear hle he
                  go_wp2_with (go_at_call 12; refine hp.mono ?_; rintro e w2 ⟨rfl, q2⟩; (have X2 := Lib.hid q2); clear q2)
                  go_roundg (k - (j1 + 1 + 1))
                  case measure => omega
                  case rel => exact ⟨j1 + 1 + 1, _, _, by go_num, by omega, by rw [← HSU.out], rfl, rfl, HE, X2⟩
            · obtain rfl : j = k := by omega
              clear hlt hjg
              have hd : L.drop j = [] := List.drop_of_length_le (by have := hlen.out; omega)
              have hq := X.out
              rw [hd] at hq
              clear hd
              have hp := one_pop_none w wr g hq
              have hk := known_any w wr hq.1
              clear hq
              have hsum : sumE L j = S := by
                have := sums_eq l
                rw [← HN.out, ← HL.out, ← HSS.out] at this
                exact this
              rw [hsum]
              clear hsum
              go_wp2_with (first | (go_at_call 12; refine hp.mono ?_; rintro e w2 ⟨rfl, rfl⟩) | (go_at_call 13; refine hk.mono ?_; rintro e w3 ⟨rfl, hB3⟩))
              go_ret
              exact ⟨rfl, hB3⟩
end Go.Proofs.Ytigoebmmkdhclaa.Pq
