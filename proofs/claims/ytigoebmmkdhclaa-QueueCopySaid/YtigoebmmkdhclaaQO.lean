import Derived.Test.YtigoebmmkdhclaaQN
namespace Go.Proofs.Ytigoebmmkdhclaa.Pq
open Go.RowKit Go.Proofs.YtigoebmmkdhclaaW.PrintWords Go.Proofs.YtigoebmmkdhclaaW.PrintLast Go.Proofs.YtigoebmmkdhclaaW.PrintMore
open QHeap
set_option linter.unusedVariables false
set_option linter.unusedSimpArgs false

def same (d : Int) : Nat → List S48
  | 0 => []
  | i + 1 => ins ⟨d, ((i * 37 % 101 : Nat) : Int)⟩ (same d i)
theorem same_length (d : Int) (i : Nat) : (same d i).length = i := by
  induction i with
  | zero => rfl
  | succ i ih => unfold same; rw [ins_length, ih]
theorem same_sorted (d : Int) (i : Nat) : Sorted (same d i) := by
  induction i with
  | zero => exact sorted_nil
  | succ i ih => unfold same; exact ins_sorted _ _ ih
theorem same_mem (d : Int) (i : Nat) : ∀ x ∈ same d i, x.f0 = d ∧ ∃ j, j < i ∧ x.f1 = ((j * 37 % 101 : Nat) : Int) := by
  induction i with
  | zero => intro x hx; simp [same] at hx
  | succ i ih =>
    intro x hx
    unfold same at hx
    rcases List.mem_cons.1 ((ins_perm _ _).mem_iff.1 hx) with rfl | h
    · exact ⟨rfl, i, by omega, rfl⟩
    · obtain ⟨h1, j, h2, h3⟩ := ih x h
      exact ⟨h1, j, by omega, h3⟩
theorem inj37 : ∀ i < 101, ∀ j < i, i * 37 % 101 ≠ j * 37 % 101 := by decide +kernel
theorem same_nodup (d : Int) (i : Nat) (h : i ≤ 101) : (same d i).Nodup := by
  induction i with
  | zero => exact List.nodup_nil
  | succ i ih =>
    unfold same
    refine (ins_perm _ _).nodup_iff.2 (List.nodup_cons.2 ⟨fun hm => ?_, ih (by omega)⟩)
    obtain ⟨_, j, h2, h3⟩ := same_mem d i _ hm
    exact inj37 i (by omega) j h2 (by simp only at h3; omega)
theorem nth_mem (L : List S48) (j : Nat) (h : j < L.length) : nth L j ∈ L := by
  simp [nth, List.getD_eq_getElem?_getD, List.getElem?_eq_getElem h]
theorem same_due (d : Int) (i j : Nat) (h : j < i) : (nth (same d i) j).f0 = d := (same_mem d i _ (nth_mem _ _ (by rw [same_length]; exact h))).1
theorem same_ge (d : Int) (i j : Nat) (h : j < i) : 0 ≤ (nth (same d i) j).f1 := by
  obtain ⟨_, k, _, h3⟩ := same_mem d i _ (nth_mem _ j (by rw [same_length]; exact h))
  omega
theorem same_lt (d : Int) (i j : Nat) (h : j + 1 < i) (hi : i ≤ 101) : (nth (same d i) j).f1 < (nth (same d i) (j + 1)).f1 := by
  have hl := same_length d i
  have h1 := sorted_nth _ (same_sorted d i) j (j + 1) (by omega) (by omega)
  have h2 := same_due d i j (by omega)
  have h3 := same_due d i (j + 1) h
  have hne : nth (same d i) j ≠ nth (same d i) (j + 1) := by
    have := List.pairwise_iff_getElem.1 (same_nodup d i hi) j (j + 1) (by omega) (by omega) (by omega)
    simpa [nth, List.getD_eq_getElem?_getD, List.getElem?_eq_getElem (show j + 1 < (same d i).length by omega), List.getElem?_eq_getElem (show j < (same d i).length by omega)] using this
  unfold le at h1
  rcases h1 with h1 | ⟨_, h1⟩
  · omega
  · rcases Int.lt_or_eq_of_le h1 with h | h
    · exact h
    · exact absurd (by rcases hx : nth (same d i) j with ⟨a, b⟩; rcases hy : nth (same d i) (j + 1) with ⟨a', b'⟩; rw [hx, hy] at h; rw [hx] at h2; rw [hy] at h3; simp at h h2 h3; subst h h2 h3; rfl) hne

/-- What the last round has left. -/
def lastS (L : List S48) (i : Nat) (b : Int) : Prop := (i = 0 → b = -1) ∧ ∀ j, i = j + 1 → b = (nth L j).f1
theorem lastS_next (L : List S48) (j : Nat) : lastS L (j + 1) (nth L j).f1 := ⟨fun h => by omega, fun j' h => by
  obtain rfl : j = j' := by omega
  rfl⟩
theorem lastS_lt (d : Int) (i j : Nat) (b : Int) (h : lastS (same d i) j b) (hj : j < i) (hi : i ≤ 101) : b < (nth (same d i) j).f1 := by
  cases j with
  | zero => have := h.1 rfl; have := same_ge d i 0 hj; omega
  | succ j => have := h.2 j rfl; have := same_lt d i j hj hi; omega

set_option maxHeartbeats 8000000 in
set_option maxRecDepth 100000 in
theorem queueSame_walk (a0 a1 : Int) (w : World) : Calls Try.prog 5 #[.int .i64 a0, .int .i64 a1] w fun e w' => e = .returned (.bool true) ∧ Below w.heap.size w w' := by
  by_cases hn : a1 < 0
  · go_enter Try.func5, Try.ntmps5
    go_wp2
    go_ret
    exact ⟨rfl, Below.refl _ _⟩
  by_cases hn2 : a1 > 100
  · go_enter Try.func5, Try.ntmps5
    go_wp2
    go_ret
    exact ⟨rfl, Below.refl _ _⟩
  obtain ⟨n, rfl⟩ : ∃ n : Nat, a1 = n := ⟨a1.toNat, by omega⟩
  have hn3 : n ≤ 100 := by omega
  clear hn2 hn
  have h1 := one_new w w (Below.refl _ _)
  go_enter Try.func5, Try.ntmps5
  go_wp2_with fail
  go_at_call 10
  refine h1.mono ?_
  rintro e w1 ⟨g, rfl, q1⟩
  have X1 := Lib.hid q1
  clear q1 h1
  go_wp2
  go_loopg [6] n (fun gg s6 wr => ∃ i : Nat, s6 = .int .i64 i ∧ i + gg = n ∧ Hid (One w wr g (same a0 i)))
  case atStart => exact ⟨0, rfl, by omega, X1⟩
  case round =>
    obtain ⟨i, rfl, hig, X⟩ := hrel
    by_cases hlt : i < n
    · have hl := same_length a0 i
      have hp := one_room w wr g (same a0 i) a0 ((i : Int) * 37 % 101) X.out (by omega)
      clear hl
      have hlt' : (i : Int) < n := by omega
      have hi2 : (i : Int) ≤ 100 := by omega
      have hi3 : 0 ≤ (i : Int) * 37 := by omega
      go_wp2_with (go_at_call 11; refine hp.mono ?_; rintro e w2 ⟨rfl, q2⟩; (have X2 := Lib.hid q2); clear q2)
      go_roundg (n - (i + 1))
      case measure => omega
      case rel => exact ⟨i + 1, by go_num, by omega, X2⟩
    · obtain rfl : i = n := by omega
      clear hlt hig
      obtain ⟨wl, rfl⟩ : ∃ wl : World, wl = wr := ⟨_, rfl⟩
      go_wp2
      go_loopg [7, 8] i (fun gg s7 s8 wr => ∃ (j : Nat) (b : Int), s8 = .int .i64 j ∧ j + gg = i ∧ s7 = .int .i64 b ∧ Hid (lastS (same a0 i) j b) ∧ Hid (One w wr g ((same a0 i).drop j)))
      case atStart => exact ⟨0, -1, rfl, by omega, rfl, Lib.hid ⟨fun _ => rfl, fun j h => by omega⟩, X⟩
      case round =>
        clear X
        obtain ⟨j, b, rfl, hjg, rfl, HLA, X⟩ := hrel
        have hlen := Lib.hid (same_length a0 i)
        by_cases hlt : j < i
        · have ed := drop_nth (same a0 i) j (by have := hlen.out; omega)
          have hq := X.out
          rw [ed] at hq
          clear ed
          have hp := one_pop w wr g _ _ hq (by have := hlen.out; simp; omega)
          clear hq
          have hlt' : (j : Int) < i := by omega
          have hi2 : (j : Int) ≤ 100 := by omega
          have hd := same_due a0 i j hlt
          have hb := lastS_lt a0 i j b HLA.out hlt (by omega)
          have HE := Lib.hid (lastS_next (same a0 i) j)
          generalize hx : nth (same a0 i) j = x at hp hd hb HE
          clear hx
          obtain ⟨x0, x1⟩ := x
          simp only at hp hd hb HE
          subst hd
          have t3 : decide (x1 ≤ b) = false := by simp; omega
          clear hb
          go_wp2_with (go_at_call 12; refine hp.mono ?_; rintro e w2 ⟨rfl, q2⟩; (have X2 := Lib.hid q2); clear q2)
          go_roundg (i - (j + 1))
          case measure => omega
          case rel => exact ⟨j + 1, _, by go_num, by omega, rfl, HE, X2⟩
        · obtain rfl : j = i := by omega
          clear hlt hjg
          have hd : (same a0 j).drop j = [] := List.drop_of_length_le (by have := hlen.out; omega)
          have hq := X.out
          rw [hd] at hq
          clear hd
          have hp := one_len w wr g _ hq
          rw [show (([] : List S48).length : Int) = 0 by rfl] at hp
          have hk := known_any w wr hq.1
          clear hq
          go_wp2_with (first | (go_at_call 14; refine hp.mono ?_; rintro e w2 ⟨rfl, rfl⟩) | (go_at_call 13; refine hk.mono ?_; rintro e w3 ⟨rfl, hB3⟩))
          go_ret
          exact ⟨rfl, hB3⟩

def turn (l : List Int) (m : Nat) (L : List S48) : List S48 := ins ⟨l.getD (2 * m + 1) 0, 0⟩ (ins ⟨l.getD (2 * m) 0, 0⟩ L)
def turns (l : List Int) : Nat → List S48
  | 0 => []
  | m + 1 => (turn l m (turns l m)).tail
theorem turn_length (l : List Int) (m : Nat) (L : List S48) : (turn l m L).length = L.length + 2 := by unfold turn; rw [ins_length, ins_length]
theorem turns_length (l : List Int) (m : Nat) : (turns l m).length = m := by
  induction m with
  | zero => rfl
  | succ m ih => unfold turns; rw [List.length_tail, turn_length, ih]; rfl
theorem turn_sorted (l : List Int) (m : Nat) (L : List S48) (h : Sorted L) : Sorted (turn l m L) := ins_sorted _ _ (ins_sorted _ _ h)
theorem turns_sorted (l : List Int) (m : Nat) : Sorted (turns l m) := by
  induction m with
  | zero => exact sorted_nil
  | succ m ih => unfold turns; exact List.Pairwise.sublist (List.tail_sublist _) (turn_sorted l m _ ih)
theorem turn_head (l : List Int) (m : Nat) : ∃ a, turn l m (turns l m) = a :: turns l (m + 1) ∧ a.f0 ≤ l.getD (2 * m) 0 ∧ a.f0 ≤ l.getD (2 * m + 1) 0 := by
  have hl := turn_length l m (turns l m)
  have hs := turn_sorted l m _ (turns_sorted l m)
  have e : turns l (m + 1) = (turn l m (turns l m)).tail := rfl
  rw [e]
  have hm1 : (⟨l.getD (2 * m + 1) 0, 0⟩ : S48) ∈ turn l m (turns l m) := (ins_perm _ _).mem_iff.2 List.mem_cons_self
  have hm2 : (⟨l.getD (2 * m) 0, 0⟩ : S48) ∈ turn l m (turns l m) := (ins_perm _ _).mem_iff.2 (List.mem_cons_of_mem _ ((ins_perm _ _).mem_iff.2 List.mem_cons_self))
  cases hM : turn l m (turns l m) with
  | nil => rw [hM] at hl; simp at hl
  | cons a M =>
    rw [hM] at hs hm1 hm2
    have ha := List.pairwise_cons.1 hs
    have key : ∀ x ∈ a :: M, a.f0 ≤ x.f0 := by
      intro x hx
      rcases List.mem_cons.1 hx with rfl | h
      · omega
      · have := ha.1 x h
        unfold le at this
        omega
    exact ⟨a, rfl, key _ hm2, key _ hm1⟩

set_option maxHeartbeats 8000000 in
set_option maxRecDepth 100000 in
theorem queueTurns_walk (A : Option Addr) (c : Nat) (l : List Int) (w : World) (hr : Kd.C (Kd.int .i64) w A l.length l) (hc : l.length ≤ c) : Calls Try.prog 6 #[.slice A l.length c] w fun e w' => e = .returned (.bool true) ∧ Below w.heap.size w w' := by
  by_cases h100 : l.length ≤ 90
  case neg =>
    have h100' : (90 : Int) < l.length := by omega
    clear hr
    go_enter Try.func6, Try.ntmps6
    go_wp2
    go_ret
    exact ⟨rfl, Below.refl _ _⟩
  have h100' : ¬ (90 : Int) < l.length := by omega
  have HR := Lib.hid hr
  clear hr
  obtain ⟨n, hn⟩ : ∃ n, n = l.length := ⟨_, rfl⟩
  have HN := Lib.hid hn
  rw [← hn] at hc h100 h100' ⊢
  clear hn
  have h1 := one_new w w (Below.refl _ _)
  go_enter Try.func6, Try.ntmps6
  go_wp2_with fail
  go_at_call 10
  refine h1.mono ?_
  rintro e w1 ⟨g, rfl, q1⟩
  have X1 := Lib.hid q1
  clear q1 h1
  go_wp2
  go_loopg [4] (n + 1) (fun gg s4 wr => ∃ i : Nat, s4 = .int .i64 i ∧ i + gg = n + 1 ∧ i ≤ n ∧ Hid (∃ m, i = 2 * m ∧ One w wr g (turns l m)))
  case atStart => exact ⟨0, rfl, by omega, by omega, Lib.hid ⟨0, rfl, X1.out⟩⟩
  case round =>
    obtain ⟨i, rfl, hig, hin0, X⟩ := hrel
    obtain ⟨m, hm, X⟩ := X.out
    have HM := Lib.hid hm
    have hX := Lib.hid X
    clear hm X
    have hi2 : (i : Int) ≤ 91 := by omega
    by_cases hlt : i + 1 < n
    · have hl := turns_length l m
      obtain ⟨ad, rfl, hx0⟩ := at_int HR.out i (by have := HN.out; omega)
      obtain ⟨ad', ea, hx1⟩ := at_int HR.out (i + 1) (by have := HN.out; omega)
      obtain rfl := Option.some.inj ea
      have hlt0 : i < n := by omega
      have hlt' : (i : Int) + 1 < n := by omega
      have hxa : wr.cell? (ad.add i) = some (.int .i64 (l.getD i 0)) := (hX.out.1.cell (World.block_lt_of_cell? w _ hx0)).trans hx0
      have H1 := Lib.hid (And.intro hx0 hx1)
      clear hx0 hx1 ea
      have hp := one_room w wr g (turns l m) (l.getD i 0) 0 hX.out (by have := HM.out; omega)
      clear hl
      go_wp2_with fail
      go_at_call 11
      refine hp.mono ?_
      rintro e w2 ⟨rfl, q2⟩
      have hxb : w2.cell? ⟨ad.block, ad.off + (i + 1), none⟩ = some (.int .i64 (l.getD (i + 1) 0)) := (q2.1.cell (World.block_lt_of_cell? w _ H1.out.2)).trans H1.out.2
      have hp2 := one_room w w2 g _ (l.getD (i + 1) 0) 0 q2 (by rw [ins_length, turns_length]; have := HM.out; omega)
      have Q2 := Lib.hid q2
      clear q2 hxa
      go_wp2_with fail
      go_at_call 11
      refine hp2.mono ?_
      rintro e w3 ⟨rfl, q3⟩
      obtain ⟨a, ea, ha1, ha2⟩ := turn_head l m
      unfold turn at ea
      rw [← HM.out] at ea ha1 ha2
      rw [ea] at q3
      clear ea
      rw [List.getD_eq_getElem?_getD] at ha1 ha2
      have t1 : decide (l[i]?.getD 0 < a.f0) = false := decide_eq_false (by omega)
      have t2 : decide (l[i + 1]?.getD 0 < a.f0) = false := decide_eq_false (by omega)
      clear ha1 ha2 hxb
      have hp3 := one_peek w w3 g _ _ q3
      clear q3
      go_wp2_with fail
      go_at_call 15
      refine hp3.mono ?_
      rintro e w4 ⟨rfl, q4⟩
      have hp4 := one_pop w w4 g _ _ q4 (by rw [turns_length]; have := HM.out; omega)
      clear q4
      go_wp2_with fail
      go_at_call 12
      refine hp4.mono ?_
      rintro e w5 ⟨rfl, q5⟩
      have hxa : w5.cell? (ad.add i) = some (.int .i64 (l.getD i 0)) := (q5.1.cell (World.block_lt_of_cell? w _ H1.out.1)).trans H1.out.1
      have hxb : w5.cell? ⟨ad.block, ad.off + (i + 1), none⟩ = some (.int .i64 (l.getD (i + 1) 0)) := (q5.1.cell (World.block_lt_of_cell? w _ H1.out.2)).trans H1.out.2
      have Q5 := Lib.hid (show (∃ m, i + 2 = 2 * m ∧ One w w5 g (turns l m)) from ⟨m + 1, by have := HM.out; omega, q5⟩)
      clear q5
      go_wp2
      go_roundg (n + 1 - (i + 2))
      case measure => omega
      case rel => exact ⟨i + 2, by go_num, by omega, by omega, Q5⟩
    · have hlt' : ¬ (i : Int) + 1 < n := by omega
      have hp := one_len w wr g _ hX.out
      rw [turns_length] at hp
      have hin : (n : Int) / 2 = m := by have := HM.out; omega
      have hk := known_any w wr hX.out.1
      obtain rfl : m = n / 2 := by omega
      clear hin
      go_wp2_with (first | (go_at_call 14; refine hp.mono ?_; rintro e w2 ⟨rfl, rfl⟩) | (go_at_call 13; refine hk.mono ?_; rintro e w3 ⟨rfl, hB3⟩))
      go_ret
      exact ⟨rfl, hB3⟩
end Go.Proofs.Ytigoebmmkdhclaa.Pq
