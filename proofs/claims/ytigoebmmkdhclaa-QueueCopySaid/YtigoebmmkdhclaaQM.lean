import Derived.Test.YtigoebmmkdhclaaQL
namespace Go.Proofs.Ytigoebmmkdhclaa.Pq
open Go.RowKit Go.Proofs.YtigoebmmkdhclaaW.PrintWords Go.Proofs.YtigoebmmkdhclaaW.PrintLast Go.Proofs.YtigoebmmkdhclaaW.PrintMore
open QHeap
set_option linter.unusedVariables false
set_option linter.unusedSimpArgs false

def full : Nat → List S48
  | 0 => []
  | i + 1 => if (full i).length < 100 then ins ⟨-(i : Int), i⟩ (full i) else full i
theorem full_length (i : Nat) : (full i).length = min i 100 := by
  induction i with
  | zero => rfl
  | succ i ih =>
    unfold full
    split
    · rw [ins_length]; omega
    · omega

set_option maxHeartbeats 4000000 in
theorem queueFull_walk (a0 : Int) (w : World) (w0 : (Lit.int .i64 a0).wf = true) : Calls Try.prog 4 #[.int .i64 a0] w fun e w' => e = .returned (.bool true) ∧ Below w.heap.size w w' := by
  clear w0
  by_cases hn : a0 < 0
  · go_enter Try.func4, Try.ntmps4
    go_wp2
    go_ret
    exact ⟨rfl, Below.refl _ _⟩
  by_cases hn2 : a0 > 130
  · go_enter Try.func4, Try.ntmps4
    go_wp2
    go_ret
    exact ⟨rfl, Below.refl _ _⟩
  obtain ⟨n, rfl⟩ : ∃ n : Nat, a0 = n := ⟨a0.toNat, by omega⟩
  have hn3 : n ≤ 130 := by omega
  clear hn2 hn
  have h1 := one_new w w (Below.refl _ _)
  go_enter Try.func4, Try.ntmps4
  go_wp2_with fail
  go_at_call 10
  refine h1.mono ?_
  rintro e w1 ⟨g, rfl, q1⟩
  have X1 := Lib.hid q1
  clear q1
  go_wp2
  go_loopg [4] n (fun gg s4 wr => ∃ i : Nat, s4 = .int .i64 i ∧ i + gg = n ∧ Hid (One w wr g (full i)))
  case atStart => exact ⟨0, rfl, by omega, X1⟩
  case round =>
    obtain ⟨i, rfl, hig, X⟩ := hrel
    by_cases hlt : i < n
    · have hl := full_length i
      have hp := one_push w wr g (full i) (-(i : Int)) i X.out
      have hfe : decide ((full i).length < 100) = decide ((i : Int) < 100) := by rw [decide_eq_decide]; omega
      rw [hfe] at hp
      have HE : Hid ((if (full i).length < 100 then ins ⟨-(i : Int), (i : Int)⟩ (full i) else full i) = full (i + 1)) := Lib.hid rfl
      rw [HE.out] at hp
      clear hfe hl HE
      have hlt' : (i : Int) < n := by omega
      have hi2 : (i : Int) ≤ 130 := by omega
      go_wp2_with (go_at_call 11; refine hp.mono ?_; rintro e w2 ⟨rfl, q2⟩; (have X2 := Lib.hid q2); clear q2)
      go_roundg (n - (i + 1))
      case measure => omega
      case rel => exact ⟨i + 1, by go_num, by omega, X2⟩
    · have hin : i = n := by omega
      subst hin
      have hll := one_len w wr g _ X.out
      have hl := full_length i
      have he : ((full i).length : Int) = if 100 < i then 100 else (i : Int) := by rw [hl]; split <;> omega
      rw [he] at hll
      clear he hl
      have hk := known_any w wr X.out.1
      by_cases h100 : 100 < i
      · rw [if_pos h100] at hll
        have h100' : (100 : Int) < i := by omega
        go_wp2_with (first | (go_at_call 14; refine hll.mono ?_; rintro e w2 ⟨rfl, rfl⟩) | (go_at_call 13; refine hk.mono ?_; rintro e w3 ⟨rfl, hB3⟩))
        go_ret
        exact ⟨rfl, hB3⟩
      · rw [if_neg h100] at hll
        have h100' : ¬ (100 : Int) < i := by omega
        go_wp2_with (first | (go_at_call 14; refine hll.mono ?_; rintro e w2 ⟨rfl, rfl⟩) | (go_at_call 13; refine hk.mono ?_; rintro e w3 ⟨rfl, hB3⟩))
        go_ret
        exact ⟨rfl, hB3⟩

set_option maxHeartbeats 4000000 in
theorem queueOfNothing_walk (a0 a1 : Int) (w : World) : Calls Try.prog 9 #[.int .i64 a0, .int .i64 a1] w fun e w' => e = .returned (.bool true) ∧ Below w.heap.size w w' := by
  have h1 := pop_nil w
  have h2 := peek_nil w
  have h3 := push_nil w a0 a1
  have h4 := qlen_nil w
  have h5 := copy_nil w
  have h6 := known_any w w (Below.refl _ _)
  go_enter Try.func9, Try.ntmps9
  go_wp2_with (first | (go_at_call 12; refine h1.mono ?_; rintro e w2 ⟨rfl, rfl⟩) | (go_at_call 15; refine h2.mono ?_; rintro e w2 ⟨rfl, rfl⟩) | (go_at_call 11; refine h3.mono ?_; rintro e w2 ⟨rfl, rfl⟩) | (go_at_call 14; refine h4.mono ?_; rintro e w2 ⟨rfl, rfl⟩) | (go_at_call 19; refine h5.mono ?_; rintro e w2 ⟨rfl, rfl⟩) | (go_at_call 13; refine h6.mono ?_; rintro e w3 ⟨rfl, hB3⟩))
  go_ret
  exact ⟨rfl, hB3⟩
end Go.Proofs.Ytigoebmmkdhclaa.Pq
