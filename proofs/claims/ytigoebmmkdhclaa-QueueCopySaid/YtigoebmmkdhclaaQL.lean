import Derived.Test.YtigoebmmkdhclaaQK
namespace Go.Proofs.Ytigoebmmkdhclaa.Pq
open Go.RowKit Go.Proofs.YtigoebmmkdhclaaW.PrintWords Go.Proofs.YtigoebmmkdhclaaW.PrintLast Go.Proofs.YtigoebmmkdhclaaW.PrintMore
open QHeap
set_option linter.unusedVariables false
set_option linter.unusedSimpArgs false

/-- One queue, all else aside. -/
def One (w0 w : World) (g : Nat) (L : List S48) : Prop := Below w0.heap.size w0 w ∧ Qu w0 w (fun k => k ≠ g) g L
theorem One.below {w0 w w' : World} {g : Nat} {L : List S48} (h : One w0 w g L) (hb : Below w.heap.size w w') : One w0 w' g L := ⟨below_then h.1 h.1.size hb, h.2.below hb⟩
theorem one_new (w0 w : World) (hB : Below w0.heap.size w0 w) : Calls Try.prog 10 #[] w fun e w' => ∃ g, e = .returned (.pointer (some ⟨g, 0, none⟩)) ∧ One w0 w' g [] :=
  (new_any w0 w hB).mono fun e w' ⟨g, he, _, hq, _, hB'⟩ => ⟨g, he, hB', hq.mono (fun k hk => hk.2)⟩
theorem one_push (w0 w : World) (g : Nat) (L : List S48) (d x : Int) (h : One w0 w g L) : Calls Try.prog 11 #[.pointer (some ⟨g, 0, none⟩), .int .i64 d, .int .i64 x] w fun e w' => e = .returned (.bool (decide (L.length < 100))) ∧ One w0 w' g (if L.length < 100 then ins ⟨d, x⟩ L else L) :=
  (push_any w0 w _ g L d x h.1 (fun k hk => hk) h.2).mono fun e w' ⟨he, hq, hB, _⟩ => ⟨he, hB, hq.tight.mono (fun k hk => hk.2.1)⟩
theorem one_room (w0 w : World) (g : Nat) (L : List S48) (d x : Int) (h : One w0 w g L) (hl : L.length < 100) : Calls Try.prog 11 #[.pointer (some ⟨g, 0, none⟩), .int .i64 d, .int .i64 x] w fun e w' => e = .returned (.bool true) ∧ One w0 w' g (ins ⟨d, x⟩ L) :=
  (push_room w0 w _ g L d x h.1 (fun k hk => hk) h.2 hl).mono fun e w' ⟨he, hq, hB, _⟩ => ⟨he, hB, hq.tight.mono (fun k hk => hk.2.1)⟩
theorem one_len (w0 w : World) (g : Nat) (L : List S48) (h : One w0 w g L) : Calls Try.prog 14 #[.pointer (some ⟨g, 0, none⟩)] w fun e w' => e = .returned (.int .i64 L.length) ∧ w = w' := qlen_any w0 w _ g L h.2
theorem one_pop (w0 w : World) (g : Nat) (a : S48) (L : List S48) (h : One w0 w g (a :: L)) (hl : L.length < 1000) : Calls Try.prog 12 #[.pointer (some ⟨g, 0, none⟩)] w fun e w' => e = .returned (.tuple #[.int .i64 a.f0, .int .i64 a.f1, .bool true]) ∧ One w0 w' g L :=
  (pop_some w0 w _ g a L h.1 (fun k hk => hk) h.2 hl).mono fun e w' ⟨he, hq, hB, _⟩ => ⟨he, hB, hq.tight.mono (fun k hk => hk.2.1)⟩
theorem one_pop_none (w0 w : World) (g : Nat) (h : One w0 w g []) : Calls Try.prog 12 #[.pointer (some ⟨g, 0, none⟩)] w fun e w' => e = .returned (.tuple #[.int .i64 0, .int .i64 0, .bool false]) ∧ w = w' := pop_none w0 w _ g h.2
theorem one_peek (w0 w : World) (g : Nat) (a : S48) (L : List S48) (h : One w0 w g (a :: L)) : Calls Try.prog 15 #[.pointer (some ⟨g, 0, none⟩)] w fun e w' => e = .returned (.tuple #[.int .i64 a.f0, .int .i64 a.f1, .bool true]) ∧ One w0 w' g (a :: L) :=
  (peek_some w0 w _ g a L h.2).mono fun e w' ⟨he, ⟨n, hw⟩⟩ => ⟨he, by subst hw; exact h.below (pw_below_drewN (Below.refl _ _) _)⟩

set_option maxHeartbeats 4000000 in
theorem known_any (w0 w : World) (hB : Below w0.heap.size w0 w) : Calls Try.prog 13 #[] w fun e w' => e = .returned (.bool true) ∧ Below w0.heap.size w0 w' := by
  have h1 := one_new w0 w hB
  clear hB
  go_enter Try.func13, Try.ntmps13
  go_wp2_with fail
  go_at_call 10
  refine h1.mono ?_
  rintro e w1 ⟨g, rfl, q1⟩
  have h2 := one_room w0 w1 g [] 5 1 q1 (by simp)
  have X1 := Lib.hid q1
  clear q1
  go_wp2_with fail
  go_at_call 11
  refine h2.mono ?_
  rintro e w2 ⟨rfl, q2⟩
  have h3 := one_room w0 w2 g _ 3 9 q2 (by decide)
  have X2 := Lib.hid q2
  clear q2
  go_wp2_with fail
  go_at_call 11
  refine h3.mono ?_
  rintro e w3 ⟨rfl, q3⟩
  have h4 := one_len w0 w3 g _ q3
  rw [show ((ins (⟨3, 9⟩ : S48) (ins ⟨5, 1⟩ [])).length : Int) = 2 by decide] at h4
  have e3 : ins (⟨3, 9⟩ : S48) (ins ⟨5, 1⟩ []) = [⟨3, 9⟩, ⟨5, 1⟩] := by simp [ins, le]
  rw [e3] at q3
  clear e3
  have h5 := one_pop w0 w3 g _ _ q3 (by simp)
  have X3 := Lib.hid q3
  clear q3
  go_wp2_with fail
  go_at_call 14
  refine h4.mono ?_
  rintro e w4 ⟨rfl, rfl⟩
  go_wp2_with fail
  go_at_call 12
  refine h5.mono ?_
  rintro e w5 ⟨rfl, q5⟩
  have h6 := one_len w0 w5 g _ q5
  rw [show (([⟨5, 1⟩] : List S48).length : Int) = 1 by decide] at h6
  have X5 := Lib.hid q5
  clear q5
  go_wp2_with fail
  go_at_call 14
  refine h6.mono ?_
  rintro e w6 ⟨rfl, rfl⟩
  go_wp2
  go_ret
  exact ⟨rfl, X5.out.1⟩
end Go.Proofs.Ytigoebmmkdhclaa.Pq
