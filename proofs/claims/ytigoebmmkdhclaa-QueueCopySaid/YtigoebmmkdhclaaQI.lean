import Derived.Test.YtigoebmmkdhclaaQH
namespace Go.Proofs.Ytigoebmmkdhclaa.Pq
open Go.RowKit Go.Proofs.YtigoebmmkdhclaaW.PrintWords Go.Proofs.YtigoebmmkdhclaaW.PrintLast Go.Proofs.YtigoebmmkdhclaaW.PrintMore
open QHeap
set_option linter.unusedVariables false
set_option linter.unusedSimpArgs false

def QNew (w0 w : World) (e : Ending) (w' : World) : Prop := ∃ g, e = .returned (.pointer (some ⟨g, 0, none⟩)) ∧ w.heap.size ≤ g ∧ Qu w0 w' (fun k => w.heap.size ≤ k ∧ k ≠ g) g [] ∧ Below w.heap.size w w' ∧ Below w0.heap.size w0 w'
theorem new_any (w0 w : World) (hB : Below w0.heap.size w0 w) : Calls Try.prog 10 #[] w (QNew w0 w) := by
  have hs := hB.size
  have hB0 := Lib.hid hB
  clear hB
  go_enter Try.func10, Try.ntmps10
  go_wp2
  go_ret
  refine ⟨w.heap.size, rfl, Nat.le_refl _, ⟨.slice none 0 0, [], ⟨hs, heap_alloc_new w _, Kd.R_nil _ _ _ _ _⟩, Rep.nil⟩, below_alloc (Below.refl _ _) _, below_alloc hB0.out _⟩

theorem pop_nil (w : World) : Calls Try.prog 12 #[.pointer none] w fun e w' => e = .returned (.tuple #[.int .i64 0, .int .i64 0, .bool false]) ∧ w = w' := by
  have h := peek_nil w
  go_enter Try.func12, Try.ntmps12
  go_wp2_with (go_at_call 15; refine h.mono ?_; rintro e w' ⟨rfl, rfl⟩)
  go_ret3
  exact ⟨rfl, rfl⟩
theorem pop_none (w0 w : World) (P : Nat → Prop) (gq : Nat) (hq : Qu w0 w P gq []) : Calls Try.prog 12 #[.pointer (some ⟨gq, 0, none⟩)] w fun e w' => e = .returned (.tuple #[.int .i64 0, .int .i64 0, .bool false]) ∧ w = w' := by
  have h := peek_none w0 w P gq hq
  clear hq
  go_enter Try.func12, Try.ntmps12
  go_wp2_with (go_at_call 15; refine h.mono ?_; rintro e w' ⟨rfl, rfl⟩)
  go_ret3
  exact ⟨rfl, rfl⟩
set_option maxHeartbeats 2000000 in
theorem pop_some (w0 w : World) (P : Nat → Prop) (gq : Nat) (a : S48) (L : List S48) (hB : Below w0.heap.size w0 w) (hP : ∀ k, P k → k ≠ gq) (hq : Qu w0 w P gq (a :: L)) (hl : L.length < 1000) : Calls Try.prog 12 #[.pointer (some ⟨gq, 0, none⟩)] w (QPost w0 w P gq (.tuple #[.int .i64 a.f0, .int .i64 a.f1, .bool true]) L) := by
  have h := peek_some w0 w P gq a L hq
  have hB0 := Lib.hid hB
  clear hB
  have HQ := Lib.hid hq
  clear hq
  go_enter Try.func12, Try.ntmps12
  go_wp2_with fail
  go_at_call 15
  refine h.mono ?_
  rintro e w1 ⟨rfl, ⟨n, rfl⟩⟩
  have hb1 : Below w.heap.size w (w.drewN n) := pw_below_drewN (Below.refl _ _) _
  have hq1 := HQ.out.below hb1
  obtain ⟨v, xs, hq2, hr⟩ := hq1
  have hlx := hr.length
  rw [List.length_cons] at hlx
  have h2 := hpop_any w0 (w.drewN n) P gq v xs L a (below_then hB0.out hB0.out.size hb1) hP hq2 (by omega) hr
  clear hlx hq2 hr
  go_wp2_with fail
  go_at_call 21
  refine h2.mono ?_
  unfold HPop
  rintro e w2 ⟨⟨u, rfl⟩, v', ys, hq3, hr3, hB3, hK3⟩
  go_wp2
  go_ret3
  exact ⟨rfl, ⟨v', ys, hq3, hr3⟩, hB3, (Kept.of_below hb1 _).then_ hK3 (fun k hk => .inl hk)⟩
end Go.Proofs.Ytigoebmmkdhclaa.Pq
