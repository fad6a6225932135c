import Derived.Test.YtigoebmmkdhclaaQJ
namespace Go.Proofs.Ytigoebmmkdhclaa.Pq
open Go.RowKit Go.Proofs.YtigoebmmkdhclaaW.PrintWords Go.Proofs.YtigoebmmkdhclaaW.PrintLast Go.Proofs.YtigoebmmkdhclaaW.PrintMore
open QHeap
set_option linter.unusedVariables false
set_option linter.unusedSimpArgs false

theorem copy_nil (w : World) : Calls Try.prog 19 #[.pointer none] w fun e w' => e = .returned (.pointer none) ∧ w = w' := by
  go_enter Try.func19, Try.ntmps19
  go_wp2
  go_ret
  exact ⟨rfl, rfl⟩

def QCopy (w0 w : World) (L : List S48) (e : Ending) (w' : World) : Prop := ∃ g, e = .returned (.pointer (some ⟨g, 0, none⟩)) ∧ w.heap.size ≤ g ∧ Qu w0 w' (fun k => w.heap.size ≤ k ∧ k ≠ g) g L ∧ Below w.heap.size w w' ∧ Below w0.heap.size w0 w'
set_option maxHeartbeats 2000000 in
theorem copy_any (w0 w : World) (P : Nat → Prop) (gq : Nat) (L : List S48) (hB : Below w0.heap.size w0 w) (hq : Qu w0 w P gq L) (hl : L.length ≤ 1000) :
    Calls Try.prog 19 #[.pointer (some ⟨gq, 0, none⟩)] w (QCopy w0 w L) := by
  have hB0 := Lib.hid hB
  clear hB
  obtain ⟨v, xs, hq, hr⟩ := hq
  have hlx := hr.length
  have hc := hq.cell
  obtain ⟨A, c, rfl, hlc, hC⟩ := Kd.R_reads hq.row
  have h := clone_any w A c xs hC hlc (by omega)
  have HR := Lib.hid hr
  clear hlx hr hq hC
  go_enter Try.func19, Try.ntmps19
  go_wp2_with fail
  go_at_call 22
  refine h.mono ?_
  rintro e w1 ⟨v1, rfl, hR1, hB1⟩
  obtain ⟨A1, c1, rfl, _⟩ := Kd.R_reads hR1
  have H1 := Lib.hid (And.intro hR1 hB1)
  clear hR1 hB1
  go_wp2
  go_ret
  obtain ⟨hR1, hB1⟩ := H1.out
  have hs := hB1.size
  have hs0 := hB0.out.size
  have hB2 := below_alloc hB1 (.cells #[.slice A1 xs.length c1] 44)
  refine ⟨w1.heap.size, rfl, hs, ⟨_, xs, ⟨by omega, heap_alloc_new w1 _, ?_⟩, HR.out⟩, hB2, below_then hB0.out hs0 hB2⟩
  exact Kd.R_mono (Kd.R_bound (Kd.R_lower (Kd.R_alloc (Kd.R_mono (Kd.R_bound hR1) (fun k hk => hk.2)) _) hs0)) (fun k hk => ⟨by have := hk.1.1; omega, by have := hk.1.2.1; omega⟩)
end Go.Proofs.Ytigoebmmkdhclaa.Pq
