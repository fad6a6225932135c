import Derived.Test.YtigoebmmkdhclaaQG
namespace Go.Proofs.Ytigoebmmkdhclaa.Pq
open Go.RowKit Go.Proofs.YtigoebmmkdhclaaW.PrintWords Go.Proofs.YtigoebmmkdhclaaW.PrintLast Go.Proofs.YtigoebmmkdhclaaW.PrintMore
open QHeap
set_option linter.unusedVariables false
set_option linter.unusedSimpArgs false

/-- A queue at block g that stands for the sorted row L. -/
def Qu (w0 w : World) (P : Nat → Prop) (g : Nat) (L : List S48) : Prop := ∃ v xs, QAt w0 w P g v xs ∧ Rep xs L
theorem Qu.below {w0 w w' : World} {P : Nat → Prop} {g : Nat} {L : List S48} (h : Qu w0 w P g L) (hb : Below w.heap.size w w') : Qu w0 w' P g L := by
  obtain ⟨v, xs, hq, hr⟩ := h; exact ⟨v, xs, hq.below hb, hr⟩
theorem Qu.mono {w0 w : World} {P P' : Nat → Prop} {g : Nat} {L : List S48} (h : Qu w0 w P g L) (hp : ∀ k, P k → P' k) : Qu w0 w P' g L := by
  obtain ⟨v, xs, hq, hr⟩ := h; exact ⟨v, xs, hq.mono hp, hr⟩
theorem Qu.tight {w0 w : World} {P : Nat → Prop} {g : Nat} {L : List S48} (h : Qu w0 w P g L) : Qu w0 w (fun k => P k ∧ k ≠ g ∧ k < w.heap.size) g L := by
  obtain ⟨v, xs, hq, hr⟩ := h; exact ⟨v, xs, hq.tight, hr⟩
theorem Qu.kept {w0 w w' : World} {P S : Nat → Prop} {g : Nat} {L : List S48} (h : Qu w0 w P g L) (hk : Kept w w' S) (h1 : ∀ k, P k → ¬ S k) (h2 : ¬ S g) : Qu w0 w' P g L := by
  obtain ⟨v, xs, hq, hr⟩ := h; exact ⟨v, xs, hq.kept hk h1 h2, hr⟩

def QPost (w0 w : World) (P : Nat → Prop) (g : Nat) (v : Value) (L : List S48) (e : Ending) (w' : World) : Prop :=
  e = .returned v ∧ Qu w0 w' (fun k => P k ∨ w.heap.size ≤ k) g L ∧ Below w0.heap.size w0 w' ∧ Kept w w' (fun k => P k ∨ k = g)

set_option maxHeartbeats 2000000 in
set_option maxRecDepth 100000 in
theorem push_room (w0 w : World) (P : Nat → Prop) (gq : Nat) (L : List S48) (d x : Int) (hB : Below w0.heap.size w0 w) (hP : ∀ k, P k → k ≠ gq) (hq : Qu w0 w P gq L) (hl : L.length < 100) :
    Calls Try.prog 11 #[.pointer (some ⟨gq, 0, none⟩), .int .i64 d, .int .i64 x] w (QPost w0 w P gq (.bool true) (ins ⟨d, x⟩ L)) := by
  obtain ⟨v, xs, hq, hr⟩ := hq
  have hgq := blk_lt hq.blk
  have hlx := hr.length
  have hc := hq.cell
  obtain ⟨A, c, rfl⟩ := Kd.R_slice hq.row
  have h1 := hpush_any w0 w P gq _ xs ⟨d, x⟩ hB hP hq (by omega) hr.heap
  have hR := Lib.hid hr
  clear hr
  have hl2 : (xs.length : Int) < 100 := by omega
  have hl3 : decide ((xs.length : Int) ≥ 100) = false := by simp; omega
  have HX := Lib.hid hlx
  clear hlx
  go_enter Try.func11, Try.ntmps11
  go_wp2_with fail
  go_at_call 20
  refine h1.mono ?_
  rintro e w1 ⟨rfl, v', ys, hq1, hperm, hh, hB1, hK1⟩
  go_wp2
  go_ret
  exact ⟨rfl, ⟨v', ys, hq1, hR.out.push hperm hh⟩, hB1, hK1⟩

set_option maxHeartbeats 2000000 in
set_option maxRecDepth 100000 in
theorem push_full (w0 w : World) (P : Nat → Prop) (gq : Nat) (L : List S48) (d x : Int) (hB : Below w0.heap.size w0 w) (hq : Qu w0 w P gq L) (hl : 100 ≤ L.length) :
    Calls Try.prog 11 #[.pointer (some ⟨gq, 0, none⟩), .int .i64 d, .int .i64 x] w (QPost w0 w P gq (.bool false) L) := by
  have hq0 := Lib.hid hq
  obtain ⟨v, xs, hq, hr⟩ := hq
  have hgq := blk_lt hq.blk
  have hlx := hr.length
  have hc := hq.cell
  obtain ⟨A, c, rfl⟩ := Kd.R_slice hq.row
  have hl3 : decide ((xs.length : Int) ≥ 100) = true := by simp; omega
  have HX := Lib.hid hlx
  clear hlx hr hq
  go_enter Try.func11, Try.ntmps11
  go_wp2
  go_ret
  exact ⟨rfl, hq0.out.mono (fun k h => .inl h), hB, Kept.refl _ _⟩

theorem push_any (w0 w : World) (P : Nat → Prop) (gq : Nat) (L : List S48) (d x : Int) (hB : Below w0.heap.size w0 w) (hP : ∀ k, P k → k ≠ gq) (hq : Qu w0 w P gq L) :
    Calls Try.prog 11 #[.pointer (some ⟨gq, 0, none⟩), .int .i64 d, .int .i64 x] w (QPost w0 w P gq (.bool (decide (L.length < 100))) (if L.length < 100 then ins ⟨d, x⟩ L else L)) := by
  by_cases h : L.length < 100
  · rw [if_pos h, decide_eq_true h]; exact push_room w0 w P gq L d x hB hP hq h
  · rw [if_neg h, decide_eq_false h]; exact push_full w0 w P gq L d x hB hq (by omega)

theorem push_nil (w : World) (d x : Int) : Calls Try.prog 11 #[.pointer none, .int .i64 d, .int .i64 x] w fun e w' => e = .returned (.bool false) ∧ w = w' := by
  go_enter Try.func11, Try.ntmps11
  go_wp2
  go_ret
  exact ⟨rfl, rfl⟩
theorem qlen_nil (w : World) : Calls Try.prog 14 #[.pointer none] w fun e w' => e = .returned (.int .i64 0) ∧ w = w' := by
  go_enter Try.func14, Try.ntmps14
  go_wp2
  go_ret
  exact ⟨rfl, rfl⟩
theorem qlen_any (w0 w : World) (P : Nat → Prop) (gq : Nat) (L : List S48) (hq : Qu w0 w P gq L) : Calls Try.prog 14 #[.pointer (some ⟨gq, 0, none⟩)] w fun e w' => e = .returned (.int .i64 L.length) ∧ w = w' := by
  obtain ⟨v, xs, hq, hr⟩ := hq
  have hlx := hr.length
  have hc := hq.cell
  obtain ⟨A, c, rfl⟩ := Kd.R_slice hq.row
  rw [← hlx]
  clear hlx hr hq
  go_enter Try.func14, Try.ntmps14
  go_wp2
  go_ret
  exact ⟨rfl, rfl⟩
theorem peek_nil (w : World) : Calls Try.prog 15 #[.pointer none] w fun e w' => e = .returned (.tuple #[.int .i64 0, .int .i64 0, .bool false]) ∧ w = w' := by
  have h := qlen_nil w
  go_enter Try.func15, Try.ntmps15
  go_wp2_with (go_at_call 14; refine h.mono ?_; rintro e w' ⟨rfl, rfl⟩)
  go_ret3
  exact ⟨rfl, rfl⟩
theorem peek_none (w0 w : World) (P : Nat → Prop) (gq : Nat) (hq : Qu w0 w P gq []) : Calls Try.prog 15 #[.pointer (some ⟨gq, 0, none⟩)] w fun e w' => e = .returned (.tuple #[.int .i64 0, .int .i64 0, .bool false]) ∧ w = w' := by
  have h := qlen_any w0 w P gq [] hq
  rw [show (([] : List S48).length : Int) = 0 by rfl] at h
  go_enter Try.func15, Try.ntmps15
  go_wp2_with (go_at_call 14; refine h.mono ?_; rintro e w' ⟨rfl, rfl⟩)
  go_ret3
  exact ⟨rfl, rfl⟩
set_option maxHeartbeats 2000000 in
theorem peek_some (w0 w : World) (P : Nat → Prop) (gq : Nat) (a : S48) (L : List S48) (hq : Qu w0 w P gq (a :: L)) : Calls Try.prog 15 #[.pointer (some ⟨gq, 0, none⟩)] w fun e w' => e = .returned (.tuple #[.int .i64 a.f0, .int .i64 a.f1, .bool true]) ∧ Drawn0 w w' := by
  have h := qlen_any w0 w P gq _ hq
  obtain ⟨v, xs, hq, hr⟩ := hq
  have hlx := hr.length
  rw [List.length_cons] at hlx
  obtain ⟨L', e⟩ := hr.head (by omega)
  obtain ⟨rfl, _⟩ := List.cons.inj e
  clear e
  have hc := hq.cell
  obtain ⟨g, cap, rfl, hg1, hg2, _⟩ := Kd.R_form hq.row (by omega)
  obtain ⟨ce, hcl, hM, hcc, hfr⟩ := Kd.R_elem hq.row z48 (0 : Int) (by omega) (by omega)
  obtain rfl := k48_openM hM
  have hx0 : w.cell? ⟨g, 0, none⟩ = some (.int .i64 (QHeap.g xs 0).f0) := hcc 0 _ rfl
  have hx1 : w.cell? ⟨g, 1, none⟩ = some (.int .i64 (QHeap.g xs 0).f1) := hcc 1 _ rfl
  have hn0 : (0 : Int) < xs.length := by omega
  have hn1 : (((QHeap.g xs 0 :: L).length : Int) == 0) = false := by simp; omega
  clear hcl hM hcc hfr hlx hr hq
  go_enter Try.func15, Try.ntmps15
  go_wp2_with (go_at_call 14; refine h.mono ?_; rintro e w' ⟨rfl, rfl⟩)
  go_quiet (fail)
  go_wp2
  go_ret3
  exact ⟨rfl, ⟨⟨_, rfl⟩⟩⟩
end Go.Proofs.Ytigoebmmkdhclaa.Pq
