import Derived.Test.YtigoebmmkdhclaaQO
import Derived.Test.YtigoebmmkdhclaaOpen
import Derived.StillTailTactics
namespace Go.Proofs.Ytigoebmmkdhclaa.Pq
open Go.RowKit Go.Proofs.YtigoebmmkdhclaaW.PrintWords Go.Proofs.YtigoebmmkdhclaaW.PrintLast Go.Proofs.YtigoebmmkdhclaaW.PrintMore
open QHeap OpenKd
set_option linter.unusedVariables false
set_option linter.unusedSimpArgs false

/-- An act: its kind, due, what. -/
structure Act3 where
  f0 : Int
  f1 : Int
  f2 : Int
def zAct : Act3 := ⟨0, 0, 0⟩
def kAct : Kd Act3 := Kd.iso (Kd.pair (Kd.int .i64) (Kd.pair (Kd.int .i64) (Kd.int .i64))) (fun x => (x.f0, x.f1, x.f2))
theorem kAct_open {w : World} {x : Act3} {cs : List Value} (h : kAct.K w x cs) : cs = [.int .i64 x.f0, .int .i64 x.f1, .int .i64 x.f2] := by
  obtain ⟨_, _, rfl, rfl, ⟨_, _, rfl, rfl, rfl⟩⟩ := h
  exact rfl
theorem at_act {w : World} {A : Option Addr} {n : Nat} {xs : List Act3} (h : Kd.C kAct w A n xs) (i : Nat) (h1 : i < n) : ∃ ad, A = some ad ∧ w.cell? (ad.add (i * 3)) = some (.int .i64 (xs.getD i zAct).f0) ∧ w.cell? ⟨(ad.add (i * 3)).block, (ad.add (i * 3)).off + 1, none⟩ = some (.int .i64 (xs.getD i zAct).f1) ∧ w.cell? ⟨(ad.add (i * 3)).block, (ad.add (i * 3)).off + 2, none⟩ = some (.int .i64 (xs.getD i zAct).f2) := by
  obtain ⟨ad, c, e, _, hK, hc0⟩ := Kd.C_get h zAct (i : Int) (by omega) (by omega)
  have hc : ∀ j u, c[j]? = some u → w.cell? (ad.add (i * 3 + j)) = some u := hc0
  obtain rfl := kAct_open hK
  exact ⟨ad, e, hc 0 _ rfl, by rw [← add_field _ _ 1 (by omega)]; exact hc 1 _ rfl, by rw [← add_field _ _ 2 (by omega)]; exact hc 2 _ rfl⟩
theorem opens_act {H : Type} {enc : TypeId × Value → H} {w : World} : Opens enc Try.prog w 38 kAct (fun y => (Lit.int .i64 y.f0).wf = true ∧ (Lit.int .i64 y.f1).wf = true ∧ (Lit.int .i64 y.f2).wf = true) :=
  opens_struct Try.underlying38 (by kernel_rfl) (opens_cons rfl (opens_int Try.underlying3 (by kernel_rfl)) rfl (opens_cons rfl (opens_int Try.underlying3 (by kernel_rfl)) rfl (opens_last rfl (opens_int Try.underlying3 (by kernel_rfl))))) (fun a => ⟨a.1, a.2.1, a.2.2⟩) (fun _ => rfl)
theorem opens_acts {H : Type} {enc : TypeId × Value → H} {w : World} : Opens enc Try.prog w 32 (Kd.slice 38 kAct) (fun xs => xs.length * Try.prog.bytesOf 38 ≤ 140737488351232 ∧ ∀ y ∈ xs, (Lit.int .i64 y.f0).wf = true ∧ (Lit.int .i64 y.f1).wf = true ∧ (Lit.int .i64 y.f2).wf = true) := opens_slice Try.underlying32 (by kernel_rfl) opens_act

def gv (l : List Act3) (i : Nat) : Act3 := l.getD i zAct
def putA (l : List Act3) : Nat → List S48
  | 0 => []
  | i + 1 => ins ⟨(gv l i).f1, (gv l i).f2⟩ (putA l i)
theorem putA_length (l : List Act3) (i : Nat) : (putA l i).length = i := by
  induction i with
  | zero => rfl
  | succ i ih => unfold putA; rw [ins_length, ih]

set_option maxHeartbeats 8000000 in
set_option maxRecDepth 100000 in
theorem queueCopy_walk (A : Option Addr) (c : Nat) (l : List Act3) (due : Int) (w : World) (hr : Kd.C kAct w A l.length l) (hc : l.length ≤ c) : Calls Try.prog 8 #[.slice A l.length c, .int .i64 due] w fun e w' => e = .returned (.bool true) ∧ Below w.heap.size w w' := by
  by_cases h100 : l.length ≤ 60
  case neg =>
    have h100' : (60 : Int) < l.length := by omega
    clear hr
    go_enter Try.func8, Try.ntmps8
    go_wp2
    go_ret
    exact ⟨rfl, Below.refl _ _⟩
  have h100' : ¬ (60 : Int) < l.length := by omega
  have HR := Lib.hid hr
  clear hr
  obtain ⟨n, hn⟩ : ∃ n, n = l.length := ⟨_, rfl⟩
  have HN := Lib.hid hn
  rw [← hn] at hc h100 h100' ⊢
  clear hn
  have h1 := one_new w w (Below.refl _ _)
  go_enter Try.func8, Try.ntmps8
  go_wp2_with fail
  go_at_call 10
  refine h1.mono ?_
  rintro e w1 ⟨g, rfl, q1⟩
  have X1 := Lib.hid q1
  clear q1 h1
  go_wp2
  go_loopg [6, 7] n (fun gg s6 s7 wr => ∃ i : Nat, s7 = .int .i64 i ∧ s6 = .int .i64 i ∧ i + gg = n ∧ Hid (One w wr g (putA l i)))
  case atStart => exact ⟨0, rfl, rfl, by omega, X1⟩
  case round =>
    obtain ⟨i, rfl, rfl, hig, X⟩ := hrel
    by_cases hlt : i < n
    · have hl := putA_length l i
      obtain ⟨ad, rfl, hx0, hx1, hx2⟩ := at_act HR.out i (by have := HN.out; omega)
      have hy1 : wr.cell? ⟨(ad.add (i * 3)).block, (ad.add (i * 3)).off + 1, none⟩ = some (.int .i64 (gv l i).f1) := (X.out.1.cell (World.block_lt_of_cell? w _ hx1)).trans hx1
      have hy2 : wr.cell? ⟨(ad.add (i * 3)).block, (ad.add (i * 3)).off + 2, none⟩ = some (.int .i64 (gv l i).f2) := (X.out.1.cell (World.block_lt_of_cell? w _ hx2)).trans hx2
      clear hx0 hx1 hx2
      have hp := fun (N : Nat) => one_room w (wr.drewN N) g (putA l i) (gv l i).f1 (gv l i).f2 (X.out.below (pw_below_drewN (Below.refl _ _) N)) (by omega)
      have HP := Lib.hid hp
      clear hl hp
      have hlt' : (i : Int) < n := by omega
      have hi2 : (i : Int) ≤ 60 := by omega
      go_wp2
      go_still_tail 11, (by kernel_rfl)
      go_wp2_with (go_at_call 11; refine (HP.out _).mono ?_; rintro e w2 ⟨rfl, q2⟩; (have X2 := Lib.hid q2); clear q2)
      go_roundg (n - (i + 1))
      case measure => omega
      case rel => exact ⟨i + 1, by go_num, by go_num, by omega, X2⟩
    · obtain rfl : i = n := by omega
      clear hlt hig
      obtain ⟨wl, rfl⟩ : ∃ wl : World, wl = wr := ⟨_, rfl⟩
      have hlen := putA_length l i
      have hcp := copy_any w wl _ g (putA l i) X.out.1 X.out.2 (by omega)
      clear hlen
      go_wp2_with fail
      go_at_call 19
      refine hcp.mono ?_
      unfold QCopy
      rintro e w2 ⟨g2, rfl, hge, hq2, hb2, hB2⟩
      have hg0 : g < wl.heap.size := by obtain ⟨v, xs, hq, _⟩ := X.out.2; exact blk_lt hq.blk
      have hqa := (X.out.2.tight.below hb2).mono (P' := fun k => k < wl.heap.size ∧ k ≠ g) (fun k hk => ⟨hk.2.2, hk.2.1⟩)
      have hps := push_room w w2 _ g2 (putA l i) due 0 hB2 (fun k hk => hk.2) hq2 (by rw [putA_length]; omega)
      have H2 := Lib.hid (And.intro hqa (And.intro hb2 hB2))
      clear hqa hb2 hB2 hq2
      go_wp2_with fail
      go_at_call 11
      refine hps.mono ?_
      rintro e w3 ⟨rfl, hq3, hB3, hK3⟩
      have hqb := H2.out.1.kept hK3 (fun k hk h => h.elim (fun h => by omega) (fun h => by omega)) (fun h => h.elim (fun h => by omega) (fun h => by omega))
      have hg3 : g2 < w3.heap.size := by obtain ⟨v, xs, hq, _⟩ := hq3; exact blk_lt hq.blk
      have hs2 := H2.out.2.1.size
      have hqc := hq3.tight.mono (P' := fun k => (wl.heap.size ≤ k ∧ k < w3.heap.size) ∧ k ≠ g2) (fun k hk => ⟨⟨by rcases hk.1 with h | h <;> omega, hk.2.2⟩, hk.2.1⟩)
      have hqd := hqb.mono (P' := fun k => (k < wl.heap.size ∨ w3.heap.size ≤ k) ∧ k ≠ g) (fun k hk => ⟨.inl hk.1, hk.2⟩)
      have X3 := Lib.hid (And.intro hqd (And.intro hqc hB3))
      clear hqb hq3 hqc hqd hB3 hK3 hs2
      obtain ⟨S, hS⟩ : ∃ S, S = wl.heap.size := ⟨_, rfl⟩
      obtain ⟨S2, hS2⟩ : ∃ S, S = w3.heap.size := ⟨_, rfl⟩
      have Y3 : Hid (Qu w w3 (fun k => (k < S ∨ S2 ≤ k) ∧ k ≠ g) g (putA l i) ∧ Qu w w3 (fun k => (S ≤ k ∧ k < S2) ∧ k ≠ g2) g2 (ins ⟨due, 0⟩ (putA l i)) ∧ Below w.heap.size w w3 ∧ S2 ≤ w3.heap.size) := Lib.hid (by rw [hS, hS2]; exact ⟨X3.out.1, X3.out.2.1, X3.out.2.2, Nat.le_refl _⟩)
      have hgS : g < S ∧ S ≤ g2 ∧ g2 < S2 := by omega
      clear hS hS2 X3 H2 hge hg0 hg3 X hcp hps
      go_wp2
      go_loopg [9] i (fun gg s9 wr => ∃ j : Nat, s9 = .int .i64 j ∧ j + gg = i ∧ Hid (Qu w wr (fun k => (k < S ∨ S2 ≤ k) ∧ k ≠ g) g ((putA l i).drop j) ∧ Qu w wr (fun k => (S ≤ k ∧ k < S2) ∧ k ≠ g2) g2 (ins ⟨due, 0⟩ (putA l i)) ∧ Below w.heap.size w wr ∧ S2 ≤ wr.heap.size))
      case atStart => exact ⟨0, rfl, by omega, Y3⟩
      case round =>
        clear Y3
        obtain ⟨j, rfl, hjg, Y⟩ := hrel
        have hlen := Lib.hid (putA_length l i)
        by_cases hlt : j < i
        · have ed := drop_nth (putA l i) j (by have := hlen.out; omega)
          have hq := Y.out.1
          rw [ed] at hq
          clear ed
          have hp := pop_some w wr _ g _ _ Y.out.2.2.1 (fun k hk => hk.2) hq (by have := hlen.out; simp; omega)
          clear hq
          have hlt' : (j : Int) < i := by omega
          have hi2 : (j : Int) ≤ 60 := by omega
          go_wp2_with fail
          go_at_call 12
          refine hp.mono ?_
          rintro e w4 ⟨rfl, hq4, hB4, hK4⟩
          have hs4 := hK4.1
          have hz : S2 ≤ wr.heap.size := Y.out.2.2.2
          have hqa := hq4.tight.mono (P' := fun k => (k < S ∨ S2 ≤ k) ∧ k ≠ g) (fun k hk => ⟨by rcases hk.1 with h | h; exact h.1; exact .inr (by omega), hk.2.1⟩)
          have hqb := Y.out.2.1.kept hK4 (fun k hk h => h.elim (fun h => by omega) (fun h => by omega)) (fun h => h.elim (fun h => by omega) (fun h => by omega))
          have Y4 := Lib.hid (And.intro hqa (And.intro hqb (And.intro hB4 (show S2 ≤ w4.heap.size by omega))))
          clear hqa hqb hB4 hK4 hq4 hs4
          go_wp2
          go_roundg (i - (j + 1))
          case measure => omega
          case rel => exact ⟨j + 1, by go_num, by omega, Y4⟩
        · obtain rfl : j = i := by omega
          clear hlt hjg
          have hd : (putA l j).drop j = [] := List.drop_of_length_le (by have := hlen.out; omega)
          have hq := Y.out.1
          rw [hd] at hq
          clear hd
          have hp := qlen_any w wr _ g _ hq
          rw [show (([] : List S48).length : Int) = 0 by rfl] at hp
          have hp2 := qlen_any w wr _ g2 _ Y.out.2.1
          rw [ins_length, putA_length, show ((j + 1 : Nat) : Int) = (j : Int) + 1 by omega] at hp2
          have hk := known_any w wr Y.out.2.2.1
          clear hq
          go_wp2_with fail
          go_at_call 14
          refine hp.mono ?_
          rintro e w5 ⟨rfl, rfl⟩
          go_wp2_with fail
          go_at_call 14
          refine hp2.mono ?_
          rintro e w5 ⟨rfl, rfl⟩
          go_wp2_with (go_at_call 13; refine hk.mono ?_; rintro e w6 ⟨rfl, hB3⟩)
          go_ret
          exact ⟨rfl, hB3⟩
end Go.Proofs.Ytigoebmmkdhclaa.Pq
