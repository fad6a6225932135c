/- Walks and plain laws on the way to the law XlateUnlike: several texts of this workplace and of the kit's printer, merged; what is not used is struck, by a program. No condition. -/
import Derived.Lib.Hide
import Derived.Test.YteddgedacjdjgaaMXlateUnlike1
import Derived.Test.YteddgedacjdjgaaMXlateUnlike0
import Derived.Test.YteddgedacjdjgaaMXlateUnlike4
import Derived.Test.YteddgedacjdjgaaMXlateUnlike3
section
namespace Go.Proofs.Yteddgedacjdjgaa.Pm
open Go.RowKit Go.Proofs.YteddgedacjdjgaaW.PrintWords Go.Proofs.YteddgedacjdjgaaW.PrintLast Go.Proofs.YteddgedacjdjgaaW.PrintMore
attribute [local go_sem] max2_int min2_int max_two min_two max_three min_three max_four min_four   -- for this text's walks alone
set_option linter.unusedVariables false
set_option linter.unusedSimpArgs false
def withoutC (c : Mc) (i : Nat) (x : S41) : List (S104) := if (i : Int) = 0 then [] else if x.f1 = 5 then [⟨flagF i 1, x.f4, passF c.la i 1⟩] else []
def withoutU (c : Mc) (i : Nat) (kd : Int) : List (S108) := if (i : Int) = 0 then [] else (if kd = 2 then [userU c i 3 2 3] else if kd = 4 then [userU c i 4 1 1] else []) ++ [userU c i 5 1 0, userU c i 5 2 0]
def WithPost (c : Mc) (w0 w : World) (g : Nat) (vr vc vu : Value) (rs : List (S72)) (cs : List (S104)) (us : List (S108)) (e : Ending) (w' : World) : Prop := e = .returned (.tuple #[]) ∧ ∃ vc' vu', Mu c w0 w' g vr vc' vu' rs cs us ∧ G2 g vc vc' vu vu' w w'
theorem iCounter_ : (Try.prog.info? 104).map (fun i => (i.zero, i.size, i.bytes)) = some (some (.agg #[.int .i64 0, .int .i64 0, .int .i64 0]), 3, 24) := by kernel_rfl
set_option maxHeartbeats 16000000 in
set_option maxRecDepth 100000 in
theorem without_any (c : Mc) (w0 w : World) (g : Nat) (vr vc vu : Value) (rs : List (S72)) (cs : List (S104)) (us : List (S108)) (i : Nat) (hM : Mu c w0 w g vr vc vu rs cs us) (hm : Mm c w0) (hi : i < c.l.length) (hcl : cs.length ≤ 90000) (hul : us.length ≤ 90000) :
 Calls Try.prog 40 #[.pointer (some ⟨g, 0, none⟩), .int .i64 i] w (WithPost c w0 w g vr vc vu rs (cs ++ withoutC c i (q81 c.l (i : Int))) (us ++ withoutU c i (q81 c.l (i : Int)).f1)) := by
 have hu25 := Try.underlying25
 have hu32 := Try.underlying32
 have hu58 := Try.underlying58
 have hu41 := Try.underlying41
 have hml := hm.2.2.2.2.1
 have hla := hm.2.2.2.2.2.1
 have hcz1 : w.cell? ⟨g, 1, none⟩ = some (.slice c.A1 c.l.length c.c1) := (q63 hM.2.2.1 1).trans rfl
 obtain ⟨ad, A5, c5, A6, c6, e, x0, x1, x2, x3, x4, x5, x6, l5, g5, l6, g6⟩ := at_T41 (hm.at hM.1).2 (i : Int) (by omega) (by omega)
 simp only [Int.toNat_natCast] at x0 x1 x2 x3 x4 x5 x6
 rw [e] at hcz1
 obtain ⟨x, hx⟩ : ∃ x, x = q81 c.l (i : Int) := ⟨_, rfl⟩
 rw [← hx] at x0 x1 x2 x3 x4 x5 x6 ⊢
 obtain ⟨n5, hn5e⟩ : ∃ n5, n5 = x.f5.length := ⟨_, rfl⟩
 obtain ⟨n6, hn6⟩ : ∃ n6, n6 = x.f6.length := ⟨_, rfl⟩
 rw [← hn5e] at x5
 rw [← hn6] at x6
 obtain ⟨n, hn⟩ : ∃ n, n = c.l.length := ⟨_, rfl⟩
 rw [← hn] at hcz1
 have hlt : (i : Int) < (n : Int) := by omega
 obtain ⟨kd, hk⟩ : ∃ kd, kd = x.f1 := ⟨_, rfl⟩
 rw [← hk] at x1 ⊢
 obtain ⟨f0, hf0⟩ : ∃ f0, f0 = x.f0 := ⟨_, rfl⟩
 rw [← hf0] at x0
 obtain ⟨f2, hf2⟩ : ∃ f2, f2 = x.f2 := ⟨_, rfl⟩
 rw [← hf2] at x2
 obtain ⟨f3, hf3⟩ : ∃ f3, f3 = x.f3 := ⟨_, rfl⟩
 rw [← hf3] at x3
 obtain ⟨f4, hf4⟩ : ∃ f4, f4 = x.f4 := ⟨_, rfl⟩
 rw [← hf4] at x4
 obtain ⟨RC, hRC⟩ : ∃ RC, RC = withoutC c i x := ⟨_, rfl⟩
 obtain ⟨RU, hRU⟩ : ∃ RU, RU = withoutU c i kd := ⟨_, rfl⟩
 rw [← hRC, ← hRU]
 have HRC : Hid (RC = if (i : Int) = 0 then [] else if kd = 5 then [⟨flagF i 1, f4, passF c.la i 1⟩] else []) := Lib.hid (by rw [hRC, withoutC, hk, hf4])
 have HRU := Lib.hid hRU
 have HM := Lib.hid hM
 have HMM := Lib.hid hm
 have hiL := Lib.hid hi
 have hi1 : (i : Int) ≤ 1000 := by omega
 have hgl := hM.lt
 clear hM hm e l5 g5 l6 g6 hx hn5e hn6 hn hk hf0 hf2 hf3 hf4 hRC hRU hi hml
 by_cases h0 : (i : Int) = 0
 ·have HN : Hid (RC = [] ∧ RU = []) := Lib.hid ⟨by rw [HRC.out, if_pos h0], by rw [HRU.out, withoutU, if_pos h0]⟩
  have h0b : ((i : Int) == 0) = true := beq_iff_eq.mpr h0
  have H0 := Lib.hid h0
  clear h0
  go_enter Try.func40, Try.ntmps40
  go_wp2
  refine bodyPost_ret (results_none rfl _ _ _) rfl ?_
  rw [HN.out.1, HN.out.2, List.append_nil, List.append_nil]
  exact ⟨rfl, vc, vu, HM.out.below (q57 (Below.refl _ _) _), .below (q57 (Below.refl _ _) _)⟩
 have h0b : ((i : Int) == 0) = false := beq_eq_false_iff_ne.mpr h0
 have HRC : Hid (RC = if kd = 5 then [⟨flagF i 1, f4, passF c.la i 1⟩] else []) := Lib.hid (by rw [HRC.out, if_neg h0])
 have HRU : Hid (RU = (if kd = 2 then [userU c i 3 2 3] else if kd = 4 then [userU c i 4 1 1] else []) ++ [userU c i 5 1 0] ++ [userU c i 5 2 0]) := Lib.hid (by rw [HRU.out, withoutU, if_neg h0, List.append_assoc]; rfl)
 obtain ⟨U1, hU1⟩ : ∃ U1 : List (S108), U1 = if kd = 2 then [userU c i 3 2 3] else if kd = 4 then [userU c i 4 1 1] else [] := ⟨_, rfl⟩
 have HRU : Hid (RU = U1 ++ [userU c i 5 1 0] ++ [userU c i 5 2 0]) := Lib.hid (by rw [HRU.out, hU1])
 have hU1l : U1.length ≤ 1 := by rw [hU1]; split; simp; split <;> simp
 have HU1 := Lib.hid hU1
 obtain ⟨wB, hwB⟩ : ∃ wB, wB = w.alloc (.cells #[.string f0, .int .i64 kd, .string f2, .bool f3, .int .i64 f4, .slice A5 n5 c5, .slice A6 n6 c6] 41) := ⟨_, rfl⟩
 have hbB : Below w.heap.size w wB := by rw [hwB]; exact q57 (Below.refl _ _) _
 have hgB : wB.heap[w.heap.size]? = some (.cells #[.string f0, .int .i64 kd, .string f2, .bool f3, .int .i64 f4, .slice A5 n5 c5, .slice A6 n6 c6] 41 (0, 0)) := by rw [hwB]; exact heap_alloc_new _ _
 obtain ⟨b, hb_⟩ : ∃ b, b = w.heap.size := ⟨_, rfl⟩
 rw [← hb_] at hgB
 have hc4 : wB.cell? ⟨b, 4, none⟩ = some (.int .i64 f4) := (q63 hgB 4).trans rfl
 have hc1 : wB.cell? ⟨b, 1, none⟩ = some (.int .i64 kd) := (q63 hgB 1).trans rfl
 have HM := Lib.hid (HM.out.below hbB)
 have HGB := Lib.hid (G2.below hbB : G2 g vc vc vu vu w wB)
 have HWB := Lib.hid hwB
 have HBN := Lib.hid hb_
 clear hbB hwB hb_ hgB hU1
 go_enter Try.func40, Try.ntmps40
 go_upto_region 2 with (fail)
 rw [← HWB.out, ← HBN.out]
 clear x0 x1 x2 x3 x4 x5 x6 hcz1 HWB HBN
 go_upto_block 0 with (fail)
 go_cut [] (fun wc => ∃ vc' vu', Hid (Mu c w0 wc g vr vc' vu' rs (cs ++ RC) (us ++ U1) ∧ G2 g vc vc' vu vu' w wc))
 case first =>
  by_cases h5 : kd = 5
  ·have h5b : (kd == 5) = true := beq_iff_eq.mpr h5
   have HC : Hid (RC = [⟨flagF i 1, f4, passF c.la i 1⟩] ∧ U1 = []) := Lib.hid ⟨by rw [HRC.out, if_pos h5], by rw [HU1.out, if_neg (by omega), if_neg (by omega)]⟩
   have H5 := Lib.hid h5
   obtain ⟨Ac, cc, rfl⟩ := Kd.R_slice HM.out.2.2.2.2.1
   have hczc : wB.cell? ⟨g, 9, none⟩ = some (.slice Ac cs.length cc) := (q63 HM.out.2.2.1 9).trans rfl
   obtain ⟨m, hmu⟩ : ∃ m, m = cs.length := ⟨_, rfl⟩
   have HMU := Lib.hid hmu
   rw [← hmu] at hczc HM HGB ⊢
   have HLIM : Hid ((cs.length + 1) * 24 ≤ 140737488355328) := Lib.hid (by omega)
   have hglB := HM.out.lt
   clear h5 hmu
   go_wp2_with fail
   have hS : (((wB.drew).cell? ⟨g, 9, none⟩ = some (.slice Ac m cc)) ∧ ((wB.drew).cell? ⟨b, 4, none⟩ = some (.int .i64 f4))) ∧ Below wB.heap.size wB wB.drew := ⟨⟨hczc, hc4⟩, q58 (Below.refl _ _)⟩
   refine sD_ [15, 19] (fun w' => ((w'.cell? ⟨g, 9, none⟩ = some (.slice Ac m cc)) ∧ (w'.cell? ⟨b, 4, none⟩ = some (.int .i64 f4))) ∧ Below wB.heap.size wB w') 20 hS (fun hHeld => ?_)
   clear hS
   obtain ⟨wD, hwD⟩ : ∃ wD, wD = wB.drew := ⟨_, rfl⟩
   rw [← hwD] at hHeld ⊢
   clear hwD
   refine pu_ 0 (some 19) ?_
   refine pu_ 1 (some 20) ?_
   refine pu_ 2 (some 21) ?_
   refine pu_ 3 (some 22) ?_
   refine pu_ 4 (some 23) ?_
   refine pu_ 6 (some 25) ?_
   refine pu_ 8 (some 27) ?_
   refine pu_ 10 (some 29) ?_
   refine pu_ 11 (some 30) ?_
   refine tc_ 5 (some 24) hHeld ?_
   refine tc_ 9 (some 28) hHeld ?_
   refine ca_ 7 (some 26) Try.func23 #[.int .i64 i, .int .i64 1] ?_
   refine (flag_call i 1 wD (by omega) (by omega)).mono ?_
   rintro e d118_ ⟨rfl, hb⟩
   refine ⟨_, rfl, (kp2 hHeld hb), fun hHeld => ⟨_, rfl, nz_ (some 26) ?_⟩⟩
   clear hb
   refine ca_ 12 (some 31) Try.func70 #[.pointer (some ⟨g, 0, none⟩), .int .i64 i, .int .i64 1] ?_
   refine (pass_below c d118_ g i 1 (HM.out.below hHeld.2).mg hla (by omega) (by omega)).mono ?_
   rintro e d119_ ⟨rfl, hb⟩
   refine ⟨_, rfl, (kp2 hHeld hb), fun hHeld => ⟨_, rfl, nz_ (some 31) ?_⟩⟩
   clear hb
   refine pu_ 13 (some 32) ?_
   refine oN_ 14 (some 33) (fun K hK => ?_)
   go_simp
   have hbz : Below d119_.heap.size d119_ (d119_.alloc (.cells #[.int .i64 (flagF i 1), .int .i64 f4, .int .i64 (passF c.la i 1)] 104)) := q57 (Below.refl _ _) _
   refine hK.out _ _ ⟨⟨q73 hbz hHeld.1.1, q73 hbz hHeld.1.2⟩, q72 hbz hHeld.2⟩ (fun _ => ?_)
   clear hK K hbz
   have HG0 : Hid (Go_ g (.slice Ac m cc) (.slice Ac m cc) wB d119_) := Lib.hid (Go_.below Go_.refl hHeld.2)
   have HMZ := Lib.hid (HM.out.below hHeld.2)
   have howc : ∀ k, (Value.slice Ac m cc).ownBlock = some k → k < wB.heap.size := fun k e => Kd.R_lt HM.out.2.2.2.2.1 k e
   have howu : ∀ k, vu.ownBlock = some k → k < wB.heap.size := fun k e => Kd.R_lt HM.out.2.2.2.2.2 k e
   have hwzl : wB.heap.size ≤ d119_.heap.size := hHeld.2.size
   have hM1 : Kd.M k104 d119_ (g + 1) (fun k => some k ≠ vu.ownBlock ∧ some k ≠ (Value.slice Ac m cc).ownBlock) ⟨flagF i 1, f4, passF c.la i 1⟩ [.int .i64 (flagF i 1), .int .i64 f4, .int .i64 (passF c.la i 1)] := k104_mkM _ _ _ _
   have HM1 := Lib.hid hM1
   have HOC : Hid (∀ k, d119_.heap.size ≤ k → some k ≠ vu.ownBlock) := Lib.hid (fun k hk e => by have := howu k e.symm; omega)
   have HRX := Lib.hid HMZ.out.2.2.2.2.1
   clear hM1 howu hHeld hczc hc4 hc1
   refine lA_ 15 (some 34) (fun K hK => ?_)
   refine Kd.R_append_step k104 (w0 := d119_) (g + 1) rfl (.tmp 24) (.tmp 33) 29 104 (.agg #[.int .i64 0, .int .i64 0, .int .i64 0]) 24 rfl Try.underlying29 iCounter_ rfl (by decide) (by omega) (.slice Ac m cc) cs ⟨flagF i 1, f4, passF c.la i 1⟩ [.int .i64 (flagF i 1), .int .i64 f4, .int .i64 (passF c.la i 1)] (fun k => some k ≠ vu.ownBlock) (fun k => some k ≠ vu.ownBlock ∧ some k ≠ (Value.slice Ac m cc).ownBlock) rfl rfl HM1.out (fun _ hk => hk) HOC.out HRX.out (Below.refl _ _) (by omega) HLIM.out ?_
   intro v1 w1 hR1 hB1 hgr hat
   have hown : ∀ kk, (Value.slice Ac m cc).ownBlock = some kk → g + 1 ≤ kk := Kd.R_base HRX.out
   have hg1 := (hgr.block _ (by omega) (fun ek => by have := hown _ ek.symm; omega)).trans HMZ.out.2.2.1
   have hkp : Kept wB w1 (fun k => k = g ∨ (Value.slice Ac m cc).ownBlock = some k) := Kept.of_grown hgr HG0.out.1 (fun kk ek => .inl (.inr ek))
   have hb1 : Below w0.heap.size w0 w1 := HMZ.out.1.grown hgr HMZ.out.1.size (fun kk ek => by have := hown kk ek; have := HMZ.out.2.1; omega)
   refine hK.out _ _ ?_
   clear hK K
   obtain ⟨A9, c9, rfl⟩ := Kd.R_slice hR1
   rw [List.length_append, List.length_singleton] at hR1 hat
   have hc8 : w1.cell? ⟨g, 9, none⟩ = some (.slice Ac m cc) := (q63 hg1 9).trans rfl
   have hf8 := q67 hg1 9
   have HG1 := Lib.hid hg1
   have HB1 := Lib.hid hb1
   have HKP := Lib.hid hkp
   have HR1 := Lib.hid hR1
   have HAT := Lib.hid hat
   have HOW := Lib.hid howc
   clear hgr hB1 hg1 hb1 hkp hR1 hat hown howc HM1 HOC HRX
   refine nz_ (some 34) ?_
   refine pu_ 16 (some 35) ?_
   refine pu_ 17 (some 36) ?_
   refine pu_ 18 (some 37) ?_
   refine lA_ 19 none (fun K hK => ?_)
   go_simp
   refine hK.out _ _ ?_
   clear hK K
   refine dn_ ?_
   have hgo : Go_ g (.slice Ac m cc) (.slice A9 (cs.length + 1) c9) wB (w1.setCell ⟨g, 9, none⟩ (.slice A9 (cs.length + 1) c9)) := ⟨HKP.out.setCell (p := ⟨g, 9, none⟩) (.inl (.inl rfl)) _, fun k ek => by
    rcases HAT.out with e | ⟨b, e, hb⟩
    ·exact .inl (e ▸ ek)
    rw [ek] at e
    cases e
    exact .inr (Nat.le_trans hwzl hb)⟩
   have HF : Hid (Mu c w0 (w1.setCell ⟨g, 9, none⟩ (.slice A9 (cs.length + 1) c9)) g vr (.slice A9 (cs.length + 1) c9) vu rs (cs ++ RC) (us ++ U1) ∧ G2 g (.slice Ac m cc) (.slice A9 (cs.length + 1) c9) vu vu w (w1.setCell ⟨g, 9, none⟩ (.slice A9 (cs.length + 1) c9))) := Lib.hid (by
    rw [HC.out.1, HC.out.2, List.append_nil]
    refine ⟨?_, HGB.out.then_ (.ofC hgo)⟩
    exact ⟨HB1.out.setCell HM.out.2.1 _, HM.out.2.1, q68 HG1.out 9 _ rfl, Kd.R_mono (hgo.row2 (ok := fun k => some k ≠ vu.ownBlock) (Kd.R_mono HM.out.2.2.2.1 (fun k hk => ⟨hk.2, hk.1⟩))) (fun k hk => ⟨hk.2, hk.1⟩), R_set2x HR1.out _ _ (Nat.lt_succ_self g), hgo.row HM.out.2.2.2.2.2⟩)
   clear hgo hc8 hf8
   have HF := Lib.hid (HMU.out ▸ HF.out)
   go_wp2
   go_meet
   case rel => exact ⟨_, _, HF⟩
  have h5b : (kd == 5) = false := beq_eq_false_iff_ne.mpr h5
  by_cases h2 : kd = 2
  ·have h2b : (kd == 2) = true := beq_iff_eq.mpr h2
   have HC : Hid (RC = [] ∧ U1 = [userU c i 3 2 3]) := Lib.hid ⟨by rw [HRC.out, if_neg h5], by rw [HU1.out, if_pos h2]⟩
   have hp := user_any c w0 wB g vr vc vu rs cs us i 3 2 3 HM.out HMM.out hiL.out (by decide) (by decide) (by omega)
   have H2 := Lib.hid h2
   clear h2 h5
   go_wp2_with fail
   refine hp.mono ?_
   rintro e wN ⟨rfl, vu', h⟩
   have HF : Hid (Mu c w0 wN g vr vc vu' rs (cs ++ RC) (us ++ U1) ∧ G2 g vc vc vu vu' w wN) := Lib.hid (by rw [HC.out.1, HC.out.2, List.append_nil]; exact ⟨h.1, HGB.out.then_ h.2⟩)
   clear h hp
   go_wp2
   go_meet
   case rel => exact ⟨_, _, HF⟩
  have h2b : (kd == 2) = false := beq_eq_false_iff_ne.mpr h2
  by_cases h4 : kd = 4
  ·have h4b : (kd == 4) = true := beq_iff_eq.mpr h4
   have HC : Hid (RC = [] ∧ U1 = [userU c i 4 1 1]) := Lib.hid ⟨by rw [HRC.out, if_neg h5], by rw [HU1.out, if_neg h2, if_pos h4]⟩
   have hp := user_any c w0 wB g vr vc vu rs cs us i 4 1 1 HM.out HMM.out hiL.out (by decide) (by decide) (by omega)
   have H2 := Lib.hid h2
   have H4 := Lib.hid h4
   clear h2 h5 h4
   go_wp2_with fail
   refine hp.mono ?_
   rintro e wN ⟨rfl, vu', h⟩
   have HF : Hid (Mu c w0 wN g vr vc vu' rs (cs ++ RC) (us ++ U1) ∧ G2 g vc vc vu vu' w wN) := Lib.hid (by rw [HC.out.1, HC.out.2, List.append_nil]; exact ⟨h.1, HGB.out.then_ h.2⟩)
   clear h hp
   go_wp2
   go_meet
   case rel => exact ⟨_, _, HF⟩
  have h4b : (kd == 4) = false := beq_eq_false_iff_ne.mpr h4
  have HF : Hid (Mu c w0 wB g vr vc vu rs (cs ++ RC) (us ++ U1) ∧ G2 g vc vc vu vu w wB) := Lib.hid (by rw [HRC.out, HU1.out, if_neg h5, if_neg h2, if_neg h4, List.append_nil, List.append_nil]; exact ⟨HM.out, HGB.out⟩)
  clear h2 h5 h4
  go_wp2
  go_meet
  case rel => exact ⟨_, _, HF⟩
 case rest =>
 obtain ⟨vc1, vu1, X⟩ := hcut
 obtain ⟨wD, rfl⟩ : ∃ wD, wD = wc := ⟨_, rfl⟩
 have hp := user_any c w0 wD g vr vc1 vu1 rs (cs ++ RC) (us ++ U1) i 5 1 0 X.out.1 HMM.out hiL.out (by decide) (by decide) (by rw [List.length_append]; omega)
 go_wp2_with fail
 refine hp.mono ?_
 rintro e wN ⟨rfl, vu2, h⟩
 have HX := Lib.hid (And.intro h.1 (X.out.2.then_ h.2))
 clear h hp
 have hp := user_any c w0 wN g vr vc1 vu2 rs (cs ++ RC) (us ++ U1 ++ [userU c i 5 1 0]) i 5 2 0 HX.out.1 HMM.out hiL.out (by decide) (by decide) (by simp only [List.length_append, List.length_cons, List.length_nil]; omega)
 go_wp2_with fail
 refine hp.mono ?_
 rintro e wL ⟨rfl, vu3, h⟩
 have HX := Lib.hid (And.intro h.1 (HX.out.2.then_ h.2))
 clear h hp
 go_wp2
 refine bodyPost_end (results_none rfl _ _ _) rfl ?_
 exact ⟨rfl, vc1, vu3, by rw [HRU.out, ← List.append_assoc, ← List.append_assoc]; exact HX.out.1, HX.out.2⟩
theorem R_ne {α : Type} {d : Kd α} {e base : Nat} {w : World} {v : Value} {xs : List α} (h : d.R e w base (fun _ => True) v xs) {bx : Nat} (hx : w.heap.size ≤ bx ∨ bx < base) : d.R e w base (fun k => k ≠ bx) v xs :=
 Kd.R_mono (Kd.R_bound h) (fun k hk => by have h1 := hk.2.1; have h2 := hk.2.2; omega)
theorem R_setne {α : Type} {d : Kd α} {e base : Nat} {w : World} {v : Value} {xs : List α} {p : Addr} (u : Value) (h : d.R e w base (fun k => k ≠ p.block) v xs) : d.R e (w.setCell p u) base (fun k => k ≠ p.block) v xs :=
 Kd.R_mono (Kd.R_far (Kd.R_bound h) (fun k hk => hk.1) u) (fun _ hk => hk.1)
def holdsR (c : Mc) (i : Nat) (f : Int) (ls : List (S93)) : S72 := ⟨1, [⟨f, false⟩] ++ ls, [], [⟨passF c.la i 5, true⟩]⟩
set_option maxHeartbeats 16000000 in
set_option maxRecDepth 100000 in
theorem holds_any (c : Mc) (w0 w : World) (g : Nat) (vr : Value) (rs : List (S72)) (i : Nat) (b0 b1 b8 : Nat) (f : Int) (A : Option Addr) (n cc : Nat) (ls : List (S93)) (hM : Mr c w0 w g vr rs) (hm : Mm c w0) (hi : i < c.l.length) (hlim : rs.length ≤ 100000)
 (h0 : w.cell? ⟨b0, 0, none⟩ = some (.pointer (some ⟨g, 0, none⟩))) (h1 : w.cell? ⟨b1, 0, none⟩ = some (.int .i64 i)) (h80 : w.cell? ⟨b8, 0, none⟩ = some (.int .i64 f)) (h81 : w.cell? ⟨b8, 1, none⟩ = some (.bool false)) (hC : Kd.C k93 w A n ls) (hn : n = ls.length) (hl : ls.length ≤ 100) :
 Calls Try.prog 68 #[.slice A n cc, .pointer (some ⟨b0, 0, none⟩), .pointer (some ⟨b1, 0, none⟩), .pointer (some ⟨b8, 0, none⟩)] w (RulePost c w0 w g vr (rs ++ [holdsR c i f ls])) := by
 have hla := hm.2.2.2.2.2.1
 have hi1 : (i : Int) ≤ 1000 := by have := hm.2.2.2.2.1; omega
 subst hn
 have HM := Lib.hid hM
 have HMM := Lib.hid hm
 have HCL := Lib.hid hC
 have HL := Lib.hid hl
 obtain ⟨n, hn⟩ : ∃ n, n = ls.length := ⟨_, rfl⟩
 rw [← hn] at HCL ⊢
 have HN := Lib.hid hn
 clear hM hm hC hi hn hl
 go_enter Try.func68, Try.ntmps68
 have hS : (((w.drew).cell? ⟨b0, 0, none⟩ = some (.pointer (some ⟨g, 0, none⟩))) ∧ ((w.drew).cell? ⟨b1, 0, none⟩ = some (.int .i64 i)) ∧ ((w.drew).cell? ⟨b8, 0, none⟩ = some (.int .i64 f)) ∧ ((w.drew).cell? ⟨b8, 1, none⟩ = some (.bool false))) ∧ Below w.heap.size w w.drew := ⟨⟨h0, h1, h80, h81⟩, q58 (Below.refl _ _)⟩
 refine sD_ [10] (fun w' => ((w'.cell? ⟨b0, 0, none⟩ = some (.pointer (some ⟨g, 0, none⟩))) ∧ (w'.cell? ⟨b1, 0, none⟩ = some (.int .i64 i)) ∧ (w'.cell? ⟨b8, 0, none⟩ = some (.int .i64 f)) ∧ (w'.cell? ⟨b8, 1, none⟩ = some (.bool false))) ∧ Below w.heap.size w w') 11 hS (fun hHeld => ?_)
 clear hS
 obtain ⟨wD, hwD⟩ : ∃ wD, wD = w.drew := ⟨_, rfl⟩
 rw [← hwD] at hHeld ⊢
 clear hwD
 refine pu_ 8 (some 13) ?_
 refine tc_ 0 (some 5) hHeld ?_
 refine tc_ 1 (some 6) hHeld ?_
 refine tc_ 2 (some 7) hHeld ?_
 refine tc_ 6 (some 11) hHeld ?_
 refine join_ (σ := Option Addr × Nat × Nat × Nat) 2 (bits 11 511) (fun (A2, c2, o9, bx) => [(8, .int .i64 (passF c.la i 5)), (9, .slice (some ⟨o9, 0, none⟩) 1 1), (10, .slice A2 1 c2), (12, .slice (some ⟨bx, 0, none⟩) 1 1)]) (fun (A2, c2, o9, bx) w' => Kd.R k93 93 w' bx (fun _ => True) (.slice (some ⟨bx, 0, none⟩) 1 1) [⟨f, false⟩] ∧ w.heap.size ≤ bx ∧ Below w.heap.size w w' ∧ Kd.R k111 111 w' w.heap.size (fun k => k ≠ bx) (.slice A2 1 c2) [⟨passF c.la i 5, true⟩]) ?_ ?_
 rotate_left
 ·intro hCont
  have HCT := Lib.hid hCont
  clear hCont
  refine tW_ 3 7 (some 8) (some 12) (fun K hK => ?_) (fun K hK => ?_)
  ·skip
   refine go_s_ Try.func70 #[.pointer (some ⟨g, 0, none⟩), .int .i64 i, .int .i64 5] ?_
   refine (pass_below c wD g i 5 (HM.out.below hHeld.2).mg hla (by omega) (by omega)).mono ?_
   rintro e d1_ ⟨rfl, hb⟩
   refine ⟨_, rfl, ?_⟩
   refine hK.out _ _ (kp4 hHeld hb) (fun hHeld => ?_)
   clear hK K
   refine nz_ (some 8) ?_
   clear hb
   refine tW_ 4 7 (some 9) (some 12) (fun K hK => ?_) (fun K hK => ?_)
   ·skip
    have HSHC2 := Lib.hid hHeld.2.size
    go_simp
    have hb : Below d1_.heap.size d1_ (d1_.alloc (.cells #[.int .i64 (passF c.la i 5)] 3)) := q57 (Below.refl _ _) _
    have hrow : Kd.R (Kd.int .i64) 3 (d1_.alloc (.cells #[.int .i64 (passF c.la i 5)] 3)) d1_.heap.size (fun _ => True) (.slice (some ⟨d1_.heap.size, 0, none⟩) 1 1) [passF c.la i 5] := ints_row d1_ [passF c.la i 5] (by simp)
    refine hK.out _ _ (kp4 hHeld hb) (fun hHeld => ?_)
    clear hK K
    obtain ⟨d2_, hwn⟩ : ∃ wn, wn = d1_.alloc (.cells #[.int .i64 (passF c.la i 5)] 3) := ⟨_, rfl⟩
    rw [← hwn] at hb hrow hHeld ⊢
    have HC2 := Lib.hid hrow
    clear hrow hwn
    clear hb
    refine tW_ 5 7 (some 10) (some 12) (fun K hK => ?_) (fun K hK => ?_)
    ·skip
     have HS2 := Lib.hid hHeld.2.size
     have HSHR2 := Lib.hid hHeld.2.size
     refine go_s_ Try.func66 #[.slice (some ⟨d1_.heap.size, 0, none⟩) 1 1] ?_
     refine (puts1_any (passF c.la i 5) _ d2_ (Kd.R_reads' HC2.out).2.2).mono ?_
     rintro e d3_ ⟨A2, c2, rfl, hR2, hb⟩
     refine ⟨_, rfl, ?_⟩
     refine hK.out _ _ (kp4 hHeld hb) (fun hHeld => ?_)
     clear hK K
     refine nz_ (some 10) ?_
     have HR2 := Lib.hid hR2
     clear hR2
     have HC2 := Lib.hid (Kd.R_below HC2.out hb)
     clear hb
     have HLE := Lib.hid hHeld.2.size
     have HHB := Lib.hid hHeld.2
     have HR2 := Lib.hid (R_ne HR2.out (bx := d3_.heap.size) (.inl (Nat.le_refl _)))
     have hb : Below d3_.heap.size d3_ (d3_.alloc (.cells #[.int .i64 f, .bool false] 93)) := q57 (Below.refl _ _) _
     have HC2 := Lib.hid (Kd.R_below HC2.out hb)
     clear hb
     have hb : Below d3_.heap.size d3_ (d3_.alloc (.cells #[.int .i64 f, .bool false] 93)) := q57 (Below.refl _ _) _
     have HR2 := Lib.hid (Kd.R_below HR2.out hb)
     clear hb
     refine oN_ 7 (some 12) (fun K hK => ?_)
     go_simp
     have hb : Below d3_.heap.size d3_ (d3_.alloc (.cells #[.int .i64 f, .bool false] 93)) := q57 (Below.refl _ _) _
     refine hK.out _ _ (kp4 hHeld hb) (fun _ => ?_)
     clear hK K hb
     refine norm_ ?_ (HCT.out (A2, c2, d1_.heap.size, d3_.heap.size) _ ⟨lits_row d3_ [⟨f, false⟩] (by simp), HLE.out, q72 (q57 (Below.refl _ _) _) HHB.out, Kd.R_lower HR2.out HSHR2.out⟩)
     simp only [putAll, Act.put, List.setIfInBounds_toArray, List.set_cons_zero, List.set_cons_succ]
    skip
    go_simp
    have hb : Below d2_.heap.size d2_ (d2_.alloc (.cells #[.int .i64 f, .bool false] 93)) := q57 (Below.refl _ _) _
    have hNB : (d2_.alloc (.cells #[.int .i64 f, .bool false] 93)).heap[d2_.heap.size]? = some (.cells #[.int .i64 f, .bool false] 93 (0, 0)) := heap_alloc_new _ _
    have hrow : Kd.R k93 93 (d2_.alloc (.cells #[.int .i64 f, .bool false] 93)) d2_.heap.size (fun _ => True) (.slice (some ⟨d2_.heap.size, 0, none⟩) 1 1) [⟨f, false⟩] := lits_row d2_ [⟨f, false⟩] (by simp)
    have HLE := Lib.hid hHeld.2.size
    refine hK.out _ _ (kp4 hHeld hb) (fun hHeld => ?_)
    clear hK K
    obtain ⟨d4_, hwn⟩ : ∃ wn, wn = d2_.alloc (.cells #[.int .i64 f, .bool false] 93) := ⟨_, rfl⟩
    rw [← hwn] at hb hNB hHeld hrow ⊢
    have HNB := Lib.hid hNB
    clear hNB hwn
    have HLR := Lib.hid hrow
    clear hrow
    have HC2 := Lib.hid (Kd.R_below HC2.out hb)
    clear hb
    have HS2 := Lib.hid hHeld.2.size
    have HSHR2 := Lib.hid hHeld.2.size
    refine ca_ 5 (some 10) Try.func66 #[.slice (some ⟨d1_.heap.size, 0, none⟩) 1 1] ?_
    refine (puts1_any (passF c.la i 5) _ d4_ (Kd.R_reads' HC2.out).2.2).mono ?_
    rintro e d5_ ⟨A2, c2, rfl, hR2, hb⟩
    refine ⟨_, rfl, (kp4 hHeld hb), fun hHeld => ⟨_, rfl, nz_ (some 10) ?_⟩⟩
    have HR2 := Lib.hid (R_ne hR2 (bx := d2_.heap.size) (.inr (blk_lt HNB.out)))
    clear hR2
    have HC2 := Lib.hid (Kd.R_below HC2.out hb)
    have HNB := Lib.hid (q62 HNB.out hb)
    have HLR := Lib.hid (Kd.R_below HLR.out hb)
    clear hb
    have HHB := Lib.hid hHeld.2
    clear hHeld
    refine norm_ ?_ (HCT.out (A2, c2, d1_.heap.size, d2_.heap.size) _ ⟨HLR.out, HLE.out, HHB.out, Kd.R_lower HR2.out HSHR2.out⟩)
    simp only [putAll, Act.put, List.setIfInBounds_toArray, List.set_cons_zero, List.set_cons_succ]
   skip
   go_simp
   have hb : Below d1_.heap.size d1_ (d1_.alloc (.cells #[.int .i64 f, .bool false] 93)) := q57 (Below.refl _ _) _
   have hNB : (d1_.alloc (.cells #[.int .i64 f, .bool false] 93)).heap[d1_.heap.size]? = some (.cells #[.int .i64 f, .bool false] 93 (0, 0)) := heap_alloc_new _ _
   have hrow : Kd.R k93 93 (d1_.alloc (.cells #[.int .i64 f, .bool false] 93)) d1_.heap.size (fun _ => True) (.slice (some ⟨d1_.heap.size, 0, none⟩) 1 1) [⟨f, false⟩] := lits_row d1_ [⟨f, false⟩] (by simp)
   have HLE := Lib.hid hHeld.2.size
   refine hK.out _ _ (kp4 hHeld hb) (fun hHeld => ?_)
   clear hK K
   obtain ⟨d6_, hwn⟩ : ∃ wn, wn = d1_.alloc (.cells #[.int .i64 f, .bool false] 93) := ⟨_, rfl⟩
   rw [← hwn] at hb hNB hHeld hrow ⊢
   have HNB := Lib.hid hNB
   clear hNB hwn
   have HLR := Lib.hid hrow
   clear hrow
   clear hb
   have HSHC2 := Lib.hid hHeld.2.size
   refine oN_ 4 (some 9) (fun K hK => ?_)
   go_simp
   have hb : Below d6_.heap.size d6_ (d6_.alloc (.cells #[.int .i64 (passF c.la i 5)] 3)) := q57 (Below.refl _ _) _
   have hrow : Kd.R (Kd.int .i64) 3 (d6_.alloc (.cells #[.int .i64 (passF c.la i 5)] 3)) d6_.heap.size (fun _ => True) (.slice (some ⟨d6_.heap.size, 0, none⟩) 1 1) [passF c.la i 5] := ints_row d6_ [passF c.la i 5] (by simp)
   refine hK.out _ _ (kp4 hHeld hb) (fun hHeld => ?_)
   clear hK K
   obtain ⟨d7_, hwn⟩ : ∃ wn, wn = d6_.alloc (.cells #[.int .i64 (passF c.la i 5)] 3) := ⟨_, rfl⟩
   rw [← hwn] at hb hrow hHeld ⊢
   have HC2 := Lib.hid hrow
   clear hrow hwn
   have HNB := Lib.hid (q62 HNB.out hb)
   have HLR := Lib.hid (Kd.R_below HLR.out hb)
   clear hb
   have HS2 := Lib.hid hHeld.2.size
   have HSHR2 := Lib.hid hHeld.2.size
   refine ca_ 5 (some 10) Try.func66 #[.slice (some ⟨d6_.heap.size, 0, none⟩) 1 1] ?_
   refine (puts1_any (passF c.la i 5) _ d7_ (Kd.R_reads' HC2.out).2.2).mono ?_
   rintro e d8_ ⟨A2, c2, rfl, hR2, hb⟩
   refine ⟨_, rfl, (kp4 hHeld hb), fun hHeld => ⟨_, rfl, nz_ (some 10) ?_⟩⟩
   have HR2 := Lib.hid (R_ne hR2 (bx := d1_.heap.size) (.inr (blk_lt HNB.out)))
   clear hR2
   have HNB := Lib.hid (q62 HNB.out hb)
   have HLR := Lib.hid (Kd.R_below HLR.out hb)
   have HC2 := Lib.hid (Kd.R_below HC2.out hb)
   clear hb
   have HHB := Lib.hid hHeld.2
   clear hHeld
   refine norm_ ?_ (HCT.out (A2, c2, d6_.heap.size, d1_.heap.size) _ ⟨HLR.out, HLE.out, HHB.out, Kd.R_lower HR2.out HSHR2.out⟩)
   simp only [putAll, Act.put, List.setIfInBounds_toArray, List.set_cons_zero, List.set_cons_succ]
  skip
  go_simp
  have hb : Below wD.heap.size wD (wD.alloc (.cells #[.int .i64 f, .bool false] 93)) := q57 (Below.refl _ _) _
  have hNB : (wD.alloc (.cells #[.int .i64 f, .bool false] 93)).heap[wD.heap.size]? = some (.cells #[.int .i64 f, .bool false] 93 (0, 0)) := heap_alloc_new _ _
  have hrow : Kd.R k93 93 (wD.alloc (.cells #[.int .i64 f, .bool false] 93)) wD.heap.size (fun _ => True) (.slice (some ⟨wD.heap.size, 0, none⟩) 1 1) [⟨f, false⟩] := lits_row wD [⟨f, false⟩] (by simp)
  have HLE := Lib.hid hHeld.2.size
  refine hK.out _ _ (kp4 hHeld hb) (fun hHeld => ?_)
  clear hK K
  obtain ⟨d9_, hwn⟩ : ∃ wn, wn = wD.alloc (.cells #[.int .i64 f, .bool false] 93) := ⟨_, rfl⟩
  rw [← hwn] at hb hNB hHeld hrow ⊢
  have HNB := Lib.hid hNB
  clear hNB hwn
  have HLR := Lib.hid hrow
  clear hrow
  clear hb
  refine ca_ 3 (some 8) Try.func70 #[.pointer (some ⟨g, 0, none⟩), .int .i64 i, .int .i64 5] ?_
  refine (pass_below c d9_ g i 5 (HM.out.below hHeld.2).mg hla (by omega) (by omega)).mono ?_
  rintro e d10_ ⟨rfl, hb⟩
  refine ⟨_, rfl, (kp4 hHeld hb), fun hHeld => ⟨_, rfl, nz_ (some 8) ?_⟩⟩
  have HNB := Lib.hid (q62 HNB.out hb)
  have HLR := Lib.hid (Kd.R_below HLR.out hb)
  clear hb
  have HSHC2 := Lib.hid hHeld.2.size
  refine oN_ 4 (some 9) (fun K hK => ?_)
  go_simp
  have hb : Below d10_.heap.size d10_ (d10_.alloc (.cells #[.int .i64 (passF c.la i 5)] 3)) := q57 (Below.refl _ _) _
  have hrow : Kd.R (Kd.int .i64) 3 (d10_.alloc (.cells #[.int .i64 (passF c.la i 5)] 3)) d10_.heap.size (fun _ => True) (.slice (some ⟨d10_.heap.size, 0, none⟩) 1 1) [passF c.la i 5] := ints_row d10_ [passF c.la i 5] (by simp)
  refine hK.out _ _ (kp4 hHeld hb) (fun hHeld => ?_)
  clear hK K
  obtain ⟨d11_, hwn⟩ : ∃ wn, wn = d10_.alloc (.cells #[.int .i64 (passF c.la i 5)] 3) := ⟨_, rfl⟩
  rw [← hwn] at hb hrow hHeld ⊢
  have HC2 := Lib.hid hrow
  clear hrow hwn
  have HNB := Lib.hid (q62 HNB.out hb)
  have HLR := Lib.hid (Kd.R_below HLR.out hb)
  clear hb
  have HS2 := Lib.hid hHeld.2.size
  have HSHR2 := Lib.hid hHeld.2.size
  refine ca_ 5 (some 10) Try.func66 #[.slice (some ⟨d10_.heap.size, 0, none⟩) 1 1] ?_
  refine (puts1_any (passF c.la i 5) _ d11_ (Kd.R_reads' HC2.out).2.2).mono ?_
  rintro e d12_ ⟨A2, c2, rfl, hR2, hb⟩
  refine ⟨_, rfl, (kp4 hHeld hb), fun hHeld => ⟨_, rfl, nz_ (some 10) ?_⟩⟩
  have HR2 := Lib.hid (R_ne hR2 (bx := wD.heap.size) (.inr (blk_lt HNB.out)))
  clear hR2
  have HNB := Lib.hid (q62 HNB.out hb)
  have HLR := Lib.hid (Kd.R_below HLR.out hb)
  have HC2 := Lib.hid (Kd.R_below HC2.out hb)
  clear hb
  have HHB := Lib.hid hHeld.2
  clear hHeld
  refine norm_ ?_ (HCT.out (A2, c2, d10_.heap.size, wD.heap.size) _ ⟨HLR.out, HLE.out, HHB.out, Kd.R_lower HR2.out HSHR2.out⟩)
  simp only [putAll, Act.put, List.setIfInBounds_toArray, List.set_cons_zero, List.set_cons_succ]
 rintro ⟨A2, c2, o9, bx⟩ wJ ⟨hNJ, hleJ, hbJ, hXJ⟩
 refine norm_ (a' := ?_) ?_ ?_
 rotate_left
 ·simp only [putAll, Act.put, List.setIfInBounds_toArray, List.set_cons_zero, List.set_cons_succ]
  rfl
 clear hHeld
 have HROW := Lib.hid (Kd.R_lower hNJ hleJ)
 have HXJ := Lib.hid hXJ
 have HBJ := Lib.hid hbJ
 have HCJ := Lib.hid (Kd.C_below HCL.out hbJ)
 have HFIT : Hid (([(⟨f, false⟩ : S93)].length + n) * 16 ≤ 140737488355328) := Lib.hid (by have := HL.out; have := HN.out; simp only [List.length_cons, List.length_nil]; omega)
 have HHH := Lib.hid (And.intro h0 (And.intro h1 (And.intro h80 h81)))
 clear hNJ hXJ hbJ h0 h1 h80 h81
 refine oN_ 9 (some 14) (fun K hK => ?_)
 refine Kd.R_append_rows_step k93 (w0 := w) w.heap.size rfl (.tmp 12) (.tmp 13) 69 93 (.agg #[.int .i64 0, .bool false]) 16 rfl Try.underlying69 iLit_ rfl (by decide) (by omega) (.slice (some ⟨bx, 0, none⟩) 1 1) [⟨f, false⟩] ls A n cc (fun _ => True) (fun _ => False) rfl rfl HROW.out HCJ.out lit_KM (fun _ h => h.elim) (fun _ _ => trivial) HBJ.out HBJ.out.size HFIT.out ?_
 intro v2 wF hR3 hb hgr hat
 have hkp : Kept wJ wF (fun k => k = bx) := Kept.of_grown hgr (Kept.refl _ _) (fun k e => .inl (by have e' : some bx = some k := e; exact (Option.some.inj e').symm))
 have hR2 := Kd.R_mono (ok' := fun _ => True) (Kd.R_keptB HXJ.out hkp (fun k hk e => hk e)) (fun _ _ => trivial)
 refine hK.out _ _ ⟨⟨q73 hb HHH.out.1, q73 hb HHH.out.2.1, q73 hb HHH.out.2.2.1, q73 hb HHH.out.2.2.2⟩, hb⟩ (fun _ => ?_)
 clear hK K hgr hat hkp HHH
 obtain ⟨A4, c4, rfl⟩ := Kd.R_slice hR3
 obtain ⟨n3, hn3⟩ : ∃ n3, n3 = ([⟨f, false⟩] ++ ls : List (S93)).length := ⟨_, rfl⟩
 rw [← hn3] at hR3 ⊢
 have hru := HM.out.rule 1 hb hR2 (Nat.le_refl _) hR3 (Nat.le_refl _) rfl hn3 hlim
 clear hn3 hR3 hR2 hb
 refine nz_ (some 14) ?_
 refine lA_ 10 (some 15) (fun K hK => ?_)
 refine go_s_ Try.func69 #[.pointer (some ⟨g, 0, none⟩), .int .i64 1, .slice A2 1 c2, .slice A4 n3 c4] ?_
 refine hru.mono ?_
 rintro e wN ⟨rfl, vr', h1, h2⟩
 refine ⟨_, rfl, ?_⟩
 refine hK.out _ _ ?_
 clear hK K hru
 have HF := Lib.hid (And.intro h1 h2)
 clear h1 h2
 refine nz_ (some 15) ?_
 refine dn_ ?_
 go_wp2
 refine bodyPost_end (results_none rfl _ _ _) rfl ?_
 exact ⟨rfl, vr', HF.out.1, HF.out.2⟩
theorem Mr.app {c : Mc} {w0 w W w1 : World} {g : Nat} {vr v1 : Value} {rs rs' : List (S72)} (hM : Mr c w0 w g vr rs) (hb : Below w.heap.size w W) (hR1 : Kd.R k72 72 w1 (g + 1) (fun _ => True) v1 rs') (hgr : W.grownBy w1 vr.ownBlock) (hat : v1.ownBlock = vr.ownBlock ∨ ∃ b, v1.ownBlock = some b ∧ W.heap.size ≤ b) :
 w1.heap[g]? = some (.cells (Mcells c vr (.slice none 0 0) (.slice none 0 0)) 58 (0, 0)) ∧ Mr c w0 (w1.setCell ⟨g, 8, none⟩ v1) g v1 rs' ∧ Go_ g vr v1 w (w1.setCell ⟨g, 8, none⟩ v1) := by
 have hgl := hM.lt
 have hMW := hM.below hb
 have hgW := hMW.lt
 have hown : ∀ kk, vr.ownBlock = some kk → g + 1 ≤ kk := Kd.R_base hM.2.2.2
 have hg1 := (hgr.block _ hgW (fun ek => by have := hown _ ek.symm; omega)).trans hMW.2.2.1
 have hb1 : Below w0.heap.size w0 w1 := hMW.1.grown hgr hMW.1.size (fun kk ek => by have := hown kk ek; have := hM.2.1; omega)
 have hkp : Kept w w1 (fun k => k = g ∨ vr.ownBlock = some k) := Kept.of_grown hgr ((Go_.below Go_.refl hb : Go_ g vr vr w W).1) (fun kk ek => .inl (.inr ek))
 refine ⟨hg1, ⟨hb1.setCell hM.2.1 _, hM.2.1, q68 hg1 8 _ rfl, R_set2x hR1 _ _ (Nat.lt_succ_self g)⟩, hkp.setCell (p := ⟨g, 8, none⟩) (.inl (.inl rfl)) _, fun k ek => ?_⟩
 rcases hat with e | ⟨b, e, hbb⟩
 ·exact .inl (e ▸ ek)
 rw [ek] at e
 cases e
 exact .inr (Nat.le_trans hb.size hbb)
theorem grown_cell {W w1 : World} {row : Option Nat} {p : Addr} {v : Value} (hgr : W.grownBy w1 row) (hc : W.cell? p = some v) (hne : row ≠ some p.block) : w1.cell? p = some v := by
 have hl := World.block_lt_of_cell? _ _ hc
 unfold World.cell? at hc ⊢
 rw [hgr.block p.block hl (fun e => hne e.symm)]
 exact hc
def onLits (a q : Nat) : List (S93) := (List.range q).map (fun o => ⟨((a + o : Nat) : Int), false⟩)
theorem onLits_len (a q : Nat) : (onLits a q).length = q := by unfold onLits; rw [List.length_map, List.length_range]
theorem onLits_succ (a q : Nat) : onLits a (q + 1) = onLits a q ++ [⟨((a + q : Nat) : Int), false⟩] := by unfold onLits; rw [List.range_succ, List.map_append, List.map_singleton]
def firstS (c : Mc) (i a k : Nat) (s : S45) : S72 := ⟨1, onLits a s.f0.length, s.f1, [⟨sentI c i + k, true⟩]⟩
def firstP (c : Mc) (i a : Nat) (ss : List (S45)) : Nat → List (S72)
 | 0 => []
 | k + 1 => firstP c i a ss k ++ [firstS c i (a + onsN (ss.take k)) k (q82 ss (k : Int))]
theorem firstP_len (c : Mc) (i a : Nat) (ss : List (S45)) (k : Nat) : (firstP c i a ss k).length = k := by
 induction k with
 | zero => rfl
 | succ k ih => simp only [firstP, List.length_append, ih, List.length_cons, List.length_nil]
def kidR (c : Mc) (i : Nat) (k : Int) : List (S72) := [holdsR c i (flagF i 2) [⟨flagF k 2, false⟩]] ++ [holdsR c i (flagF i 2) (waitsL k)] ++ if (q81 c.l k).f3 = true then [holdsR c i (flagF i 2) [⟨flagF k 3, true⟩, ⟨flagF k 4, true⟩]] else []
def kidsP (c : Mc) (i : Nat) (ks : List Int) : Nat → List (S72)
 | 0 => []
 | q + 1 => kidsP c i ks q ++ kidR c i (rd ks (q : Int))
theorem kidsP_len (c : Mc) (i : Nat) (ks : List Int) (q : Nat) : (kidsP c i ks q).length ≤ 3 * q := by
  induction q with
  | zero => simp [kidsP]
  | succ q ih =>
    have : (kidR c i (rd ks (q : Int))).length ≤ 3 := by unfold kidR; rw [List.length_append]; split <;> simp
    simp only [kidsP, List.length_append]
    omega
def firstL (c : Mc) (i : Nat) (x : S41) (ss : List (S45)) : List (S72) := firstP c i (marksN c.l i) ss ss.length ++ if x.f1 = 1 then kidsP c i (kidsX c.l x.f0 c.l.length) (kidsX c.l x.f0 c.l.length).length else []
set_option maxHeartbeats 32000000 in
set_option maxRecDepth 100000 in
theorem first_any (c : Mc) (w0 w : World) (g : Nat) (vr : Value) (rs : List (S72)) (i : Nat) (x : S41) (ss : List (S45)) (hM : Mr c w0 w g vr rs) (hm : Mm c w0) (hi : i < c.l.length) (hlim : rs.length ≤ 80000) (hx : x = q81 c.l (i : Int)) (hss : ss = x.f5 ++ x.f6) :
 Calls Try.prog 28 #[.pointer (some ⟨g, 0, none⟩), .int .i64 i] w (RulePost c w0 w g vr (rs ++ firstL c i x ss)) := by
 have hu25 := Try.underlying25
 have hu32 := Try.underlying32
 have hu58 := Try.underlying58
 have hu41 := Try.underlying41
 have hu45 := Try.underlying45
 have hu72 := Try.underlying72
 have hu93 := Try.underlying93
 have hml := hm.2.2.2.2.1
 have hla := hm.2.2.2.2.2.1
 have hw := hm.2.2.2.2.2.2
 have hxl : x = c.l[i] := by rw [hx]; simp [q81, List.getD_eq_getElem?_getD, List.getElem?_eq_getElem hi]
 have hxm : x ∈ c.l := by rw [hxl]; exact List.getElem_mem hi
 have hsn := sentsN_le hw hml i (by omega)
 have hmn := marksN_le hw hml i (by omega)
 have hon := onsN_le hw x hxm
 have hw6 := hw x hxm
 rw [← hss] at hon hw6
 have hcz1 : w.cell? ⟨g, 1, none⟩ = some (.slice c.A1 c.l.length c.c1) := (q63 hM.2.2.1 1).trans rfl
 have hcz0 : w.cell? ⟨g, 0, none⟩ = some (.slice c.A0 c.fs.length c.c0) := (q63 hM.2.2.1 0).trans rfl
 obtain ⟨ad, A5, c5, A6, c6, e, x0, x1, x2, x3, x4, x5, x6, l5, g5, l6, g6⟩ := at_T41 hm.2.2.1 (i : Int) (by omega) (by omega)
 simp only [Int.toNat_natCast] at x0 x1 x2 x3 x4 x5 x6
 rw [← hx] at x0 x1 x2 x3 x4 x5 x6 l5 g5 l6 g6
 have hSE0 : ∀ W, Below w0.heap.size w0 W → Calls Try.prog 64 #[.agg #[.string x.f0, .int .i64 x.f1, .string x.f2, .bool x.f3, .int .i64 x.f4, .slice A5 x.f5.length c5, .slice A6 x.f6.length c6]] W fun e w' => ∃ A cc rows, e = .returned (.slice A ss.length cc) ∧ rows.length = ss.length ∧ Kd.R (kRaw 2) 45 w' W.heap.size (fun _ => True) (.slice A ss.length cc) rows ∧ (∀ (j : Nat) (p : S45), ss[j]? = some p → ∃ cs, rows[j]? = some cs ∧ (k45).K w0 p cs) ∧ Below W.heap.size W w' := fun W hb => by
  rw [hss]
  exact sents0_call x A5 c5 A6 c6 w0 W hb g5 g6 (by have := hw6.1; rw [hss, List.length_append] at this; omega)
 have hK : ∀ W, Below w0.heap.size w0 W → _ := fun W hb => kids_call c w0 w W x.f0 hm hb
 obtain ⟨n5, hn5⟩ : ∃ n5, n5 = x.f5.length := ⟨_, rfl⟩
 obtain ⟨n6, hn6⟩ : ∃ n6, n6 = x.f6.length := ⟨_, rfl⟩
 obtain ⟨m, hmm⟩ : ∃ m, m = ss.length := ⟨_, rfl⟩
 obtain ⟨n, hn⟩ : ∃ n, n = c.l.length := ⟨_, rfl⟩
 obtain ⟨nf, hnf⟩ : ∃ nf, nf = c.fs.length := ⟨_, rfl⟩
 obtain ⟨ks, hks⟩ : ∃ ks, ks = kidsX c.l x.f0 c.l.length := ⟨_, rfl⟩
 have hkl : ks.length ≤ 1000 := by rw [hks]; have := kidsX_len c.l x.f0 c.l.length; omega
 have hkm : ∀ k ∈ ks, 0 ≤ k ∧ k < c.l.length := by rw [hks]; intro k hk; exact kidsX_mem _ _ _ k hk
 rw [← hks] at hK
 obtain ⟨R, hR⟩ : ∃ R, R = firstL c i x ss := ⟨_, rfl⟩
 rw [← hR]
 have HR : Hid (R = firstP c i (marksN c.l i) ss m ++ if x.f1 = 1 then kidsP c i ks ks.length else []) := Lib.hid (by rw [hR, firstL, ← hks, hmm])
 have HAE := Lib.hid e
 rw [e, ← hn] at hK hcz1
 rw [← hnf] at hK hcz0
 rw [← hn5] at x5 hSE0
 rw [← hn6] at x6 hSE0
 rw [← hmm] at hSE0 hw6
 have hlt : (i : Int) < (n : Int) := by omega
 obtain ⟨mk, hmke⟩ : ∃ mk, mk = marksN c.l i := ⟨_, rfl⟩
 have HR : Hid (R = firstP c i mk ss m ++ if x.f1 = 1 then kidsP c i ks ks.length else []) := Lib.hid (by rw [HR.out, hmke])
 rw [← hmke] at hmn
 obtain ⟨sv, hsv⟩ : ∃ sv, sv = c.la + 6 * (c.l.length : Int) + (sentsN c.l i : Nat) := ⟨_, rfl⟩
 have hsvb : 0 ≤ sv ∧ sv ≤ 200000 := by rw [hsv]; omega
 have HSV := Lib.hid hsv
 have HMM := Lib.hid hm
 have HON := Lib.hid hon
 have HW6 := Lib.hid hw6.2
 have hm6 := hw6.1
 have HSE0 := Lib.hid hSE0
 have HMM2 := Lib.hid hmm
 have HN := Lib.hid hn
 have HNF := Lib.hid hnf
 have HK := Lib.hid hK
 have HKM := Lib.hid hkm
 have HMK := Lib.hid hmke
 have hiL := Lib.hid hi
 have HXX := Lib.hid (And.intro x0 (And.intro x1 (And.intro x2 (And.intro x3 (And.intro x4 (And.intro x5 x6))))))
 have hi1 : (i : Int) ≤ 1000 := by omega
 have hgl := hM.lt
 have HOW : Hid (∀ k, vr.ownBlock = some k → k < w.heap.size) := Lib.hid (fun k e => Kd.R_lt hM.2.2.2 k e)
 obtain ⟨wB, hwB⟩ : ∃ wB, wB = (w.alloc (.cells #[.pointer (some ⟨g, 0, none⟩)] 55)).alloc (.cells #[.int .i64 i] 3) := ⟨_, rfl⟩
 have hbB : Below w.heap.size w wB := by rw [hwB]; exact q57 (q57 (Below.refl _ _) _) _
 have hgB0 : wB.heap[w.heap.size]? = some (.cells #[.pointer (some ⟨g, 0, none⟩)] 55 (0, 0)) := by rw [hwB]; exact q61 (heap_alloc_new _ _) _
 have hgB1 : wB.heap[w.heap.size + 1]? = some (.cells #[.int .i64 i] 3 (0, 0)) := by
  rw [hwB, show w.heap.size + 1 = (w.alloc (.cells #[.pointer (some ⟨g, 0, none⟩)] 55)).heap.size by simp]
  exact heap_alloc_new _ _
 obtain ⟨b0, hb0⟩ : ∃ b0, b0 = w.heap.size := ⟨_, rfl⟩
 obtain ⟨b1, hb1⟩ : ∃ b1, b1 = w.heap.size + 1 := ⟨_, rfl⟩
 rw [← hb0] at hgB0
 rw [← hb1] at hgB1
 have HC0 := Lib.hid ((q63 hgB0 0).trans rfl : wB.cell? ⟨b0, 0, none⟩ = some (.pointer (some ⟨g, 0, none⟩)))
 have HC1 := Lib.hid ((q63 hgB1 0).trans rfl : wB.cell? ⟨b1, 0, none⟩ = some (.int .i64 i))
 have hl0 : b0 < wB.heap.size := blk_lt hgB0
 have hl1 : b1 < wB.heap.size := blk_lt hgB1
 have hg0 : b0 ≠ g := by omega
 have hg1 : b1 ≠ g := by omega
 have HO0 : Hid (vr.ownBlock ≠ some b0) := Lib.hid (fun e => by have := HOW.out _ e; omega)
 have HO1 : Hid (vr.ownBlock ≠ some b1) := Lib.hid (fun e => by have := HOW.out _ e; omega)
 have HM := Lib.hid (hM.below hbB)
 have hmk := mark_any c w0 wB g i (hM.below hbB).mg hm (hM.below hbB).1 (by omega)
 rw [← hmke] at hmk
 have HBB := Lib.hid hbB
 have HWB := Lib.hid hwB
 have HZ01 := Lib.hid (And.intro (q73 hbB hcz0) (q73 hbB hcz1))
 have HB01 := Lib.hid (And.intro hb0 hb1)
 clear hM hm hon hw6 hw hSE0 hmm hn hnf hks hkm hK e l5 g5 l6 g6 hn5 hn6 hx hss hxl hxm hmke hi hml hR hsv hwB hbB hgB0 hgB1 hb0 hb1 hcz0 hcz1 x0 x1 x2 x3 x4 x5 x6 hsn
 go_enter Try.func28, Try.ntmps28
 go_wp2_with fail
 rw [← HWB.out]
 refine hmk.mono ?_
 rintro e w1 ⟨rfl, hb⟩
 rw [← show b1 = _ from HB01.out.2, ← show b0 = _ from HB01.out.1]
 have HB1 := Lib.hid hb
 have hk0 := q73 hb HC0.out
 have hk1 := q73 hb HC1.out
 have hcz1 := q73 hb HZ01.out.2
 have HM := Lib.hid (HM.out.below hb)
 have hb01 := HM.out.1
 have x0 := q73 hb01 HXX.out.1
 have x1 := q73 hb01 HXX.out.2.1
 have x2 := q73 hb01 HXX.out.2.2.1
 have x3 := q73 hb01 HXX.out.2.2.2.1
 have x4 := q73 hb01 HXX.out.2.2.2.2.1
 have x5 := q73 hb01 HXX.out.2.2.2.2.2.1
 have x6 := q73 hb01 HXX.out.2.2.2.2.2.2
 clear hmk hb hb01 HWB
 go_wp2_with fail
 have hS : (((w1.drew).cell? ⟨b0, 0, none⟩ = some (.pointer (some ⟨g, 0, none⟩))) ∧ ((w1.drew).cell? ⟨b1, 0, none⟩ = some (.int .i64 i)) ∧ ((w1.drew).cell? ⟨g, 1, none⟩ = some (.slice (some ad) n c.c1)) ∧ ((w1.drew).cell? (ad.add (i * 7)) = some (.string x.f0)) ∧ ((w1.drew).cell? ⟨(ad.add (i * 7)).block, (ad.add (i * 7)).off + 1, none⟩ = some (.int .i64 x.f1)) ∧ ((w1.drew).cell? ⟨(ad.add (i * 7)).block, (ad.add (i * 7)).off + 2, none⟩ = some (.string x.f2)) ∧ ((w1.drew).cell? ⟨(ad.add (i * 7)).block, (ad.add (i * 7)).off + 3, none⟩ = some (.bool x.f3)) ∧ ((w1.drew).cell? ⟨(ad.add (i * 7)).block, (ad.add (i * 7)).off + 4, none⟩ = some (.int .i64 x.f4)) ∧ ((w1.drew).cell? ⟨(ad.add (i * 7)).block, (ad.add (i * 7)).off + 5, none⟩ = some (.slice A5 n5 c5)) ∧ ((w1.drew).cell? ⟨(ad.add (i * 7)).block, (ad.add (i * 7)).off + 6, none⟩ = some (.slice A6 n6 c6))) ∧ Below w1.heap.size w1 w1.drew := ⟨⟨hk0, hk1, hcz1, x0, x1, x2, x3, x4, x5, x6⟩, q58 (Below.refl _ _)⟩
 refine sD_ [] (fun w' => ((w'.cell? ⟨b0, 0, none⟩ = some (.pointer (some ⟨g, 0, none⟩))) ∧ (w'.cell? ⟨b1, 0, none⟩ = some (.int .i64 i)) ∧ (w'.cell? ⟨g, 1, none⟩ = some (.slice (some ad) n c.c1)) ∧ (w'.cell? (ad.add (i * 7)) = some (.string x.f0)) ∧ (w'.cell? ⟨(ad.add (i * 7)).block, (ad.add (i * 7)).off + 1, none⟩ = some (.int .i64 x.f1)) ∧ (w'.cell? ⟨(ad.add (i * 7)).block, (ad.add (i * 7)).off + 2, none⟩ = some (.string x.f2)) ∧ (w'.cell? ⟨(ad.add (i * 7)).block, (ad.add (i * 7)).off + 3, none⟩ = some (.bool x.f3)) ∧ (w'.cell? ⟨(ad.add (i * 7)).block, (ad.add (i * 7)).off + 4, none⟩ = some (.int .i64 x.f4)) ∧ (w'.cell? ⟨(ad.add (i * 7)).block, (ad.add (i * 7)).off + 5, none⟩ = some (.slice A5 n5 c5)) ∧ (w'.cell? ⟨(ad.add (i * 7)).block, (ad.add (i * 7)).off + 6, none⟩ = some (.slice A6 n6 c6))) ∧ Below w1.heap.size w1 w') 11 hS (fun hHeld => ?_)
 clear hS
 obtain ⟨wD, hwD⟩ : ∃ wD, wD = w1.drew := ⟨_, rfl⟩
 rw [← hwD] at hHeld ⊢
 clear hwD
 refine tc_ 0 (some 15) hHeld ?_
 refine pu_ 1 (some 16) ?_
 refine pu_ 2 (some 17) ?_
 refine pu_ 3 (some 18) ?_
 refine pu_ 10 (some 25) ?_
 refine tc_ 4 (some 19) hHeld ?_
 refine tc_ 5 (some 20) hHeld ?_
 refine pu_ 6 (some 21) ?_
 refine tc_ 7 (some 22) hHeld ?_
 have HSZ := Lib.hid hHeld.2.size
 refine ca_ 8 (some 23) Try.func64 #[.agg #[.string x.f0, .int .i64 x.f1, .string x.f2, .bool x.f3, .int .i64 x.f4, .slice A5 n5 c5, .slice A6 n6 c6]] ?_
 refine (HSE0.out wD (HM.out.below hHeld.2).1).mono ?_
 rintro e d13_ ⟨A7, c7, rows, rfl, hrl, hR7, hK7, hb⟩
 refine ⟨_, rfl, (kp10 hHeld hb), fun hHeld => ⟨_, rfl, nz_ (some 23) ?_⟩⟩
 have HRL := Lib.hid hrl
 have HK7 := Lib.hid hK7
 have HR7 := Lib.hid hR7
 clear hrl hK7 hR7
 clear hb
 refine pu_ 9 (some 24) ?_
 refine dn_ ?_
 have hb0W := hHeld.2
 have HT := Lib.hid (HM.out.apart hb0W HR7.out HSZ.out)
 have HBW := Lib.hid (q60 HB1.out HB1.out.size hb0W)
 have HM := Lib.hid (HM.out.below hb0W)
 clear hb0W hHeld hk0 hk1 hcz1 x0 x1 x2 x3 x4 x5 x6 HR7 HSZ HB1 HSE0
 go_wp2_with fail
 go_loopg [4, 25] m (fun gg s4 s25 wr => ∃ (k : Nat) (vq : Value), s25 = .int .i64 k ∧ s4 = .int .i64 ((mk + onsN (ss.take k) : Nat) : Int) ∧ k ≤ m ∧ m - k ≤ gg ∧ Hid (Mr c w0 wr g vq (rs ++ firstP c i mk ss k) ∧ Go_ g vr vq wB wr ∧ Kd.R (kRaw 2) 45 wr (g + 1) (fun k => some k ≠ vq.ownBlock) (.slice A7 m c7) rows))
 case atStart => exact ⟨0, vr, rfl, by simp [onsN], Nat.zero_le _, by omega, Lib.hid ⟨by simpa [firstP] using HM.out, Go_.below Go_.refl HBW.out, HT.out⟩⟩
 case round =>
 obtain ⟨k, vq, rfl, rfl, hkm, hkg, Y⟩ := hrel
 obtain ⟨wO, rfl⟩ : ∃ wO, wO = wr := ⟨_, rfl⟩
 clear HM HT HBW
 by_cases hlk : k < m
 case neg =>
  obtain rfl : k = m := by omega
  have hlz : ¬ (k : Int) < (k : Int) := by omega
  have HM := Lib.hid Y.out.1
  have HGA := Lib.hid Y.out.2.1
  have hk0 := HGA.out.cell HC0.out hl0 hg0 HO0.out
  have hk1 := HGA.out.cell HC1.out hl1 hg1 HO1.out
  have hcz1 : wO.cell? ⟨g, 1, none⟩ = some (.slice (some ad) n c.c1) := by rw [← HAE.out, HN.out]; exact (q63 HM.out.2.2.1 1).trans rfl
  have x1 := q73 HM.out.1 HXX.out.2.1
  have hfl := firstP_len c i mk ss k
  have HRS : Hid (rs ++ R = (rs ++ firstP c i mk ss k) ++ if x.f1 = 1 then kidsP c i ks ks.length else []) := Lib.hid (by rw [HR.out, List.append_assoc])
  obtain ⟨rk, hrk⟩ : ∃ rk, rk = rs ++ firstP c i mk ss k := ⟨_, rfl⟩
  have hrkl : rk.length ≤ 80006 := by rw [hrk, List.length_append, hfl]; omega
  rw [← hrk] at HM HRS
  obtain ⟨kd, hkd⟩ : ∃ kd, kd = x.f1 := ⟨_, rfl⟩
  rw [← hkd] at x1 HRS
  clear Y hfl hrk hkd HR
  go_wp2_with fail
  have hS : (((wO.drew).cell? ⟨b0, 0, none⟩ = some (.pointer (some ⟨g, 0, none⟩))) ∧ ((wO.drew).cell? ⟨b1, 0, none⟩ = some (.int .i64 i)) ∧ ((wO.drew).cell? ⟨g, 1, none⟩ = some (.slice (some ad) n c.c1)) ∧ ((wO.drew).cell? ⟨(ad.add (i * 7)).block, (ad.add (i * 7)).off + 1, none⟩ = some (.int .i64 kd))) ∧ Below wO.heap.size wO wO.drew := ⟨⟨hk0, hk1, hcz1, x1⟩, q58 (Below.refl _ _)⟩
  refine sD_ [] (fun w' => ((w'.cell? ⟨b0, 0, none⟩ = some (.pointer (some ⟨g, 0, none⟩))) ∧ (w'.cell? ⟨b1, 0, none⟩ = some (.int .i64 i)) ∧ (w'.cell? ⟨g, 1, none⟩ = some (.slice (some ad) n c.c1)) ∧ (w'.cell? ⟨(ad.add (i * 7)).block, (ad.add (i * 7)).off + 1, none⟩ = some (.int .i64 kd))) ∧ Below wO.heap.size wO w') 10 hS (fun hHeld => ?_)
  clear hS
  obtain ⟨wD, hwD⟩ : ∃ wD, wD = wO.drew := ⟨_, rfl⟩
  rw [← hwD] at hHeld ⊢
  clear hwD
  refine tc_ 0 (some 69) hHeld ?_
  refine tc_ 5 (some 74) hHeld ?_
  refine pu_ 1 (some 70) ?_
  refine pu_ 2 (some 71) ?_
  refine pu_ 3 (some 72) ?_
  refine tc_ 4 (some 73) hHeld ?_
  refine pu_ 6 (some 75) ?_
  refine pu_ 7 (some 76) ?_
  refine tc_ 8 (some 77) hHeld ?_
  refine pu_ 9 (some 78) ?_
  refine dn_ ?_
  have HM := Lib.hid (HM.out.below hHeld.2)
  have HGA := Lib.hid (Go_.below HGA.out hHeld.2)
  have hk0 := hHeld.1.1
  have hk1 := hHeld.1.2.1
  clear hHeld hcz1 x1
  by_cases hq1 : kd = 1
  case neg =>
   have hqb : (kd == 1) = false := beq_eq_false_iff_ne.mpr hq1
   have HN2 : Hid (rs ++ R = rk) := Lib.hid (by rw [HRS.out, if_neg hq1, List.append_nil])
   clear hk0 hk1
   go_wp2
   refine bodyPost_ret (results_none rfl _ _ _) rfl ?_
   rw [HN2.out]
   exact ⟨rfl, vq, HM.out, (Go_.below Go_.refl HBB.out).then_ HGA.out⟩
  have HRP : Hid (rs ++ R = rk ++ kidsP c i ks ks.length) := Lib.hid (by rw [HRS.out, if_pos hq1])
  subst hq1
  clear HRS
  go_wp2_with fail
  have HB := Lib.hid (Below.refl wD.heap.size wD)
  have hp := flag_call i 2 wD (by omega) (by omega)
  go_wp2_with fail
  refine hp.mono ?_
  rintro e v1_ ⟨rfl, hb⟩
  clear hp
  have HB := Lib.hid (q60 HB.out HB.out.size hb)
  clear hb
  have hp := up_call (flagF i 2) v1_
  go_wp2_with fail
  refine hp.mono ?_
  rintro e v2_ ⟨rfl, hb⟩
  clear hp
  have HB := Lib.hid (q60 HB.out HB.out.size hb)
  clear hb
  obtain ⟨wP, hwP⟩ : ∃ wP, wP = v2_.alloc (.cells #[.int .i64 (flagF i 2), .bool false] 93) := ⟨_, rfl⟩
  have hbP : Below v2_.heap.size v2_ wP := by rw [hwP]; exact q57 (Below.refl _ _) _
  have hgP : wP.heap[v2_.heap.size]? = some (.cells #[.int .i64 (flagF i 2), .bool false] 93 (0, 0)) := by rw [hwP]; exact heap_alloc_new _ _
  have hbDP := q60 HB.out HB.out.size hbP
  obtain ⟨b8, hb8⟩ : ∃ b8, b8 = v2_.heap.size := ⟨_, rfl⟩
  rw [← hb8] at hgP
  have hl8 : b8 < wP.heap.size := blk_lt hgP
  have hg8 : b8 ≠ g := by have := HM.out.lt; have := HB.out.size; omega
  have HO8 : Hid (vq.ownBlock ≠ some b8) := Lib.hid (fun e => by have := Kd.R_lt HM.out.2.2.2 _ e; have := HB.out.size; omega)
  have HO0 : Hid (vq.ownBlock ≠ some b0) := Lib.hid (fun e => by rcases HGA.out.2 _ e with h | h; exact HO0.out h; omega)
  have HO1 : Hid (vq.ownBlock ≠ some b1) := Lib.hid (fun e => by rcases HGA.out.2 _ e with h | h; exact HO1.out h; omega)
  have hk0 := q73 hbDP hk0
  have hk1 := q73 hbDP hk1
  have hlD : wB.heap.size ≤ wD.heap.size := HGA.out.1.1
  have hlP : wD.heap.size ≤ wP.heap.size := hbDP.size
  have HM := Lib.hid (HM.out.below hbDP)
  have HGA := Lib.hid (Go_.below HGA.out hbDP)
  have HK8 := Lib.hid (And.intro ((q63 hgP 0).trans rfl : wP.cell? ⟨b8, 0, none⟩ = some (.int .i64 (flagF i 2))) ((q63 hgP 1).trans rfl : wP.cell? ⟨b8, 1, none⟩ = some (.bool false)))
  have hcz0 : wP.cell? ⟨g, 0, none⟩ = some (.slice c.A0 nf c.c0) := by rw [HNF.out]; exact (q63 HM.out.2.2.1 0).trans rfl
  have hcz1 : wP.cell? ⟨g, 1, none⟩ = some (.slice (some ad) n c.c1) := by rw [← HAE.out, HN.out]; exact (q63 HM.out.2.2.1 1).trans rfl
  have x0 := q73 HM.out.1 HXX.out.1
  have HWP := Lib.hid hwP
  have HB8 := Lib.hid hb8
  clear hwP hbP hgP hbDP hb8 HB
  go_wp2_with fail
  rw [← HWP.out, ← HB8.out]
  have hS : (((wP.drew).cell? ⟨b0, 0, none⟩ = some (.pointer (some ⟨g, 0, none⟩))) ∧ ((wP.drew).cell? ⟨b1, 0, none⟩ = some (.int .i64 i)) ∧ ((wP.drew).cell? ⟨g, 0, none⟩ = some (.slice c.A0 nf c.c0)) ∧ ((wP.drew).cell? ⟨g, 1, none⟩ = some (.slice (some ad) n c.c1)) ∧ ((wP.drew).cell? (ad.add (i * 7)) = some (.string x.f0))) ∧ Below wP.heap.size wP wP.drew := ⟨⟨hk0, hk1, hcz0, hcz1, x0⟩, q58 (Below.refl _ _)⟩
  refine sD_ [] (fun w' => ((w'.cell? ⟨b0, 0, none⟩ = some (.pointer (some ⟨g, 0, none⟩))) ∧ (w'.cell? ⟨b1, 0, none⟩ = some (.int .i64 i)) ∧ (w'.cell? ⟨g, 0, none⟩ = some (.slice c.A0 nf c.c0)) ∧ (w'.cell? ⟨g, 1, none⟩ = some (.slice (some ad) n c.c1)) ∧ (w'.cell? (ad.add (i * 7)) = some (.string x.f0))) ∧ Below wP.heap.size wP w') 16 hS (fun hHeld => ?_)
  clear hS
  obtain ⟨wD, hwD⟩ : ∃ wD, wD = wP.drew := ⟨_, rfl⟩
  rw [← hwD] at hHeld ⊢
  clear hwD
  refine tc_ 0 (some 83) hHeld ?_
  refine tc_ 4 (some 87) hHeld ?_
  refine tc_ 9 (some 92) hHeld ?_
  refine pu_ 1 (some 84) ?_
  refine pu_ 2 (some 85) ?_
  refine pu_ 5 (some 88) ?_
  refine pu_ 6 (some 89) ?_
  refine pu_ 7 (some 90) ?_
  refine pu_ 15 (some 98) ?_
  refine tc_ 3 (some 86) hHeld ?_
  refine tc_ 8 (some 91) hHeld ?_
  refine pu_ 10 (some 93) ?_
  refine pu_ 11 (some 94) ?_
  refine tc_ 12 (some 95) hHeld ?_
  have HSZ := Lib.hid hHeld.2.size
  refine ca_ 13 (some 96) Try.func71 #[.agg #[.slice c.A0 nf c.c0, .slice (some ad) n c.c1], .string x.f0] ?_
  refine (HK.out wD (HM.out.below hHeld.2).1).mono ?_
  rintro e d14_ ⟨Ak, ck, rfl, hck, hCk, hAk, hb⟩
  refine ⟨_, rfl, (kp5 hHeld hb), fun hHeld => ⟨_, rfl, nz_ (some 96) ?_⟩⟩
  have HCK := Lib.hid hCk
  have HAK := Lib.hid hAk
  clear hCk hck hAk
  clear hb
  refine pu_ 14 (some 97) ?_
  refine dn_ ?_
  have HBK := Lib.hid hHeld.2
  have hlK : wP.heap.size ≤ d14_.heap.size := hHeld.2.size
  have HOW2 : Hid (∀ k, vq.ownBlock = some k → k < wP.heap.size) := Lib.hid (fun k e => Kd.R_lt HM.out.2.2.2 k e)
  have hgP2 := HM.out.lt
  have HAK : Hid (∀ ad, Ak = some ad → ad.block < d14_.heap.size ∧ ad.block ≠ g ∧ vq.ownBlock ≠ some ad.block) := Lib.hid (fun ad e => by
   have h1 := HAK.out ad e
   have h2 := HSZ.out
   exact ⟨h1.2, by omega, fun e2 => by have := HOW2.out _ e2; omega⟩)
  have HM := Lib.hid (HM.out.below hHeld.2)
  have HGA := Lib.hid (Go_.below HGA.out hHeld.2)
  have HKC := Lib.hid (And.intro (q73 hHeld.2 hk0) (And.intro (q73 hHeld.2 hk1) (And.intro (q73 hHeld.2 HK8.out.1) (q73 hHeld.2 HK8.out.2))))
  obtain ⟨nk, hnk⟩ : ∃ nk, nk = ks.length := ⟨_, rfl⟩
  have HNK := Lib.hid hnk
  rw [← hnk] at hkl HCK ⊢
  obtain ⟨wK, hwK⟩ : ∃ wK, wK = d14_ := ⟨_, rfl⟩
  rw [← hwK] at HCK HAK HM HGA HKC HBK hlK ⊢
  clear hnk hwK hHeld hk0 hk1 hcz0 hcz1 x0 HK8 HSZ HK
  go_wp2_with fail
  go_loopg [98] nk (fun gg s98 wr => ∃ (q : Nat) (vt : Value), s98 = .int .i64 q ∧ q ≤ nk ∧ nk - q ≤ gg ∧ Hid (Mr c w0 wr g vt (rk ++ kidsP c i ks q) ∧ Go_ g vq vt wK wr))
  case atStart => exact ⟨0, vq, rfl, Nat.zero_le _, by omega, Lib.hid ⟨by simpa [kidsP] using HM.out, Go_.refl⟩⟩
  case round =>
  obtain ⟨q, vt, rfl, hqk, hqg, Z⟩ := hrel
  obtain ⟨wI, rfl⟩ : ∃ wI, wI = wr := ⟨_, rfl⟩
  clear HM
  by_cases hlq : q < nk
  case neg =>
   obtain rfl : q = nk := by omega
   have hlz2 : ¬ (q : Int) < (q : Int) := by omega
   have HF : Hid (Mr c w0 wI g vt (rs ++ R) ∧ Go_ g vr vt w wI) := Lib.hid ⟨by rw [HRP.out, ← HNK.out]; exact Z.out.1, (Go_.below Go_.refl HBB.out).then_ (HGA.out.then_ Z.out.2)⟩
   clear Z
   go_wp2
   refine bodyPost_end (results_none rfl _ _ _) rfl ?_
   exact ⟨rfl, vt, HF.out.1, HF.out.2⟩
  have hlz2 : (q : Int) < (nk : Int) := by omega
  have hqs : q < ks.length := by have := HNK.out; omega
  obtain ⟨adk, e, y0⟩ := Kd.at_int (Z.out.2.C_int HCK.out HAK.out) (q : Int) (by omega) (by omega)
  cases e
  simp only [Int.toNat_natCast] at y0
  obtain ⟨kv, hkv⟩ : ∃ kv, kv = rd ks (q : Int) := ⟨_, rfl⟩
  have hkq : kv = ks[q] := by rw [hkv]; simp [rd, List.getD_eq_getElem?_getD, List.getElem?_eq_getElem hqs]
  have HKP : Hid (rk ++ kidsP c i ks (q + 1) = (rk ++ kidsP c i ks q) ++ [holdsR c i (flagF i 2) [⟨flagF kv 2, false⟩]] ++ [holdsR c i (flagF i 2) (waitsL kv)] ++ if (q81 c.l kv).f3 = true then [holdsR c i (flagF i 2) [⟨flagF kv 3, true⟩, ⟨flagF kv 4, true⟩]] else []) := Lib.hid (by
   simp only [kidsP]
   rw [← hkv, kidR, ← List.append_assoc, ← List.append_assoc, ← List.append_assoc])
  rw [← hkv] at y0
  have hkb := HKM.out kv (by rw [hkq]; exact List.getElem_mem hqs)
  have hkpl := kidsP_len c i ks q
  have hkb1 : 0 ≤ kv ∧ kv ≤ 1000 := by have := HMM.out.2.2.2.2.1; omega
  obtain ⟨rq, hrq⟩ : ∃ rq, rq = rk ++ kidsP c i ks q := ⟨_, rfl⟩
  have hrql : rq.length ≤ 90000 := by rw [hrq, List.length_append]; omega
  rw [← hrq] at HKP
  have HM := Lib.hid (hrq ▸ Z.out.1)
  have HG0 := Lib.hid Z.out.2
  have HB := Lib.hid (Below.refl wI.heap.size wI)
  have hlO0 : b0 < wK.heap.size := by omega
  have hlO1 : b1 < wK.heap.size := by omega
  have hlO8 : b8 < wK.heap.size := by omega
  have hk0 := HG0.out.cell HKC.out.1 hlO0 hg0 HO0.out
  have hk1 := HG0.out.cell HKC.out.2.1 hlO1 hg1 HO1.out
  have hk80 := HG0.out.cell HKC.out.2.2.1 hlO8 hg8 HO8.out
  have hk81 := HG0.out.cell HKC.out.2.2.2 hlO8 hg8 HO8.out
  have HKI := Lib.hid (And.intro hk0 (And.intro hk1 (And.intro hk80 hk81)))
  clear Z hkv hkq hrq hkpl hqs hk0 hk1 hk80 hk81
  have hp := flag_call kv 2 wI (by omega) (by omega)
  go_wp2_with fail
  refine hp.mono ?_
  rintro e v3_ ⟨rfl, hb⟩
  clear hp
  have HB := Lib.hid (q60 HB.out HB.out.size hb)
  clear hb
  have hp := up_call (flagF kv 2) v3_
  go_wp2_with fail
  refine hp.mono ?_
  rintro e v4_ ⟨rfl, hb⟩
  clear hp
  have HB := Lib.hid (q60 HB.out HB.out.size hb)
  clear hb
  have hb2 := q57 HB.out (.cells (litCells [⟨flagF kv 2, false⟩]).toArray 93)
  have hC2 := (Kd.R_reads' (lits_row v4_ [⟨flagF kv 2, false⟩] (by simp))).2.2
  have hp : Calls Try.prog 68 #[.slice (some ⟨v4_.heap.size, 0, none⟩) 1 1, .pointer (some ⟨b0, 0, none⟩), .pointer (some ⟨b1, 0, none⟩), .pointer (some ⟨b8, 0, none⟩)] (v4_.alloc (.cells #[.int .i64 (flagF kv 2), .bool false] 93)) (RulePost c w0 (v4_.alloc (.cells #[.int .i64 (flagF kv 2), .bool false] 93)) g vt (rq ++ [holdsR c i (flagF i 2) [⟨flagF kv 2, false⟩]])) :=
   holds_any c w0 (v4_.alloc (.cells (litCells [⟨flagF kv 2, false⟩]).toArray 93)) g vt (rq) i b0 b1 b8 (flagF i 2) _ 1 1 [⟨flagF kv 2, false⟩] (HM.out.below hb2) HMM.out hiL.out (by omega) (q73 hb2 HKI.out.1) (q73 hb2 HKI.out.2.1) (q73 hb2 HKI.out.2.2.1) (q73 hb2 HKI.out.2.2.2) hC2 rfl (by simp)
  have HBQ : Hid (Below wI.heap.size wI (v4_.alloc (.cells #[.int .i64 (flagF kv 2), .bool false] 93))) := Lib.hid hb2
  clear hb2 hC2
  go_wp2_with fail
  refine hp.mono ?_
  rintro e wN1 ⟨rfl, v1, h1, h2⟩
  have HM := Lib.hid h1
  have HG1 := Lib.hid ((Go_.below Go_.refl HBQ.out).then_ h2 : Go_ g vt v1 wI wN1)
  clear h1 h2 hp HBQ y0 HB
  have HOT : Hid (∀ b, b < wK.heap.size → vq.ownBlock ≠ some b → vt.ownBlock ≠ some b) := Lib.hid (fun b hb h e => by rcases HG0.out.2 _ e with h' | h'; exact h h'; omega)
  have HOT0 := Lib.hid (HOT.out b0 hlO0 HO0.out)
  have HOT1 := Lib.hid (HOT.out b1 hlO1 HO1.out)
  have HOT8 := Lib.hid (HOT.out b8 hlO8 HO8.out)
  have hwI : wK.heap.size ≤ wI.heap.size := HG0.out.1.1
  have hm0 : b0 < wI.heap.size := by omega
  have hm1 : b1 < wI.heap.size := by omega
  have hm8 : b8 < wI.heap.size := by omega
  have HKJ := Lib.hid (And.intro (HG1.out.cell HKI.out.1 hm0 hg0 HOT0.out) (And.intro (HG1.out.cell HKI.out.2.1 hm1 hg1 HOT1.out) (And.intro (HG1.out.cell HKI.out.2.2.1 hm8 hg8 HOT8.out) (HG1.out.cell HKI.out.2.2.2 hm8 hg8 HOT8.out))))
  have HB := Lib.hid (Below.refl wN1.heap.size wN1)
  have hp := waits_call kv wN1 (by omega)
  go_wp2_with fail
  refine hp.mono ?_
  rintro e v5_ ⟨A3, n3, c3, rfl, hn3, hR3, hb⟩
  have HR3 := Lib.hid hR3
  have HN3 := Lib.hid hn3
  have HS3 := Lib.hid HB.out.size
  clear hp hR3 hn3
  have HB := Lib.hid (q60 HB.out HB.out.size hb)
  clear hb
  have hb2 := HB.out
  have hC2 := (Kd.R_reads' HR3.out).2.2
  rw [← HN3.out] at hC2
  have hp := holds_any c w0 v5_ g v1 (rq ++ [holdsR c i (flagF i 2) [⟨flagF kv 2, false⟩]]) i b0 b1 b8 (flagF i 2) A3 n3 c3 (waitsL kv) (HM.out.below hb2) HMM.out hiL.out (by rw [List.length_append]; simp; omega) (q73 hb2 HKJ.out.1) (q73 hb2 HKJ.out.2.1) (q73 hb2 HKJ.out.2.2.1) (q73 hb2 HKJ.out.2.2.2) hC2 HN3.out (by simp [waitsL])
  clear hb2 hC2
  go_wp2_with fail
  refine hp.mono ?_
  rintro e wN2 ⟨rfl, v2, h1, h2⟩
  have HM := Lib.hid h1
  have HG2 := Lib.hid (HG1.out.then_ ((Go_.below Go_.refl HB.out).then_ h2) : Go_ g vt v2 wI wN2)
  clear h1 h2 hp HB HR3 HN3 HS3 HKJ
  have HKJ := Lib.hid (And.intro (HG2.out.cell HKI.out.1 hm0 hg0 HOT0.out) (And.intro (HG2.out.cell HKI.out.2.1 hm1 hg1 HOT1.out) (And.intro (HG2.out.cell HKI.out.2.2.1 hm8 hg8 HOT8.out) (HG2.out.cell HKI.out.2.2.2 hm8 hg8 HOT8.out))))
  have hk0 := HKJ.out.1
  have hcz1 : wN2.cell? ⟨g, 1, none⟩ = some (.slice (some ad) n c.c1) := by rw [← HAE.out, HN.out]; exact (q63 HM.out.2.2.1 1).trans rfl
  obtain ⟨ad4, A54, c54, A64, c64, e4, z0, z1, z2, z3, -⟩ := at_T41 (HMM.out.at HM.out.1).2 kv (by omega) (by omega)
  have had : ad4 = ad := Option.some.inj (e4.symm.trans HAE.out)
  subst had
  obtain ⟨rb, hrb⟩ : ∃ rb, rb = (q81 c.l kv).f3 := ⟨_, rfl⟩
  rw [← hrb] at z3 HKP
  have hkn : kv < (n : Int) := by have := HN.out; omega
  clear e4 z0 z1 z2 hrb HKI
  cases rb
  ·have HKQ : Hid (rk ++ kidsP c i ks (q + 1) = rq ++ [holdsR c i (flagF i 2) [⟨flagF kv 2, false⟩]] ++ [holdsR c i (flagF i 2) (waitsL kv)]) := Lib.hid (by rw [HKP.out, if_neg (by decide), List.append_nil])
   have HF : Hid (Mr c w0 wN2 g v2 (rk ++ kidsP c i ks (q + 1)) ∧ Go_ g vq v2 wK wN2) := Lib.hid ⟨by rw [HKQ.out]; exact HM.out, HG0.out.then_ HG2.out⟩
   clear HM
   go_wp2
   go_roundg (nk - (q + 1))
   case measure => omega
   case rel => exact ⟨q + 1, v2, by go_num, by omega, Nat.le_refl _, HF⟩
  have HKQ : Hid (rk ++ kidsP c i ks (q + 1) = rq ++ [holdsR c i (flagF i 2) [⟨flagF kv 2, false⟩]] ++ [holdsR c i (flagF i 2) (waitsL kv)] ++ [holdsR c i (flagF i 2) [⟨flagF kv 3, true⟩, ⟨flagF kv 4, true⟩]]) := Lib.hid (by rw [HKP.out, if_pos rfl])
  obtain ⟨rq3, hrq3⟩ : ∃ rq3, rq3 = rq ++ [holdsR c i (flagF i 2) [⟨flagF kv 2, false⟩]] ++ [holdsR c i (flagF i 2) (waitsL kv)] := ⟨_, rfl⟩
  have hrq3l : rq3.length ≤ 100000 := by rw [hrq3, List.length_append, List.length_append]; simp; omega
  rw [← hrq3] at HKQ HM
  have HKI := HKJ
  have HB := Lib.hid (Below.refl wN2.heap.size wN2)
  clear hrq3 HKP HKJ
  have hp := flag_call kv 3 wN2 (by omega) (by omega)
  go_wp2_with fail
  refine hp.mono ?_
  rintro e v6_ ⟨rfl, hb⟩
  clear hp
  have HB := Lib.hid (q60 HB.out HB.out.size hb)
  clear hb
  clear hk0 hcz1 z3
  have hp := down_call (flagF kv 3) v6_
  go_wp2_with fail
  refine hp.mono ?_
  rintro e v7_ ⟨rfl, hb⟩
  clear hp
  have HB := Lib.hid (q60 HB.out HB.out.size hb)
  clear hb
  have hp := flag_call kv 4 v7_ (by omega) (by omega)
  go_wp2_with fail
  refine hp.mono ?_
  rintro e v8_ ⟨rfl, hb⟩
  clear hp
  have HB := Lib.hid (q60 HB.out HB.out.size hb)
  clear hb
  have hp := down_call (flagF kv 4) v8_
  go_wp2_with fail
  refine hp.mono ?_
  rintro e v9_ ⟨rfl, hb⟩
  clear hp
  have HB := Lib.hid (q60 HB.out HB.out.size hb)
  clear hb
  have hb2 := q57 HB.out (.cells (litCells [⟨flagF kv 3, true⟩, ⟨flagF kv 4, true⟩]).toArray 93)
  have hC2 := (Kd.R_reads' (lits_row v9_ [⟨flagF kv 3, true⟩, ⟨flagF kv 4, true⟩] (by simp))).2.2
  have hp : Calls Try.prog 68 #[.slice (some ⟨v9_.heap.size, 0, none⟩) 2 2, .pointer (some ⟨b0, 0, none⟩), .pointer (some ⟨b1, 0, none⟩), .pointer (some ⟨b8, 0, none⟩)] (v9_.alloc (.cells #[.int .i64 (flagF kv 3), .bool true, .int .i64 (flagF kv 4), .bool true] 93)) (RulePost c w0 (v9_.alloc (.cells #[.int .i64 (flagF kv 3), .bool true, .int .i64 (flagF kv 4), .bool true] 93)) g v2 (rq3 ++ [holdsR c i (flagF i 2) [⟨flagF kv 3, true⟩, ⟨flagF kv 4, true⟩]])) :=
   holds_any c w0 (v9_.alloc (.cells (litCells [⟨flagF kv 3, true⟩, ⟨flagF kv 4, true⟩]).toArray 93)) g v2 (rq3) i b0 b1 b8 (flagF i 2) _ 2 2 [⟨flagF kv 3, true⟩, ⟨flagF kv 4, true⟩] (HM.out.below hb2) HMM.out hiL.out hrq3l (q73 hb2 HKI.out.1) (q73 hb2 HKI.out.2.1) (q73 hb2 HKI.out.2.2.1) (q73 hb2 HKI.out.2.2.2) hC2 rfl (by simp)
  have HBQ : Hid (Below wN2.heap.size wN2 (v9_.alloc (.cells #[.int .i64 (flagF kv 3), .bool true, .int .i64 (flagF kv 4), .bool true] 93))) := Lib.hid hb2
  clear hb2 hC2
  go_wp2_with fail
  refine hp.mono ?_
  rintro e wN3 ⟨rfl, v3, h1, h2⟩
  have HF : Hid (Mr c w0 wN3 g v3 (rk ++ kidsP c i ks (q + 1)) ∧ Go_ g vq v3 wK wN3) := Lib.hid ⟨by rw [HKQ.out]; exact h1, HG0.out.then_ (HG2.out.then_ ((Go_.below Go_.refl HBQ.out).then_ h2))⟩
  clear h1 h2 hp HBQ HB HM
  go_wp2
  go_roundg (nk - (q + 1))
  case measure => omega
  case rel => exact ⟨q + 1, v3, by go_num, by omega, Nat.le_refl _, HF⟩
 have hlz : (k : Int) < (m : Int) := by omega
 have hks : k < ss.length := by have := HMM2.out; omega
 obtain ⟨ad2, A8, c8, A9, c9, e2, y0, y1, l8, g8, l9, g9⟩ := sent_at (Kd.R_reads' Y.out.2.2).2.2 HK7.out k hks (HRL.out.trans HMM2.out)
 cases e2
 have hsq : q82 ss (k : Int) = ss[k] := by simp [q82, List.getD_eq_getElem?_getD, List.getElem?_eq_getElem hks]
 have hq3 := HW6.out ss[k] (List.getElem_mem hks)
 have hts := onsN_take ss k hks
 have ho1 := HON.out k
 obtain ⟨nq, hnq⟩ : ∃ nq, nq = ss[k].f0.length := ⟨_, rfl⟩
 obtain ⟨cds, hcds⟩ : ∃ cds, cds = ss[k].f1 := ⟨_, rfl⟩
 obtain ⟨a0, ha0⟩ : ∃ a0, a0 = mk + onsN (ss.take k) := ⟨_, rfl⟩
 rw [← hcds] at y1 l9 g9 hq3
 rw [← hnq] at y0 hq3 hts
 obtain ⟨nr, hnr⟩ : ∃ nr, nr = cds.length := ⟨_, rfl⟩
 have HFS : Hid (firstP c i mk ss (k + 1) = firstP c i mk ss k ++ [⟨1, onLits a0 nq, cds, [⟨sv + (k : Int), true⟩]⟩]) := Lib.hid (by
  simp only [firstP]
  rw [hsq, firstS, sentI, ← HSV.out, ← hcds, ← hnq, ← ha0])
 have HA1 : Hid (mk + onsN (ss.take (k + 1)) = a0 + nq) := Lib.hid (by rw [hts, ha0]; omega)
 have hfl := firstP_len c i mk ss k
 have hlimA : (rs ++ firstP c i mk ss k).length ≤ 100000 := by rw [List.length_append, hfl]; omega
 rw [← hnr] at y1 l9 g9 hq3
 rw [← ha0]
 have ha1 : a0 ≤ 23000 := by omega
 have hwr : wrap64 (sv + (k : Int)) = sv + (k : Int) := by unfold wrap64; omega
 have HLA := Lib.hid hlimA
 have HY := Lib.hid Y.out
 have hbA := q57 (Below.refl wO.heap.size wO) (.cells #[.slice A8 nq c8, .slice A9 nr c9] 45)
 obtain ⟨wA, hwA⟩ : ∃ wA, wA = wO.alloc (.cells #[.slice A8 nq c8, .slice A9 nr c9] 45) := ⟨_, rfl⟩
 have hgA : wA.heap[wO.heap.size]? = some (.cells #[.slice A8 nq c8, .slice A9 nr c9] 45 (0, 0)) := by rw [hwA]; exact heap_alloc_new _ _
 rw [← hwA] at hbA
 obtain ⟨b6, hb6⟩ : ∃ b6, b6 = wO.heap.size := ⟨_, rfl⟩
 rw [← hb6] at hgA
 have hd0 : wA.cell? ⟨b6, 0, none⟩ = some (.slice A8 nq c8) := (q63 hgA 0).trans rfl
 have hd1 : wA.cell? ⟨b6, 1, none⟩ = some (.slice A9 nr c9) := (q63 hgA 1).trans rfl
 have hk0 := q73 hbA (HY.out.2.1.cell HC0.out hl0 hg0 HO0.out)
 have hk1 := q73 hbA (HY.out.2.1.cell HC1.out hl1 hg1 HO1.out)
 have HM := Lib.hid (HY.out.1.below hbA)
 have HGA := Lib.hid (Go_.below HY.out.2.1 hbA)
 have HT := Lib.hid (Kd.R_below HY.out.2.2 hbA)
 have HCL : Hid (∀ W, Below wA.heap.size wA W → Calls Try.prog 65 #[.slice A9 nr c9] W fun e w' => ∃ AC cC, e = .returned (.slice AC nr cC) ∧ Kd.R k90 90 w' W.heap.size (fun _ => True) (.slice AC nr cC) cds ∧ Below W.heap.size W w') := Lib.hid (fun W hb => by
  have h := cl_cond W A9 c9 cds (hnr ▸ Kd.C_below g9 (HM.out.below hb).1) (hnr ▸ l9) (by have := hq3.2; omega)
  rw [← hnr] at h
  refine h.mono ?_
  rintro e w' ⟨v, rfl, hR, hb⟩
  obtain ⟨AC, cC, rfl⟩ := Kd.R_slice hR
  rw [← hnr] at hR ⊢
  exact ⟨AC, cC, rfl, hR, hb⟩)
 have HSE : Hid (∀ W, Below wA.heap.size wA W → Calls Try.prog 26 #[.pointer (some ⟨g, 0, none⟩), .int .i64 i] W fun e w' => e = .returned (.int .i64 sv) ∧ Below W.heap.size W w') := Lib.hid (fun W hb => by
  rw [HSV.out]
  exact sent_any c w0 W g i (HM.out.below hb).mg HMM.out (HM.out.below hb).1 (Nat.le_of_lt hiL.out))
 have hgA2 := HM.out.lt
 have HWA := Lib.hid hwA
 have HB6 := Lib.hid hb6
 have HKK := Lib.hid (And.intro hk0 (And.intro hk1 hd0))
 clear Y HY hsq hts ho1 ha0 hnq hcds hnr g8 g9 l8 l9 hbA hwA hgA hb6 hfl hlimA hks
 go_wp2_with fail
 rw [← HWA.out, ← HB6.out]
 clear y0 y1 hd0
 have hS : (((wA.drew).cell? ⟨b0, 0, none⟩ = some (.pointer (some ⟨g, 0, none⟩))) ∧ ((wA.drew).cell? ⟨b1, 0, none⟩ = some (.int .i64 i)) ∧ ((wA.drew).cell? ⟨b6, 1, none⟩ = some (.slice A9 nr c9))) ∧ Below wA.heap.size wA wA.drew := ⟨⟨hk0, hk1, hd1⟩, q58 (Below.refl _ _)⟩
 refine sD_ [12] (fun w' => ((w'.cell? ⟨b0, 0, none⟩ = some (.pointer (some ⟨g, 0, none⟩))) ∧ (w'.cell? ⟨b1, 0, none⟩ = some (.int .i64 i)) ∧ (w'.cell? ⟨b6, 1, none⟩ = some (.slice A9 nr c9))) ∧ Below wA.heap.size wA w') 13 hS (fun hHeld => ?_)
 clear hS
 obtain ⟨wD, hwD⟩ : ∃ wD, wD = wA.drew := ⟨_, rfl⟩
 rw [← hwD] at hHeld ⊢
 clear hwD
 refine pu_ 0 (some 30) ?_
 refine pu_ 6 (some 36) ?_
 refine tc_ 1 (some 31) hHeld ?_
 refine tc_ 3 (some 33) hHeld ?_
 refine tc_ 4 (some 34) hHeld ?_
 refine join_ (σ := Option Addr × Nat × Option Addr × Nat × Nat × Nat) 0 (bits 13 8191) (fun (AC, cC, A2, c2, o8, bx) => [(32, .slice AC nr cC), (35, .int .i64 sv), (37, .int .i64 (sv + (k : Int))), (38, .slice (some ⟨o8, 0, none⟩) 1 1), (39, .slice A2 1 c2), (40, .agg #[.int .i64 1, .slice none 0 0, .slice AC nr cC, .slice A2 1 c2]), (7, .pointer (some ⟨bx, 0, none⟩))]) (fun (AC, cC, A2, c2, o8, bx) w' => w'.heap[bx]? = some (.cells #[.int .i64 1, .slice none 0 0, .slice AC nr cC, .slice A2 1 c2] 72 (0, 0)) ∧ wA.heap.size ≤ bx ∧ Below wA.heap.size wA w' ∧ Kd.R k90 90 w' wA.heap.size (fun k => k ≠ bx) (.slice AC nr cC) cds ∧ Kd.R k111 111 w' wA.heap.size (fun k => k ≠ bx) (.slice A2 1 c2) [⟨sv + (k : Int), true⟩]) ?_ ?_
 rotate_left
 ·intro hCont
  have HCT := Lib.hid hCont
  clear hCont
  refine tW_ 2 11 (some 32) (some 7) (fun K hK => ?_) (fun K hK => ?_)
  ·skip
   have HSHRC := Lib.hid hHeld.2.size
   refine go_s_ Try.func65 #[.slice A9 nr c9] ?_
   refine (HCL.out wD hHeld.2).mono ?_
   rintro e d15_ ⟨AC, cC, rfl, hRC, hb⟩
   refine ⟨_, rfl, ?_⟩
   refine hK.out _ _ (kp3 hHeld hb) (fun hHeld => ?_)
   clear hK K
   refine nz_ (some 32) ?_
   have HRC := Lib.hid ((hRC))
   clear hRC
   clear hb
   refine tW_ 5 11 (some 35) (some 7) (fun K hK => ?_) (fun K hK => ?_)
   ·skip
    refine go_s_ Try.func26 #[.pointer (some ⟨g, 0, none⟩), .int .i64 i] ?_
    refine (HSE.out d15_ hHeld.2).mono ?_
    rintro e d16_ ⟨rfl, hb⟩
    refine ⟨_, rfl, ?_⟩
    refine hK.out _ _ (kp3 hHeld hb) (fun hHeld => ?_)
    clear hK K
    refine nz_ (some 35) ?_
    have HRC := Lib.hid (Kd.R_below HRC.out hb)
    clear hb
    refine pu_ 7 (some 37) ?_
    rw [hwr]
    refine tW_ 8 11 (some 38) (some 7) (fun K hK => ?_) (fun K hK => ?_)
    ·skip
     have HSHC2 := Lib.hid hHeld.2.size
     go_simp
     have hb : Below d16_.heap.size d16_ (d16_.alloc (.cells #[.int .i64 (sv + (k : Int))] 3)) := q57 (Below.refl _ _) _
     have hrow : Kd.R (Kd.int .i64) 3 (d16_.alloc (.cells #[.int .i64 (sv + (k : Int))] 3)) d16_.heap.size (fun _ => True) (.slice (some ⟨d16_.heap.size, 0, none⟩) 1 1) [sv + (k : Int)] := ints_row d16_ [sv + (k : Int)] (by simp)
     refine hK.out _ _ (kp3 hHeld hb) (fun hHeld => ?_)
     clear hK K
     obtain ⟨d17_, hwn⟩ : ∃ wn, wn = d16_.alloc (.cells #[.int .i64 (sv + (k : Int))] 3) := ⟨_, rfl⟩
     rw [← hwn] at hb hrow hHeld ⊢
     have HC2 := Lib.hid hrow
     clear hrow hwn
     have HRC := Lib.hid (Kd.R_below HRC.out hb)
     clear hb
     refine tW_ 9 11 (some 39) (some 7) (fun K hK => ?_) (fun K hK => ?_)
     ·skip
      have HS2 := Lib.hid hHeld.2.size
      have HSHR2 := Lib.hid hHeld.2.size
      refine go_s_ Try.func66 #[.slice (some ⟨d16_.heap.size, 0, none⟩) 1 1] ?_
      refine (puts1_any (sv + (k : Int)) _ d17_ (Kd.R_reads' HC2.out).2.2).mono ?_
      rintro e d18_ ⟨A2, c2, rfl, hR2, hb⟩
      refine ⟨_, rfl, ?_⟩
      refine hK.out _ _ (kp3 hHeld hb) (fun hHeld => ?_)
      clear hK K
      refine nz_ (some 39) ?_
      have HR2 := Lib.hid hR2
      clear hR2
      have HRC := Lib.hid (Kd.R_below HRC.out hb)
      have HC2 := Lib.hid (Kd.R_below HC2.out hb)
      clear hb
      refine pu_ 10 (some 40) ?_
      have HLE := Lib.hid hHeld.2.size
      have HHB := Lib.hid hHeld.2
      have HRC := Lib.hid (R_ne HRC.out (bx := d18_.heap.size) (.inl (Nat.le_refl _)))
      have HR2 := Lib.hid (R_ne HR2.out (bx := d18_.heap.size) (.inl (Nat.le_refl _)))
      have hb : Below d18_.heap.size d18_ (d18_.alloc (.cells #[.int .i64 1, .slice none 0 0, .slice AC nr cC, .slice A2 1 c2] 72)) := q57 (Below.refl _ _) _
      have HRC := Lib.hid (Kd.R_below HRC.out hb)
      clear hb
      have hb : Below d18_.heap.size d18_ (d18_.alloc (.cells #[.int .i64 1, .slice none 0 0, .slice AC nr cC, .slice A2 1 c2] 72)) := q57 (Below.refl _ _) _
      have HC2 := Lib.hid (Kd.R_below HC2.out hb)
      clear hb
      have hb : Below d18_.heap.size d18_ (d18_.alloc (.cells #[.int .i64 1, .slice none 0 0, .slice AC nr cC, .slice A2 1 c2] 72)) := q57 (Below.refl _ _) _
      have HR2 := Lib.hid (Kd.R_below HR2.out hb)
      clear hb
      refine oN_ 11 (some 7) (fun K hK => ?_)
      go_simp
      have hb : Below d18_.heap.size d18_ (d18_.alloc (.cells #[.int .i64 0, .slice none 0 0, .slice none 0 0, .slice none 0 0] 72)) := q57 (Below.refl _ _) _
      refine hK.out _ _ (kp3 hHeld hb) (fun _ => ?_)
      clear hK K hb
      refine lA_ 12 none (fun K hK => ?_)
      go_simp
      refine hK.out _ _ ?_
      refine norm_ ?_ (HCT.out (AC, cC, A2, c2, d16_.heap.size, d18_.heap.size) _ ⟨heap_alloc_new _ _, HLE.out, q72 (q57 (Below.refl _ _) _) HHB.out, Kd.R_lower HRC.out HSHRC.out, Kd.R_lower HR2.out HSHR2.out⟩)
      simp only [putAll, Act.put, List.setIfInBounds_toArray, List.set_cons_zero, List.set_cons_succ]
     skip
     have HRC := Lib.hid (R_ne HRC.out (bx := d17_.heap.size) (.inl (Nat.le_refl _)))
     go_simp
     have hb : Below d17_.heap.size d17_ (d17_.alloc (.cells #[.int .i64 0, .slice none 0 0, .slice none 0 0, .slice none 0 0] 72)) := q57 (Below.refl _ _) _
     have hNB : (d17_.alloc (.cells #[.int .i64 0, .slice none 0 0, .slice none 0 0, .slice none 0 0] 72)).heap[d17_.heap.size]? = some (.cells #[.int .i64 0, .slice none 0 0, .slice none 0 0, .slice none 0 0] 72 (0, 0)) := heap_alloc_new _ _
     have HLE := Lib.hid hHeld.2.size
     refine hK.out _ _ (kp3 hHeld hb) (fun hHeld => ?_)
     clear hK K
     obtain ⟨d19_, hwn⟩ : ∃ wn, wn = d17_.alloc (.cells #[.int .i64 0, .slice none 0 0, .slice none 0 0, .slice none 0 0] 72) := ⟨_, rfl⟩
     rw [← hwn] at hb hNB hHeld ⊢
     have HNB := Lib.hid hNB
     clear hNB hwn
     have HRC := Lib.hid (Kd.R_below HRC.out hb)
     have HC2 := Lib.hid (Kd.R_below HC2.out hb)
     clear hb
     have HS2 := Lib.hid hHeld.2.size
     have HSHR2 := Lib.hid hHeld.2.size
     refine ca_ 9 (some 39) Try.func66 #[.slice (some ⟨d16_.heap.size, 0, none⟩) 1 1] ?_
     refine (puts1_any (sv + (k : Int)) _ d19_ (Kd.R_reads' HC2.out).2.2).mono ?_
     rintro e d20_ ⟨A2, c2, rfl, hR2, hb⟩
     refine ⟨_, rfl, (kp3 hHeld hb), fun hHeld => ⟨_, rfl, nz_ (some 39) ?_⟩⟩
     have HR2 := Lib.hid (R_ne hR2 (bx := d17_.heap.size) (.inr (blk_lt HNB.out)))
     clear hR2
     have HRC := Lib.hid (Kd.R_below HRC.out hb)
     have HC2 := Lib.hid (Kd.R_below HC2.out hb)
     have HNB := Lib.hid (q62 HNB.out hb)
     clear hb
     refine pu_ 10 (some 40) ?_
     have HHB := Lib.hid hHeld.2
     clear hHeld
     have hz0 := (q63 HNB.out 0).trans rfl
     have hq0 := q67 HNB.out 0
     have hz1 := (q63 HNB.out 1).trans rfl
     have hq1 := q67 HNB.out 1
     have hz2 := (q63 HNB.out 2).trans rfl
     have hq2 := q67 HNB.out 2
     have hz3 := (q63 HNB.out 3).trans rfl
     have hq3 := q67 HNB.out 3
     refine lA_ 12 none (fun K hK => ?_)
     go_simp
     refine hK.out _ _ ?_
     refine norm_ ?_ (HCT.out (AC, cC, A2, c2, d16_.heap.size, d17_.heap.size) _ ⟨(q68 ((q68 ((q68 ((q68 (HNB.out) 0 (.int .i64 1) rfl)) 1 (.slice none 0 0) rfl)) 2 (.slice AC nr cC) rfl)) 3 (.slice A2 1 c2) rfl), HLE.out, ((((HHB.out).setCell HLE.out (p := ⟨_, 0, none⟩) _).setCell HLE.out (p := ⟨_, 1, none⟩) _).setCell HLE.out (p := ⟨_, 2, none⟩) _).setCell HLE.out (p := ⟨_, 3, none⟩) _, Kd.R_lower (R_setne (p := ⟨_, 3, none⟩) (.slice A2 1 c2) (R_setne (p := ⟨_, 2, none⟩) (.slice AC nr cC) (R_setne (p := ⟨_, 1, none⟩) (.slice none 0 0) (R_setne (p := ⟨_, 0, none⟩) (.int .i64 1) HRC.out)))) HSHRC.out, Kd.R_lower (R_setne (p := ⟨_, 3, none⟩) (.slice A2 1 c2) (R_setne (p := ⟨_, 2, none⟩) (.slice AC nr cC) (R_setne (p := ⟨_, 1, none⟩) (.slice none 0 0) (R_setne (p := ⟨_, 0, none⟩) (.int .i64 1) HR2.out)))) HSHR2.out⟩)
     simp only [putAll, Act.put, List.setIfInBounds_toArray, List.set_cons_zero, List.set_cons_succ]
    skip
    have HRC := Lib.hid (R_ne HRC.out (bx := d16_.heap.size) (.inl (Nat.le_refl _)))
    go_simp
    have hb : Below d16_.heap.size d16_ (d16_.alloc (.cells #[.int .i64 0, .slice none 0 0, .slice none 0 0, .slice none 0 0] 72)) := q57 (Below.refl _ _) _
    have hNB : (d16_.alloc (.cells #[.int .i64 0, .slice none 0 0, .slice none 0 0, .slice none 0 0] 72)).heap[d16_.heap.size]? = some (.cells #[.int .i64 0, .slice none 0 0, .slice none 0 0, .slice none 0 0] 72 (0, 0)) := heap_alloc_new _ _
    have HLE := Lib.hid hHeld.2.size
    refine hK.out _ _ (kp3 hHeld hb) (fun hHeld => ?_)
    clear hK K
    obtain ⟨d21_, hwn⟩ : ∃ wn, wn = d16_.alloc (.cells #[.int .i64 0, .slice none 0 0, .slice none 0 0, .slice none 0 0] 72) := ⟨_, rfl⟩
    rw [← hwn] at hb hNB hHeld ⊢
    have HNB := Lib.hid hNB
    clear hNB hwn
    have HRC := Lib.hid (Kd.R_below HRC.out hb)
    clear hb
    have HSHC2 := Lib.hid hHeld.2.size
    refine oN_ 8 (some 38) (fun K hK => ?_)
    go_simp
    have hb : Below d21_.heap.size d21_ (d21_.alloc (.cells #[.int .i64 (sv + (k : Int))] 3)) := q57 (Below.refl _ _) _
    have hrow : Kd.R (Kd.int .i64) 3 (d21_.alloc (.cells #[.int .i64 (sv + (k : Int))] 3)) d21_.heap.size (fun _ => True) (.slice (some ⟨d21_.heap.size, 0, none⟩) 1 1) [sv + (k : Int)] := ints_row d21_ [sv + (k : Int)] (by simp)
    refine hK.out _ _ (kp3 hHeld hb) (fun hHeld => ?_)
    clear hK K
    obtain ⟨d22_, hwn⟩ : ∃ wn, wn = d21_.alloc (.cells #[.int .i64 (sv + (k : Int))] 3) := ⟨_, rfl⟩
    rw [← hwn] at hb hrow hHeld ⊢
    have HC2 := Lib.hid hrow
    clear hrow hwn
    have HRC := Lib.hid (Kd.R_below HRC.out hb)
    have HNB := Lib.hid (q62 HNB.out hb)
    clear hb
    have HS2 := Lib.hid hHeld.2.size
    have HSHR2 := Lib.hid hHeld.2.size
    refine ca_ 9 (some 39) Try.func66 #[.slice (some ⟨d21_.heap.size, 0, none⟩) 1 1] ?_
    refine (puts1_any (sv + (k : Int)) _ d22_ (Kd.R_reads' HC2.out).2.2).mono ?_
    rintro e d23_ ⟨A2, c2, rfl, hR2, hb⟩
    refine ⟨_, rfl, (kp3 hHeld hb), fun hHeld => ⟨_, rfl, nz_ (some 39) ?_⟩⟩
    have HR2 := Lib.hid (R_ne hR2 (bx := d16_.heap.size) (.inr (blk_lt HNB.out)))
    clear hR2
    have HRC := Lib.hid (Kd.R_below HRC.out hb)
    have HNB := Lib.hid (q62 HNB.out hb)
    have HC2 := Lib.hid (Kd.R_below HC2.out hb)
    clear hb
    refine pu_ 10 (some 40) ?_
    have HHB := Lib.hid hHeld.2
    clear hHeld
    have hz0 := (q63 HNB.out 0).trans rfl
    have hq0 := q67 HNB.out 0
    have hz1 := (q63 HNB.out 1).trans rfl
    have hq1 := q67 HNB.out 1
    have hz2 := (q63 HNB.out 2).trans rfl
    have hq2 := q67 HNB.out 2
    have hz3 := (q63 HNB.out 3).trans rfl
    have hq3 := q67 HNB.out 3
    refine lA_ 12 none (fun K hK => ?_)
    go_simp
    refine hK.out _ _ ?_
    refine norm_ ?_ (HCT.out (AC, cC, A2, c2, d21_.heap.size, d16_.heap.size) _ ⟨(q68 ((q68 ((q68 ((q68 (HNB.out) 0 (.int .i64 1) rfl)) 1 (.slice none 0 0) rfl)) 2 (.slice AC nr cC) rfl)) 3 (.slice A2 1 c2) rfl), HLE.out, ((((HHB.out).setCell HLE.out (p := ⟨_, 0, none⟩) _).setCell HLE.out (p := ⟨_, 1, none⟩) _).setCell HLE.out (p := ⟨_, 2, none⟩) _).setCell HLE.out (p := ⟨_, 3, none⟩) _, Kd.R_lower (R_setne (p := ⟨_, 3, none⟩) (.slice A2 1 c2) (R_setne (p := ⟨_, 2, none⟩) (.slice AC nr cC) (R_setne (p := ⟨_, 1, none⟩) (.slice none 0 0) (R_setne (p := ⟨_, 0, none⟩) (.int .i64 1) HRC.out)))) HSHRC.out, Kd.R_lower (R_setne (p := ⟨_, 3, none⟩) (.slice A2 1 c2) (R_setne (p := ⟨_, 2, none⟩) (.slice AC nr cC) (R_setne (p := ⟨_, 1, none⟩) (.slice none 0 0) (R_setne (p := ⟨_, 0, none⟩) (.int .i64 1) HR2.out)))) HSHR2.out⟩)
    simp only [putAll, Act.put, List.setIfInBounds_toArray, List.set_cons_zero, List.set_cons_succ]
   skip
   have HRC := Lib.hid (R_ne HRC.out (bx := d15_.heap.size) (.inl (Nat.le_refl _)))
   go_simp
   have hb : Below d15_.heap.size d15_ (d15_.alloc (.cells #[.int .i64 0, .slice none 0 0, .slice none 0 0, .slice none 0 0] 72)) := q57 (Below.refl _ _) _
   have hNB : (d15_.alloc (.cells #[.int .i64 0, .slice none 0 0, .slice none 0 0, .slice none 0 0] 72)).heap[d15_.heap.size]? = some (.cells #[.int .i64 0, .slice none 0 0, .slice none 0 0, .slice none 0 0] 72 (0, 0)) := heap_alloc_new _ _
   have HLE := Lib.hid hHeld.2.size
   refine hK.out _ _ (kp3 hHeld hb) (fun hHeld => ?_)
   clear hK K
   obtain ⟨d24_, hwn⟩ : ∃ wn, wn = d15_.alloc (.cells #[.int .i64 0, .slice none 0 0, .slice none 0 0, .slice none 0 0] 72) := ⟨_, rfl⟩
   rw [← hwn] at hb hNB hHeld ⊢
   have HNB := Lib.hid hNB
   clear hNB hwn
   have HRC := Lib.hid (Kd.R_below HRC.out hb)
   clear hb
   refine ca_ 5 (some 35) Try.func26 #[.pointer (some ⟨g, 0, none⟩), .int .i64 i] ?_
   refine (HSE.out d24_ hHeld.2).mono ?_
   rintro e d25_ ⟨rfl, hb⟩
   refine ⟨_, rfl, (kp3 hHeld hb), fun hHeld => ⟨_, rfl, nz_ (some 35) ?_⟩⟩
   have HRC := Lib.hid (Kd.R_below HRC.out hb)
   have HNB := Lib.hid (q62 HNB.out hb)
   clear hb
   refine pu_ 7 (some 37) ?_
   rw [hwr]
   have HSHC2 := Lib.hid hHeld.2.size
   refine oN_ 8 (some 38) (fun K hK => ?_)
   go_simp
   have hb : Below d25_.heap.size d25_ (d25_.alloc (.cells #[.int .i64 (sv + (k : Int))] 3)) := q57 (Below.refl _ _) _
   have hrow : Kd.R (Kd.int .i64) 3 (d25_.alloc (.cells #[.int .i64 (sv + (k : Int))] 3)) d25_.heap.size (fun _ => True) (.slice (some ⟨d25_.heap.size, 0, none⟩) 1 1) [sv + (k : Int)] := ints_row d25_ [sv + (k : Int)] (by simp)
   refine hK.out _ _ (kp3 hHeld hb) (fun hHeld => ?_)
   clear hK K
   obtain ⟨d26_, hwn⟩ : ∃ wn, wn = d25_.alloc (.cells #[.int .i64 (sv + (k : Int))] 3) := ⟨_, rfl⟩
   rw [← hwn] at hb hrow hHeld ⊢
   have HC2 := Lib.hid hrow
   clear hrow hwn
   have HRC := Lib.hid (Kd.R_below HRC.out hb)
   have HNB := Lib.hid (q62 HNB.out hb)
   clear hb
   have HS2 := Lib.hid hHeld.2.size
   have HSHR2 := Lib.hid hHeld.2.size
   refine ca_ 9 (some 39) Try.func66 #[.slice (some ⟨d25_.heap.size, 0, none⟩) 1 1] ?_
   refine (puts1_any (sv + (k : Int)) _ d26_ (Kd.R_reads' HC2.out).2.2).mono ?_
   rintro e d27_ ⟨A2, c2, rfl, hR2, hb⟩
   refine ⟨_, rfl, (kp3 hHeld hb), fun hHeld => ⟨_, rfl, nz_ (some 39) ?_⟩⟩
   have HR2 := Lib.hid (R_ne hR2 (bx := d15_.heap.size) (.inr (blk_lt HNB.out)))
   clear hR2
   have HRC := Lib.hid (Kd.R_below HRC.out hb)
   have HNB := Lib.hid (q62 HNB.out hb)
   have HC2 := Lib.hid (Kd.R_below HC2.out hb)
   clear hb
   refine pu_ 10 (some 40) ?_
   have HHB := Lib.hid hHeld.2
   clear hHeld
   have hz0 := (q63 HNB.out 0).trans rfl
   have hq0 := q67 HNB.out 0
   have hz1 := (q63 HNB.out 1).trans rfl
   have hq1 := q67 HNB.out 1
   have hz2 := (q63 HNB.out 2).trans rfl
   have hq2 := q67 HNB.out 2
   have hz3 := (q63 HNB.out 3).trans rfl
   have hq3 := q67 HNB.out 3
   refine lA_ 12 none (fun K hK => ?_)
   go_simp
   refine hK.out _ _ ?_
   refine norm_ ?_ (HCT.out (AC, cC, A2, c2, d25_.heap.size, d15_.heap.size) _ ⟨(q68 ((q68 ((q68 ((q68 (HNB.out) 0 (.int .i64 1) rfl)) 1 (.slice none 0 0) rfl)) 2 (.slice AC nr cC) rfl)) 3 (.slice A2 1 c2) rfl), HLE.out, ((((HHB.out).setCell HLE.out (p := ⟨_, 0, none⟩) _).setCell HLE.out (p := ⟨_, 1, none⟩) _).setCell HLE.out (p := ⟨_, 2, none⟩) _).setCell HLE.out (p := ⟨_, 3, none⟩) _, Kd.R_lower (R_setne (p := ⟨_, 3, none⟩) (.slice A2 1 c2) (R_setne (p := ⟨_, 2, none⟩) (.slice AC nr cC) (R_setne (p := ⟨_, 1, none⟩) (.slice none 0 0) (R_setne (p := ⟨_, 0, none⟩) (.int .i64 1) HRC.out)))) HSHRC.out, Kd.R_lower (R_setne (p := ⟨_, 3, none⟩) (.slice A2 1 c2) (R_setne (p := ⟨_, 2, none⟩) (.slice AC nr cC) (R_setne (p := ⟨_, 1, none⟩) (.slice none 0 0) (R_setne (p := ⟨_, 0, none⟩) (.int .i64 1) HR2.out)))) HSHR2.out⟩)
   simp only [putAll, Act.put, List.setIfInBounds_toArray, List.set_cons_zero, List.set_cons_succ]
  skip
  go_simp
  have hb : Below wD.heap.size wD (wD.alloc (.cells #[.int .i64 0, .slice none 0 0, .slice none 0 0, .slice none 0 0] 72)) := q57 (Below.refl _ _) _
  have hNB : (wD.alloc (.cells #[.int .i64 0, .slice none 0 0, .slice none 0 0, .slice none 0 0] 72)).heap[wD.heap.size]? = some (.cells #[.int .i64 0, .slice none 0 0, .slice none 0 0, .slice none 0 0] 72 (0, 0)) := heap_alloc_new _ _
  have HLE := Lib.hid hHeld.2.size
  refine hK.out _ _ (kp3 hHeld hb) (fun hHeld => ?_)
  clear hK K
  obtain ⟨d28_, hwn⟩ : ∃ wn, wn = wD.alloc (.cells #[.int .i64 0, .slice none 0 0, .slice none 0 0, .slice none 0 0] 72) := ⟨_, rfl⟩
  rw [← hwn] at hb hNB hHeld ⊢
  have HNB := Lib.hid hNB
  clear hNB hwn
  clear hb
  have HSHRC := Lib.hid hHeld.2.size
  refine ca_ 2 (some 32) Try.func65 #[.slice A9 nr c9] ?_
  refine (HCL.out d28_ hHeld.2).mono ?_
  rintro e d29_ ⟨AC, cC, rfl, hRC, hb⟩
  refine ⟨_, rfl, (kp3 hHeld hb), fun hHeld => ⟨_, rfl, nz_ (some 32) ?_⟩⟩
  have HRC := Lib.hid (R_ne (hRC) (bx := wD.heap.size) (.inr (blk_lt HNB.out)))
  clear hRC
  have HNB := Lib.hid (q62 HNB.out hb)
  clear hb
  refine ca_ 5 (some 35) Try.func26 #[.pointer (some ⟨g, 0, none⟩), .int .i64 i] ?_
  refine (HSE.out d29_ hHeld.2).mono ?_
  rintro e d30_ ⟨rfl, hb⟩
  refine ⟨_, rfl, (kp3 hHeld hb), fun hHeld => ⟨_, rfl, nz_ (some 35) ?_⟩⟩
  have HNB := Lib.hid (q62 HNB.out hb)
  have HRC := Lib.hid (Kd.R_below HRC.out hb)
  clear hb
  refine pu_ 7 (some 37) ?_
  rw [hwr]
  have HSHC2 := Lib.hid hHeld.2.size
  refine oN_ 8 (some 38) (fun K hK => ?_)
  go_simp
  have hb : Below d30_.heap.size d30_ (d30_.alloc (.cells #[.int .i64 (sv + (k : Int))] 3)) := q57 (Below.refl _ _) _
  have hrow : Kd.R (Kd.int .i64) 3 (d30_.alloc (.cells #[.int .i64 (sv + (k : Int))] 3)) d30_.heap.size (fun _ => True) (.slice (some ⟨d30_.heap.size, 0, none⟩) 1 1) [sv + (k : Int)] := ints_row d30_ [sv + (k : Int)] (by simp)
  refine hK.out _ _ (kp3 hHeld hb) (fun hHeld => ?_)
  clear hK K
  obtain ⟨d31_, hwn⟩ : ∃ wn, wn = d30_.alloc (.cells #[.int .i64 (sv + (k : Int))] 3) := ⟨_, rfl⟩
  rw [← hwn] at hb hrow hHeld ⊢
  have HC2 := Lib.hid hrow
  clear hrow hwn
  have HNB := Lib.hid (q62 HNB.out hb)
  have HRC := Lib.hid (Kd.R_below HRC.out hb)
  clear hb
  have HS2 := Lib.hid hHeld.2.size
  have HSHR2 := Lib.hid hHeld.2.size
  refine ca_ 9 (some 39) Try.func66 #[.slice (some ⟨d30_.heap.size, 0, none⟩) 1 1] ?_
  refine (puts1_any (sv + (k : Int)) _ d31_ (Kd.R_reads' HC2.out).2.2).mono ?_
  rintro e d32_ ⟨A2, c2, rfl, hR2, hb⟩
  refine ⟨_, rfl, (kp3 hHeld hb), fun hHeld => ⟨_, rfl, nz_ (some 39) ?_⟩⟩
  have HR2 := Lib.hid (R_ne hR2 (bx := wD.heap.size) (.inr (blk_lt HNB.out)))
  clear hR2
  have HNB := Lib.hid (q62 HNB.out hb)
  have HRC := Lib.hid (Kd.R_below HRC.out hb)
  have HC2 := Lib.hid (Kd.R_below HC2.out hb)
  clear hb
  refine pu_ 10 (some 40) ?_
  have HHB := Lib.hid hHeld.2
  clear hHeld
  have hz0 := (q63 HNB.out 0).trans rfl
  have hq0 := q67 HNB.out 0
  have hz1 := (q63 HNB.out 1).trans rfl
  have hq1 := q67 HNB.out 1
  have hz2 := (q63 HNB.out 2).trans rfl
  have hq2 := q67 HNB.out 2
  have hz3 := (q63 HNB.out 3).trans rfl
  have hq3 := q67 HNB.out 3
  refine lA_ 12 none (fun K hK => ?_)
  go_simp
  refine hK.out _ _ ?_
  refine norm_ ?_ (HCT.out (AC, cC, A2, c2, d30_.heap.size, wD.heap.size) _ ⟨(q68 ((q68 ((q68 ((q68 (HNB.out) 0 (.int .i64 1) rfl)) 1 (.slice none 0 0) rfl)) 2 (.slice AC nr cC) rfl)) 3 (.slice A2 1 c2) rfl), HLE.out, ((((HHB.out).setCell HLE.out (p := ⟨_, 0, none⟩) _).setCell HLE.out (p := ⟨_, 1, none⟩) _).setCell HLE.out (p := ⟨_, 2, none⟩) _).setCell HLE.out (p := ⟨_, 3, none⟩) _, Kd.R_lower (R_setne (p := ⟨_, 3, none⟩) (.slice A2 1 c2) (R_setne (p := ⟨_, 2, none⟩) (.slice AC nr cC) (R_setne (p := ⟨_, 1, none⟩) (.slice none 0 0) (R_setne (p := ⟨_, 0, none⟩) (.int .i64 1) HRC.out)))) HSHRC.out, Kd.R_lower (R_setne (p := ⟨_, 3, none⟩) (.slice A2 1 c2) (R_setne (p := ⟨_, 2, none⟩) (.slice AC nr cC) (R_setne (p := ⟨_, 1, none⟩) (.slice none 0 0) (R_setne (p := ⟨_, 0, none⟩) (.int .i64 1) HR2.out)))) HSHR2.out⟩)
  simp only [putAll, Act.put, List.setIfInBounds_toArray, List.set_cons_zero, List.set_cons_succ]
 rintro ⟨AC, cC, A2, c2, o8, bx⟩ wJ ⟨hNJ, hleJ, hbJ, hXJ⟩
 refine norm_ (a' := ?_) ?_ ?_
 rotate_left
 ·simp only [putAll, Act.put, List.setIfInBounds_toArray, List.set_cons_zero, List.set_cons_succ]
  rfl
 refine dn_ ?_
 clear hHeld
 have hd0 := q73 hbJ HKK.out.2.2
 have HNJ := Lib.hid hNJ
 have HXJ := Lib.hid hXJ
 have HBJ := Lib.hid hbJ
 have hbxJ : bx < wJ.heap.size := blk_lt hNJ
 clear hNJ hXJ hbJ hk0 hk1 hd1 HCL HSE hwr
 go_wp2_with fail
 clear hd0
 go_loopg [4, 44] nq (fun gg s4 s44 wr => ∃ (q : Nat) (AI : Option Addr) (cI : Nat), s44 = .int .i64 q ∧ s4 = .int .i64 ((a0 + q : Nat) : Int) ∧ q ≤ nq ∧ nq - q ≤ gg ∧ Hid (wr.heap[bx]? = some (.cells #[.int .i64 1, .slice AI q cI, .slice AC nr cC, .slice A2 1 c2] 72 (0, 0)) ∧ Kd.R k93 93 wr wA.heap.size (fun k => k ≠ bx ∧ wJ.heap.size ≤ k) (.slice AI q cI) (onLits a0 q) ∧ Below wA.heap.size wA wr ∧ Kept wJ wr (fun k => k = bx)))
 case atStart => exact ⟨0, none, 0, rfl, by simp, Nat.zero_le _, by omega, Lib.hid ⟨HNJ.out, Kd.R_nil _ _ _ _ _, HBJ.out, Kept.refl _ _⟩⟩
 case round =>
 obtain ⟨q, AI, cI, rfl, rfl, hqn, hqg, Z⟩ := hrel
 obtain ⟨wI, rfl⟩ : ∃ wI, wI = wr := ⟨_, rfl⟩
 have HB := Lib.hid Z.out.2.2.1
 have HRI := Lib.hid Z.out.2.1
 have HKJ := Lib.hid Z.out.2.2.2
 have HGI := Lib.hid Z.out.1
 clear Z HNJ HBJ
 by_cases hlq : q < nq
 case neg =>
  obtain rfl : q = nq := by omega
  have hlz2 : ¬ (q : Int) < (q : Int) := by omega
  obtain ⟨Ar, cr, rfl⟩ := Kd.R_slice HM.out.2.2.2
  obtain ⟨rk, hrk⟩ : ∃ rk, rk = rs ++ firstP c i mk ss k := ⟨_, rfl⟩
  have HFS : Hid (rs ++ firstP c i mk ss (k + 1) = rk ++ [⟨1, onLits a0 q, cds, [⟨sv + (k : Int), true⟩]⟩]) := Lib.hid (by rw [HFS.out, hrk, List.append_assoc])
  rw [← hrk] at HM HGA HT HLA
  obtain ⟨lr, hlr⟩ : ∃ lr, lr = rk.length := ⟨_, rfl⟩
  have HLR := Lib.hid hlr
  rw [← hlr] at HM HGA HT
  have HOA : Hid ((Value.slice Ar lr cr).ownBlock ≠ some b0) := Lib.hid (fun e => by rcases HGA.out.2 _ e with h | h; exact HO0.out h; omega)
  have hr8 : wI.cell? ⟨g, 8, none⟩ = some (.slice Ar lr cr) := (q63 (q62 HM.out.2.2.1 HB.out) 8).trans rfl
  have hk0 := q73 HB.out HKK.out.1
  have he0 : wI.cell? ⟨bx, 0, none⟩ = some (.int .i64 1) := (q63 HGI.out 0).trans rfl
  have he1 : wI.cell? ⟨bx, 1, none⟩ = some (.slice AI q cI) := (q63 HGI.out 1).trans rfl
  have he2 : wI.cell? ⟨bx, 2, none⟩ = some (.slice AC nr cC) := (q63 HGI.out 2).trans rfl
  have he3 : wI.cell? ⟨bx, 3, none⟩ = some (.slice A2 1 c2) := (q63 HGI.out 3).trans rfl
  have HLIM : Hid ((rk.length + 1) * 80 ≤ 140737488355328) := Lib.hid (by have := HLA.out; omega)
  clear hrk hlr
  go_wp2_with fail
  have hS : wI.drew.cell? ⟨b0, 0, none⟩ = some (.pointer (some ⟨g, 0, none⟩)) ∧ wI.drew.cell? ⟨g, 8, none⟩ = some (.slice Ar lr cr) ∧ wI.drew.cell? ⟨bx, 0, none⟩ = some (.int .i64 1) ∧ wI.drew.cell? ⟨bx, 1, none⟩ = some (.slice AI q cI) ∧ wI.drew.cell? ⟨bx, 2, none⟩ = some (.slice AC nr cC) ∧ wI.drew.cell? ⟨bx, 3, none⟩ = some (.slice A2 1 c2) := ⟨hk0, hr8, he0, he1, he2, he3⟩
  refine sD_ [12] (fun w' => w'.cell? ⟨b0, 0, none⟩ = some (.pointer (some ⟨g, 0, none⟩)) ∧ w'.cell? ⟨g, 8, none⟩ = some (.slice Ar lr cr) ∧ w'.cell? ⟨bx, 0, none⟩ = some (.int .i64 1) ∧ w'.cell? ⟨bx, 1, none⟩ = some (.slice AI q cI) ∧ w'.cell? ⟨bx, 2, none⟩ = some (.slice AC nr cC) ∧ w'.cell? ⟨bx, 3, none⟩ = some (.slice A2 1 c2)) 13 hS (fun hHeld => ?_)
  clear hS
  obtain ⟨wD, hwD⟩ : ∃ wD, wD = wI.drew := ⟨_, rfl⟩
  have hb : Below wI.heap.size wI wD := by rw [hwD]; exact q58 (Below.refl _ _)
  rw [← hwD] at hHeld ⊢
  have HRI := Lib.hid (Kd.R_below HRI.out hb)
  have HKJ := Lib.hid (Kept.below HKJ.out hb)
  have HHB := Lib.hid (q60 HB.out HB.out.size hb)
  clear hwD hb
  refine tk_ 0 (some 56) hHeld ?_ (hy := by rintro w' ⟨s0, s1, s2, s3, s4, s5⟩; go_simp; with_reducible rfl)
  refine tk_ 1 (some 57) hHeld ?_ (hy := by rintro w' ⟨s0, s1, s2, s3, s4, s5⟩; go_simp; with_reducible rfl)
  refine pu_ 2 (some 58) ?_
  refine pu_ 3 (some 59) ?_
  refine pu_ 4 (some 60) ?_
  refine tk_ 5 (some 61) hHeld ?_ (hy := by rintro w' ⟨s0, s1, s2, s3, s4, s5⟩; go_simp; with_reducible rfl)
  refine tk_ 6 (some 62) hHeld ?_ (hy := by rintro w' ⟨s0, s1, s2, s3, s4, s5⟩; go_simp; with_reducible rfl)
  refine oN_ 7 (some 63) (fun K hK => ?_)
  go_simp
  have hbz : Below wD.heap.size wD (wD.alloc (.cells #[.int .i64 1, .slice AI q cI, .slice AC nr cC, .slice A2 1 c2] 72)) := q57 (Below.refl _ _) _
  refine hK.out _ _ ⟨q73 hbz hHeld.1, q73 hbz hHeld.2.1, q73 hbz hHeld.2.2.1, q73 hbz hHeld.2.2.2.1, q73 hbz hHeld.2.2.2.2.1, q73 hbz hHeld.2.2.2.2.2⟩ (fun _ => ?_)
  clear hK K hbz
  have hMW := HM.out.below HHB.out
  have HHC := Lib.hid hHeld
  have hRL := HM.out.apart HHB.out (Kd.R_mono (ok' := fun _ => True) HRI.out (fun _ _ => trivial)) (Nat.le_refl _)
  have hRC := HM.out.apart HHB.out (Kd.R_mono (ok' := fun _ => True) (Kd.R_keptB HXJ.out.1 HKJ.out (fun k hk e => hk e)) (fun _ _ => trivial)) (Nat.le_refl _)
  have hRS := HM.out.apart HHB.out (Kd.R_mono (ok' := fun _ => True) (Kd.R_keptB HXJ.out.2 HKJ.out (fun k hk e => hk e)) (fun _ _ => trivial)) (Nat.le_refl _)
  have hM1 : Kd.M k72 wD (g + 1) (fun k => some k ≠ (Value.slice Ar lr cr).ownBlock) ⟨1, onLits a0 q, cds, [⟨sv + (k : Int), true⟩]⟩ [.int .i64 1, .slice AI q cI, .slice AC nr cC, .slice A2 1 c2] := k72_mkM _ _ _ _ hRL hRC hRS
  have HM1 := Lib.hid hM1
  have HRR := Lib.hid hMW.2.2.2
  have hgW := hMW.lt
  clear hMW hRL hRC hRS hM1 hHeld hk0 hr8 he0 he1 he2 he3 HRI HKJ HGI
  refine oN_ 8 (some 64) (fun K hK => ?_)
  refine Kd.R_append_step k72 (w0 := wD) (g + 1) rfl (.tmp 61) (.tmp 63) 28 72 (.agg #[.int .i64 0, .slice none 0 0, .slice none 0 0, .slice none 0 0]) 80 rfl Try.underlying28 info72x_ rfl (by decide) (by omega) (.slice Ar lr cr) rk ⟨1, onLits a0 q, cds, [⟨sv + (k : Int), true⟩]⟩ [.int .i64 1, .slice AI q cI, .slice AC nr cC, .slice A2 1 c2] (fun _ => True) (fun k => some k ≠ (Value.slice Ar lr cr).ownBlock) rfl rfl HM1.out (fun _ hk => ⟨trivial, hk⟩) (fun _ _ => trivial) HRR.out (Below.refl _ _) hgW HLIM.out ?_
  intro v1 wE hR1 hB1 hgr hat
  obtain ⟨A9', c9', rfl⟩ := Kd.R_slice hR1
  obtain ⟨hgE, hMr, hGo⟩ := HM.out.app HHB.out hR1 hgr hat
  obtain ⟨l1, hl1⟩ : ∃ l1, l1 = (rk ++ [(⟨1, onLits a0 q, cds, [⟨sv + (k : Int), true⟩]⟩ : S72)]).length := ⟨_, rfl⟩
  rw [← hl1] at hMr hGo ⊢
  have howA : ∀ kk, (Value.slice Ar lr cr).ownBlock = some kk → g + 1 ≤ kk ∧ kk < wA.heap.size := fun kk ek => ⟨Kd.R_base HM.out.2.2.2 kk ek, Kd.R_lt HM.out.2.2.2 kk ek⟩
  refine hK.out _ _ ⟨grown_cell hgr HHC.out.1 (fun e => HOA.out e), grown_cell hgr HHC.out.2.1 (fun e => by have := howA _ e; simp only at this; omega), grown_cell hgr HHC.out.2.2.1 (fun e => by have := howA _ e; simp only at this; omega), grown_cell hgr HHC.out.2.2.2.1 (fun e => by have := howA _ e; simp only at this; omega), grown_cell hgr HHC.out.2.2.2.2.1 (fun e => by have := howA _ e; simp only at this; omega), grown_cell hgr HHC.out.2.2.2.2.2 (fun e => by have := howA _ e; simp only at this; omega)⟩ (fun _ => ?_)
  clear hK K howA HHC
  have hc8 : wE.cell? ⟨g, 8, none⟩ = some (.slice Ar lr cr) := (q63 hgE 8).trans rfl
  have hf8 := q67 hgE 8
  have HMR := Lib.hid hMr
  have HGO := Lib.hid hGo
  clear hR1 hB1 hgr hat hgE hMr hGo hl1 HM1 HRR
  refine nz_ (some 64) ?_
  refine pu_ 9 (some 65) ?_
  refine pu_ 10 (some 66) ?_
  refine pu_ 11 (some 67) ?_
  refine lA_ 12 none (fun K hK => ?_)
  go_simp
  refine hK.out _ _ ?_
  clear hK K hc8 hf8
  refine dn_ ?_
  obtain ⟨wF, hwF⟩ : ∃ wF, wF = wE.setCell ⟨g, 8, none⟩ (.slice A9' l1 c9') := ⟨_, rfl⟩
  rw [← hwF] at HMR HGO ⊢
  clear hwF
  go_wp2
  go_roundg (m - (k + 1))
  case measure => omega
  case rel => exact ⟨k + 1, _, by go_num, by rw [HA1.out, Int.natCast_add], by omega, Nat.le_refl _, Lib.hid ⟨HFS.out ▸ HMR.out, HGA.out.then_ HGO.out, HGO.out.row HT.out⟩⟩
 have hlz2 : (q : Int) < (nq : Int) := by omega
 have hq1 : wI.cell? ⟨bx, 1, none⟩ = some (.slice AI q cI) := (q63 HGI.out 1).trans rfl
 obtain ⟨fa, hfa⟩ : ∃ fa : Int, fa = ((a0 + q : Nat) : Int) := ⟨_, rfl⟩
 have hwr3 : wrap64 (fa + 1) = fa + 1 := by unfold wrap64; omega
 have HFA : Hid (fa + 1 = ((a0 + (q + 1) : Nat) : Int)) := Lib.hid (by rw [hfa]; omega)
 have HOL : Hid (onLits a0 (q + 1) = onLits a0 q ++ [⟨fa, false⟩]) := Lib.hid (by rw [hfa]; exact onLits_succ a0 q)
 have HLM : Hid (((onLits a0 q).length + 1) * 16 ≤ 140737488355328) := Lib.hid (by rw [onLits_len]; omega)
 rw [← hfa]
 clear hfa
 go_wp2_with fail
 have hS : (((wI.drew).cell? ⟨bx, 1, none⟩ = some (.slice AI q cI))) ∧ Below wA.heap.size wA wI.drew := ⟨hq1, q58 HB.out⟩
 refine sD_ [5, 7] (fun w' => ((w'.cell? ⟨bx, 1, none⟩ = some (.slice AI q cI))) ∧ Below wA.heap.size wA w') 8 hS (fun hHeld => ?_)
 clear hS
 obtain ⟨wD, hwD⟩ : ∃ wD, wD = wI.drew := ⟨_, rfl⟩
 have hb : Below wI.heap.size wI wD := by rw [hwD]; exact q58 (Below.refl _ _)
 have HRI := Lib.hid (Kd.R_below HRI.out hb)
 have HKJ := Lib.hid (Kept.below HKJ.out hb)
 have HGI := Lib.hid (q62 HGI.out hb)
 clear hb
 rw [← hwD] at hHeld ⊢
 clear hwD
 refine pu_ 0 (some 46) ?_
 refine pu_ 2 (some 48) ?_
 refine tc_ 1 (some 47) hHeld ?_
 refine ca_ 3 (some 49) Try.func67 #[.int .i64 fa] ?_
 refine (up_call fa wD).mono ?_
 rintro e d33_ ⟨rfl, hb⟩
 refine ⟨_, rfl, (kp1 hHeld hb), fun hHeld => ⟨_, rfl, nz_ (some 49) ?_⟩⟩
 have HRI := Lib.hid (Kd.R_below HRI.out hb)
 have HKJ := Lib.hid (Kept.below HKJ.out hb)
 have HGI := Lib.hid (q62 HGI.out hb)
 clear hb
 refine oN_ 4 (some 50) (fun K hK => ?_)
 go_simp
 have hbz : Below d33_.heap.size d33_ (d33_.alloc (.cells #[.int .i64 fa, .bool false] 93)) := q57 (Below.refl _ _) _
 refine hK.out _ _ ⟨q73 hbz hHeld.1, q72 hbz hHeld.2⟩ (fun _ => ?_)
 clear hK K hbz
 have hM1 : Kd.M k93 d33_ wA.heap.size (fun _ => False) ⟨fa, false⟩ [.int .i64 fa, .bool false] := k93_mkM _ _ _ _
 have hbxW : bx < d33_.heap.size := blk_lt HGI.out
 have hwJW : wJ.heap.size ≤ d33_.heap.size := HKJ.out.1
 have HFR : Hid (∀ k, d33_.heap.size ≤ k → k ≠ bx ∧ wJ.heap.size ≤ k) := Lib.hid (fun k hk => ⟨by omega, by omega⟩)
 have HM1 := Lib.hid hM1
 have HHB := Lib.hid hHeld.2
 clear hM1 hHeld hq1
 refine lA_ 5 (some 51) (fun K hK => ?_)
 refine Kd.R_append_step k93 (w0 := wA) wA.heap.size rfl (.tmp 47) (.tmp 50) 69 93 (.agg #[.int .i64 0, .bool false]) 16 rfl Try.underlying69 iLit_ rfl (by decide) (by omega) (.slice AI q cI) (onLits a0 q) ⟨fa, false⟩ [.int .i64 fa, .bool false] (fun k => k ≠ bx ∧ wJ.heap.size ≤ k) (fun _ => False) rfl rfl HM1.out (fun _ h => h.elim) HFR.out HRI.out HHB.out HHB.out.size HLM.out ?_
 intro v1 wE hR1 hB1 hgr hat
 have hgx := (hgr.block bx hbxW (fun e => (HRI.out.1 bx e.symm).1 rfl)).trans HGI.out
 have hkp := Kept.of_grown hgr HKJ.out (fun kk ek => .inr (HRI.out.1 kk ek).2)
 refine hK.out _ _ ?_
 clear hK K hgr hat
 obtain ⟨A9', c9', rfl⟩ := Kd.R_slice hR1
 rw [List.length_append, List.length_singleton, onLits_len] at hR1 ⊢
 have hc1 : wE.cell? ⟨bx, 1, none⟩ = some (.slice AI q cI) := (q63 hgx 1).trans rfl
 have hf1 := q67 hgx 1
 have HF : Hid ((wE.setCell ⟨bx, 1, none⟩ (.slice A9' (q + 1) c9')).heap[bx]? = some (.cells #[.int .i64 1, .slice A9' (q + 1) c9', .slice AC nr cC, .slice A2 1 c2] 72 (0, 0)) ∧ Kd.R k93 93 (wE.setCell ⟨bx, 1, none⟩ (.slice A9' (q + 1) c9')) wA.heap.size (fun k => k ≠ bx ∧ wJ.heap.size ≤ k) (.slice A9' (q + 1) c9') (onLits a0 (q + 1)) ∧ Below wA.heap.size wA (wE.setCell ⟨bx, 1, none⟩ (.slice A9' (q + 1) c9')) ∧ Kept wJ (wE.setCell ⟨bx, 1, none⟩ (.slice A9' (q + 1) c9')) (fun k => k = bx)) := Lib.hid
  ⟨q68 hgx 1 _ rfl, by rw [HOL.out]; exact Kd.R_mono (Kd.R_far (Kd.R_bound hR1) (fun k hk => hk.1.1) _) (fun _ hk => hk.1), hB1.setCell hleJ _, hkp.setCell (p := ⟨bx, 1, none⟩) (.inl rfl) _⟩
 clear hgx hkp hR1 hB1 HM1 HFR HRI HKJ HGI
 refine nz_ (some 51) ?_
 refine pu_ 6 (some 52) ?_
 refine lA_ 7 none (fun K hK => ?_)
 go_simp
 refine hK.out _ _ ?_
 clear hK K hc1 hf1
 refine dn_ ?_
 obtain ⟨wF, hwF⟩ : ∃ wF, wF = wE.setCell ⟨bx, 1, none⟩ (.slice A9' (q + 1) c9') := ⟨_, rfl⟩
 rw [← hwF] at HF ⊢
 clear hwF
 go_wp2
 go_roundg (nq - (q + 1))
 case measure => omega
 case rel => exact ⟨q + 1, A9', c9', by go_num, by rw [hwr3, ← HFA.out], by omega, Nat.le_refl _, HF⟩
def eachP (f : Nat → List (S72)) : Nat → List (S72)
 | 0 => []
 | i + 1 => eachP f i ++ f i
theorem eachP_len (f : Nat → List (S72)) (n k : Nat) (h : ∀ i, i < n → (f i).length ≤ k) (i : Nat) (hi : i ≤ n) : (eachP f i).length ≤ k * i := by
  induction i with
  | zero => simp [eachP]
  | succ i ih =>
    have h1 := h i (by omega)
    have h2 := ih (by omega)
    simp only [eachP, List.length_append]
    rw [Nat.mul_succ]
    omega
def itemAt (c : Mc) (i : Nat) : S41 := q81 c.l (i : Int)
def fnL (c : Mc) (k i : Nat) : List (S72) :=
 if k = 0 then firstL c i (itemAt c i) ((itemAt c i).f5 ++ (itemAt c i).f6)
 else if k = 1 then secondP c i (itemAt c i).f5.length (itemAt c i).f6.length
 else if k = 2 then thirdL c i (itemAt c i).f1 (itemAt c i).f5.length
 else if k = 3 then fourthL c i
 else fifthL c i
def rulesA (c : Mc) (n : Nat) : Nat → List (S72)
 | 0 => []
 | k + 1 => rulesA c n k ++ eachP (fnL c k) n
theorem fnL_len {c : Mc} {w0 : World} (hm : Mm c w0) (h16 : c.l.length ≤ 16) (k i : Nat) (hi : i < c.l.length) : (fnL c k i).length ≤ 100 := by
 have hxm : itemAt c i ∈ c.l := by unfold itemAt; simp [q81, List.getD_eq_getElem?_getD, List.getElem?_eq_getElem hi]
 have h6 := (hm.2.2.2.2.2.2 _ hxm).1
 rw [List.length_append] at h6
 have hkx := kidsX_len c.l (itemAt c i).f0 c.l.length
 unfold fnL
 split
 ·unfold firstL
  rw [List.length_append, firstP_len, List.length_append]
  split
  ·have := kidsP_len c i (kidsX c.l (itemAt c i).f0 c.l.length) (kidsX c.l (itemAt c i).f0 c.l.length).length
   omega
  ·simp; omega
 split
 ·rw [secondP_len]; omega
 split
 ·unfold thirdL
  split
  ·simp
  rw [List.length_append]
  have : (thirdP c i (itemAt c i).f1 (itemAt c i).f5.length).length ≤ 7 := by
   unfold thirdP thirdE
   split
   ·rw [List.length_append, List.length_map, List.length_range]; split <;> simp <;> omega
   ·simp
  simp; omega
 split
 ·unfold fourthL
  split
  ·rw [List.length_map]
   have := kidsX_len c.l (q81 c.l (i : Int)).f0 c.l.length
   omega
  ·simp
 ·unfold fifthL; split <;> simp
theorem rulesA_len {c : Mc} {w0 : World} (hm : Mm c w0) (h16 : c.l.length ≤ 16) (k : Nat) : (rulesA c c.l.length k).length ≤ 1600 * k := by
  induction k with
  | zero => simp [rulesA]
  | succ k ih =>
    have := eachP_len (fnL c k) c.l.length 100 (fun i hi => fnL_len hm h16 k i hi) c.l.length (Nat.le_refl _)
    simp only [rulesA, List.length_append]
    omega
theorem fn_any (c : Mc) (w0 W : World) (g : Nat) (v : Value) (rs : List (S72)) (k i f : Nat) (hM : Mr c w0 W g v rs) (hm : Mm c w0) (hi : i < c.l.length) (hlim : rs.length ≤ 80000) (hpar : (i : Int) > 0 → 0 ≤ parI c.l i ∧ parI c.l i ≤ 1000)
 (hf : (k = 0 ∧ f = 28) ∨ (k = 1 ∧ f = 29) ∨ (k = 2 ∧ f = 30) ∨ (k = 3 ∧ f = 31) ∨ (k = 4 ∧ f = 32)) :
 Calls Try.prog f #[.pointer (some ⟨g, 0, none⟩), .int .i64 i] W (RulePost c w0 W g v (rs ++ fnL c k i)) := by
 rcases hf with ⟨rfl, rfl⟩ | ⟨rfl, rfl⟩ | ⟨rfl, rfl⟩ | ⟨rfl, rfl⟩ | ⟨rfl, rfl⟩
 ·exact first_any c w0 W g v rs i (itemAt c i) _ hM hm hi hlim rfl rfl
 ·exact second_any c w0 W g v rs i hM hm hi (by omega)
 ·exact third_any c w0 W g v rs i hM hm hi (by omega) hpar
 ·exact fourth_any c w0 W g v rs i hM hm hi (by omega)
 ·exact fifth_any c w0 W g v rs i hM hm hi (by omega)
set_option maxHeartbeats 4000000 in
set_option maxRecDepth 100000 in
theorem To1_any (c : Mc) (w0 w : World) (g : Nat) (vr : Value) (rs : List (S72)) (Ad : Option Addr) (cd : Nat) (dl : List Int) (d : Int) (i bk bt : Nat) (hM : Mr c w0 w g vr rs) (hm : Mm c w0) (hvd : c.vd = .slice Ad dl.length cd) (hD : Kd.C (Kd.int .i64) w Ad dl.length dl) (hdl : dl.length = c.l.length) (hd : 0 ≤ d ∧ d ≤ 1000) (hi : i < c.l.length) (hlim : rs.length ≤ 90000)
 (hpar : rd dl (i : Int) = d → 0 ≤ parI c.l i ∧ parI c.l i ≤ 1000) (hk : w.cell? ⟨bk, 0, none⟩ = some (.pointer (some ⟨g, 0, none⟩))) (ht : w.cell? ⟨bt, 0, none⟩ = some (.int .i64 d)) :
 Calls Try.prog 34 #[.int .i64 i, .pointer (some ⟨bk, 0, none⟩), .pointer (some ⟨bt, 0, none⟩)] w (RulePost c w0 w g vr (rs ++ closingL c dl d i)) := by
 have hp := closing_any c w0 w g vr rs Ad cd dl d i hM hm hvd hD hdl hd hi hlim hpar
 clear hM hm hvd hD hdl hd hi hlim hpar
 go_enter Try.func34, Try.ntmps34
 go_wp2_with fail
 refine hp.mono ?_
 rintro e w' ⟨rfl, v', h1, h2⟩
 have HF := Lib.hid (And.intro h1 h2)
 clear hp h1 h2
 go_wp2
 refine bodyPost_end (results_none rfl _ _ _) rfl ?_
 exact ⟨rfl, v', HF.out.1, HF.out.2⟩
set_option maxHeartbeats 4000000 in
set_option maxRecDepth 100000 in
theorem To2_any (c : Mc) (w0 w : World) (g : Nat) (vr : Value) (rs : List (S72)) (D : Int) (i bk bt : Nat) (hM : Mr c w0 w g vr rs) (hm : Mm c w0) (hpar : (i : Int) > 0 → 0 ≤ parI c.l i ∧ parI c.l i ≤ 1000) (hi : i < c.l.length) (hlim : rs.length ≤ 90000) (hD : 0 ≤ D ∧ D ≤ 1000) (hk : w.cell? ⟨bk, 0, none⟩ = some (.pointer (some ⟨g, 0, none⟩))) (ht : w.cell? ⟨bt, 0, none⟩ = some (.int .i64 D)) :
 Calls Try.prog 36 #[.int .i64 i, .pointer (some ⟨bk, 0, none⟩), .pointer (some ⟨bt, 0, none⟩)] w (RulePost c w0 w g vr (rs ++ turnsL c.la (6 + D) i (parI c.l i) (q81 c.l (i : Int)).f1)) := by
 have hp := turns_any c w0 w g vr rs (6 + D) i hM hm hi hlim hpar
 have hwr : wrap64 (6 + D) = 6 + D := by unfold wrap64; omega
 obtain ⟨R, hR⟩ : ∃ R, R = turnsL c.la (6 + D) i (parI c.l i) (q81 c.l (i : Int)).f1 := ⟨_, rfl⟩
 rw [← hR] at hp ⊢
 clear hM hm hi hlim hR
 go_enter Try.func36, Try.ntmps36
 go_wp2_with fail
 refine hp.mono ?_
 rintro e w' ⟨rfl, v', h1, h2⟩
 have HF := Lib.hid (And.intro h1 h2)
 clear hp h1 h2
 go_wp2
 refine bodyPost_end (results_none rfl _ _ _) rfl ?_
 exact ⟨rfl, v', HF.out.1, HF.out.2⟩
set_option maxHeartbeats 4000000 in
set_option maxRecDepth 100000 in
theorem To3_any (c : Mc) (w0 w : World) (g : Nat) (vr : Value) (rs : List (S72)) (D : Int) (i bk bt : Nat) (hM : Mr c w0 w g vr rs) (hm : Mm c w0) (hg : Lg c) (hi : i < c.l.length) (hlim : rs.length ≤ 90000) (hD : 0 ≤ D ∧ D ≤ 1000) (hk : w.cell? ⟨bk, 0, none⟩ = some (.pointer (some ⟨g, 0, none⟩))) (ht : w.cell? ⟨bt, 0, none⟩ = some (.int .i64 D)) :
 Calls Try.prog 38 #[.int .i64 i, .pointer (some ⟨bk, 0, none⟩), .pointer (some ⟨bt, 0, none⟩)] w (RulePost c w0 w g vr (rs ++ marksP c (6 + D) (marksN c.l i) ((q81 c.l (i : Int)).f5 ++ (q81 c.l (i : Int)).f6) ((q81 c.l (i : Int)).f5 ++ (q81 c.l (i : Int)).f6).length)) := by
 have hp := marks_any c w0 w g vr rs (6 + D) i (q81 c.l (i : Int)) _ hM hm hg hi hlim rfl rfl
 have hwr : wrap64 (6 + D) = 6 + D := by unfold wrap64; omega
 obtain ⟨R, hR⟩ : ∃ R, R = marksP c (6 + D) (marksN c.l i) ((q81 c.l (i : Int)).f5 ++ (q81 c.l (i : Int)).f6) ((q81 c.l (i : Int)).f5 ++ (q81 c.l (i : Int)).f6).length := ⟨_, rfl⟩
 rw [← hR] at hp ⊢
 clear hM hm hi hlim hR
 go_enter Try.func38, Try.ntmps38
 go_wp2_with fail
 refine hp.mono ?_
 rintro e w' ⟨rfl, v', h1, h2⟩
 have HF := Lib.hid (And.intro h1 h2)
 clear hp h1 h2
 go_wp2
 refine bodyPost_end (results_none rfl _ _ _) rfl ?_
 exact ⟨rfl, v', HF.out.1, HF.out.2⟩
section
variable {P : Program} {md : Region.Mode} {ops : Array Oper} {Q : Exit → Act → World → Prop} {S : World → Prop} {ds : List Nat}
theorem tH_ {n m fuel : Nat} {oi oj ok : Oper} {a : Act} {w : World} (i j k : Nat) (Ni Nj Nk : Option Tmp)
 (h1 : ∀ K : Act → World → Prop, Shut (∀ a' w', S w' → (S w' → q86 P md ops Q S ds fuel (bits n (m ||| 1 <<< i)) a' w') → K a' w') → if Region.wanted oi (yielded ops a.tmps) = true then Oper.wp P oi a w K Q else K (a.put Ni undef) w)
 (h2 : ∀ K : Act → World → Prop, Shut (∀ a' w', S w' → (S w' → q86 P md ops Q S ds fuel (bits n (m ||| 1 <<< j)) a' w') → K a' w') → if Region.wanted oj (yielded ops a.tmps) = true then Oper.wp P oj a w K Q else K (a.put Nj undef) w)
 (h3 : ∀ K : Act → World → Prop, Shut (∀ a' w', S w' → (S w' → q86 P md ops Q S ds fuel (bits n (m ||| 1 <<< k)) a' w') → K a' w') → if Region.wanted ok (yielded ops a.tmps) = true then Oper.wp P ok a w K Q else K (a.put Nk undef) w)
 (hi : ops[i]? = some oi := by exact rfl) (hj : ops[j]? = some oj := by exact rfl) (hk : ops[k]? = some ok := by exact rfl) (hNi : oi.dst = Ni := by exact rfl) (hNj : oj.dst = Nj := by exact rfl) (hNk : ok.dst = Nk := by exact rfl)
 (hc : (Region.ready md ops (bits n m) == [i, j, k] && (bits n m).setIfInBounds i true == bits n (m ||| 1 <<< i) && (bits n m).setIfInBounds j true == bits n (m ||| 1 <<< j) && (bits n m).setIfInBounds k true == bits n (m ||| 1 <<< k)) = true := by kernel_rfl) (hdi : i ∉ ds := by decide) (hdj : j ∉ ds := by decide) (hdk : k ∉ ds := by decide) : q86 P md ops Q S ds (fuel + 1) (bits n m) a w :=
 three_ _ _ _ hi hj hk hNi hNj hNk hc hdi hdj hdk h1 h2 h3
end
theorem Go_.put {g : Nat} {vr vr' : Value} {w W : World} (h : Go_ g vr vr' w W) (j : Nat) (u : Value) : Go_ g vr vr' w (W.setCell ⟨g, j, none⟩ u) := ⟨h.1.setCell (p := ⟨g, j, none⟩) (.inl (.inl rfl)) _, h.2⟩
theorem fill_maker {g : Nat} {u0 u1 v4 v5 v7 v11 : Value} {w w0 : World} (h : w.heap[g]? = some (.cells #[u0, u1, .int .i64 0, .int .i64 0, .slice none 0 0, .slice none 0 0, .int .i64 0, .slice none 0 0, .slice none 0 0, .slice none 0 0, .slice none 0 0, .slice none 0 0, .slice none 0 0] 58 (0, 0))) (hb : Below w0.heap.size w0 w) (hg : w0.heap.size ≤ g) :
 (((((((((((w.setCell ⟨g, 2, none⟩ (.int .i64 0)).setCell ⟨g, 3, none⟩ (.int .i64 0)).setCell ⟨g, 4, none⟩ (v4)).setCell ⟨g, 5, none⟩ (v5)).setCell ⟨g, 6, none⟩ (.int .i64 6)).setCell ⟨g, 7, none⟩ (v7)).setCell ⟨g, 8, none⟩ (.slice none 0 0)).setCell ⟨g, 9, none⟩ (.slice none 0 0)).setCell ⟨g, 10, none⟩ (.slice none 0 0)).setCell ⟨g, 11, none⟩ (v11))).heap[g]? = some (.cells #[u0, u1, .int .i64 0, .int .i64 0, v4, v5, .int .i64 6, v7, .slice none 0 0, .slice none 0 0, .slice none 0 0, v11, .slice none 0 0] 58 (0, 0)) ∧ Kept w ((((((((((w.setCell ⟨g, 2, none⟩ (.int .i64 0)).setCell ⟨g, 3, none⟩ (.int .i64 0)).setCell ⟨g, 4, none⟩ (v4)).setCell ⟨g, 5, none⟩ (v5)).setCell ⟨g, 6, none⟩ (.int .i64 6)).setCell ⟨g, 7, none⟩ (v7)).setCell ⟨g, 8, none⟩ (.slice none 0 0)).setCell ⟨g, 9, none⟩ (.slice none 0 0)).setCell ⟨g, 10, none⟩ (.slice none 0 0)).setCell ⟨g, 11, none⟩ (v11)) (fun k => k = g) ∧ Below w0.heap.size w0 ((((((((((w.setCell ⟨g, 2, none⟩ (.int .i64 0)).setCell ⟨g, 3, none⟩ (.int .i64 0)).setCell ⟨g, 4, none⟩ (v4)).setCell ⟨g, 5, none⟩ (v5)).setCell ⟨g, 6, none⟩ (.int .i64 6)).setCell ⟨g, 7, none⟩ (v7)).setCell ⟨g, 8, none⟩ (.slice none 0 0)).setCell ⟨g, 9, none⟩ (.slice none 0 0)).setCell ⟨g, 10, none⟩ (.slice none 0 0)).setCell ⟨g, 11, none⟩ (v11)) := by
 have k1 : Kept w w (fun k => k = g) := Kept.refl _ _
 have h2 : (w.setCell ⟨g, 2, none⟩ (.int .i64 0)).heap[g]? = some (.cells #[u0, u1, .int .i64 0, .int .i64 0, .slice none 0 0, .slice none 0 0, .int .i64 0, .slice none 0 0, .slice none 0 0, .slice none 0 0, .slice none 0 0, .slice none 0 0, .slice none 0 0] 58 (0, 0)) := q68 h 2 _ rfl
 have k2 : Kept w (w.setCell ⟨g, 2, none⟩ (.int .i64 0)) (fun k => k = g) := k1.setCell (p := ⟨g, 2, none⟩) (.inl rfl) _
 have b2 : Below w0.heap.size w0 (w.setCell ⟨g, 2, none⟩ (.int .i64 0)) := hb.setCell (p := ⟨g, 2, none⟩) hg _
 generalize (w.setCell ⟨g, 2, none⟩ (.int .i64 0)) = y2 at h2 k2 b2 ⊢
 have h3 : (y2.setCell ⟨g, 3, none⟩ (.int .i64 0)).heap[g]? = some (.cells #[u0, u1, .int .i64 0, .int .i64 0, .slice none 0 0, .slice none 0 0, .int .i64 0, .slice none 0 0, .slice none 0 0, .slice none 0 0, .slice none 0 0, .slice none 0 0, .slice none 0 0] 58 (0, 0)) := q68 h2 3 _ rfl
 have k3 : Kept w (y2.setCell ⟨g, 3, none⟩ (.int .i64 0)) (fun k => k = g) := k2.setCell (p := ⟨g, 3, none⟩) (.inl rfl) _
 have b3 : Below w0.heap.size w0 (y2.setCell ⟨g, 3, none⟩ (.int .i64 0)) := b2.setCell (p := ⟨g, 3, none⟩) hg _
 generalize (y2.setCell ⟨g, 3, none⟩ (.int .i64 0)) = y3 at h3 k3 b3 ⊢
 have h4 : (y3.setCell ⟨g, 4, none⟩ (v4)).heap[g]? = some (.cells #[u0, u1, .int .i64 0, .int .i64 0, v4, .slice none 0 0, .int .i64 0, .slice none 0 0, .slice none 0 0, .slice none 0 0, .slice none 0 0, .slice none 0 0, .slice none 0 0] 58 (0, 0)) := q68 h3 4 _ rfl
 have k4 : Kept w (y3.setCell ⟨g, 4, none⟩ (v4)) (fun k => k = g) := k3.setCell (p := ⟨g, 4, none⟩) (.inl rfl) _
 have b4 : Below w0.heap.size w0 (y3.setCell ⟨g, 4, none⟩ (v4)) := b3.setCell (p := ⟨g, 4, none⟩) hg _
 generalize (y3.setCell ⟨g, 4, none⟩ (v4)) = y4 at h4 k4 b4 ⊢
 have h5 : (y4.setCell ⟨g, 5, none⟩ (v5)).heap[g]? = some (.cells #[u0, u1, .int .i64 0, .int .i64 0, v4, v5, .int .i64 0, .slice none 0 0, .slice none 0 0, .slice none 0 0, .slice none 0 0, .slice none 0 0, .slice none 0 0] 58 (0, 0)) := q68 h4 5 _ rfl
 have k5 : Kept w (y4.setCell ⟨g, 5, none⟩ (v5)) (fun k => k = g) := k4.setCell (p := ⟨g, 5, none⟩) (.inl rfl) _
 have b5 : Below w0.heap.size w0 (y4.setCell ⟨g, 5, none⟩ (v5)) := b4.setCell (p := ⟨g, 5, none⟩) hg _
 generalize (y4.setCell ⟨g, 5, none⟩ (v5)) = y5 at h5 k5 b5 ⊢
 have h6 : (y5.setCell ⟨g, 6, none⟩ (.int .i64 6)).heap[g]? = some (.cells #[u0, u1, .int .i64 0, .int .i64 0, v4, v5, .int .i64 6, .slice none 0 0, .slice none 0 0, .slice none 0 0, .slice none 0 0, .slice none 0 0, .slice none 0 0] 58 (0, 0)) := q68 h5 6 _ rfl
 have k6 : Kept w (y5.setCell ⟨g, 6, none⟩ (.int .i64 6)) (fun k => k = g) := k5.setCell (p := ⟨g, 6, none⟩) (.inl rfl) _
 have b6 : Below w0.heap.size w0 (y5.setCell ⟨g, 6, none⟩ (.int .i64 6)) := b5.setCell (p := ⟨g, 6, none⟩) hg _
 generalize (y5.setCell ⟨g, 6, none⟩ (.int .i64 6)) = y6 at h6 k6 b6 ⊢
 have h7 : (y6.setCell ⟨g, 7, none⟩ (v7)).heap[g]? = some (.cells #[u0, u1, .int .i64 0, .int .i64 0, v4, v5, .int .i64 6, v7, .slice none 0 0, .slice none 0 0, .slice none 0 0, .slice none 0 0, .slice none 0 0] 58 (0, 0)) := q68 h6 7 _ rfl
 have k7 : Kept w (y6.setCell ⟨g, 7, none⟩ (v7)) (fun k => k = g) := k6.setCell (p := ⟨g, 7, none⟩) (.inl rfl) _
 have b7 : Below w0.heap.size w0 (y6.setCell ⟨g, 7, none⟩ (v7)) := b6.setCell (p := ⟨g, 7, none⟩) hg _
 generalize (y6.setCell ⟨g, 7, none⟩ (v7)) = y7 at h7 k7 b7 ⊢
 have h8 : (y7.setCell ⟨g, 8, none⟩ (.slice none 0 0)).heap[g]? = some (.cells #[u0, u1, .int .i64 0, .int .i64 0, v4, v5, .int .i64 6, v7, .slice none 0 0, .slice none 0 0, .slice none 0 0, .slice none 0 0, .slice none 0 0] 58 (0, 0)) := q68 h7 8 _ rfl
 have k8 : Kept w (y7.setCell ⟨g, 8, none⟩ (.slice none 0 0)) (fun k => k = g) := k7.setCell (p := ⟨g, 8, none⟩) (.inl rfl) _
 have b8 : Below w0.heap.size w0 (y7.setCell ⟨g, 8, none⟩ (.slice none 0 0)) := b7.setCell (p := ⟨g, 8, none⟩) hg _
 generalize (y7.setCell ⟨g, 8, none⟩ (.slice none 0 0)) = y8 at h8 k8 b8 ⊢
 have h9 : (y8.setCell ⟨g, 9, none⟩ (.slice none 0 0)).heap[g]? = some (.cells #[u0, u1, .int .i64 0, .int .i64 0, v4, v5, .int .i64 6, v7, .slice none 0 0, .slice none 0 0, .slice none 0 0, .slice none 0 0, .slice none 0 0] 58 (0, 0)) := q68 h8 9 _ rfl
 have k9 : Kept w (y8.setCell ⟨g, 9, none⟩ (.slice none 0 0)) (fun k => k = g) := k8.setCell (p := ⟨g, 9, none⟩) (.inl rfl) _
 have b9 : Below w0.heap.size w0 (y8.setCell ⟨g, 9, none⟩ (.slice none 0 0)) := b8.setCell (p := ⟨g, 9, none⟩) hg _
 generalize (y8.setCell ⟨g, 9, none⟩ (.slice none 0 0)) = y9 at h9 k9 b9 ⊢
 have h10 : (y9.setCell ⟨g, 10, none⟩ (.slice none 0 0)).heap[g]? = some (.cells #[u0, u1, .int .i64 0, .int .i64 0, v4, v5, .int .i64 6, v7, .slice none 0 0, .slice none 0 0, .slice none 0 0, .slice none 0 0, .slice none 0 0] 58 (0, 0)) := q68 h9 10 _ rfl
 have k10 : Kept w (y9.setCell ⟨g, 10, none⟩ (.slice none 0 0)) (fun k => k = g) := k9.setCell (p := ⟨g, 10, none⟩) (.inl rfl) _
 have b10 : Below w0.heap.size w0 (y9.setCell ⟨g, 10, none⟩ (.slice none 0 0)) := b9.setCell (p := ⟨g, 10, none⟩) hg _
 generalize (y9.setCell ⟨g, 10, none⟩ (.slice none 0 0)) = y10 at h10 k10 b10 ⊢
 have h11 : (y10.setCell ⟨g, 11, none⟩ (v11)).heap[g]? = some (.cells #[u0, u1, .int .i64 0, .int .i64 0, v4, v5, .int .i64 6, v7, .slice none 0 0, .slice none 0 0, .slice none 0 0, v11, .slice none 0 0] 58 (0, 0)) := q68 h10 11 _ rfl
 have k11 : Kept w (y10.setCell ⟨g, 11, none⟩ (v11)) (fun k => k = g) := k10.setCell (p := ⟨g, 11, none⟩) (.inl rfl) _
 have b11 : Below w0.heap.size w0 (y10.setCell ⟨g, 11, none⟩ (v11)) := b10.setCell (p := ⟨g, 11, none⟩) hg _
 generalize (y10.setCell ⟨g, 11, none⟩ (v11)) = y11 at h11 k11 b11 ⊢
 exact ⟨h11, k11, b11⟩
theorem fill_prog {b : Nat} {u0 u1 u2 u3 u4 u5 u6 u7 u8 u9 : Value} {w w0 : World} (h : w.heap[b]? = some (.cells #[.int .i64 0, .int .i64 0, .slice none 0 0, .slice none 0 0, .int .i64 0, .slice none 0 0, .slice none 0 0, .slice none 0 0, .slice none 0 0, .slice none 0 0] 32 (0, 0))) (hb : Below w0.heap.size w0 w) (hg : w0.heap.size ≤ b) :
 (((((((((((w.setCell ⟨b, 0, none⟩ (u0)).setCell ⟨b, 1, none⟩ (u1)).setCell ⟨b, 2, none⟩ (u2)).setCell ⟨b, 3, none⟩ (u3)).setCell ⟨b, 4, none⟩ (u4)).setCell ⟨b, 5, none⟩ (u5)).setCell ⟨b, 6, none⟩ (u6)).setCell ⟨b, 7, none⟩ (u7)).setCell ⟨b, 8, none⟩ (u8)).setCell ⟨b, 9, none⟩ (u9))).heap[b]? = some (.cells #[u0, u1, u2, u3, u4, u5, u6, u7, u8, u9] 32 (0, 0)) ∧ Kept w ((((((((((w.setCell ⟨b, 0, none⟩ (u0)).setCell ⟨b, 1, none⟩ (u1)).setCell ⟨b, 2, none⟩ (u2)).setCell ⟨b, 3, none⟩ (u3)).setCell ⟨b, 4, none⟩ (u4)).setCell ⟨b, 5, none⟩ (u5)).setCell ⟨b, 6, none⟩ (u6)).setCell ⟨b, 7, none⟩ (u7)).setCell ⟨b, 8, none⟩ (u8)).setCell ⟨b, 9, none⟩ (u9)) (fun k => k = b) ∧ Below w0.heap.size w0 ((((((((((w.setCell ⟨b, 0, none⟩ (u0)).setCell ⟨b, 1, none⟩ (u1)).setCell ⟨b, 2, none⟩ (u2)).setCell ⟨b, 3, none⟩ (u3)).setCell ⟨b, 4, none⟩ (u4)).setCell ⟨b, 5, none⟩ (u5)).setCell ⟨b, 6, none⟩ (u6)).setCell ⟨b, 7, none⟩ (u7)).setCell ⟨b, 8, none⟩ (u8)).setCell ⟨b, 9, none⟩ (u9)) := by
 have k0 : Kept w w (fun k => k = b) := Kept.refl _ _
 have h0 : (w.setCell ⟨b, 0, none⟩ (u0)).heap[b]? = some (.cells #[u0, .int .i64 0, .slice none 0 0, .slice none 0 0, .int .i64 0, .slice none 0 0, .slice none 0 0, .slice none 0 0, .slice none 0 0, .slice none 0 0] 32 (0, 0)) := q68 h 0 _ rfl
 have kk0 : Kept w (w.setCell ⟨b, 0, none⟩ (u0)) (fun k => k = b) := k0.setCell (p := ⟨b, 0, none⟩) (.inl rfl) _
 have b0 : Below w0.heap.size w0 (w.setCell ⟨b, 0, none⟩ (u0)) := hb.setCell (p := ⟨b, 0, none⟩) hg _
 generalize (w.setCell ⟨b, 0, none⟩ (u0)) = y0 at h0 kk0 b0 ⊢
 have h1 : (y0.setCell ⟨b, 1, none⟩ (u1)).heap[b]? = some (.cells #[u0, u1, .slice none 0 0, .slice none 0 0, .int .i64 0, .slice none 0 0, .slice none 0 0, .slice none 0 0, .slice none 0 0, .slice none 0 0] 32 (0, 0)) := q68 h0 1 _ rfl
 have kk1 : Kept w (y0.setCell ⟨b, 1, none⟩ (u1)) (fun k => k = b) := kk0.setCell (p := ⟨b, 1, none⟩) (.inl rfl) _
 have b1 : Below w0.heap.size w0 (y0.setCell ⟨b, 1, none⟩ (u1)) := b0.setCell (p := ⟨b, 1, none⟩) hg _
 generalize (y0.setCell ⟨b, 1, none⟩ (u1)) = y1 at h1 kk1 b1 ⊢
 have h2 : (y1.setCell ⟨b, 2, none⟩ (u2)).heap[b]? = some (.cells #[u0, u1, u2, .slice none 0 0, .int .i64 0, .slice none 0 0, .slice none 0 0, .slice none 0 0, .slice none 0 0, .slice none 0 0] 32 (0, 0)) := q68 h1 2 _ rfl
 have kk2 : Kept w (y1.setCell ⟨b, 2, none⟩ (u2)) (fun k => k = b) := kk1.setCell (p := ⟨b, 2, none⟩) (.inl rfl) _
 have b2 : Below w0.heap.size w0 (y1.setCell ⟨b, 2, none⟩ (u2)) := b1.setCell (p := ⟨b, 2, none⟩) hg _
 generalize (y1.setCell ⟨b, 2, none⟩ (u2)) = y2 at h2 kk2 b2 ⊢
 have h3 : (y2.setCell ⟨b, 3, none⟩ (u3)).heap[b]? = some (.cells #[u0, u1, u2, u3, .int .i64 0, .slice none 0 0, .slice none 0 0, .slice none 0 0, .slice none 0 0, .slice none 0 0] 32 (0, 0)) := q68 h2 3 _ rfl
 have kk3 : Kept w (y2.setCell ⟨b, 3, none⟩ (u3)) (fun k => k = b) := kk2.setCell (p := ⟨b, 3, none⟩) (.inl rfl) _
 have b3 : Below w0.heap.size w0 (y2.setCell ⟨b, 3, none⟩ (u3)) := b2.setCell (p := ⟨b, 3, none⟩) hg _
 generalize (y2.setCell ⟨b, 3, none⟩ (u3)) = y3 at h3 kk3 b3 ⊢
 have h4 : (y3.setCell ⟨b, 4, none⟩ (u4)).heap[b]? = some (.cells #[u0, u1, u2, u3, u4, .slice none 0 0, .slice none 0 0, .slice none 0 0, .slice none 0 0, .slice none 0 0] 32 (0, 0)) := q68 h3 4 _ rfl
 have kk4 : Kept w (y3.setCell ⟨b, 4, none⟩ (u4)) (fun k => k = b) := kk3.setCell (p := ⟨b, 4, none⟩) (.inl rfl) _
 have b4 : Below w0.heap.size w0 (y3.setCell ⟨b, 4, none⟩ (u4)) := b3.setCell (p := ⟨b, 4, none⟩) hg _
 generalize (y3.setCell ⟨b, 4, none⟩ (u4)) = y4 at h4 kk4 b4 ⊢
 have h5 : (y4.setCell ⟨b, 5, none⟩ (u5)).heap[b]? = some (.cells #[u0, u1, u2, u3, u4, u5, .slice none 0 0, .slice none 0 0, .slice none 0 0, .slice none 0 0] 32 (0, 0)) := q68 h4 5 _ rfl
 have kk5 : Kept w (y4.setCell ⟨b, 5, none⟩ (u5)) (fun k => k = b) := kk4.setCell (p := ⟨b, 5, none⟩) (.inl rfl) _
 have b5 : Below w0.heap.size w0 (y4.setCell ⟨b, 5, none⟩ (u5)) := b4.setCell (p := ⟨b, 5, none⟩) hg _
 generalize (y4.setCell ⟨b, 5, none⟩ (u5)) = y5 at h5 kk5 b5 ⊢
 have h6 : (y5.setCell ⟨b, 6, none⟩ (u6)).heap[b]? = some (.cells #[u0, u1, u2, u3, u4, u5, u6, .slice none 0 0, .slice none 0 0, .slice none 0 0] 32 (0, 0)) := q68 h5 6 _ rfl
 have kk6 : Kept w (y5.setCell ⟨b, 6, none⟩ (u6)) (fun k => k = b) := kk5.setCell (p := ⟨b, 6, none⟩) (.inl rfl) _
 have b6 : Below w0.heap.size w0 (y5.setCell ⟨b, 6, none⟩ (u6)) := b5.setCell (p := ⟨b, 6, none⟩) hg _
 generalize (y5.setCell ⟨b, 6, none⟩ (u6)) = y6 at h6 kk6 b6 ⊢
 have h7 : (y6.setCell ⟨b, 7, none⟩ (u7)).heap[b]? = some (.cells #[u0, u1, u2, u3, u4, u5, u6, u7, .slice none 0 0, .slice none 0 0] 32 (0, 0)) := q68 h6 7 _ rfl
 have kk7 : Kept w (y6.setCell ⟨b, 7, none⟩ (u7)) (fun k => k = b) := kk6.setCell (p := ⟨b, 7, none⟩) (.inl rfl) _
 have b7 : Below w0.heap.size w0 (y6.setCell ⟨b, 7, none⟩ (u7)) := b6.setCell (p := ⟨b, 7, none⟩) hg _
 generalize (y6.setCell ⟨b, 7, none⟩ (u7)) = y7 at h7 kk7 b7 ⊢
 have h8 : (y7.setCell ⟨b, 8, none⟩ (u8)).heap[b]? = some (.cells #[u0, u1, u2, u3, u4, u5, u6, u7, u8, .slice none 0 0] 32 (0, 0)) := q68 h7 8 _ rfl
 have kk8 : Kept w (y7.setCell ⟨b, 8, none⟩ (u8)) (fun k => k = b) := kk7.setCell (p := ⟨b, 8, none⟩) (.inl rfl) _
 have b8 : Below w0.heap.size w0 (y7.setCell ⟨b, 8, none⟩ (u8)) := b7.setCell (p := ⟨b, 8, none⟩) hg _
 generalize (y7.setCell ⟨b, 8, none⟩ (u8)) = y8 at h8 kk8 b8 ⊢
 have h9 : (y8.setCell ⟨b, 9, none⟩ (u9)).heap[b]? = some (.cells #[u0, u1, u2, u3, u4, u5, u6, u7, u8, u9] 32 (0, 0)) := q68 h8 9 _ rfl
 have kk9 : Kept w (y8.setCell ⟨b, 9, none⟩ (u9)) (fun k => k = b) := kk8.setCell (p := ⟨b, 9, none⟩) (.inl rfl) _
 have b9 : Below w0.heap.size w0 (y8.setCell ⟨b, 9, none⟩ (u9)) := b8.setCell (p := ⟨b, 9, none⟩) hg _
 generalize (y8.setCell ⟨b, 9, none⟩ (u9)) = y9 at h9 kk9 b9 ⊢
 exact ⟨h9, kk9, b9⟩
theorem Kept.weak {w w' : World} {S S' : Nat → Prop} (h : Kept w w' S) (hs : ∀ k, k < w.heap.size → S k → S' k) : Kept w w' S' := ⟨h.1, fun i hi hn => h.2 i hi (fun s => hn (hs i hi s))⟩
def mcf (b : Mc) (fl la : Int) (vd : Value) : Mc := { b with fl := fl, la := la, vd := vd }
theorem Mr.put {c c' : Mc} {w0 w : World} {g : Nat} {vr : Value} {rs : List (S72)} (hM : Mr c w0 w g vr rs) (j : Nat) (u : Value) (e : (Mcells c vr (.slice none 0 0) (.slice none 0 0)).setIfInBounds j u = Mcells c' vr (.slice none 0 0) (.slice none 0 0)) : Mr c' w0 (w.setCell ⟨g, j, none⟩ u) g vr rs :=
 ⟨hM.1.setCell hM.2.1 _, hM.2.1, q68 hM.2.2.1 j u e, R_set2x hM.2.2.2 _ _ (Nat.lt_succ_self g)⟩
theorem kept_cell {w w' : World} {S : Nat → Prop} {p : Addr} {v : Value} (h : Kept w w' S) (hc : w.cell? p = some v) (hn : ¬ S p.block) : w'.cell? p = some v := by
 have hl := World.block_lt_of_cell? _ _ hc
 unfold World.cell? at hc ⊢
 rw [h.2 _ hl hn]
 exact hc
def depV (l : List (S41)) (i : Nat) (ds : List Int) : Int := if (i : Int) > 0 then rd ds (parI l i) + 1 else 0
def depP (l : List (S41)) : Nat → List Int
 | 0 => []
 | i + 1 => depP l i ++ [depV l i (depP l i)]
def depM (l : List (S41)) : Nat → Int
 | 0 => 0
 | i + 1 => max (depM l i) (depV l i (depP l i))
theorem depP_len (l : List (S41)) (i : Nat) : (depP l i).length = i := by
 induction i with
 | zero => rfl
 | succ i ih => simp only [depP, List.length_append, ih, List.length_cons, List.length_nil]
theorem rd_app_lt {xs ys : List Int} {k : Nat} (h : k < xs.length) : rd (xs ++ ys) (k : Int) = rd xs (k : Int) := by
 simp [rd, List.getD_eq_getElem?_getD, List.getElem?_append_left h]
theorem depP_le {l : List (S41)} (hp : ∀ j : Nat, 0 < j → j < l.length → 0 ≤ parI l j ∧ parI l j < j) (i : Nat) (hi : i ≤ l.length) : ∀ k : Nat, k < i → 0 ≤ rd (depP l i) (k : Int) ∧ rd (depP l i) (k : Int) ≤ k := by
  induction i with
  | zero => intro k hk; omega
  | succ i ih =>
    intro k hk
    have hl := depP_len l i
    by_cases h : k < i
    · simp only [depP]
      rw [rd_app_lt (by omega)]
      exact ih (by omega) k h
    · obtain rfl : k = i := by omega
      have e : rd (depP l (k + 1)) (k : Int) = depV l k (depP l k) := by
        simp only [depP]
        simp [rd, List.getD_eq_getElem?_getD, hl]
      rw [e, depV]
      split
      · have h1 := hp k (by omega) (by omega)
        have h2 := ih (by omega) (parI l k).toNat (by omega)
        rw [Int.toNat_of_nonneg h1.1] at h2
        omega
      · omega
theorem depV_le {l : List (S41)} (hp : ∀ j : Nat, 0 < j → j < l.length → 0 ≤ parI l j ∧ parI l j < j) (i : Nat) (hi : i < l.length) : 0 ≤ depV l i (depP l i) ∧ depV l i (depP l i) ≤ i := by
 have h := depP_le hp (i + 1) (by omega) i (by omega)
 have e : rd (depP l (i + 1)) (i : Int) = depV l i (depP l i) := by
  simp only [depP]
  simp [rd, List.getD_eq_getElem?_getD, depP_len l i]
 rwa [e] at h
theorem depM_le {l : List (S41)} (hp : ∀ j : Nat, 0 < j → j < l.length → 0 ≤ parI l j ∧ parI l j < j) (i : Nat) (hi : i ≤ l.length) : 0 ≤ depM l i ∧ depM l i ≤ i := by
  induction i with
  | zero => simp [depM]
  | succ i ih =>
    have h1 := ih (by omega)
    have h2 := depV_le hp i (by omega)
    simp only [depM]
    omega
def rulesC (c : Mc) (dl : List Int) (n : Nat) : Nat → List (S72)
 | 0 => []
 | k + 1 => rulesC c dl n k ++ eachP (closingL c dl ((k + 1 : Nat) : Int)) n
theorem closingL_len (c : Mc) (dl : List Int) (d : Int) (i : Nat) : (closingL c dl d i).length ≤ 6 := by
 unfold closingL whysL
 split
 ·split <;> simp
 ·simp
theorem rulesC_len (c : Mc) (dl : List Int) (n k : Nat) : (rulesC c dl n k).length ≤ 6 * n * k := by
  induction k with
  | zero => simp [rulesC]
  | succ k ih =>
    have := eachP_len (closingL c dl ((k + 1 : Nat) : Int)) n 6 (fun i _ => closingL_len c dl _ i) n (Nat.le_refl _)
    simp only [rulesC, List.length_append]
    rw [Nat.mul_succ]
    omega
def turnF (c : Mc) (ls : Int) (i : Nat) : List (S72) := turnsL c.la ls i (parI c.l i) (q81 c.l (i : Int)).f1
def markF (c : Mc) (ls : Int) (i : Nat) : List (S72) := marksP c ls (marksN c.l i) ((q81 c.l (i : Int)).f5 ++ (q81 c.l (i : Int)).f6) ((q81 c.l (i : Int)).f5 ++ (q81 c.l (i : Int)).f6).length
theorem turnF_len (c : Mc) (ls : Int) (i : Nat) : (turnF c ls i).length ≤ 6 := by
 unfold turnF turnsL
 have e1 : ∀ (p : Prop) [Decidable p] (x : S72), (if p then [x] else []).length ≤ 1 := fun p _ x => by split <;> simp
 have e2 : ∀ (p q : Prop) [Decidable p] [Decidable q] (x y : S72), (if p then (if q then [x] else [y]) else []).length ≤ 1 := fun p q _ _ x y => by split; split <;> simp; simp
 simp only [List.length_append]
 refine Nat.le_trans (Nat.add_le_add (Nat.add_le_add (Nat.add_le_add (Nat.add_le_add (e1 _ _) (Nat.le_refl 1)) (e2 _ _ _ _)) (e1 _ _)) (e1 _ _)) (by decide)
theorem markF_len {c : Mc} {w0 : World} (hm : Mm c w0) (ls : Int) (i : Nat) (hi : i < c.l.length) : (markF c ls i).length ≤ 36 := by
 have hxm : q81 c.l (i : Int) ∈ c.l := by simp [q81, List.getD_eq_getElem?_getD, List.getElem?_eq_getElem hi]
 have h6 := hm.2.2.2.2.2.2 _ hxm
 have := marksP_len c ls (marksN c.l i) ((q81 c.l (i : Int)).f5 ++ (q81 c.l (i : Int)).f6) (fun s hs => (h6.2 s hs).1) _ (Nat.le_refl _)
 unfold markF
 omega
def cntP (c : Mc) : Nat → List (S104)
 | 0 => []
 | i + 1 => cntP c i ++ withoutC c i (q81 c.l (i : Int))
def usrP (c : Mc) : Nat → List (S108)
 | 0 => []
 | i + 1 => usrP c i ++ withoutU c i (q81 c.l (i : Int)).f1
theorem cntP_len (c : Mc) (i : Nat) : (cntP c i).length ≤ i := by
  induction i with
  | zero => simp [cntP]
  | succ i ih =>
    have : (withoutC c i (q81 c.l (i : Int))).length ≤ 1 := by unfold withoutC; split; simp; split <;> simp
    simp only [cntP, List.length_append]
    omega
theorem usrP_len (c : Mc) (i : Nat) : (usrP c i).length ≤ 3 * i := by
  induction i with
  | zero => simp [usrP]
  | succ i ih =>
    have : (withoutU c i (q81 c.l (i : Int)).f1).length ≤ 3 := by unfold withoutU; split; simp; split; simp; split <;> simp
    simp only [usrP, List.length_append]
    omega
def rulesOf (c : Mc) (n : Nat) (k : Nat) (D : Int) : List (S72) := rulesA c n 5 ++ rulesC c (depP c.l n) n k ++ eachP (turnF c (6 + D)) n ++ eachP (markF c (6 + D)) n
def ToPost (w : World) (fs : List ByteArray) (l : List (S41)) (e : Ending) (w' : World) : Prop := ∃ (v4 v5 v7 v11 vr vc vu : Value) (c : Mc), e = .returned (.tuple #[.agg #[.int .i64 c.fl, .int .i64 c.la, v4, v5, .int .i64 6, v7, vr, vc, vu, v11], .int .i64 0]) ∧ c.l = l ∧ c.la = (marksN l l.length : Nat) ∧ c.fl = c.la + 6 * (l.length : Int) + (sentsN l l.length : Nat) ∧
 Kd.R (Kd.int .i64) 3 w' w.heap.size (fun _ => True) v4 [flagF 0 2] ∧ Kd.R (Kd.int .i64) 3 w' w.heap.size (fun _ => True) v5 [flagF 0 3, flagF 0 4] ∧ Kd.R Kd.string 9 w' w.heap.size (fun _ => True) v7 fs ∧ Kd.R k41 41 w' w.heap.size (fun _ => True) v11 l ∧
 Kd.R k72 72 w' w.heap.size (fun _ => True) vr (rulesOf c l.length (depM l l.length).toNat (depM l l.length)) ∧ Kd.R k104 104 w' w.heap.size (fun _ => True) vc (cntP c l.length) ∧ Kd.R k108 108 w' w.heap.size (fun _ => True) vu (usrP c l.length) ∧ Below w.heap.size w w'
set_option maxHeartbeats 32000000 in
set_option maxRecDepth 100000 in
theorem To_any (w : World) (A0 : Option Addr) (c0 : Nat) (fs : List ByteArray) (A1 : Option Addr) (c1 : Nat) (l : List (S41)) (hr0 : Kd.C Kd.string w A0 fs.length fs) (hc0 : fs.length ≤ c0) (hr1 : Kd.C k41 w A1 l.length l) (hc1 : l.length ≤ c1) (hw : ∀ x ∈ l, wideItem x) (his : isB fs l = true)
 (hlim : ∀ x ∈ l, (x.f5 ++ x.f6).length ≤ 6 ∧ ∀ s ∈ x.f5 ++ x.f6, s.f0.length ≤ 3 ∧ s.f1.length ≤ 2) (hlen : fs.length ≤ 6 ∧ 1 ≤ l.length ∧ l.length ≤ 16) (hpar : ∀ j : Nat, 0 < j → j < l.length → 0 ≤ parI l j ∧ parI l j < j) (hons : ∀ x ∈ l, ∀ s ∈ x.f5 ++ x.f6, ∀ o ∈ s.f0, ∃ j : Nat, j < l.length ∧ fidx (q39.p o.f0) l = (j : Int)) :
 Calls Try.prog 8 #[.agg #[.slice A0 fs.length c0, .slice A1 l.length c1]] w (ToPost w fs l) := by
 have hu25 := Try.underlying25
 have hu32 := Try.underlying32
 have hu58 := Try.underlying58
 have hcs : ∀ W, Below w.heap.size w W → Calls Try.prog 24 #[.slice A0 fs.length c0] W fun e w' => ∃ A c, e = .returned (.slice A fs.length c) ∧ Kd.R Kd.string 9 w' W.heap.size (fun _ => True) (.slice A fs.length c) fs ∧ Below W.heap.size W w' := fun W hb => by
  refine (cl_str W A0 c0 fs (Kd.C_below hr0 hb) hc0 (by omega)).mono ?_
  rintro e w' ⟨v, rfl, hR, hb⟩
  obtain ⟨A, c, rfl⟩ := Kd.R_slice hR
  exact ⟨A, c, rfl, hR, hb⟩
 have hcp : ∀ W, Below w.heap.size w W → Calls Try.prog 22 #[.agg #[.slice A0 fs.length c0, .slice A1 l.length c1]] W fun e w' => ∃ A2 c2 A3 c3, e = .returned (.agg #[.slice A2 fs.length c2, .slice A3 l.length c3]) ∧ Kd.R Kd.string 9 w' W.heap.size (fun _ => True) (.slice A2 fs.length c2) fs ∧ Kd.R k41 41 w' W.heap.size (fun _ => True) (.slice A3 l.length c3) l ∧ Below W.heap.size W w' := fun W hb => by
  refine (copy_any W A0 c0 fs A1 c1 l (Kd.C_below hr0 hb) hc0 (Kd.C_below hr1 hb) hc1 (by omega) (by omega) hw).mono ?_
  rintro e w' ⟨v0, v1, rfl, hR0, hR1, hb⟩
  obtain ⟨A2, c2, rfl⟩ := Kd.R_slice hR0
  obtain ⟨A3, c3, rfl⟩ := Kd.R_slice hR1
  exact ⟨A2, c2, A3, c3, rfl, hR0, hR1, hb⟩
 have hisc : ∀ W, Below w.heap.size w W → Calls Try.prog 21 #[.agg #[.slice A0 fs.length c0, .slice A1 l.length c1]] W fun e w' => e = .returned (.bool true) ∧ Below W.heap.size W w' := fun W hb =>
  q53.calls A0 c0 fs A1 c1 l true W (Kd.C_below hr0 hb) hc0 (Kd.C_below hr1 hb) hc1 (by rw [q53.f, his])
 obtain ⟨n, hn⟩ : ∃ n, n = l.length := ⟨_, rfl⟩
 obtain ⟨nf, hnf⟩ : ∃ nf, nf = fs.length := ⟨_, rfl⟩
 rw [← hn, ← hnf] at hcp hisc hlen
 rw [← hnf] at hcs
 rw [← hn, ← hnf]
 have HCS := Lib.hid hcs
 have HCP := Lib.hid hcp
 have HIS := Lib.hid hisc
 have HLIM := Lib.hid hlim
 have HPAR := Lib.hid hpar
 have HONS := Lib.hid hons
 have HN := Lib.hid hn
 have HNF := Lib.hid hnf
 obtain ⟨w2, hw2⟩ : ∃ w2, w2 = (w.alloc (.cells #[.slice A0 nf c0, .slice A1 n c1] 25)).alloc (.cells #[.int .i64 0, .int .i64 0, .slice none 0 0, .slice none 0 0, .int .i64 0, .slice none 0 0, .slice none 0 0, .slice none 0 0, .slice none 0 0, .slice none 0 0] 32) := ⟨_, rfl⟩
 have hb2 : Below w.heap.size w w2 := by rw [hw2]; exact q57 (q57 (Below.refl _ _) _) _
 have hg2m : w2.heap[w.heap.size]? = some (.cells #[.slice A0 nf c0, .slice A1 n c1] 25 (0, 0)) := by rw [hw2]; exact q61 (heap_alloc_new _ _) _
 have hg2p : w2.heap[w.heap.size + 1]? = some (.cells #[.int .i64 0, .int .i64 0, .slice none 0 0, .slice none 0 0, .int .i64 0, .slice none 0 0, .slice none 0 0, .slice none 0 0, .slice none 0 0, .slice none 0 0] 32 (0, 0)) := by
  rw [hw2, show w.heap.size + 1 = (w.alloc (.cells #[.slice A0 nf c0, .slice A1 n c1] 25)).heap.size by simp]
  exact heap_alloc_new _ _
 obtain ⟨bP, hbP⟩ : ∃ bP, bP = w.heap.size + 1 := ⟨_, rfl⟩
 obtain ⟨bM, hbM⟩ : ∃ bM, bM = w.heap.size := ⟨_, rfl⟩
 rw [← hbP] at hg2p
 rw [← hbM] at hg2m
 have hlP2 : bP < w2.heap.size := blk_lt hg2p
 have hlM2 : bM < w2.heap.size := blk_lt hg2m
 have hm0 : w2.cell? ⟨bM, 0, none⟩ = some (.slice A0 nf c0) := (q63 hg2m 0).trans rfl
 have hm1 : w2.cell? ⟨bM, 1, none⟩ = some (.slice A1 n c1) := (q63 hg2m 1).trans rfl
 have hI2 := hisc w2 hb2
 have HW2 := Lib.hid hw2
 have HB2 := Lib.hid hb2
 have HG2P := Lib.hid hg2p
 have HBPM := Lib.hid (And.intro hbP hbM)
 clear hr0 hr1 hw his hlim hpar hons hn hnf hcs hcp hisc hw2 hb2 hg2m hg2p hbP hbM hm0 hm1
 have HM0 : Hid (w2.cell? ⟨bM, 0, none⟩ = some (.slice A0 nf c0) ∧ w2.cell? ⟨bM, 1, none⟩ = some (.slice A1 n c1)) := Lib.hid (by
  rw [HW2.out, HBPM.out.2]
  have h : ((w.alloc (.cells #[.slice A0 nf c0, .slice A1 n c1] 25)).alloc (.cells #[.int .i64 0, .int .i64 0, .slice none 0 0, .slice none 0 0, .int .i64 0, .slice none 0 0, .slice none 0 0, .slice none 0 0, .slice none 0 0, .slice none 0 0] 32)).heap[w.heap.size]? = some (.cells #[.slice A0 nf c0, .slice A1 n c1] 25 (0, 0)) := q61 (heap_alloc_new _ _) _
  exact ⟨(q63 h 0).trans rfl, (q63 h 1).trans rfl⟩)
 go_enter Try.func8, Try.ntmps8
 go_wp2_with fail
 rw [← HW2.out]
 refine hI2.mono ?_
 rintro e w3 ⟨rfl, hb3⟩
 rw [← show bP = _ from HBPM.out.1]
 rw [← show bM = _ from HBPM.out.2]
 have hm0 := q73 hb3 HM0.out.1
 have hm1 := q73 hb3 HM0.out.2
 have HB3 := Lib.hid hb3
 have hC3 := HCP.out w3 (q60 HB2.out HB2.out.size hb3)
 clear hI2 hb3
 go_wp2_with fail
 refine hC3.mono ?_
 rintro e w0 ⟨AF, cF, AI, cI, rfl, hRF, hRI, hb0⟩
 have hC0 := (Kd.R_reads' hRF)
 have hC1 := (Kd.R_reads' hRI)
 have HCC := Lib.hid (And.intro hC0.2 hC1.2)
 have HB0 := Lib.hid (q60 HB3.out HB3.out.size hb0)
 have hm0 := q73 hb0 hm0
 have hm1 := q73 hb0 hm1
 clear hC3 hRF hRI hb0 hC0 hC1
 obtain ⟨w5, hw5⟩ : ∃ w5, w5 = (w0.alloc (.cells #[.slice AF nf cF, .slice AI n cI, .int .i64 0, .int .i64 0, .slice none 0 0, .slice none 0 0, .int .i64 0, .slice none 0 0, .slice none 0 0, .slice none 0 0, .slice none 0 0, .slice none 0 0, .slice none 0 0] 58)).alloc (.cells #[.pointer (some ⟨w0.heap.size, 0, none⟩)] 55) := ⟨_, rfl⟩
 have hb5 : Below w0.heap.size w0 w5 := by rw [hw5]; exact q57 (q57 (Below.refl _ _) _) _
 have hg5 : w5.heap[w0.heap.size]? = some (.cells #[.slice AF nf cF, .slice AI n cI, .int .i64 0, .int .i64 0, .slice none 0 0, .slice none 0 0, .int .i64 0, .slice none 0 0, .slice none 0 0, .slice none 0 0, .slice none 0 0, .slice none 0 0, .slice none 0 0] 58 (0, 0)) := by rw [hw5]; exact q61 (heap_alloc_new _ _) _
 have hk5 : w5.heap[w0.heap.size + 1]? = some (.cells #[.pointer (some ⟨w0.heap.size, 0, none⟩)] 55 (0, 0)) := by
  rw [hw5, show w0.heap.size + 1 = (w0.alloc (.cells #[.slice AF nf cF, .slice AI n cI, .int .i64 0, .int .i64 0, .slice none 0 0, .slice none 0 0, .int .i64 0, .slice none 0 0, .slice none 0 0, .slice none 0 0, .slice none 0 0, .slice none 0 0, .slice none 0 0] 58)).heap.size by simp]
  exact heap_alloc_new _ _
 obtain ⟨bk, hbk⟩ : ∃ bk, bk = w0.heap.size + 1 := ⟨_, rfl⟩
 obtain ⟨g, hgn⟩ : ∃ g, g = w0.heap.size := ⟨_, rfl⟩
 rw [← hbk, ← hgn] at hk5
 rw [← hgn] at hg5
 have hm0 := q73 hb5 hm0
 have hm1 := q73 hb5 hm1
 have hkc : w5.cell? ⟨bk, 0, none⟩ = some (.pointer (some ⟨g, 0, none⟩)) := (q63 hk5 0).trans rfl
 have HG5 := Lib.hid hg5
 have HB5 := Lib.hid hb5
 have HW5 := Lib.hid hw5
 have HGK := Lib.hid (And.intro hbk hgn)
 have hwg : w0.heap.size ≤ g := by omega
 have hbkg : bk ≠ g := by omega
 have hgl5 : g < w5.heap.size := blk_lt hg5
 have hkl5 : bk < w5.heap.size := blk_lt hk5
 have hMl0 : bM < w0.heap.size := by have h1 := HB3.out.size; have h2 := HB0.out.size; omega
 have hPl0 : bP < w0.heap.size := by have h1 := HB3.out.size; have h2 := HB0.out.size; omega
 clear hk5 hg5 hb5 hw5 hbk hgn
 go_wp2_with fail
 rw [← HW5.out]
 rw [← show bk = _ from HGK.out.1]
 rw [← show g = _ from HGK.out.2]
 have HMK := Lib.hid (And.intro hm0 (And.intro hm1 hkc))
 have HCS5 : Hid (∀ W, Below w5.heap.size w5 W → Calls Try.prog 24 #[.slice A0 nf c0] W fun e w' => ∃ A c, e = .returned (.slice A nf c) ∧ Kd.R Kd.string 9 w' W.heap.size (fun _ => True) (.slice A nf c) fs ∧ Below W.heap.size W w') := Lib.hid (fun W hb => HCS.out W (by
  have h1 := q60 HB2.out HB2.out.size HB0.out
  have h2 := q60 h1 h1.size HB5.out
  exact q60 h2 h2.size hb))
 have HCP5 : Hid (∀ W, Below w5.heap.size w5 W → Calls Try.prog 22 #[.agg #[.slice A0 nf c0, .slice A1 n c1]] W fun e w' => ∃ A2 c2 A3 c3, e = .returned (.agg #[.slice A2 nf c2, .slice A3 n c3]) ∧ Kd.R Kd.string 9 w' W.heap.size (fun _ => True) (.slice A2 nf c2) fs ∧ Kd.R k41 41 w' W.heap.size (fun _ => True) (.slice A3 n c3) l ∧ Below W.heap.size W w') := Lib.hid (fun W hb => HCP.out W (by
  have h1 := q60 HB2.out HB2.out.size HB0.out
  have h2 := q60 h1 h1.size HB5.out
  exact q60 h2 h2.size hb))
 have hfd : ∀ (v0 v1 : Value) (w : World), (Instr.field 25 (.agg #[v0, v1]) 1).run Try.prog w = .ok v1 w := fun _ _ _ => by kernel_rfl
 go_wp2_with fail
 have hS : (((w5.drew).cell? ⟨bM, 0, none⟩ = some (.slice A0 nf c0)) ∧ ((w5.drew).cell? ⟨bM, 1, none⟩ = some (.slice A1 n c1)) ∧ ((w5.drew).cell? ⟨bk, 0, none⟩ = some (.pointer (some ⟨g, 0, none⟩)))) ∧ Below w5.heap.size w5 w5.drew := ⟨⟨hm0, hm1, hkc⟩, q58 (Below.refl _ _)⟩
 refine sD_ [15] (fun w' => ((w'.cell? ⟨bM, 0, none⟩ = some (.slice A0 nf c0)) ∧ (w'.cell? ⟨bM, 1, none⟩ = some (.slice A1 n c1)) ∧ (w'.cell? ⟨bk, 0, none⟩ = some (.pointer (some ⟨g, 0, none⟩)))) ∧ Below w5.heap.size w5 w') 16 hS (fun hHeld => ?_)
 clear hS
 obtain ⟨wD, hwD⟩ : ∃ wD, wD = w5.drew := ⟨_, rfl⟩
 rw [← hwD] at hHeld ⊢
 clear hwD
 refine tc_ 0 (some 23) hHeld ?_
 refine pu_ 6 (some 29) ?_
 refine tc_ 7 (some 30) hHeld ?_
 refine tc_ 9 (some 32) hHeld ?_
 refine join_ (σ := Nat × Nat × Option Addr × Nat × Option Addr × Nat × Option Addr × Nat) 4 (bits 16 4095) (fun (oF, oO, AV, cV, AX, cX, AN, cN) => [(24, .int .i64 (flagF 0 2)), (25, .slice (some ⟨oF, 0, none⟩) 1 1), (26, .int .i64 (flagF 0 3)), (27, .int .i64 (flagF 0 4)), (28, .slice (some ⟨oO, 0, none⟩) 2 2), (31, .slice AV nf cV), (33, .agg #[.slice AX nf cX, .slice AN n cN]), (34, .slice AN n cN)]) (fun (oF, oO, AV, cV, AX, cX, AN, cN) w' => Below w5.heap.size w5 w' ∧ Kd.R (Kd.int .i64) 3 w' w5.heap.size (fun _ => True) (.slice (some ⟨oF, 0, none⟩) 1 1) [flagF 0 2] ∧ Kd.R (Kd.int .i64) 3 w' w5.heap.size (fun _ => True) (.slice (some ⟨oO, 0, none⟩) 2 2) [flagF 0 3, flagF 0 4] ∧ Kd.R Kd.string 9 w' w5.heap.size (fun _ => True) (.slice AV nf cV) fs ∧ Kd.R k41 41 w' w5.heap.size (fun _ => True) (.slice AN n cN) l) ?_ ?_
 rotate_left
 ·intro hCont
  have HCT := Lib.hid hCont
  clear hCont
  refine ca_ 1 (some 24) Try.func23 #[.int .i64 0, .int .i64 2] ?_
  refine (flag_call 0 2 wD (by omega) (by omega)).mono ?_
  rintro e d55_ ⟨rfl, hb⟩
  refine ⟨_, rfl, (kp3 hHeld hb), fun hHeld => ⟨_, rfl, nz_ (some 24) ?_⟩⟩
  clear hb
  refine tW_ 2 3 (some 25) (some 26) (fun K hK => ?_) (fun K hK => ?_)
  ·skip
   have HSHFR := Lib.hid hHeld.2.size
   go_simp
   have hb : Below d55_.heap.size d55_ (d55_.alloc (.cells #[.int .i64 (flagF 0 2)] 3)) := q57 (Below.refl _ _) _
   have hrow : Kd.R (Kd.int .i64) 3 (d55_.alloc (.cells #[.int .i64 (flagF 0 2)] 3)) d55_.heap.size (fun _ => True) (.slice (some ⟨d55_.heap.size, 0, none⟩) 1 1) [flagF 0 2] := ints_row d55_ [flagF 0 2] (by simp)
   refine hK.out _ _ (kp3 hHeld hb) (fun hHeld => ?_)
   clear hK K
   obtain ⟨d56_, hwn⟩ : ∃ wn, wn = d55_.alloc (.cells #[.int .i64 (flagF 0 2)] 3) := ⟨_, rfl⟩
   rw [← hwn] at hb hrow hHeld ⊢
   have HFR := Lib.hid hrow
   clear hrow hwn
   clear hb
   refine ca_ 3 (some 26) Try.func23 #[.int .i64 0, .int .i64 3] ?_
   refine (flag_call 0 3 d56_ (by omega) (by omega)).mono ?_
   rintro e d57_ ⟨rfl, hb⟩
   refine ⟨_, rfl, (kp3 hHeld hb), fun hHeld => ⟨_, rfl, nz_ (some 26) ?_⟩⟩
   have HFR := Lib.hid (Kd.R_below HFR.out hb)
   clear hb
   refine ca_ 4 (some 27) Try.func23 #[.int .i64 0, .int .i64 4] ?_
   refine (flag_call 0 4 d57_ (by omega) (by omega)).mono ?_
   rintro e d58_ ⟨rfl, hb⟩
   refine ⟨_, rfl, (kp3 hHeld hb), fun hHeld => ⟨_, rfl, nz_ (some 27) ?_⟩⟩
   have HFR := Lib.hid (Kd.R_below HFR.out hb)
   clear hb
   refine tW_ 5 8 (some 28) (some 31) (fun K hK => ?_) (fun K hK => ?_)
   ·skip
    have HSHOR := Lib.hid hHeld.2.size
    go_simp
    have hb : Below d58_.heap.size d58_ (d58_.alloc (.cells #[.int .i64 (flagF 0 3), .int .i64 ( flagF 0 4)] 3)) := q57 (Below.refl _ _) _
    have hrow : Kd.R (Kd.int .i64) 3 (d58_.alloc (.cells #[.int .i64 (flagF 0 3), .int .i64 ( flagF 0 4)] 3)) d58_.heap.size (fun _ => True) (.slice (some ⟨d58_.heap.size, 0, none⟩) 2 2) [flagF 0 3,  flagF 0 4] := ints_row d58_ [flagF 0 3,  flagF 0 4] (by simp)
    refine hK.out _ _ (kp3 hHeld hb) (fun hHeld => ?_)
    clear hK K
    obtain ⟨d59_, hwn⟩ : ∃ wn, wn = d58_.alloc (.cells #[.int .i64 (flagF 0 3), .int .i64 ( flagF 0 4)] 3) := ⟨_, rfl⟩
    rw [← hwn] at hb hrow hHeld ⊢
    have HOR := Lib.hid hrow
    clear hrow hwn
    have HFR := Lib.hid (Kd.R_below HFR.out hb)
    clear hb
    have HSHVR := Lib.hid hHeld.2.size
    refine ca_ 8 (some 31) Try.func24 #[.slice A0 nf c0] ?_
    refine (HCS5.out d59_ hHeld.2).mono ?_
    rintro e d60_ ⟨AV, cV, rfl, hVR, hb⟩
    refine ⟨_, rfl, (kp3 hHeld hb), fun hHeld => ⟨_, rfl, nz_ (some 31) ?_⟩⟩
    have HVR := Lib.hid hVR
    clear hVR
    have HFR := Lib.hid (Kd.R_below HFR.out hb)
    have HOR := Lib.hid (Kd.R_below HOR.out hb)
    clear hb
    have HSHNR := Lib.hid hHeld.2.size
    refine ca_ 10 (some 33) Try.func22 #[.agg #[.slice A0 nf c0, .slice A1 n c1]] ?_
    refine (HCP5.out d60_ hHeld.2).mono ?_
    rintro e d61_ ⟨AX, cX, AN, cN, rfl, -, hNR, hb⟩
    refine ⟨_, rfl, (kp3 hHeld hb), fun hHeld => ⟨_, rfl, nz_ (some 33) ?_⟩⟩
    have HNR := Lib.hid hNR
    clear hNR
    have HFR := Lib.hid (Kd.R_below HFR.out hb)
    have HOR := Lib.hid (Kd.R_below HOR.out hb)
    have HVR := Lib.hid (Kd.R_below HVR.out hb)
    clear hb
    refine pu_ 11 (some 34) ?_
    have HHB := Lib.hid hHeld.2
    refine norm_ ?_ (HCT.out (d55_.heap.size, d58_.heap.size, AV, cV, AX, cX, AN, cN) _ ⟨HHB.out, Kd.R_lower HFR.out HSHFR.out, Kd.R_lower HOR.out HSHOR.out, Kd.R_lower HVR.out HSHVR.out, Kd.R_lower HNR.out HSHNR.out⟩)
    simp only [putAll, Act.put, List.setIfInBounds_toArray, List.set_cons_zero, List.set_cons_succ]
   skip
   have HSHVR := Lib.hid hHeld.2.size
   refine go_s_ Try.func24 #[.slice A0 nf c0] ?_
   refine (HCS5.out d58_ hHeld.2).mono ?_
   rintro e d62_ ⟨AV, cV, rfl, hVR, hb⟩
   refine ⟨_, rfl, ?_⟩
   refine hK.out _ _ (kp3 hHeld hb) (fun hHeld => ?_)
   clear hK K
   refine nz_ (some 31) ?_
   have HVR := Lib.hid hVR
   clear hVR
   have HFR := Lib.hid (Kd.R_below HFR.out hb)
   clear hb
   refine tW_ 5 10 (some 28) (some 33) (fun K hK => ?_) (fun K hK => ?_)
   ·skip
    have HSHOR := Lib.hid hHeld.2.size
    go_simp
    have hb : Below d62_.heap.size d62_ (d62_.alloc (.cells #[.int .i64 (flagF 0 3), .int .i64 ( flagF 0 4)] 3)) := q57 (Below.refl _ _) _
    have hrow : Kd.R (Kd.int .i64) 3 (d62_.alloc (.cells #[.int .i64 (flagF 0 3), .int .i64 ( flagF 0 4)] 3)) d62_.heap.size (fun _ => True) (.slice (some ⟨d62_.heap.size, 0, none⟩) 2 2) [flagF 0 3,  flagF 0 4] := ints_row d62_ [flagF 0 3,  flagF 0 4] (by simp)
    refine hK.out _ _ (kp3 hHeld hb) (fun hHeld => ?_)
    clear hK K
    obtain ⟨d63_, hwn⟩ : ∃ wn, wn = d62_.alloc (.cells #[.int .i64 (flagF 0 3), .int .i64 ( flagF 0 4)] 3) := ⟨_, rfl⟩
    rw [← hwn] at hb hrow hHeld ⊢
    have HOR := Lib.hid hrow
    clear hrow hwn
    have HFR := Lib.hid (Kd.R_below HFR.out hb)
    have HVR := Lib.hid (Kd.R_below HVR.out hb)
    clear hb
    have HSHNR := Lib.hid hHeld.2.size
    refine ca_ 10 (some 33) Try.func22 #[.agg #[.slice A0 nf c0, .slice A1 n c1]] ?_
    refine (HCP5.out d63_ hHeld.2).mono ?_
    rintro e d64_ ⟨AX, cX, AN, cN, rfl, -, hNR, hb⟩
    refine ⟨_, rfl, (kp3 hHeld hb), fun hHeld => ⟨_, rfl, nz_ (some 33) ?_⟩⟩
    have HNR := Lib.hid hNR
    clear hNR
    have HFR := Lib.hid (Kd.R_below HFR.out hb)
    have HVR := Lib.hid (Kd.R_below HVR.out hb)
    have HOR := Lib.hid (Kd.R_below HOR.out hb)
    clear hb
    refine pu_ 11 (some 34) ?_
    have HHB := Lib.hid hHeld.2
    refine norm_ ?_ (HCT.out (d55_.heap.size, d62_.heap.size, AV, cV, AX, cX, AN, cN) _ ⟨HHB.out, Kd.R_lower HFR.out HSHFR.out, Kd.R_lower HOR.out HSHOR.out, Kd.R_lower HVR.out HSHVR.out, Kd.R_lower HNR.out HSHNR.out⟩)
    simp only [putAll, Act.put, List.setIfInBounds_toArray, List.set_cons_zero, List.set_cons_succ]
   skip
   have HSHNR := Lib.hid hHeld.2.size
   refine go_s_ Try.func22 #[.agg #[.slice A0 nf c0, .slice A1 n c1]] ?_
   refine (HCP5.out d62_ hHeld.2).mono ?_
   rintro e d65_ ⟨AX, cX, AN, cN, rfl, -, hNR, hb⟩
   refine ⟨_, rfl, ?_⟩
   refine hK.out _ _ (kp3 hHeld hb) (fun hHeld => ?_)
   clear hK K
   refine nz_ (some 33) ?_
   have HNR := Lib.hid hNR
   clear hNR
   have HFR := Lib.hid (Kd.R_below HFR.out hb)
   have HVR := Lib.hid (Kd.R_below HVR.out hb)
   clear hb
   refine pu_ 11 (some 34) ?_
   have HSHOR := Lib.hid hHeld.2.size
   refine oN_ 5 (some 28) (fun K hK => ?_)
   go_simp
   have hb : Below d65_.heap.size d65_ (d65_.alloc (.cells #[.int .i64 (flagF 0 3), .int .i64 ( flagF 0 4)] 3)) := q57 (Below.refl _ _) _
   have hrow : Kd.R (Kd.int .i64) 3 (d65_.alloc (.cells #[.int .i64 (flagF 0 3), .int .i64 ( flagF 0 4)] 3)) d65_.heap.size (fun _ => True) (.slice (some ⟨d65_.heap.size, 0, none⟩) 2 2) [flagF 0 3,  flagF 0 4] := ints_row d65_ [flagF 0 3,  flagF 0 4] (by simp)
   refine hK.out _ _ (kp3 hHeld hb) (fun hHeld => ?_)
   clear hK K
   obtain ⟨d66_, hwn⟩ : ∃ wn, wn = d65_.alloc (.cells #[.int .i64 (flagF 0 3), .int .i64 ( flagF 0 4)] 3) := ⟨_, rfl⟩
   rw [← hwn] at hb hrow hHeld ⊢
   have HOR := Lib.hid hrow
   clear hrow hwn
   have HFR := Lib.hid (Kd.R_below HFR.out hb)
   have HVR := Lib.hid (Kd.R_below HVR.out hb)
   have HNR := Lib.hid (Kd.R_below HNR.out hb)
   clear hb
   have HHB := Lib.hid hHeld.2
   refine norm_ ?_ (HCT.out (d55_.heap.size, d65_.heap.size, AV, cV, AX, cX, AN, cN) _ ⟨HHB.out, Kd.R_lower HFR.out HSHFR.out, Kd.R_lower HOR.out HSHOR.out, Kd.R_lower HVR.out HSHVR.out, Kd.R_lower HNR.out HSHNR.out⟩)
   simp only [putAll, Act.put, List.setIfInBounds_toArray, List.set_cons_zero, List.set_cons_succ]
  skip
  refine go_s_ Try.func23 #[.int .i64 0, .int .i64 3] ?_
  refine (flag_call 0 3 d55_ (by omega) (by omega)).mono ?_
  rintro e d67_ ⟨rfl, hb⟩
  refine ⟨_, rfl, ?_⟩
  refine hK.out _ _ (kp3 hHeld hb) (fun hHeld => ?_)
  clear hK K
  refine nz_ (some 26) ?_
  clear hb
  refine tW_ 2 4 (some 25) (some 27) (fun K hK => ?_) (fun K hK => ?_)
  ·skip
   have HSHFR := Lib.hid hHeld.2.size
   go_simp
   have hb : Below d67_.heap.size d67_ (d67_.alloc (.cells #[.int .i64 (flagF 0 2)] 3)) := q57 (Below.refl _ _) _
   have hrow : Kd.R (Kd.int .i64) 3 (d67_.alloc (.cells #[.int .i64 (flagF 0 2)] 3)) d67_.heap.size (fun _ => True) (.slice (some ⟨d67_.heap.size, 0, none⟩) 1 1) [flagF 0 2] := ints_row d67_ [flagF 0 2] (by simp)
   refine hK.out _ _ (kp3 hHeld hb) (fun hHeld => ?_)
   clear hK K
   obtain ⟨d68_, hwn⟩ : ∃ wn, wn = d67_.alloc (.cells #[.int .i64 (flagF 0 2)] 3) := ⟨_, rfl⟩
   rw [← hwn] at hb hrow hHeld ⊢
   have HFR := Lib.hid hrow
   clear hrow hwn
   clear hb
   refine ca_ 4 (some 27) Try.func23 #[.int .i64 0, .int .i64 4] ?_
   refine (flag_call 0 4 d68_ (by omega) (by omega)).mono ?_
   rintro e d69_ ⟨rfl, hb⟩
   refine ⟨_, rfl, (kp3 hHeld hb), fun hHeld => ⟨_, rfl, nz_ (some 27) ?_⟩⟩
   have HFR := Lib.hid (Kd.R_below HFR.out hb)
   clear hb
   refine tW_ 5 8 (some 28) (some 31) (fun K hK => ?_) (fun K hK => ?_)
   ·skip
    have HSHOR := Lib.hid hHeld.2.size
    go_simp
    have hb : Below d69_.heap.size d69_ (d69_.alloc (.cells #[.int .i64 (flagF 0 3), .int .i64 ( flagF 0 4)] 3)) := q57 (Below.refl _ _) _
    have hrow : Kd.R (Kd.int .i64) 3 (d69_.alloc (.cells #[.int .i64 (flagF 0 3), .int .i64 ( flagF 0 4)] 3)) d69_.heap.size (fun _ => True) (.slice (some ⟨d69_.heap.size, 0, none⟩) 2 2) [flagF 0 3,  flagF 0 4] := ints_row d69_ [flagF 0 3,  flagF 0 4] (by simp)
    refine hK.out _ _ (kp3 hHeld hb) (fun hHeld => ?_)
    clear hK K
    obtain ⟨d70_, hwn⟩ : ∃ wn, wn = d69_.alloc (.cells #[.int .i64 (flagF 0 3), .int .i64 ( flagF 0 4)] 3) := ⟨_, rfl⟩
    rw [← hwn] at hb hrow hHeld ⊢
    have HOR := Lib.hid hrow
    clear hrow hwn
    have HFR := Lib.hid (Kd.R_below HFR.out hb)
    clear hb
    have HSHVR := Lib.hid hHeld.2.size
    refine ca_ 8 (some 31) Try.func24 #[.slice A0 nf c0] ?_
    refine (HCS5.out d70_ hHeld.2).mono ?_
    rintro e d71_ ⟨AV, cV, rfl, hVR, hb⟩
    refine ⟨_, rfl, (kp3 hHeld hb), fun hHeld => ⟨_, rfl, nz_ (some 31) ?_⟩⟩
    have HVR := Lib.hid hVR
    clear hVR
    have HFR := Lib.hid (Kd.R_below HFR.out hb)
    have HOR := Lib.hid (Kd.R_below HOR.out hb)
    clear hb
    have HSHNR := Lib.hid hHeld.2.size
    refine ca_ 10 (some 33) Try.func22 #[.agg #[.slice A0 nf c0, .slice A1 n c1]] ?_
    refine (HCP5.out d71_ hHeld.2).mono ?_
    rintro e d72_ ⟨AX, cX, AN, cN, rfl, -, hNR, hb⟩
    refine ⟨_, rfl, (kp3 hHeld hb), fun hHeld => ⟨_, rfl, nz_ (some 33) ?_⟩⟩
    have HNR := Lib.hid hNR
    clear hNR
    have HFR := Lib.hid (Kd.R_below HFR.out hb)
    have HOR := Lib.hid (Kd.R_below HOR.out hb)
    have HVR := Lib.hid (Kd.R_below HVR.out hb)
    clear hb
    refine pu_ 11 (some 34) ?_
    have HHB := Lib.hid hHeld.2
    refine norm_ ?_ (HCT.out (d67_.heap.size, d69_.heap.size, AV, cV, AX, cX, AN, cN) _ ⟨HHB.out, Kd.R_lower HFR.out HSHFR.out, Kd.R_lower HOR.out HSHOR.out, Kd.R_lower HVR.out HSHVR.out, Kd.R_lower HNR.out HSHNR.out⟩)
    simp only [putAll, Act.put, List.setIfInBounds_toArray, List.set_cons_zero, List.set_cons_succ]
   skip
   have HSHVR := Lib.hid hHeld.2.size
   refine go_s_ Try.func24 #[.slice A0 nf c0] ?_
   refine (HCS5.out d69_ hHeld.2).mono ?_
   rintro e d73_ ⟨AV, cV, rfl, hVR, hb⟩
   refine ⟨_, rfl, ?_⟩
   refine hK.out _ _ (kp3 hHeld hb) (fun hHeld => ?_)
   clear hK K
   refine nz_ (some 31) ?_
   have HVR := Lib.hid hVR
   clear hVR
   have HFR := Lib.hid (Kd.R_below HFR.out hb)
   clear hb
   refine tW_ 5 10 (some 28) (some 33) (fun K hK => ?_) (fun K hK => ?_)
   ·skip
    have HSHOR := Lib.hid hHeld.2.size
    go_simp
    have hb : Below d73_.heap.size d73_ (d73_.alloc (.cells #[.int .i64 (flagF 0 3), .int .i64 ( flagF 0 4)] 3)) := q57 (Below.refl _ _) _
    have hrow : Kd.R (Kd.int .i64) 3 (d73_.alloc (.cells #[.int .i64 (flagF 0 3), .int .i64 ( flagF 0 4)] 3)) d73_.heap.size (fun _ => True) (.slice (some ⟨d73_.heap.size, 0, none⟩) 2 2) [flagF 0 3,  flagF 0 4] := ints_row d73_ [flagF 0 3,  flagF 0 4] (by simp)
    refine hK.out _ _ (kp3 hHeld hb) (fun hHeld => ?_)
    clear hK K
    obtain ⟨d74_, hwn⟩ : ∃ wn, wn = d73_.alloc (.cells #[.int .i64 (flagF 0 3), .int .i64 ( flagF 0 4)] 3) := ⟨_, rfl⟩
    rw [← hwn] at hb hrow hHeld ⊢
    have HOR := Lib.hid hrow
    clear hrow hwn
    have HFR := Lib.hid (Kd.R_below HFR.out hb)
    have HVR := Lib.hid (Kd.R_below HVR.out hb)
    clear hb
    have HSHNR := Lib.hid hHeld.2.size
    refine ca_ 10 (some 33) Try.func22 #[.agg #[.slice A0 nf c0, .slice A1 n c1]] ?_
    refine (HCP5.out d74_ hHeld.2).mono ?_
    rintro e d75_ ⟨AX, cX, AN, cN, rfl, -, hNR, hb⟩
    refine ⟨_, rfl, (kp3 hHeld hb), fun hHeld => ⟨_, rfl, nz_ (some 33) ?_⟩⟩
    have HNR := Lib.hid hNR
    clear hNR
    have HFR := Lib.hid (Kd.R_below HFR.out hb)
    have HVR := Lib.hid (Kd.R_below HVR.out hb)
    have HOR := Lib.hid (Kd.R_below HOR.out hb)
    clear hb
    refine pu_ 11 (some 34) ?_
    have HHB := Lib.hid hHeld.2
    refine norm_ ?_ (HCT.out (d67_.heap.size, d73_.heap.size, AV, cV, AX, cX, AN, cN) _ ⟨HHB.out, Kd.R_lower HFR.out HSHFR.out, Kd.R_lower HOR.out HSHOR.out, Kd.R_lower HVR.out HSHVR.out, Kd.R_lower HNR.out HSHNR.out⟩)
    simp only [putAll, Act.put, List.setIfInBounds_toArray, List.set_cons_zero, List.set_cons_succ]
   skip
   have HSHNR := Lib.hid hHeld.2.size
   refine go_s_ Try.func22 #[.agg #[.slice A0 nf c0, .slice A1 n c1]] ?_
   refine (HCP5.out d73_ hHeld.2).mono ?_
   rintro e d76_ ⟨AX, cX, AN, cN, rfl, -, hNR, hb⟩
   refine ⟨_, rfl, ?_⟩
   refine hK.out _ _ (kp3 hHeld hb) (fun hHeld => ?_)
   clear hK K
   refine nz_ (some 33) ?_
   have HNR := Lib.hid hNR
   clear hNR
   have HFR := Lib.hid (Kd.R_below HFR.out hb)
   have HVR := Lib.hid (Kd.R_below HVR.out hb)
   clear hb
   refine pu_ 11 (some 34) ?_
   have HSHOR := Lib.hid hHeld.2.size
   refine oN_ 5 (some 28) (fun K hK => ?_)
   go_simp
   have hb : Below d76_.heap.size d76_ (d76_.alloc (.cells #[.int .i64 (flagF 0 3), .int .i64 ( flagF 0 4)] 3)) := q57 (Below.refl _ _) _
   have hrow : Kd.R (Kd.int .i64) 3 (d76_.alloc (.cells #[.int .i64 (flagF 0 3), .int .i64 ( flagF 0 4)] 3)) d76_.heap.size (fun _ => True) (.slice (some ⟨d76_.heap.size, 0, none⟩) 2 2) [flagF 0 3,  flagF 0 4] := ints_row d76_ [flagF 0 3,  flagF 0 4] (by simp)
   refine hK.out _ _ (kp3 hHeld hb) (fun hHeld => ?_)
   clear hK K
   obtain ⟨d77_, hwn⟩ : ∃ wn, wn = d76_.alloc (.cells #[.int .i64 (flagF 0 3), .int .i64 ( flagF 0 4)] 3) := ⟨_, rfl⟩
   rw [← hwn] at hb hrow hHeld ⊢
   have HOR := Lib.hid hrow
   clear hrow hwn
   have HFR := Lib.hid (Kd.R_below HFR.out hb)
   have HVR := Lib.hid (Kd.R_below HVR.out hb)
   have HNR := Lib.hid (Kd.R_below HNR.out hb)
   clear hb
   have HHB := Lib.hid hHeld.2
   refine norm_ ?_ (HCT.out (d67_.heap.size, d76_.heap.size, AV, cV, AX, cX, AN, cN) _ ⟨HHB.out, Kd.R_lower HFR.out HSHFR.out, Kd.R_lower HOR.out HSHOR.out, Kd.R_lower HVR.out HSHVR.out, Kd.R_lower HNR.out HSHNR.out⟩)
   simp only [putAll, Act.put, List.setIfInBounds_toArray, List.set_cons_zero, List.set_cons_succ]
  skip
  refine go_s_ Try.func23 #[.int .i64 0, .int .i64 4] ?_
  refine (flag_call 0 4 d67_ (by omega) (by omega)).mono ?_
  rintro e d78_ ⟨rfl, hb⟩
  refine ⟨_, rfl, ?_⟩
  refine hK.out _ _ (kp3 hHeld hb) (fun hHeld => ?_)
  clear hK K
  refine nz_ (some 27) ?_
  clear hb
  refine tH_ 2 5 8 (some 25) (some 28) (some 31) (fun K hK => ?_) (fun K hK => ?_) (fun K hK => ?_)
  ·skip
   have HSHFR := Lib.hid hHeld.2.size
   go_simp
   have hb : Below d78_.heap.size d78_ (d78_.alloc (.cells #[.int .i64 (flagF 0 2)] 3)) := q57 (Below.refl _ _) _
   have hrow : Kd.R (Kd.int .i64) 3 (d78_.alloc (.cells #[.int .i64 (flagF 0 2)] 3)) d78_.heap.size (fun _ => True) (.slice (some ⟨d78_.heap.size, 0, none⟩) 1 1) [flagF 0 2] := ints_row d78_ [flagF 0 2] (by simp)
   refine hK.out _ _ (kp3 hHeld hb) (fun hHeld => ?_)
   clear hK K
   obtain ⟨d79_, hwn⟩ : ∃ wn, wn = d78_.alloc (.cells #[.int .i64 (flagF 0 2)] 3) := ⟨_, rfl⟩
   rw [← hwn] at hb hrow hHeld ⊢
   have HFR := Lib.hid hrow
   clear hrow hwn
   clear hb
   refine tW_ 5 8 (some 28) (some 31) (fun K hK => ?_) (fun K hK => ?_)
   ·skip
    have HSHOR := Lib.hid hHeld.2.size
    go_simp
    have hb : Below d79_.heap.size d79_ (d79_.alloc (.cells #[.int .i64 (flagF 0 3), .int .i64 ( flagF 0 4)] 3)) := q57 (Below.refl _ _) _
    have hrow : Kd.R (Kd.int .i64) 3 (d79_.alloc (.cells #[.int .i64 (flagF 0 3), .int .i64 ( flagF 0 4)] 3)) d79_.heap.size (fun _ => True) (.slice (some ⟨d79_.heap.size, 0, none⟩) 2 2) [flagF 0 3,  flagF 0 4] := ints_row d79_ [flagF 0 3,  flagF 0 4] (by simp)
    refine hK.out _ _ (kp3 hHeld hb) (fun hHeld => ?_)
    clear hK K
    obtain ⟨d80_, hwn⟩ : ∃ wn, wn = d79_.alloc (.cells #[.int .i64 (flagF 0 3), .int .i64 ( flagF 0 4)] 3) := ⟨_, rfl⟩
    rw [← hwn] at hb hrow hHeld ⊢
    have HOR := Lib.hid hrow
    clear hrow hwn
    have HFR := Lib.hid (Kd.R_below HFR.out hb)
    clear hb
    have HSHVR := Lib.hid hHeld.2.size
    refine ca_ 8 (some 31) Try.func24 #[.slice A0 nf c0] ?_
    refine (HCS5.out d80_ hHeld.2).mono ?_
    rintro e d81_ ⟨AV, cV, rfl, hVR, hb⟩
    refine ⟨_, rfl, (kp3 hHeld hb), fun hHeld => ⟨_, rfl, nz_ (some 31) ?_⟩⟩
    have HVR := Lib.hid hVR
    clear hVR
    have HFR := Lib.hid (Kd.R_below HFR.out hb)
    have HOR := Lib.hid (Kd.R_below HOR.out hb)
    clear hb
    have HSHNR := Lib.hid hHeld.2.size
    refine ca_ 10 (some 33) Try.func22 #[.agg #[.slice A0 nf c0, .slice A1 n c1]] ?_
    refine (HCP5.out d81_ hHeld.2).mono ?_
    rintro e d82_ ⟨AX, cX, AN, cN, rfl, -, hNR, hb⟩
    refine ⟨_, rfl, (kp3 hHeld hb), fun hHeld => ⟨_, rfl, nz_ (some 33) ?_⟩⟩
    have HNR := Lib.hid hNR
    clear hNR
    have HFR := Lib.hid (Kd.R_below HFR.out hb)
    have HOR := Lib.hid (Kd.R_below HOR.out hb)
    have HVR := Lib.hid (Kd.R_below HVR.out hb)
    clear hb
    refine pu_ 11 (some 34) ?_
    have HHB := Lib.hid hHeld.2
    refine norm_ ?_ (HCT.out (d78_.heap.size, d79_.heap.size, AV, cV, AX, cX, AN, cN) _ ⟨HHB.out, Kd.R_lower HFR.out HSHFR.out, Kd.R_lower HOR.out HSHOR.out, Kd.R_lower HVR.out HSHVR.out, Kd.R_lower HNR.out HSHNR.out⟩)
    simp only [putAll, Act.put, List.setIfInBounds_toArray, List.set_cons_zero, List.set_cons_succ]
   skip
   have HSHVR := Lib.hid hHeld.2.size
   refine go_s_ Try.func24 #[.slice A0 nf c0] ?_
   refine (HCS5.out d79_ hHeld.2).mono ?_
   rintro e d83_ ⟨AV, cV, rfl, hVR, hb⟩
   refine ⟨_, rfl, ?_⟩
   refine hK.out _ _ (kp3 hHeld hb) (fun hHeld => ?_)
   clear hK K
   refine nz_ (some 31) ?_
   have HVR := Lib.hid hVR
   clear hVR
   have HFR := Lib.hid (Kd.R_below HFR.out hb)
   clear hb
   refine tW_ 5 10 (some 28) (some 33) (fun K hK => ?_) (fun K hK => ?_)
   ·skip
    have HSHOR := Lib.hid hHeld.2.size
    go_simp
    have hb : Below d83_.heap.size d83_ (d83_.alloc (.cells #[.int .i64 (flagF 0 3), .int .i64 ( flagF 0 4)] 3)) := q57 (Below.refl _ _) _
    have hrow : Kd.R (Kd.int .i64) 3 (d83_.alloc (.cells #[.int .i64 (flagF 0 3), .int .i64 ( flagF 0 4)] 3)) d83_.heap.size (fun _ => True) (.slice (some ⟨d83_.heap.size, 0, none⟩) 2 2) [flagF 0 3,  flagF 0 4] := ints_row d83_ [flagF 0 3,  flagF 0 4] (by simp)
    refine hK.out _ _ (kp3 hHeld hb) (fun hHeld => ?_)
    clear hK K
    obtain ⟨d84_, hwn⟩ : ∃ wn, wn = d83_.alloc (.cells #[.int .i64 (flagF 0 3), .int .i64 ( flagF 0 4)] 3) := ⟨_, rfl⟩
    rw [← hwn] at hb hrow hHeld ⊢
    have HOR := Lib.hid hrow
    clear hrow hwn
    have HFR := Lib.hid (Kd.R_below HFR.out hb)
    have HVR := Lib.hid (Kd.R_below HVR.out hb)
    clear hb
    have HSHNR := Lib.hid hHeld.2.size
    refine ca_ 10 (some 33) Try.func22 #[.agg #[.slice A0 nf c0, .slice A1 n c1]] ?_
    refine (HCP5.out d84_ hHeld.2).mono ?_
    rintro e d85_ ⟨AX, cX, AN, cN, rfl, -, hNR, hb⟩
    refine ⟨_, rfl, (kp3 hHeld hb), fun hHeld => ⟨_, rfl, nz_ (some 33) ?_⟩⟩
    have HNR := Lib.hid hNR
    clear hNR
    have HFR := Lib.hid (Kd.R_below HFR.out hb)
    have HVR := Lib.hid (Kd.R_below HVR.out hb)
    have HOR := Lib.hid (Kd.R_below HOR.out hb)
    clear hb
    refine pu_ 11 (some 34) ?_
    have HHB := Lib.hid hHeld.2
    refine norm_ ?_ (HCT.out (d78_.heap.size, d83_.heap.size, AV, cV, AX, cX, AN, cN) _ ⟨HHB.out, Kd.R_lower HFR.out HSHFR.out, Kd.R_lower HOR.out HSHOR.out, Kd.R_lower HVR.out HSHVR.out, Kd.R_lower HNR.out HSHNR.out⟩)
    simp only [putAll, Act.put, List.setIfInBounds_toArray, List.set_cons_zero, List.set_cons_succ]
   skip
   have HSHNR := Lib.hid hHeld.2.size
   refine go_s_ Try.func22 #[.agg #[.slice A0 nf c0, .slice A1 n c1]] ?_
   refine (HCP5.out d83_ hHeld.2).mono ?_
   rintro e d86_ ⟨AX, cX, AN, cN, rfl, -, hNR, hb⟩
   refine ⟨_, rfl, ?_⟩
   refine hK.out _ _ (kp3 hHeld hb) (fun hHeld => ?_)
   clear hK K
   refine nz_ (some 33) ?_
   have HNR := Lib.hid hNR
   clear hNR
   have HFR := Lib.hid (Kd.R_below HFR.out hb)
   have HVR := Lib.hid (Kd.R_below HVR.out hb)
   clear hb
   refine pu_ 11 (some 34) ?_
   have HSHOR := Lib.hid hHeld.2.size
   refine oN_ 5 (some 28) (fun K hK => ?_)
   go_simp
   have hb : Below d86_.heap.size d86_ (d86_.alloc (.cells #[.int .i64 (flagF 0 3), .int .i64 ( flagF 0 4)] 3)) := q57 (Below.refl _ _) _
   have hrow : Kd.R (Kd.int .i64) 3 (d86_.alloc (.cells #[.int .i64 (flagF 0 3), .int .i64 ( flagF 0 4)] 3)) d86_.heap.size (fun _ => True) (.slice (some ⟨d86_.heap.size, 0, none⟩) 2 2) [flagF 0 3,  flagF 0 4] := ints_row d86_ [flagF 0 3,  flagF 0 4] (by simp)
   refine hK.out _ _ (kp3 hHeld hb) (fun hHeld => ?_)
   clear hK K
   obtain ⟨d87_, hwn⟩ : ∃ wn, wn = d86_.alloc (.cells #[.int .i64 (flagF 0 3), .int .i64 ( flagF 0 4)] 3) := ⟨_, rfl⟩
   rw [← hwn] at hb hrow hHeld ⊢
   have HOR := Lib.hid hrow
   clear hrow hwn
   have HFR := Lib.hid (Kd.R_below HFR.out hb)
   have HVR := Lib.hid (Kd.R_below HVR.out hb)
   have HNR := Lib.hid (Kd.R_below HNR.out hb)
   clear hb
   have HHB := Lib.hid hHeld.2
   refine norm_ ?_ (HCT.out (d78_.heap.size, d86_.heap.size, AV, cV, AX, cX, AN, cN) _ ⟨HHB.out, Kd.R_lower HFR.out HSHFR.out, Kd.R_lower HOR.out HSHOR.out, Kd.R_lower HVR.out HSHVR.out, Kd.R_lower HNR.out HSHNR.out⟩)
   simp only [putAll, Act.put, List.setIfInBounds_toArray, List.set_cons_zero, List.set_cons_succ]
  ·skip
   have HSHOR := Lib.hid hHeld.2.size
   go_simp
   have hb : Below d78_.heap.size d78_ (d78_.alloc (.cells #[.int .i64 (flagF 0 3), .int .i64 ( flagF 0 4)] 3)) := q57 (Below.refl _ _) _
   have hrow : Kd.R (Kd.int .i64) 3 (d78_.alloc (.cells #[.int .i64 (flagF 0 3), .int .i64 ( flagF 0 4)] 3)) d78_.heap.size (fun _ => True) (.slice (some ⟨d78_.heap.size, 0, none⟩) 2 2) [flagF 0 3,  flagF 0 4] := ints_row d78_ [flagF 0 3,  flagF 0 4] (by simp)
   refine hK.out _ _ (kp3 hHeld hb) (fun hHeld => ?_)
   clear hK K
   obtain ⟨d88_, hwn⟩ : ∃ wn, wn = d78_.alloc (.cells #[.int .i64 (flagF 0 3), .int .i64 ( flagF 0 4)] 3) := ⟨_, rfl⟩
   rw [← hwn] at hb hrow hHeld ⊢
   have HOR := Lib.hid hrow
   clear hrow hwn
   clear hb
   refine tW_ 2 8 (some 25) (some 31) (fun K hK => ?_) (fun K hK => ?_)
   ·skip
    have HSHFR := Lib.hid hHeld.2.size
    go_simp
    have hb : Below d88_.heap.size d88_ (d88_.alloc (.cells #[.int .i64 (flagF 0 2)] 3)) := q57 (Below.refl _ _) _
    have hrow : Kd.R (Kd.int .i64) 3 (d88_.alloc (.cells #[.int .i64 (flagF 0 2)] 3)) d88_.heap.size (fun _ => True) (.slice (some ⟨d88_.heap.size, 0, none⟩) 1 1) [flagF 0 2] := ints_row d88_ [flagF 0 2] (by simp)
    refine hK.out _ _ (kp3 hHeld hb) (fun hHeld => ?_)
    clear hK K
    obtain ⟨d89_, hwn⟩ : ∃ wn, wn = d88_.alloc (.cells #[.int .i64 (flagF 0 2)] 3) := ⟨_, rfl⟩
    rw [← hwn] at hb hrow hHeld ⊢
    have HFR := Lib.hid hrow
    clear hrow hwn
    have HOR := Lib.hid (Kd.R_below HOR.out hb)
    clear hb
    have HSHVR := Lib.hid hHeld.2.size
    refine ca_ 8 (some 31) Try.func24 #[.slice A0 nf c0] ?_
    refine (HCS5.out d89_ hHeld.2).mono ?_
    rintro e d90_ ⟨AV, cV, rfl, hVR, hb⟩
    refine ⟨_, rfl, (kp3 hHeld hb), fun hHeld => ⟨_, rfl, nz_ (some 31) ?_⟩⟩
    have HVR := Lib.hid hVR
    clear hVR
    have HOR := Lib.hid (Kd.R_below HOR.out hb)
    have HFR := Lib.hid (Kd.R_below HFR.out hb)
    clear hb
    have HSHNR := Lib.hid hHeld.2.size
    refine ca_ 10 (some 33) Try.func22 #[.agg #[.slice A0 nf c0, .slice A1 n c1]] ?_
    refine (HCP5.out d90_ hHeld.2).mono ?_
    rintro e d91_ ⟨AX, cX, AN, cN, rfl, -, hNR, hb⟩
    refine ⟨_, rfl, (kp3 hHeld hb), fun hHeld => ⟨_, rfl, nz_ (some 33) ?_⟩⟩
    have HNR := Lib.hid hNR
    clear hNR
    have HOR := Lib.hid (Kd.R_below HOR.out hb)
    have HFR := Lib.hid (Kd.R_below HFR.out hb)
    have HVR := Lib.hid (Kd.R_below HVR.out hb)
    clear hb
    refine pu_ 11 (some 34) ?_
    have HHB := Lib.hid hHeld.2
    refine norm_ ?_ (HCT.out (d88_.heap.size, d78_.heap.size, AV, cV, AX, cX, AN, cN) _ ⟨HHB.out, Kd.R_lower HFR.out HSHFR.out, Kd.R_lower HOR.out HSHOR.out, Kd.R_lower HVR.out HSHVR.out, Kd.R_lower HNR.out HSHNR.out⟩)
    simp only [putAll, Act.put, List.setIfInBounds_toArray, List.set_cons_zero, List.set_cons_succ]
   skip
   have HSHVR := Lib.hid hHeld.2.size
   refine go_s_ Try.func24 #[.slice A0 nf c0] ?_
   refine (HCS5.out d88_ hHeld.2).mono ?_
   rintro e d92_ ⟨AV, cV, rfl, hVR, hb⟩
   refine ⟨_, rfl, ?_⟩
   refine hK.out _ _ (kp3 hHeld hb) (fun hHeld => ?_)
   clear hK K
   refine nz_ (some 31) ?_
   have HVR := Lib.hid hVR
   clear hVR
   have HOR := Lib.hid (Kd.R_below HOR.out hb)
   clear hb
   refine tW_ 2 10 (some 25) (some 33) (fun K hK => ?_) (fun K hK => ?_)
   ·skip
    have HSHFR := Lib.hid hHeld.2.size
    go_simp
    have hb : Below d92_.heap.size d92_ (d92_.alloc (.cells #[.int .i64 (flagF 0 2)] 3)) := q57 (Below.refl _ _) _
    have hrow : Kd.R (Kd.int .i64) 3 (d92_.alloc (.cells #[.int .i64 (flagF 0 2)] 3)) d92_.heap.size (fun _ => True) (.slice (some ⟨d92_.heap.size, 0, none⟩) 1 1) [flagF 0 2] := ints_row d92_ [flagF 0 2] (by simp)
    refine hK.out _ _ (kp3 hHeld hb) (fun hHeld => ?_)
    clear hK K
    obtain ⟨d93_, hwn⟩ : ∃ wn, wn = d92_.alloc (.cells #[.int .i64 (flagF 0 2)] 3) := ⟨_, rfl⟩
    rw [← hwn] at hb hrow hHeld ⊢
    have HFR := Lib.hid hrow
    clear hrow hwn
    have HOR := Lib.hid (Kd.R_below HOR.out hb)
    have HVR := Lib.hid (Kd.R_below HVR.out hb)
    clear hb
    have HSHNR := Lib.hid hHeld.2.size
    refine ca_ 10 (some 33) Try.func22 #[.agg #[.slice A0 nf c0, .slice A1 n c1]] ?_
    refine (HCP5.out d93_ hHeld.2).mono ?_
    rintro e d94_ ⟨AX, cX, AN, cN, rfl, -, hNR, hb⟩
    refine ⟨_, rfl, (kp3 hHeld hb), fun hHeld => ⟨_, rfl, nz_ (some 33) ?_⟩⟩
    have HNR := Lib.hid hNR
    clear hNR
    have HOR := Lib.hid (Kd.R_below HOR.out hb)
    have HVR := Lib.hid (Kd.R_below HVR.out hb)
    have HFR := Lib.hid (Kd.R_below HFR.out hb)
    clear hb
    refine pu_ 11 (some 34) ?_
    have HHB := Lib.hid hHeld.2
    refine norm_ ?_ (HCT.out (d92_.heap.size, d78_.heap.size, AV, cV, AX, cX, AN, cN) _ ⟨HHB.out, Kd.R_lower HFR.out HSHFR.out, Kd.R_lower HOR.out HSHOR.out, Kd.R_lower HVR.out HSHVR.out, Kd.R_lower HNR.out HSHNR.out⟩)
    simp only [putAll, Act.put, List.setIfInBounds_toArray, List.set_cons_zero, List.set_cons_succ]
   skip
   have HSHNR := Lib.hid hHeld.2.size
   refine go_s_ Try.func22 #[.agg #[.slice A0 nf c0, .slice A1 n c1]] ?_
   refine (HCP5.out d92_ hHeld.2).mono ?_
   rintro e d95_ ⟨AX, cX, AN, cN, rfl, -, hNR, hb⟩
   refine ⟨_, rfl, ?_⟩
   refine hK.out _ _ (kp3 hHeld hb) (fun hHeld => ?_)
   clear hK K
   refine nz_ (some 33) ?_
   have HNR := Lib.hid hNR
   clear hNR
   have HOR := Lib.hid (Kd.R_below HOR.out hb)
   have HVR := Lib.hid (Kd.R_below HVR.out hb)
   clear hb
   refine pu_ 11 (some 34) ?_
   have HSHFR := Lib.hid hHeld.2.size
   refine oN_ 2 (some 25) (fun K hK => ?_)
   go_simp
   have hb : Below d95_.heap.size d95_ (d95_.alloc (.cells #[.int .i64 (flagF 0 2)] 3)) := q57 (Below.refl _ _) _
   have hrow : Kd.R (Kd.int .i64) 3 (d95_.alloc (.cells #[.int .i64 (flagF 0 2)] 3)) d95_.heap.size (fun _ => True) (.slice (some ⟨d95_.heap.size, 0, none⟩) 1 1) [flagF 0 2] := ints_row d95_ [flagF 0 2] (by simp)
   refine hK.out _ _ (kp3 hHeld hb) (fun hHeld => ?_)
   clear hK K
   obtain ⟨d96_, hwn⟩ : ∃ wn, wn = d95_.alloc (.cells #[.int .i64 (flagF 0 2)] 3) := ⟨_, rfl⟩
   rw [← hwn] at hb hrow hHeld ⊢
   have HFR := Lib.hid hrow
   clear hrow hwn
   have HOR := Lib.hid (Kd.R_below HOR.out hb)
   have HVR := Lib.hid (Kd.R_below HVR.out hb)
   have HNR := Lib.hid (Kd.R_below HNR.out hb)
   clear hb
   have HHB := Lib.hid hHeld.2
   refine norm_ ?_ (HCT.out (d95_.heap.size, d78_.heap.size, AV, cV, AX, cX, AN, cN) _ ⟨HHB.out, Kd.R_lower HFR.out HSHFR.out, Kd.R_lower HOR.out HSHOR.out, Kd.R_lower HVR.out HSHVR.out, Kd.R_lower HNR.out HSHNR.out⟩)
   simp only [putAll, Act.put, List.setIfInBounds_toArray, List.set_cons_zero, List.set_cons_succ]
  skip
  have HSHVR := Lib.hid hHeld.2.size
  refine go_s_ Try.func24 #[.slice A0 nf c0] ?_
  refine (HCS5.out d78_ hHeld.2).mono ?_
  rintro e d97_ ⟨AV, cV, rfl, hVR, hb⟩
  refine ⟨_, rfl, ?_⟩
  refine hK.out _ _ (kp3 hHeld hb) (fun hHeld => ?_)
  clear hK K
  refine nz_ (some 31) ?_
  have HVR := Lib.hid hVR
  clear hVR
  clear hb
  refine tH_ 2 5 10 (some 25) (some 28) (some 33) (fun K hK => ?_) (fun K hK => ?_) (fun K hK => ?_)
  ·skip
   have HSHFR := Lib.hid hHeld.2.size
   go_simp
   have hb : Below d97_.heap.size d97_ (d97_.alloc (.cells #[.int .i64 (flagF 0 2)] 3)) := q57 (Below.refl _ _) _
   have hrow : Kd.R (Kd.int .i64) 3 (d97_.alloc (.cells #[.int .i64 (flagF 0 2)] 3)) d97_.heap.size (fun _ => True) (.slice (some ⟨d97_.heap.size, 0, none⟩) 1 1) [flagF 0 2] := ints_row d97_ [flagF 0 2] (by simp)
   refine hK.out _ _ (kp3 hHeld hb) (fun hHeld => ?_)
   clear hK K
   obtain ⟨d98_, hwn⟩ : ∃ wn, wn = d97_.alloc (.cells #[.int .i64 (flagF 0 2)] 3) := ⟨_, rfl⟩
   rw [← hwn] at hb hrow hHeld ⊢
   have HFR := Lib.hid hrow
   clear hrow hwn
   have HVR := Lib.hid (Kd.R_below HVR.out hb)
   clear hb
   refine tW_ 5 10 (some 28) (some 33) (fun K hK => ?_) (fun K hK => ?_)
   ·skip
    have HSHOR := Lib.hid hHeld.2.size
    go_simp
    have hb : Below d98_.heap.size d98_ (d98_.alloc (.cells #[.int .i64 (flagF 0 3), .int .i64 ( flagF 0 4)] 3)) := q57 (Below.refl _ _) _
    have hrow : Kd.R (Kd.int .i64) 3 (d98_.alloc (.cells #[.int .i64 (flagF 0 3), .int .i64 ( flagF 0 4)] 3)) d98_.heap.size (fun _ => True) (.slice (some ⟨d98_.heap.size, 0, none⟩) 2 2) [flagF 0 3,  flagF 0 4] := ints_row d98_ [flagF 0 3,  flagF 0 4] (by simp)
    refine hK.out _ _ (kp3 hHeld hb) (fun hHeld => ?_)
    clear hK K
    obtain ⟨d99_, hwn⟩ : ∃ wn, wn = d98_.alloc (.cells #[.int .i64 (flagF 0 3), .int .i64 ( flagF 0 4)] 3) := ⟨_, rfl⟩
    rw [← hwn] at hb hrow hHeld ⊢
    have HOR := Lib.hid hrow
    clear hrow hwn
    have HVR := Lib.hid (Kd.R_below HVR.out hb)
    have HFR := Lib.hid (Kd.R_below HFR.out hb)
    clear hb
    have HSHNR := Lib.hid hHeld.2.size
    refine ca_ 10 (some 33) Try.func22 #[.agg #[.slice A0 nf c0, .slice A1 n c1]] ?_
    refine (HCP5.out d99_ hHeld.2).mono ?_
    rintro e d100_ ⟨AX, cX, AN, cN, rfl, -, hNR, hb⟩
    refine ⟨_, rfl, (kp3 hHeld hb), fun hHeld => ⟨_, rfl, nz_ (some 33) ?_⟩⟩
    have HNR := Lib.hid hNR
    clear hNR
    have HVR := Lib.hid (Kd.R_below HVR.out hb)
    have HFR := Lib.hid (Kd.R_below HFR.out hb)
    have HOR := Lib.hid (Kd.R_below HOR.out hb)
    clear hb
    refine pu_ 11 (some 34) ?_
    have HHB := Lib.hid hHeld.2
    refine norm_ ?_ (HCT.out (d97_.heap.size, d98_.heap.size, AV, cV, AX, cX, AN, cN) _ ⟨HHB.out, Kd.R_lower HFR.out HSHFR.out, Kd.R_lower HOR.out HSHOR.out, Kd.R_lower HVR.out HSHVR.out, Kd.R_lower HNR.out HSHNR.out⟩)
    simp only [putAll, Act.put, List.setIfInBounds_toArray, List.set_cons_zero, List.set_cons_succ]
   skip
   have HSHNR := Lib.hid hHeld.2.size
   refine go_s_ Try.func22 #[.agg #[.slice A0 nf c0, .slice A1 n c1]] ?_
   refine (HCP5.out d98_ hHeld.2).mono ?_
   rintro e d101_ ⟨AX, cX, AN, cN, rfl, -, hNR, hb⟩
   refine ⟨_, rfl, ?_⟩
   refine hK.out _ _ (kp3 hHeld hb) (fun hHeld => ?_)
   clear hK K
   refine nz_ (some 33) ?_
   have HNR := Lib.hid hNR
   clear hNR
   have HVR := Lib.hid (Kd.R_below HVR.out hb)
   have HFR := Lib.hid (Kd.R_below HFR.out hb)
   clear hb
   refine pu_ 11 (some 34) ?_
   have HSHOR := Lib.hid hHeld.2.size
   refine oN_ 5 (some 28) (fun K hK => ?_)
   go_simp
   have hb : Below d101_.heap.size d101_ (d101_.alloc (.cells #[.int .i64 (flagF 0 3), .int .i64 ( flagF 0 4)] 3)) := q57 (Below.refl _ _) _
   have hrow : Kd.R (Kd.int .i64) 3 (d101_.alloc (.cells #[.int .i64 (flagF 0 3), .int .i64 ( flagF 0 4)] 3)) d101_.heap.size (fun _ => True) (.slice (some ⟨d101_.heap.size, 0, none⟩) 2 2) [flagF 0 3,  flagF 0 4] := ints_row d101_ [flagF 0 3,  flagF 0 4] (by simp)
   refine hK.out _ _ (kp3 hHeld hb) (fun hHeld => ?_)
   clear hK K
   obtain ⟨d102_, hwn⟩ : ∃ wn, wn = d101_.alloc (.cells #[.int .i64 (flagF 0 3), .int .i64 ( flagF 0 4)] 3) := ⟨_, rfl⟩
   rw [← hwn] at hb hrow hHeld ⊢
   have HOR := Lib.hid hrow
   clear hrow hwn
   have HVR := Lib.hid (Kd.R_below HVR.out hb)
   have HFR := Lib.hid (Kd.R_below HFR.out hb)
   have HNR := Lib.hid (Kd.R_below HNR.out hb)
   clear hb
   have HHB := Lib.hid hHeld.2
   refine norm_ ?_ (HCT.out (d97_.heap.size, d101_.heap.size, AV, cV, AX, cX, AN, cN) _ ⟨HHB.out, Kd.R_lower HFR.out HSHFR.out, Kd.R_lower HOR.out HSHOR.out, Kd.R_lower HVR.out HSHVR.out, Kd.R_lower HNR.out HSHNR.out⟩)
   simp only [putAll, Act.put, List.setIfInBounds_toArray, List.set_cons_zero, List.set_cons_succ]
  ·skip
   have HSHOR := Lib.hid hHeld.2.size
   go_simp
   have hb : Below d97_.heap.size d97_ (d97_.alloc (.cells #[.int .i64 (flagF 0 3), .int .i64 ( flagF 0 4)] 3)) := q57 (Below.refl _ _) _
   have hrow : Kd.R (Kd.int .i64) 3 (d97_.alloc (.cells #[.int .i64 (flagF 0 3), .int .i64 ( flagF 0 4)] 3)) d97_.heap.size (fun _ => True) (.slice (some ⟨d97_.heap.size, 0, none⟩) 2 2) [flagF 0 3,  flagF 0 4] := ints_row d97_ [flagF 0 3,  flagF 0 4] (by simp)
   refine hK.out _ _ (kp3 hHeld hb) (fun hHeld => ?_)
   clear hK K
   obtain ⟨d103_, hwn⟩ : ∃ wn, wn = d97_.alloc (.cells #[.int .i64 (flagF 0 3), .int .i64 ( flagF 0 4)] 3) := ⟨_, rfl⟩
   rw [← hwn] at hb hrow hHeld ⊢
   have HOR := Lib.hid hrow
   clear hrow hwn
   have HVR := Lib.hid (Kd.R_below HVR.out hb)
   clear hb
   refine tW_ 2 10 (some 25) (some 33) (fun K hK => ?_) (fun K hK => ?_)
   ·skip
    have HSHFR := Lib.hid hHeld.2.size
    go_simp
    have hb : Below d103_.heap.size d103_ (d103_.alloc (.cells #[.int .i64 (flagF 0 2)] 3)) := q57 (Below.refl _ _) _
    have hrow : Kd.R (Kd.int .i64) 3 (d103_.alloc (.cells #[.int .i64 (flagF 0 2)] 3)) d103_.heap.size (fun _ => True) (.slice (some ⟨d103_.heap.size, 0, none⟩) 1 1) [flagF 0 2] := ints_row d103_ [flagF 0 2] (by simp)
    refine hK.out _ _ (kp3 hHeld hb) (fun hHeld => ?_)
    clear hK K
    obtain ⟨d104_, hwn⟩ : ∃ wn, wn = d103_.alloc (.cells #[.int .i64 (flagF 0 2)] 3) := ⟨_, rfl⟩
    rw [← hwn] at hb hrow hHeld ⊢
    have HFR := Lib.hid hrow
    clear hrow hwn
    have HVR := Lib.hid (Kd.R_below HVR.out hb)
    have HOR := Lib.hid (Kd.R_below HOR.out hb)
    clear hb
    have HSHNR := Lib.hid hHeld.2.size
    refine ca_ 10 (some 33) Try.func22 #[.agg #[.slice A0 nf c0, .slice A1 n c1]] ?_
    refine (HCP5.out d104_ hHeld.2).mono ?_
    rintro e d105_ ⟨AX, cX, AN, cN, rfl, -, hNR, hb⟩
    refine ⟨_, rfl, (kp3 hHeld hb), fun hHeld => ⟨_, rfl, nz_ (some 33) ?_⟩⟩
    have HNR := Lib.hid hNR
    clear hNR
    have HVR := Lib.hid (Kd.R_below HVR.out hb)
    have HOR := Lib.hid (Kd.R_below HOR.out hb)
    have HFR := Lib.hid (Kd.R_below HFR.out hb)
    clear hb
    refine pu_ 11 (some 34) ?_
    have HHB := Lib.hid hHeld.2
    refine norm_ ?_ (HCT.out (d103_.heap.size, d97_.heap.size, AV, cV, AX, cX, AN, cN) _ ⟨HHB.out, Kd.R_lower HFR.out HSHFR.out, Kd.R_lower HOR.out HSHOR.out, Kd.R_lower HVR.out HSHVR.out, Kd.R_lower HNR.out HSHNR.out⟩)
    simp only [putAll, Act.put, List.setIfInBounds_toArray, List.set_cons_zero, List.set_cons_succ]
   skip
   have HSHNR := Lib.hid hHeld.2.size
   refine go_s_ Try.func22 #[.agg #[.slice A0 nf c0, .slice A1 n c1]] ?_
   refine (HCP5.out d103_ hHeld.2).mono ?_
   rintro e d106_ ⟨AX, cX, AN, cN, rfl, -, hNR, hb⟩
   refine ⟨_, rfl, ?_⟩
   refine hK.out _ _ (kp3 hHeld hb) (fun hHeld => ?_)
   clear hK K
   refine nz_ (some 33) ?_
   have HNR := Lib.hid hNR
   clear hNR
   have HVR := Lib.hid (Kd.R_below HVR.out hb)
   have HOR := Lib.hid (Kd.R_below HOR.out hb)
   clear hb
   refine pu_ 11 (some 34) ?_
   have HSHFR := Lib.hid hHeld.2.size
   refine oN_ 2 (some 25) (fun K hK => ?_)
   go_simp
   have hb : Below d106_.heap.size d106_ (d106_.alloc (.cells #[.int .i64 (flagF 0 2)] 3)) := q57 (Below.refl _ _) _
   have hrow : Kd.R (Kd.int .i64) 3 (d106_.alloc (.cells #[.int .i64 (flagF 0 2)] 3)) d106_.heap.size (fun _ => True) (.slice (some ⟨d106_.heap.size, 0, none⟩) 1 1) [flagF 0 2] := ints_row d106_ [flagF 0 2] (by simp)
   refine hK.out _ _ (kp3 hHeld hb) (fun hHeld => ?_)
   clear hK K
   obtain ⟨d107_, hwn⟩ : ∃ wn, wn = d106_.alloc (.cells #[.int .i64 (flagF 0 2)] 3) := ⟨_, rfl⟩
   rw [← hwn] at hb hrow hHeld ⊢
   have HFR := Lib.hid hrow
   clear hrow hwn
   have HVR := Lib.hid (Kd.R_below HVR.out hb)
   have HOR := Lib.hid (Kd.R_below HOR.out hb)
   have HNR := Lib.hid (Kd.R_below HNR.out hb)
   clear hb
   have HHB := Lib.hid hHeld.2
   refine norm_ ?_ (HCT.out (d106_.heap.size, d97_.heap.size, AV, cV, AX, cX, AN, cN) _ ⟨HHB.out, Kd.R_lower HFR.out HSHFR.out, Kd.R_lower HOR.out HSHOR.out, Kd.R_lower HVR.out HSHVR.out, Kd.R_lower HNR.out HSHNR.out⟩)
   simp only [putAll, Act.put, List.setIfInBounds_toArray, List.set_cons_zero, List.set_cons_succ]
  skip
  have HSHNR := Lib.hid hHeld.2.size
  refine go_s_ Try.func22 #[.agg #[.slice A0 nf c0, .slice A1 n c1]] ?_
  refine (HCP5.out d97_ hHeld.2).mono ?_
  rintro e d108_ ⟨AX, cX, AN, cN, rfl, -, hNR, hb⟩
  refine ⟨_, rfl, ?_⟩
  refine hK.out _ _ (kp3 hHeld hb) (fun hHeld => ?_)
  clear hK K
  refine nz_ (some 33) ?_
  have HNR := Lib.hid hNR
  clear hNR
  have HVR := Lib.hid (Kd.R_below HVR.out hb)
  clear hb
  refine pu_ 11 (some 34) ?_
  refine tW_ 2 5 (some 25) (some 28) (fun K hK => ?_) (fun K hK => ?_)
  ·skip
   have HSHFR := Lib.hid hHeld.2.size
   go_simp
   have hb : Below d108_.heap.size d108_ (d108_.alloc (.cells #[.int .i64 (flagF 0 2)] 3)) := q57 (Below.refl _ _) _
   have hrow : Kd.R (Kd.int .i64) 3 (d108_.alloc (.cells #[.int .i64 (flagF 0 2)] 3)) d108_.heap.size (fun _ => True) (.slice (some ⟨d108_.heap.size, 0, none⟩) 1 1) [flagF 0 2] := ints_row d108_ [flagF 0 2] (by simp)
   refine hK.out _ _ (kp3 hHeld hb) (fun hHeld => ?_)
   clear hK K
   obtain ⟨d109_, hwn⟩ : ∃ wn, wn = d108_.alloc (.cells #[.int .i64 (flagF 0 2)] 3) := ⟨_, rfl⟩
   rw [← hwn] at hb hrow hHeld ⊢
   have HFR := Lib.hid hrow
   clear hrow hwn
   have HVR := Lib.hid (Kd.R_below HVR.out hb)
   have HNR := Lib.hid (Kd.R_below HNR.out hb)
   clear hb
   have HSHOR := Lib.hid hHeld.2.size
   refine oN_ 5 (some 28) (fun K hK => ?_)
   go_simp
   have hb : Below d109_.heap.size d109_ (d109_.alloc (.cells #[.int .i64 (flagF 0 3), .int .i64 ( flagF 0 4)] 3)) := q57 (Below.refl _ _) _
   have hrow : Kd.R (Kd.int .i64) 3 (d109_.alloc (.cells #[.int .i64 (flagF 0 3), .int .i64 ( flagF 0 4)] 3)) d109_.heap.size (fun _ => True) (.slice (some ⟨d109_.heap.size, 0, none⟩) 2 2) [flagF 0 3,  flagF 0 4] := ints_row d109_ [flagF 0 3,  flagF 0 4] (by simp)
   refine hK.out _ _ (kp3 hHeld hb) (fun hHeld => ?_)
   clear hK K
   obtain ⟨d110_, hwn⟩ : ∃ wn, wn = d109_.alloc (.cells #[.int .i64 (flagF 0 3), .int .i64 ( flagF 0 4)] 3) := ⟨_, rfl⟩
   rw [← hwn] at hb hrow hHeld ⊢
   have HOR := Lib.hid hrow
   clear hrow hwn
   have HVR := Lib.hid (Kd.R_below HVR.out hb)
   have HNR := Lib.hid (Kd.R_below HNR.out hb)
   have HFR := Lib.hid (Kd.R_below HFR.out hb)
   clear hb
   have HHB := Lib.hid hHeld.2
   refine norm_ ?_ (HCT.out (d108_.heap.size, d109_.heap.size, AV, cV, AX, cX, AN, cN) _ ⟨HHB.out, Kd.R_lower HFR.out HSHFR.out, Kd.R_lower HOR.out HSHOR.out, Kd.R_lower HVR.out HSHVR.out, Kd.R_lower HNR.out HSHNR.out⟩)
   simp only [putAll, Act.put, List.setIfInBounds_toArray, List.set_cons_zero, List.set_cons_succ]
  skip
  have HSHOR := Lib.hid hHeld.2.size
  go_simp
  have hb : Below d108_.heap.size d108_ (d108_.alloc (.cells #[.int .i64 (flagF 0 3), .int .i64 ( flagF 0 4)] 3)) := q57 (Below.refl _ _) _
  have hrow : Kd.R (Kd.int .i64) 3 (d108_.alloc (.cells #[.int .i64 (flagF 0 3), .int .i64 ( flagF 0 4)] 3)) d108_.heap.size (fun _ => True) (.slice (some ⟨d108_.heap.size, 0, none⟩) 2 2) [flagF 0 3,  flagF 0 4] := ints_row d108_ [flagF 0 3,  flagF 0 4] (by simp)
  refine hK.out _ _ (kp3 hHeld hb) (fun hHeld => ?_)
  clear hK K
  obtain ⟨d111_, hwn⟩ : ∃ wn, wn = d108_.alloc (.cells #[.int .i64 (flagF 0 3), .int .i64 ( flagF 0 4)] 3) := ⟨_, rfl⟩
  rw [← hwn] at hb hrow hHeld ⊢
  have HOR := Lib.hid hrow
  clear hrow hwn
  have HVR := Lib.hid (Kd.R_below HVR.out hb)
  have HNR := Lib.hid (Kd.R_below HNR.out hb)
  clear hb
  have HSHFR := Lib.hid hHeld.2.size
  refine oN_ 2 (some 25) (fun K hK => ?_)
  go_simp
  have hb : Below d111_.heap.size d111_ (d111_.alloc (.cells #[.int .i64 (flagF 0 2)] 3)) := q57 (Below.refl _ _) _
  have hrow : Kd.R (Kd.int .i64) 3 (d111_.alloc (.cells #[.int .i64 (flagF 0 2)] 3)) d111_.heap.size (fun _ => True) (.slice (some ⟨d111_.heap.size, 0, none⟩) 1 1) [flagF 0 2] := ints_row d111_ [flagF 0 2] (by simp)
  refine hK.out _ _ (kp3 hHeld hb) (fun hHeld => ?_)
  clear hK K
  obtain ⟨d112_, hwn⟩ : ∃ wn, wn = d111_.alloc (.cells #[.int .i64 (flagF 0 2)] 3) := ⟨_, rfl⟩
  rw [← hwn] at hb hrow hHeld ⊢
  have HFR := Lib.hid hrow
  clear hrow hwn
  have HVR := Lib.hid (Kd.R_below HVR.out hb)
  have HNR := Lib.hid (Kd.R_below HNR.out hb)
  have HOR := Lib.hid (Kd.R_below HOR.out hb)
  clear hb
  have HHB := Lib.hid hHeld.2
  refine norm_ ?_ (HCT.out (d111_.heap.size, d108_.heap.size, AV, cV, AX, cX, AN, cN) _ ⟨HHB.out, Kd.R_lower HFR.out HSHFR.out, Kd.R_lower HOR.out HSHOR.out, Kd.R_lower HVR.out HSHVR.out, Kd.R_lower HNR.out HSHNR.out⟩)
  simp only [putAll, Act.put, List.setIfInBounds_toArray, List.set_cons_zero, List.set_cons_succ]
 rintro ⟨oF, oO, AV, cV, AX, cX, AN, cN⟩ wJ ⟨hbJ, hXJ⟩
 refine norm_ (a' := ?_) ?_ ?_
 rotate_left
 ·simp only [putAll, Act.put, List.setIfInBounds_toArray, List.set_cons_zero, List.set_cons_succ]
  rfl
 clear hHeld
 have hgJ := q62 HG5.out hbJ
 have hb0J : Below w0.heap.size w0 wJ := q60 HB5.out HB5.out.size hbJ
 have hz2 := (q63 hgJ 2).trans rfl
 have hq2 := q67 hgJ 2
 have hz3 := (q63 hgJ 3).trans rfl
 have hq3 := q67 hgJ 3
 have hz4 := (q63 hgJ 4).trans rfl
 have hq4 := q67 hgJ 4
 have hz5 := (q63 hgJ 5).trans rfl
 have hq5 := q67 hgJ 5
 have hz6 := (q63 hgJ 6).trans rfl
 have hq6 := q67 hgJ 6
 have hz7 := (q63 hgJ 7).trans rfl
 have hq7 := q67 hgJ 7
 have hz8 := (q63 hgJ 8).trans rfl
 have hq8 := q67 hgJ 8
 have hz9 := (q63 hgJ 9).trans rfl
 have hq9 := q67 hgJ 9
 have hz10 := (q63 hgJ 10).trans rfl
 have hq10 := q67 hgJ 10
 have hz11 := (q63 hgJ 11).trans rfl
 have hq11 := q67 hgJ 11
 obtain ⟨wQ, hwQ⟩ : ∃ wQ, wQ = ((((((((((wJ.setCell ⟨g, 2, none⟩ (.int .i64 0)).setCell ⟨g, 3, none⟩ (.int .i64 0)).setCell ⟨g, 4, none⟩ (.slice (some ⟨oF, 0, none⟩) 1 1)).setCell ⟨g, 5, none⟩ (.slice (some ⟨oO, 0, none⟩) 2 2)).setCell ⟨g, 6, none⟩ (.int .i64 6)).setCell ⟨g, 7, none⟩ (.slice AV nf cV)).setCell ⟨g, 8, none⟩ (.slice none 0 0)).setCell ⟨g, 9, none⟩ (.slice none 0 0)).setCell ⟨g, 10, none⟩ (.slice none 0 0)).setCell ⟨g, 11, none⟩ (.slice AN n cN)) := ⟨_, rfl⟩
 have hfm := fill_maker (v4 := .slice (some ⟨oF, 0, none⟩) 1 1) (v5 := .slice (some ⟨oO, 0, none⟩) 2 2) (v7 := .slice AV nf cV) (v11 := .slice AN n cN) hgJ hb0J hwg
 rw [← hwQ] at hfm
 obtain ⟨hgQ, hkQ, hb0Q⟩ := hfm
 have hgoQ : Go_ g (.slice none 0 0) (.slice none 0 0) w5 wQ := (Go_.below Go_.refl hbJ : Go_ g (.slice none 0 0) (.slice none 0 0) w5 wJ).then_ ⟨⟨hkQ.1, fun i hi hn => hkQ.2 i hi (fun e => hn (.inl e))⟩, fun _ e => .inl e⟩
 have hJg : ∀ {α : Type} {d : Kd α} {e : Nat} {v : Value} {xs : List α}, d.R e wJ w5.heap.size (fun _ => True) v xs → d.R e wQ w5.heap.size (fun _ => True) v xs := fun {α d e v xs} h => by
  have hk := hkQ
  exact Kd.R_mono (Kd.R_keptB (Kd.R_mono (ok' := fun k => g < k) (Kd.R_bound h) (fun k hk => by have := hk.2.1; omega)) hk (fun k hk e => by omega)) (fun _ _ => trivial)
 have HXQ := Lib.hid (And.intro (hJg hXJ.1) (And.intro (hJg hXJ.2.1) (And.intro (hJg hXJ.2.2.1) (hJg hXJ.2.2.2))))
 have HGQ := Lib.hid hgQ
 have HGO := Lib.hid hgoQ
 have HGP := Lib.hid (Go_.refl : Go_ g (.slice none 0 0) (.slice none 0 0) wQ wQ)
 have HB0Q := Lib.hid hb0Q
 have HWQ := Lib.hid hwQ
 have HCC := Lib.hid (And.intro HCC.out.1 HCC.out.2)
 clear hwQ hgQ hgoQ hb0Q hkQ hJg hXJ hbJ hb0J hgJ hm0 hm1 hkc
 refine pu_ 12 (some 35) ?_
 refine pu_ 13 (some 36) ?_
 refine pu_ 14 (some 37) ?_
 refine lA_ 15 none (fun K hK => ?_)
 go_simp
 refine hK.out _ _ ?_
 clear hK K hz2 hq2 hz3 hq3 hz4 hq4 hz5 hq5 hz6 hq6 hz7 hq7 hz8 hq8 hz9 hq9 hz10 hq10 hz11 hq11
 rw [← show wQ = _ from HWQ.out]
 refine dn_ ?_
 obtain ⟨b, hbE⟩ : ∃ b : Mc, b = ⟨AF, cF, fs, AI, cI, l, 0, 0, .slice (some ⟨oF, 0, none⟩) 1 1, .slice (some ⟨oO, 0, none⟩) 2 2, .slice AV nf cV, .slice AN n cN, .slice none 0 0⟩ := ⟨_, rfl⟩
 have hbl : b.l = l := by rw [hbE]
 have HMB : Hid (∀ fl la vd, 0 ≤ la ∧ la ≤ 100000 → Mm (mcf b fl la vd) w0) := Lib.hid (fun fl la vd h => by
  rw [hbE]
  exact ⟨by rw [HNF.out] at HCC; exact HCC.out.1.2, by have := HCC.out.1.1; rw [HNF.out] at this; exact this, HCC.out.2.2, by have := HCC.out.2.1; rw [HN.out] at this; exact this, by show l.length ≤ 1000; have := HN.out; omega, h, HLIM.out⟩)
 have HMQ : Hid (Mr (mcf b 0 0 (.slice none 0 0)) w0 wQ g (.slice none 0 0) []) := Lib.hid ⟨HB0Q.out, hwg, by
  rw [hbE]
  show wQ.heap[g]? = some (.cells #[.slice AF fs.length cF, .slice AI l.length cI, .int .i64 0, .int .i64 0, .slice (some ⟨oF, 0, none⟩) 1 1, .slice (some ⟨oO, 0, none⟩) 2 2, .int .i64 6, .slice AV nf cV, .slice none 0 0, .slice none 0 0, .slice none 0 0, .slice AN n cN, .slice none 0 0] 58 (0, 0))
  rw [← HNF.out, ← HN.out]
  exact HGQ.out, Kd.R_nil _ _ _ _ _⟩
 have HVW : Hid (b.v4 = .slice (some ⟨oF, 0, none⟩) 1 1 ∧ b.v5 = .slice (some ⟨oO, 0, none⟩) 2 2 ∧ b.v7 = .slice AV nf cV ∧ b.v11 = .slice AN n cN) := Lib.hid (by rw [hbE]; exact ⟨rfl, rfl, rfl, rfl⟩)
 have HBL := Lib.hid hbl
 have hkQ := HGO.out.cell HMK.out.2.2 hkl5 hbkg (by simp [Value.ownBlock])
 have hnb : n = b.l.length := by rw [hbl]; exact HN.out
 obtain ⟨la, hlaE⟩ : ∃ la : Int, la = (marksN b.l n : Nat) := ⟨_, rfl⟩
 have hlab : 0 ≤ la ∧ la ≤ 100000 := by
  have h1 := marksN_le (l := b.l) (by rw [hbl]; exact HLIM.out) (by omega) n (by omega)
  rw [hlaE]; omega
 obtain ⟨fl, hflE⟩ : ∃ fl : Int, fl = la + 6 * (n : Int) + (sentsN b.l n : Nat) := ⟨_, rfl⟩
 have HMA : Hid (∀ W, Below wQ.heap.size wQ W → Calls Try.prog 25 #[.pointer (some ⟨g, 0, none⟩), .int .i64 n] W fun e w' => e = .returned (.int .i64 la) ∧ Below W.heap.size W w') := Lib.hid (fun W hb => by
  rw [hlaE]
  exact mark_any (mcf b 0 0 (.slice none 0 0)) w0 W g n (HMQ.out.below hb).mg (HMB.out 0 0 _ (by omega)) (HMQ.out.below hb).1 (by show n ≤ b.l.length; omega))
 have HLA := Lib.hid hlaE
 have HFL := Lib.hid hflE
 have HNB := Lib.hid hnb
 clear hbE hbl HB0Q HGQ HCC hnb hlaE hflE HWQ
 go_wp2_with fail
 have hS : (((wQ.drew).cell? ⟨bk, 0, none⟩ = some (.pointer (some ⟨g, 0, none⟩)))) ∧ Below wQ.heap.size wQ wQ.drew := ⟨hkQ, q58 (Below.refl _ _)⟩
 refine sD_ [7] (fun w' => ((w'.cell? ⟨bk, 0, none⟩ = some (.pointer (some ⟨g, 0, none⟩)))) ∧ Below wQ.heap.size wQ w') 8 hS (fun hHeld => ?_)
 clear hS
 obtain ⟨wD, hwD⟩ : ∃ wD, wD = wQ.drew := ⟨_, rfl⟩
 rw [← hwD] at hHeld ⊢
 clear hwD
 refine tc_ 0 (some 38) hHeld ?_
 refine tc_ 1 (some 39) hHeld ?_
 refine pu_ 2 (some 40) ?_
 refine ca_ 3 (some 41) Try.func25 #[.pointer (some ⟨g, 0, none⟩), .int .i64 n] ?_
 refine (HMA.out wD hHeld.2).mono ?_
 rintro e d113_ ⟨rfl, hb⟩
 refine ⟨_, rfl, (kp1 hHeld hb), fun hHeld => ⟨_, rfl, nz_ (some 41) ?_⟩⟩
 clear hb
 refine pu_ 4 (some 42) ?_
 refine pu_ 5 (some 43) ?_
 refine pu_ 6 (some 44) ?_
 have HM := Lib.hid (HMQ.out.below hHeld.2)
 have HGO := Lib.hid (Go_.below HGO.out hHeld.2)
 have HGP := Lib.hid (Go_.below HGP.out hHeld.2)
 have hkQ := hHeld.1
 have hz3 : d113_.cell? ⟨g, 3, none⟩ = some (.int .i64 0) := (q63 HM.out.2.2.1 3).trans rfl
 have hq3 := q67 HM.out.2.2.1 3
 refine lA_ 7 none (fun K hK => ?_)
 go_simp
 refine hK.out _ _ ?_
 clear hK K hz3 hq3 hHeld HMA HMQ
 refine dn_ ?_
 have HM2 : Hid (Mr (mcf b 0 la (.slice none 0 0)) w0 (d113_.setCell ⟨g, 3, none⟩ (.int .i64 la)) g (.slice none 0 0) []) := Lib.hid (HM.out.put 3 (.int .i64 la) rfl)
 have HGO2 : Hid (Go_ g (.slice none 0 0) (.slice none 0 0) w5 (d113_.setCell ⟨g, 3, none⟩ (.int .i64 la))) := Lib.hid (HGO.out.put 3 _)
 have HGP2 : Hid (Go_ g (.slice none 0 0) (.slice none 0 0) wQ (d113_.setCell ⟨g, 3, none⟩ (.int .i64 la))) := Lib.hid (HGP.out.put 3 _)
 have hkR : (d113_.setCell ⟨g, 3, none⟩ (.int .i64 la)).cell? ⟨bk, 0, none⟩ = some (.pointer (some ⟨g, 0, none⟩)) := kept_cell ((Kept.refl _ _ : Kept d113_ d113_ (fun k => k = g)).setCell (p := ⟨g, 3, none⟩) (.inl rfl) _) hkQ hbkg
 obtain ⟨wR, hwR⟩ : ∃ wR, wR = d113_.setCell ⟨g, 3, none⟩ (.int .i64 la) := ⟨_, rfl⟩
 rw [← hwR] at HM2 HGO2 HGP2 hkR ⊢
 clear hwR HM HGO HGP hkQ
 have HMA : Hid (∀ W, Below wR.heap.size wR W → Calls Try.prog 26 #[.pointer (some ⟨g, 0, none⟩), .int .i64 n] W fun e w' => e = .returned (.int .i64 fl) ∧ Below W.heap.size W w') := Lib.hid (fun W hb => by
  have h := sent_any (mcf b 0 la (.slice none 0 0)) w0 W g n (HM2.out.below hb).mg (HMB.out 0 la _ hlab) (HM2.out.below hb).1 (by show n ≤ b.l.length; have := HNB.out; omega)
  have e : (mcf b 0 la (.slice none 0 0)).la + 6 * ((mcf b 0 la (.slice none 0 0)).l.length : Int) + (sentsN (mcf b 0 la (.slice none 0 0)).l n : Nat) = fl := by
   show la + 6 * (b.l.length : Int) + (sentsN b.l n : Nat) = fl
   rw [HFL.out, ← HNB.out]
  rw [e] at h
  exact h)
 go_wp2_with fail
 have hS : (((wR.drew).cell? ⟨bk, 0, none⟩ = some (.pointer (some ⟨g, 0, none⟩)))) ∧ Below wR.heap.size wR wR.drew := ⟨hkR, q58 (Below.refl _ _)⟩
 refine sD_ [7] (fun w' => ((w'.cell? ⟨bk, 0, none⟩ = some (.pointer (some ⟨g, 0, none⟩)))) ∧ Below wR.heap.size wR w') 8 hS (fun hHeld => ?_)
 clear hS
 obtain ⟨wD, hwD⟩ : ∃ wD, wD = wR.drew := ⟨_, rfl⟩
 rw [← hwD] at hHeld ⊢
 clear hwD
 refine tc_ 0 (some 45) hHeld ?_
 refine tc_ 1 (some 46) hHeld ?_
 refine pu_ 2 (some 47) ?_
 refine ca_ 3 (some 48) Try.func26 #[.pointer (some ⟨g, 0, none⟩), .int .i64 n] ?_
 refine (HMA.out wD hHeld.2).mono ?_
 rintro e d114_ ⟨rfl, hb⟩
 refine ⟨_, rfl, (kp1 hHeld hb), fun hHeld => ⟨_, rfl, nz_ (some 48) ?_⟩⟩
 clear hb
 refine pu_ 4 (some 49) ?_
 refine pu_ 5 (some 50) ?_
 refine pu_ 6 (some 51) ?_
 have HM := Lib.hid (HM2.out.below hHeld.2)
 have HGO := Lib.hid (Go_.below HGO2.out hHeld.2)
 have HGP := Lib.hid (Go_.below HGP2.out hHeld.2)
 have hkR := hHeld.1
 have hz3 : d114_.cell? ⟨g, 2, none⟩ = some (.int .i64 0) := (q63 HM.out.2.2.1 2).trans rfl
 have hq3 := q67 HM.out.2.2.1 2
 refine lA_ 7 none (fun K hK => ?_)
 go_simp
 refine hK.out _ _ ?_
 clear hK K hz3 hq3 hHeld HMA HM2 HGO2 HGP2
 refine dn_ ?_
 have HM2 : Hid (Mr (mcf b fl la (.slice none 0 0)) w0 (d114_.setCell ⟨g, 2, none⟩ (.int .i64 fl)) g (.slice none 0 0) []) := Lib.hid (HM.out.put 2 (.int .i64 fl) rfl)
 have HGO2 : Hid (Go_ g (.slice none 0 0) (.slice none 0 0) w5 (d114_.setCell ⟨g, 2, none⟩ (.int .i64 fl))) := Lib.hid (HGO.out.put 2 _)
 have HGP2 : Hid (Go_ g (.slice none 0 0) (.slice none 0 0) wQ (d114_.setCell ⟨g, 2, none⟩ (.int .i64 fl))) := Lib.hid (HGP.out.put 2 _)
 have hkS : (d114_.setCell ⟨g, 2, none⟩ (.int .i64 fl)).cell? ⟨bk, 0, none⟩ = some (.pointer (some ⟨g, 0, none⟩)) := kept_cell ((Kept.refl _ _ : Kept d114_ d114_ (fun k => k = g)).setCell (p := ⟨g, 2, none⟩) (.inl rfl) _) hkR hbkg
 obtain ⟨wR, hwR⟩ : ∃ wR, wR = d114_.setCell ⟨g, 2, none⟩ (.int .i64 fl) := ⟨_, rfl⟩
 rw [← hwR] at HM2 HGO2 HGP2 hkS ⊢
 clear hwR HM HGO HGP hkR
 -- the deepest one's cell
 obtain ⟨wX, hwX⟩ : ∃ wX, wX = wR.alloc (.cells #[.int .i64 0] 3) := ⟨_, rfl⟩
 have hbX : Below wR.heap.size wR wX := by rw [hwX]; exact q57 (Below.refl _ _) _
 have hgX : wX.heap[wR.heap.size]? = some (.cells #[.int .i64 0] 3 (0, 0)) := by rw [hwX]; exact heap_alloc_new _ _
 obtain ⟨bD, hbD⟩ : ∃ bD, bD = wR.heap.size := ⟨_, rfl⟩
 rw [← hbD] at hgX
 have hbM1 : bM ≠ g := by omega
 have hm5 : w5.cell? ⟨bM, 1, none⟩ = some (.slice A1 n c1) := HMK.out.2.1
 have hmX : wX.cell? ⟨bM, 1, none⟩ = some (.slice A1 n c1) := q73 hbX (HGO2.out.cell hm5 (by show bM < w5.heap.size; omega) hbM1 (by simp [Value.ownBlock]))
 have HM := Lib.hid (HM2.out.below hbX)
 have HGO := Lib.hid (Go_.below HGO2.out hbX)
 have HGP := Lib.hid (Go_.below HGP2.out hbX)
 have hQR : wQ.heap.size ≤ wR.heap.size := HGP2.out.1.1
 have hQD : wQ.heap.size ≤ bD := by omega
 have hkX := q73 hbX hkS
 have HKX := Lib.hid hkX
 have HGX := Lib.hid hgX
 have HWX := Lib.hid hwX
 have HBD := Lib.hid hbD
 have hDX : bD < wX.heap.size := blk_lt hgX
 have h5X : w5.heap.size ≤ wX.heap.size := HGO.out.1.1
 have h5D : w5.heap.size ≤ bD := by have := HGO2.out.1.1; omega
 have hDg : bD ≠ g := by omega
 have hDk : bD ≠ bk := by omega
 have hgX2 : g < wX.heap.size := by omega
 clear hwX hgX hbD hbX HM2 HGO2 HGP2 hkS hm5 hQR
 go_upto_region 9 with (fail)
 rw [← HWX.out, ← HBD.out]
 clear hkX
 have HPL : Hid (∀ j : Nat, 0 < j → j < b.l.length → 0 ≤ parI b.l j ∧ parI b.l j < j) := Lib.hid (by rw [HBL.out]; exact HPAR.out)
 have hn16 : n ≤ 16 := by omega
 go_wp2_with fail
 clear hmX
 go_loopg [55] n (fun gg s55 wr => ∃ (i : Nat) (Ad : Option Addr) (cd : Nat), s55 = .int .i64 i ∧ i ≤ n ∧ n - i ≤ gg ∧ Hid (Mr (mcf b fl la (.slice Ad i cd)) w0 wr g (.slice none 0 0) [] ∧ Kd.R (Kd.int .i64) 3 wr wX.heap.size (fun _ => True) (.slice Ad i cd) (depP b.l i) ∧ wr.heap[bD]? = some (.cells #[.int .i64 (depM b.l i)] 3 (0, 0)) ∧ Kept wX wr (fun k => k = g ∨ k = bD)))
 case atStart => exact ⟨0, none, 0, rfl, Nat.zero_le _, by omega, Lib.hid ⟨HM.out, Kd.R_nil _ _ _ _ _, HGX.out, Kept.refl _ _⟩⟩
 case round =>
 obtain ⟨i, Ad, cd, rfl, hin, hig, Y⟩ := hrel
 obtain ⟨wO, rfl⟩ : ∃ wO, wO = wr := ⟨_, rfl⟩
 clear HM
 have HM := Lib.hid Y.out.1
 have HRD := Lib.hid Y.out.2.1
 have HGD := Lib.hid Y.out.2.2.1
 have HKE := Lib.hid Y.out.2.2.2
 have hk := kept_cell HKE.out HKX.out (fun h => h.elim hbkg (fun e => hDk e.symm))
 clear Y
 by_cases hlt : i < n
 case neg =>
  obtain rfl : n = i := by omega
  have hlz : ¬ (n : Int) < (n : Int) := by omega
  obtain ⟨c, hc⟩ : ∃ c, c = mcf b fl la (.slice Ad n cd) := ⟨_, rfl⟩
  rw [← hc] at HM
  have HMC : Hid (Mm c w0) := Lib.hid (by rw [hc]; exact HMB.out fl la _ hlab)
  have hcl : c.l = b.l := by rw [hc]; rfl
  have hcv : c.vd = .slice Ad n cd := by rw [hc]; rfl
  have hcn : c.l.length = n := by rw [hcl, ← HNB.out]
  have HPC : Hid (∀ j : Nat, 0 < j → j < c.l.length → 0 ≤ parI c.l j ∧ parI c.l j < j) := Lib.hid (by rw [hcl]; exact HPL.out)
  have HCV := Lib.hid hcv
  have HCL := Lib.hid hcl
  have HCN := Lib.hid hcn
  have HCE := Lib.hid hc
  clear hcl hcv hcn hc
  obtain ⟨wf, hwf⟩ : ∃ wf, wf = wO.alloc (.cells #[.func (.func 28) #[.pointer (some ⟨g, 0, none⟩)] #[], .func (.func 29) #[.pointer (some ⟨g, 0, none⟩)] #[], .func (.func 30) #[.pointer (some ⟨g, 0, none⟩)] #[], .func (.func 31) #[.pointer (some ⟨g, 0, none⟩)] #[], .func (.func 32) #[.pointer (some ⟨g, 0, none⟩)] #[]] 62) := ⟨_, rfl⟩
  have hbf : Below wO.heap.size wO wf := by rw [hwf]; exact q57 (Below.refl _ _) _
  have hgf : wf.heap[wO.heap.size]? = some (.cells #[.func (.func 28) #[.pointer (some ⟨g, 0, none⟩)] #[], .func (.func 29) #[.pointer (some ⟨g, 0, none⟩)] #[], .func (.func 30) #[.pointer (some ⟨g, 0, none⟩)] #[], .func (.func 31) #[.pointer (some ⟨g, 0, none⟩)] #[], .func (.func 32) #[.pointer (some ⟨g, 0, none⟩)] #[]] 62 (0, 0)) := by rw [hwf]; exact heap_alloc_new _ _
  obtain ⟨bf, hbfn⟩ : ∃ bf, bf = wO.heap.size := ⟨_, rfl⟩
  rw [← hbfn] at hgf
  have hbfl : bf < wf.heap.size := blk_lt hgf
  have hwXO : wX.heap.size ≤ wO.heap.size := HKE.out.1
  have hbfg : bf ≠ g := by omega
  have hklf : bk < wf.heap.size := by omega
  have HM := Lib.hid (HM.out.below hbf)
  have HRD := Lib.hid (Kd.R_below HRD.out hbf)
  have HGD := Lib.hid (q62 HGD.out hbf)
  have HKE := Lib.hid (Kept.below HKE.out hbf)
  have HKF := Lib.hid (q73 hbf hk)
  have HGF := Lib.hid hgf
  have HWF := Lib.hid hwf
  have HBF := Lib.hid hbfn
  have HFQ : Hid (∀ q : Nat, q < 5 → ∃ f : Nat, (∀ w : World, w.heap[bf]? = wf.heap[bf]? → w.cell? ⟨bf, q, none⟩ = some (.func (.func f) #[.pointer (some ⟨g, 0, none⟩)] #[])) ∧ (∀ args w, (callFunc f args).run Try.prog w = .ok (.enter f args) w) ∧ ((q = 0 ∧ f = 28) ∨ (q = 1 ∧ f = 29) ∨ (q = 2 ∧ f = 30) ∨ (q = 3 ∧ f = 31) ∨ (q = 4 ∧ f = 32))) := Lib.hid (fun q hq => by
   have h5 : q = 0 ∨ q = 1 ∨ q = 2 ∨ q = 3 ∨ q = 4 := by omega
   rcases h5 with rfl | rfl | rfl | rfl | rfl
   ·exact ⟨28, fun w h => (q63 (h.trans HGF.out) 0).trans rfl, enters_of Try.func28 (by kernel_rfl) rfl, .inl ⟨rfl, rfl⟩⟩
   ·exact ⟨29, fun w h => (q63 (h.trans HGF.out) 1).trans rfl, enters_of Try.func29 (by kernel_rfl) rfl, .inr (.inl ⟨rfl, rfl⟩)⟩
   ·exact ⟨30, fun w h => (q63 (h.trans HGF.out) 2).trans rfl, enters_of Try.func30 (by kernel_rfl) rfl, .inr (.inr (.inl ⟨rfl, rfl⟩))⟩
   ·exact ⟨31, fun w h => (q63 (h.trans HGF.out) 3).trans rfl, enters_of Try.func31 (by kernel_rfl) rfl, .inr (.inr (.inr (.inl ⟨rfl, rfl⟩)))⟩
   ·exact ⟨32, fun w h => (q63 (h.trans HGF.out) 4).trans rfl, enters_of Try.func32 (by kernel_rfl) rfl, .inr (.inr (.inr (.inr ⟨rfl, rfl⟩)))⟩)
  clear hwf hbf hgf hbfn
  go_upto_block 2 with (fail)
  rw [← HWF.out, ← HBF.out]
  clear hk
  go_wp2_with fail
  go_loopg [96] 5 (fun gg s96 wr => ∃ (q : Nat) (vq : Value), s96 = .int .i64 q ∧ q ≤ 5 ∧ 5 - q ≤ gg ∧ Hid (Mr c w0 wr g vq (rulesA c n q) ∧ Go_ g (.slice none 0 0) vq wf wr))
  case atStart => exact ⟨0, _, rfl, Nat.zero_le _, by omega, Lib.hid ⟨HM.out, Go_.refl⟩⟩
  case round =>
  obtain ⟨q, vq, rfl, hq5, hqg, Z⟩ := hrel
  obtain ⟨wI, rfl⟩ : ∃ wI, wI = wr := ⟨_, rfl⟩
  clear HM
  have HM := Lib.hid Z.out.1
  have HG := Lib.hid Z.out.2
  clear Z
  have hk := HG.out.cell HKF.out hklf hbkg (by simp [Value.ownBlock])
  by_cases hlq : q < 5
  case neg =>
   obtain rfl : q = 5 := by omega
   have hlz2 : ¬ ((5 : Nat) : Int) < 5 := by omega
   have HLG : Hid (Lg c) := Lib.hid ⟨HPC.out, by rw [HCL.out, HBL.out]; exact HONS.out⟩
   have hDb := depM_le HPL.out n (by have := HNB.out; omega)
   obtain ⟨D, hDE⟩ : ∃ D, D = depM b.l n := ⟨_, rfl⟩
   rw [← hDE] at hDb HGD
   have HDL : Hid (∀ k : Nat, k < n → 0 ≤ rd (depP b.l n) (k : Int) ∧ rd (depP b.l n) (k : Int) ≤ k) := Lib.hid (depP_le HPL.out n (by have := HNB.out; omega))
   have hdll := depP_len b.l n
   obtain ⟨dl, hdlE⟩ : ∃ dl, dl = depP b.l n := ⟨_, rfl⟩
   rw [← hdlE] at HRD HDL hdll
   have HDE := Lib.hid (And.intro hDE hdlE)
   have HDLL := Lib.hid hdll
   have HCD : Hid (Kd.C (Kd.int .i64) wf Ad dl.length dl) := Lib.hid (Kd.R_reads' HRD.out).2.2
   have HAD : Hid (∀ ad, Ad = some ad → ad.block < wf.heap.size ∧ ad.block ≠ g ∧ (Value.slice none 0 0).ownBlock ≠ some ad.block) := Lib.hid (fun ad e => by
    subst e
    have h1 : wX.heap.size ≤ ad.block := Kd.R_base HRD.out ad.block (by simp [Value.ownBlock])
    have h2 : ad.block < wf.heap.size := Kd.R_lt HRD.out ad.block (by simp [Value.ownBlock])
    exact ⟨h2, fun e3 => absurd (e3 ▸ h1 : wX.heap.size ≤ g) (Nat.not_le_of_lt hgX2), by simp [Value.ownBlock]⟩)
   have HCV2 : Hid (c.vd = .slice Ad dl.length cd) := Lib.hid (by rw [HCV.out, HDLL.out])
   have hXf : wX.heap.size ≤ wf.heap.size := HKE.out.1
   have hDlf : bD < wf.heap.size := by omega
   have hcD := HG.out.cell ((q63 HGD.out 0).trans rfl : wf.cell? ⟨bD, 0, none⟩ = some (.int .i64 D)) hDlf hDg (by simp [Value.ownBlock])
   have HDF : Hid (wf.cell? ⟨bD, 0, none⟩ = some (.int .i64 D)) := Lib.hid ((q63 HGD.out 0).trans rfl)
   obtain ⟨wT, hwT⟩ : ∃ wT, wT = wI.alloc (.cells #[.int .i64 1] 3) := ⟨_, rfl⟩
   have hbT : Below wI.heap.size wI wT := by rw [hwT]; exact q57 (Below.refl _ _) _
   have hgT : wT.heap[wI.heap.size]? = some (.cells #[.int .i64 1] 3 (0, 0)) := by rw [hwT]; exact heap_alloc_new _ _
   have hwfI : wf.heap.size ≤ wI.heap.size := HG.out.1.1
   obtain ⟨b1, hb1⟩ : ∃ b1, b1 = wI.heap.size := ⟨_, rfl⟩
   rw [← hb1] at hgT
   have HB1O : Hid (vq.ownBlock ≠ some b1) := Lib.hid (fun e => by have := Kd.R_lt HM.out.2.2.2 _ e; omega)
   have HM := Lib.hid (HM.out.below hbT)
   have HG := Lib.hid (Go_.below HG.out hbT)
   have HGT := Lib.hid hgT
   have HWT := Lib.hid hwT
   have HB1 := Lib.hid hb1
   have hb1f : wf.heap.size ≤ b1 := by omega
   clear hDE hdlE hdll hwT hbT hgT hb1 hk hcD
   have HAL : Hid (∀ (k : Nat) (bt : Nat) (vt : Value) (W : World), Mr c w0 W g vt (rulesA c n 5 ++ rulesC c dl n k) → Go_ g (.slice none 0 0) vt wf W → W.cell? ⟨bt, 0, none⟩ = some (.int .i64 ((k + 1 : Nat) : Int)) → bt < W.heap.size → bt ≠ g → vt.ownBlock ≠ some bt → k < 16 → Calls Try.prog 33 #[.pointer (some ⟨g, 0, none⟩), .func (.func 34) #[] #[.pointer (some ⟨bk, 0, none⟩), .pointer (some ⟨bt, 0, none⟩)]] W fun e w' => e = .returned (.tuple #[]) ∧ ∃ v', Mr c w0 w' g v' (rulesA c n 5 ++ rulesC c dl n (k + 1)) ∧ Go_ g vt v' W w') := Lib.hid (fun k bt vt W hM hG hc hbl hbg hbo hk => by
    have he := each_c c g W 34 ⟨bk, 0, none⟩ ⟨bt, 0, none⟩ (enters_of Try.func34 (by kernel_rfl) rfl) (fun i W2 => ∃ v, Mr c w0 W2 g v (rulesA c n 5 ++ rulesC c dl n k ++ eachP (closingL c dl ((k + 1 : Nat) : Int)) i) ∧ Go_ g vt v W W2) hM.mg ⟨vt, by simpa [eachP] using hM, Go_.refl⟩ HMC.out.2.2.2.2.1 (fun i W2 hi hI => by
     obtain ⟨v, hM2, hG2⟩ := hI
     have hl1 := rulesA_len HMC.out (by rw [HCN.out]; exact hn16) 5
     have hl2 := eachP_len (closingL c dl ((k + 1 : Nat) : Int)) c.l.length 6 (fun i _ => closingL_len c dl _ i) i (by omega)
     have hl3 := rulesC_len c dl n k
     rw [HCN.out] at hl1
     have hl4 : 6 * n * k ≤ 6 * 16 * 16 := Nat.mul_le_mul (by omega) (by omega)
     have hGf := hG.then_ hG2
     refine (To1_any c w0 W2 g v _ Ad cd dl ((k + 1 : Nat) : Int) i bk bt hM2 HMC.out HCV2.out (hGf.C_int HCD.out HAD.out) (by rw [HDLL.out, HCN.out]) (by omega) hi (by rw [List.length_append, List.length_append]; have := HCN.out; omega) (fun h => ?_) (hGf.cell HKF.out hklf hbkg (by simp [Value.ownBlock])) (hG2.cell hc hbl hbg hbo)).mono ?_
     ·by_cases hi0 : i = 0
      ·subst hi0
       have h1 := HDL.out 0 (by have := HCN.out; omega)
       have h2 : rd dl ((0 : Nat) : Int) = ((k + 1 : Nat) : Int) := h
       omega
      have h1 := HPC.out i (by omega) hi
      have := HCN.out
      omega
     ·rintro e w' ⟨rfl, v', h2, h3⟩
      exact ⟨rfl, v', by simp only [eachP]; rw [← List.append_assoc]; exact h2, hG2.then_ h3⟩)
    refine he.mono ?_
    rintro e w' ⟨rfl, v', h1, h2⟩
    exact ⟨rfl, v', by simp only [rulesC]; rw [← List.append_assoc]; rw [HCN.out] at h1; exact h1, h2⟩)
   go_upto_block 4 with (fail)
   rw [← HWT.out, ← HB1.out]
   go_wp2_with fail
   go_loopg [11] n (fun gg s11 wr => ∃ (k bt : Nat) (vt : Value), s11 = .pointer (some ⟨bt, 0, none⟩) ∧ (k : Int) ≤ D ∧ n - k ≤ gg ∧ wf.heap.size ≤ bt ∧ Hid (wr.heap[bt]? = some (.cells #[.int .i64 ((k + 1 : Nat) : Int)] 3 (0, 0)) ∧ Mr c w0 wr g vt (rulesA c n 5 ++ rulesC c dl n k) ∧ Go_ g (.slice none 0 0) vt wf wr ∧ vt.ownBlock ≠ some bt))
   case atStart => exact ⟨0, b1, vq, rfl, by omega, by omega, hb1f, Lib.hid ⟨HGT.out, by rw [rulesC, List.append_nil]; exact HM.out, HG.out, HB1O.out⟩⟩
   case round =>
   obtain ⟨k, bt, vt, rfl, hkD, hkg, hbtf, Z⟩ := hrel
   obtain ⟨wI, rfl⟩ : ∃ wI, wI = wr := ⟨_, rfl⟩
   clear HM HG
   have HM := Lib.hid Z.out.2.1
   have HG := Lib.hid Z.out.2.2.1
   have HGB := Lib.hid Z.out.1
   have HBO := Lib.hid Z.out.2.2.2
   clear Z
   have hk := HG.out.cell HKF.out hklf hbkg (by simp [Value.ownBlock])
   have hcD := HG.out.cell HDF.out hDlf hDg (by simp [Value.ownBlock])
   obtain ⟨dk, hdk⟩ : ∃ dk : Int, dk = ((k + 1 : Nat) : Int) := ⟨_, rfl⟩
   rw [← hdk] at HGB
   have hcT : wI.cell? ⟨bt, 0, none⟩ = some (.int .i64 dk) := (q63 HGB.out 0).trans rfl
   have hbtl : bt < wI.heap.size := blk_lt HGB.out
   have hbtg : bt ≠ g := by omega
   have HCT2 := Lib.hid hcT
   have hkn : k ≤ n := by omega
   by_cases hcond : dk ≤ D
   case neg =>
    have HKD : Hid ((k : Int) = D) := Lib.hid (by omega)
    have HRL : Hid ((rulesA c n 5 ++ rulesC c dl n k).length ≤ 10000) := Lib.hid (by
     have hl1 := rulesA_len HMC.out (by rw [HCN.out]; exact hn16) 5
     have hl3 := rulesC_len c dl n k
     have hl4 : 6 * n * k ≤ 6 * 16 * 16 := Nat.mul_le_mul (by omega) (by omega)
     rw [HCN.out] at hl1
     rw [List.length_append]
     omega)
    obtain ⟨r0, hr0⟩ : ∃ r0, r0 = rulesA c n 5 ++ rulesC c dl n k := ⟨_, rfl⟩
    rw [← hr0] at HM HRL
    have HR0 := Lib.hid hr0
    have HDI : Hid (0 ≤ D ∧ D ≤ 1000) := Lib.hid (by omega)
    have he2 := each_c c g wI 36 ⟨bk, 0, none⟩ ⟨bD, 0, none⟩ (enters_of Try.func36 (by kernel_rfl) rfl) (fun i W2 => ∃ v, Mr c w0 W2 g v (r0 ++ eachP (turnF c (6 + D)) i) ∧ Go_ g vt v wI W2) HM.out.mg ⟨vt, by simpa [eachP] using HM.out, Go_.refl⟩ HMC.out.2.2.2.2.1 (fun i W2 hi hI => by
     obtain ⟨v, hM2, hG2⟩ := hI
     have hl2 := eachP_len (turnF c (6 + D)) c.l.length 6 (fun i _ => turnF_len c _ i) i (by omega)
     have hGf := HG.out.then_ hG2
     refine (To2_any c w0 W2 g v _ D i bk bD hM2 HMC.out (fun h => by have h1 := HPC.out i (by omega) hi; have := HCN.out; omega) hi (by rw [List.length_append]; have := HRL.out; have := HCN.out; omega) HDI.out (hGf.cell HKF.out hklf hbkg (by simp [Value.ownBlock])) (hGf.cell HDF.out hDlf hDg (by simp [Value.ownBlock]))).mono ?_
     rintro e w' ⟨rfl, v', h2, h3⟩
     exact ⟨rfl, v', by simp only [eachP]; rw [← List.append_assoc]; exact h2, hG2.then_ h3⟩)
    clear hr0
    go_wp2_with fail
    refine he2.mono ?_
    rintro e wU ⟨rfl, v5, h1, h2⟩
    rw [HCN.out] at h1
    have HM := Lib.hid h1
    have HG := Lib.hid (HG.out.then_ h2)
    clear h1 h2 he2 hk hcD hcT
    have hk := HG.out.cell HKF.out hklf hbkg (by simp [Value.ownBlock])
    have hlt5 : (eachP (turnF c (6 + D)) n).length ≤ 100 := by have := eachP_len (turnF c (6 + D)) n 6 (fun i _ => turnF_len c _ i) n (Nat.le_refl _); omega
    obtain ⟨r1, hr1⟩ : ∃ r1, r1 = r0 ++ eachP (turnF c (6 + D)) n := ⟨_, rfl⟩
    have HRL : Hid (r1.length ≤ 11000) := Lib.hid (by rw [hr1, List.length_append]; have := HRL.out; omega)
    rw [← hr1] at HM
    have HR1 := Lib.hid hr1
    have he3 := each_c c g wU 38 ⟨bk, 0, none⟩ ⟨bD, 0, none⟩ (enters_of Try.func38 (by kernel_rfl) rfl) (fun i W2 => ∃ v, Mr c w0 W2 g v (r1 ++ eachP (markF c (6 + D)) i) ∧ Go_ g v5 v wU W2) HM.out.mg ⟨v5, by simpa [eachP] using HM.out, Go_.refl⟩ HMC.out.2.2.2.2.1 (fun i W2 hi hI => by
     obtain ⟨v, hM2, hG2⟩ := hI
     have hl2 := eachP_len (markF c (6 + D)) c.l.length 36 (fun i hi => markF_len HMC.out _ i hi) i (by omega)
     have hGf := HG.out.then_ hG2
     refine (To3_any c w0 W2 g v _ D i bk bD hM2 HMC.out HLG.out hi (by rw [List.length_append]; have := HRL.out; have := HCN.out; omega) HDI.out (hGf.cell HKF.out hklf hbkg (by simp [Value.ownBlock])) (hGf.cell HDF.out hDlf hDg (by simp [Value.ownBlock]))).mono ?_
     rintro e w' ⟨rfl, v', h2, h3⟩
     exact ⟨rfl, v', by simp only [eachP]; rw [← List.append_assoc]; exact h2, hG2.then_ h3⟩)
    clear hr1
    go_wp2_with fail
    refine he3.mono ?_
    rintro e wV ⟨rfl, v6, h1, h2⟩
    rw [HCN.out] at h1
    have HM := Lib.hid h1
    have HG := Lib.hid (HG.out.then_ h2)
    clear h1 h2 he3 hk
    have hk := HG.out.cell HKF.out hklf hbkg (by simp [Value.ownBlock])
    obtain ⟨r2, hr2⟩ : ∃ r2, r2 = r1 ++ eachP (markF c (6 + D)) n := ⟨_, rfl⟩
    rw [← hr2] at HM
    have HR2 := Lib.hid hr2
    have HMU : Hid (Mu c w0 wV g v6 (.slice none 0 0) (.slice none 0 0) r2 [] []) := Lib.hid ⟨HM.out.1, HM.out.2.1, HM.out.2.2.1, Kd.R_mono HM.out.2.2.2 (fun k _ => ⟨by simp [Value.ownBlock], by simp [Value.ownBlock]⟩), Kd.R_nil _ _ _ _ _, Kd.R_nil _ _ _ _ _⟩
    have he4 := each_m c g wV 40 (enters_of Try.func40 (by kernel_rfl) rfl) (fun i W2 => ∃ vc vu, Mu c w0 W2 g v6 vc vu r2 (cntP c i) (usrP c i) ∧ G2 g (.slice none 0 0) vc (.slice none 0 0) vu wV W2) HMU.out.mg ⟨_, _, HMU.out, G2.refl⟩ HMC.out.2.2.2.2.1 (fun i W2 hi hI => by
     obtain ⟨vc, vu, hM2, hG2⟩ := hI
     have hl2 := cntP_len c i
     have hl3 := usrP_len c i
     refine (without_any c w0 W2 g v6 vc vu r2 (cntP c i) (usrP c i) i hM2 HMC.out hi (by have := HCN.out; omega) (by have := HCN.out; omega)).mono ?_
     rintro e w' ⟨rfl, vc', vu', h2, h3⟩
     exact ⟨rfl, vc', vu', h2, hG2.then_ h3⟩)
    clear hr2 HM
    go_wp2_with fail
    refine he4.mono ?_
    rintro e wY ⟨rfl, vc, vu, h1, h2⟩
    rw [HCN.out] at h1
    have HM := Lib.hid h1
    have HG2 := Lib.hid h2
    clear h1 h2 he4
    have hK5 : Kept w5 wY (fun k => k = g) := ((Kept.weak (S' := fun k => k = g) HGO.out.1 (fun k _ h => h.elim id (fun h => by simp [Value.ownBlock] at h))).then_ HKE.out (fun j h => h.elim .inl (fun h => .inr (by omega)))).then_ (HG.out.1.then_ HG2.out.1 (fun j h => .inl (h.elim .inl (fun h => h.elim (fun h => by simp [Value.ownBlock] at h) (fun h => by simp [Value.ownBlock] at h))))) (fun j h => h.elim .inl (fun h => by simp [Value.ownBlock] at h))
    have hKQ : Kept wQ wY (fun k => k = g) := ((Kept.weak (S' := fun k => k = g) HGP.out.1 (fun k _ h => h.elim id (fun h => by simp [Value.ownBlock] at h))).then_ HKE.out (fun j h => h.elim .inl (fun h => .inr (by omega)))).then_ (HG.out.1.then_ HG2.out.1 (fun j h => .inl (h.elim .inl (fun h => h.elim (fun h => by simp [Value.ownBlock] at h) (fun h => by simp [Value.ownBlock] at h))))) (fun j h => h.elim .inl (fun h => by simp [Value.ownBlock] at h))
    have hw2s : w2.heap.size ≤ w0.heap.size := HB0.out.size
    have hP5 := q62 (q62 HG2P.out HB0.out) HB5.out
    have hPY := (hK5.2 bP (by omega) (by show ¬ bP = g; omega)).trans hP5
    have hkY := kept_cell hK5 HMK.out.2.2 hbkg
    have hv4 : c.v4 = .slice (some ⟨oF, 0, none⟩) 1 1 := by rw [HCE.out]; exact HVW.out.1
    have hv5 : c.v5 = .slice (some ⟨oO, 0, none⟩) 2 2 := by rw [HCE.out]; exact HVW.out.2.1
    have hv7 : c.v7 = .slice AV nf cV := by rw [HCE.out]; exact HVW.out.2.2.1
    have hv11 : c.v11 = .slice AN n cN := by rw [HCE.out]; exact HVW.out.2.2.2
    obtain ⟨Ar, cr, rfl⟩ := Kd.R_slice HM.out.2.2.2.1
    obtain ⟨Ac, cc, rfl⟩ := Kd.R_slice HM.out.2.2.2.2.1
    obtain ⟨Au, cu, rfl⟩ := Kd.R_slice HM.out.2.2.2.2.2
    obtain ⟨lr, hlr⟩ : ∃ lr, lr = r2.length := ⟨_, rfl⟩
    obtain ⟨lc, hlc⟩ : ∃ lc, lc = (cntP c n).length := ⟨_, rfl⟩
    obtain ⟨lu, hlu⟩ : ∃ lu, lu = (usrP c n).length := ⟨_, rfl⟩
    rw [← hlr, ← hlc, ← hlu] at HM
    have hc2 : wY.cell? ⟨g, 2, none⟩ = some (.int .i64 c.fl) := by exact (q63 HM.out.2.2.1 2).trans rfl
    have hc3 : wY.cell? ⟨g, 3, none⟩ = some (.int .i64 c.la) := by exact (q63 HM.out.2.2.1 3).trans rfl
    have hc4 : wY.cell? ⟨g, 4, none⟩ = some (.slice (some ⟨oF, 0, none⟩) 1 1) := by rw [← hv4]; exact (q63 HM.out.2.2.1 4).trans rfl
    have hc5 : wY.cell? ⟨g, 5, none⟩ = some (.slice (some ⟨oO, 0, none⟩) 2 2) := by rw [← hv5]; exact (q63 HM.out.2.2.1 5).trans rfl
    have hc6 : wY.cell? ⟨g, 6, none⟩ = some (.int .i64 6) := by exact (q63 HM.out.2.2.1 6).trans rfl
    have hc7 : wY.cell? ⟨g, 7, none⟩ = some (.slice AV nf cV) := by rw [← hv7]; exact (q63 HM.out.2.2.1 7).trans rfl
    have hc8 : wY.cell? ⟨g, 8, none⟩ = some (.slice Ar lr cr) := by exact (q63 HM.out.2.2.1 8).trans rfl
    have hc9 : wY.cell? ⟨g, 9, none⟩ = some (.slice Ac lc cc) := by exact (q63 HM.out.2.2.1 9).trans rfl
    have hc10 : wY.cell? ⟨g, 10, none⟩ = some (.slice Au lu cu) := by exact (q63 HM.out.2.2.1 10).trans rfl
    have hc11 : wY.cell? ⟨g, 11, none⟩ = some (.slice AN n cN) := by rw [← hv11]; exact (q63 HM.out.2.2.1 11).trans rfl
    have hz0 : wY.cell? ⟨bP, 0, none⟩ = some (.int .i64 0) := (q63 hPY 0).trans rfl
    have hq0 := q67 hPY 0
    have hz1 : wY.cell? ⟨bP, 1, none⟩ = some (.int .i64 0) := (q63 hPY 1).trans rfl
    have hq1 := q67 hPY 1
    have hz2 : wY.cell? ⟨bP, 2, none⟩ = some (.slice none 0 0) := (q63 hPY 2).trans rfl
    have hq2 := q67 hPY 2
    have hz3 : wY.cell? ⟨bP, 3, none⟩ = some (.slice none 0 0) := (q63 hPY 3).trans rfl
    have hq3 := q67 hPY 3
    have hz4 : wY.cell? ⟨bP, 4, none⟩ = some (.int .i64 0) := (q63 hPY 4).trans rfl
    have hq4 := q67 hPY 4
    have hz5 : wY.cell? ⟨bP, 5, none⟩ = some (.slice none 0 0) := (q63 hPY 5).trans rfl
    have hq5 := q67 hPY 5
    have hz6 : wY.cell? ⟨bP, 6, none⟩ = some (.slice none 0 0) := (q63 hPY 6).trans rfl
    have hq6 := q67 hPY 6
    have hz7 : wY.cell? ⟨bP, 7, none⟩ = some (.slice none 0 0) := (q63 hPY 7).trans rfl
    have hq7 := q67 hPY 7
    have hz8 : wY.cell? ⟨bP, 8, none⟩ = some (.slice none 0 0) := (q63 hPY 8).trans rfl
    have hq8 := q67 hPY 8
    have hz9 : wY.cell? ⟨bP, 9, none⟩ = some (.slice none 0 0) := (q63 hPY 9).trans rfl
    have hq9 := q67 hPY 9
    have hb0w : Below w.heap.size w w0 := q60 HB2.out HB2.out.size HB0.out
    have hbY : Below w.heap.size w wY := q60 hb0w hb0w.size HM.out.1
    have hwP : w.heap.size ≤ bP := by have := HBPM.out.1; omega
    obtain ⟨wZ, hwZ⟩ : ∃ wZ, wZ = ((((((((((wY.setCell ⟨bP, 0, none⟩ (.int .i64 c.fl)).setCell ⟨bP, 1, none⟩ (.int .i64 c.la)).setCell ⟨bP, 2, none⟩ (.slice (some ⟨oF, 0, none⟩) 1 1)).setCell ⟨bP, 3, none⟩ (.slice (some ⟨oO, 0, none⟩) 2 2)).setCell ⟨bP, 4, none⟩ (.int .i64 6)).setCell ⟨bP, 5, none⟩ (.slice AV nf cV)).setCell ⟨bP, 6, none⟩ (.slice Ar lr cr)).setCell ⟨bP, 7, none⟩ (.slice Ac lc cc)).setCell ⟨bP, 8, none⟩ (.slice Au lu cu)).setCell ⟨bP, 9, none⟩ (.slice AN n cN)) := ⟨_, rfl⟩
    have hfp := fill_prog (u0 := .int .i64 c.fl) (u1 := .int .i64 c.la) (u2 := .slice (some ⟨oF, 0, none⟩) 1 1) (u3 := .slice (some ⟨oO, 0, none⟩) 2 2) (u4 := .int .i64 6) (u5 := .slice AV nf cV) (u6 := .slice Ar lr cr) (u7 := .slice Ac lc cc) (u8 := .slice Au lu cu) (u9 := .slice AN n cN) hPY hbY hwP
    rw [← hwZ] at hfp
    have HFP := Lib.hid hfp
    have HWZ := Lib.hid hwZ
    have HKQ := Lib.hid hKQ
    have hwg5 : w.heap.size ≤ g := Nat.le_trans hb0w.size hwg
    have hw55 : w.heap.size ≤ w5.heap.size := Nat.le_trans hb0w.size HB5.out.size
    have HLL := Lib.hid (And.intro hlr (And.intro hlc hlu))
    have HVV := Lib.hid (And.intro hv4 (And.intro hv5 (And.intro hv7 hv11)))
    clear hK5 hP5 hb0w hbY hfp hwZ hKQ hv4 hv5 hv7 hv11 hlr hlc hlu
    go_wp2
    rw [← show wZ = _ from HWZ.out]
    have HBLK := HFP.out.1
    refine bodyPost_ret (results_ct rfl _ _ bP 32 #[.int .i64 c.fl, .int .i64 c.la, .slice (some ⟨oF, 0, none⟩) 1 1, .slice (some ⟨oO, 0, none⟩) 2 2, .int .i64 6, .slice AV nf cV, .slice Ar lr cr, .slice Ac lc cc, .slice Au lu cu, .slice AN n cN] (0, 0) _ rfl HBLK Try.underlying32 rfl (by kernel_rfl)) rfl ?_
    have hkZ : Kept wY wZ (fun k => k = bP) := HFP.out.2.1
    have hQZ : ∀ {α : Type} {d : Kd α} {e : Nat} {v : Value} {xs : List α}, d.R e wQ w5.heap.size (fun _ => True) v xs → d.R e wZ w.heap.size (fun _ => True) v xs := fun {α d e v xs} h =>
     Kd.R_lower (Kd.R_mono (Kd.R_keptB (Kd.R_mono (Kd.R_keptB (Kd.R_mono (ok' := fun k => w5.heap.size ≤ k) (Kd.R_bound h) (fun k hk => hk.2.1)) HKQ.out (fun k hk e => by omega)) (fun k hk => hk.1)) hkZ (fun k hk e => by omega)) (fun _ _ => trivial)) hw55
    have hYZ : ∀ {α : Type} {d : Kd α} {e : Nat} {v : Value} {xs : List α} {ok : Nat → Prop}, d.R e wY (g + 1) ok v xs → d.R e wZ w.heap.size (fun _ => True) v xs := fun {α d e v xs ok} h =>
     Kd.R_lower (Kd.R_mono (Kd.R_keptB (Kd.R_mono (ok' := fun k => g + 1 ≤ k) (Kd.R_bound h) (fun k hk => hk.2.1)) hkZ (fun k hk e => by omega)) (fun _ _ => trivial)) (by omega)
    refine ⟨_, _, _, _, _, _, _, c, rfl, HCL.out.trans HBL.out, ?_, ?_, hQZ HXQ.out.1, hQZ HXQ.out.2.1, hQZ HXQ.out.2.2.1, hQZ HXQ.out.2.2.2, ?_, ?_, ?_, HFP.out.2.2⟩
    ·rw [HCE.out]
     show la = _
     rw [HLA.out, HBL.out, HN.out]
    ·rw [HCE.out]
     show fl = la + _ + _
     rw [HFL.out, HBL.out, HN.out]
    ·have e : r2 = rulesOf c l.length (depM l l.length).toNat (depM l l.length) := by
      rw [HR2.out, HR1.out, HR0.out, rulesOf, ← HN.out, HDE.out.2, HCL.out, HBL.out]
      rw [HBL.out] at HDE
      have e2 : (depM l n).toNat = k := by rw [← HDE.out.1]; have := HKD.out; omega
      rw [e2, ← HDE.out.1]
     rw [← e]
     exact hYZ HM.out.2.2.2.1
    ·rw [← HN.out]
     exact hYZ HM.out.2.2.2.2.1
    ·rw [← HN.out]
     exact hYZ HM.out.2.2.2.2.2
   have hp := HAL.out k bt vt wI HM.out HG.out (by rw [← hdk]; exact hcT) hbtl hbtg HBO.out (by omega)
   have HDK := Lib.hid hdk
   clear hdk
   go_wp2_with fail
   refine hp.mono ?_
   rintro e wN ⟨rfl, v', h1, h2⟩
   have HM := Lib.hid h1
   have HG2 := Lib.hid h2
   have hcT := h2.cell HCT2.out hbtl hbtg HBO.out
   clear hk hcD h1 h2 hp
   have hwr : wrap64 (dk + 1) = dk + 1 := by have := HDK.out; unfold wrap64; omega
   have HF : Hid (∀ u : Int, u = ((k + 1 + 1 : Nat) : Int) → (wN.alloc (.cells #[.int .i64 u] 3)).heap[wN.heap.size]? = some (.cells #[.int .i64 ((k + 1 + 1 : Nat) : Int)] 3 (0, 0)) ∧ Mr c w0 (wN.alloc (.cells #[.int .i64 u] 3)) g v' (rulesA c n 5 ++ rulesC c dl n (k + 1)) ∧ Go_ g (.slice none 0 0) v' wf (wN.alloc (.cells #[.int .i64 u] 3)) ∧ v'.ownBlock ≠ some wN.heap.size) := Lib.hid (fun u hu => by
    have hb := q57 (Below.refl wN.heap.size wN) (.cells #[.int .i64 u] 3)
    exact ⟨by rw [← hu]; exact heap_alloc_new _ _, HM.out.below hb, Go_.below (HG.out.then_ HG2.out) hb, fun e => by have := Kd.R_lt HM.out.2.2.2 _ e; omega⟩)
   have hfN : wf.heap.size ≤ wN.heap.size := (HG.out.then_ HG2.out).1.1
   clear HM HG HG2
   go_wp2
   go_roundg (n - (k + 1))
   case measure => have := HDK.out; omega
   case rel => exact ⟨k + 1, wN.heap.size, v', by go_num, by have := HDK.out; omega, Nat.le_refl _, hfN, Lib.hid (HF.out _ (by have := HDK.out; omega))⟩
  have hlz2 : (q : Int) < 5 := by omega
  obtain ⟨f, hfc, eg, hf⟩ := HFQ.out q hlq
  have hy := hfc wI (HG.out.1.2 bf hbfl (fun h => h.elim hbfg (fun h => by simp [Value.ownBlock] at h)))
  have he := each_m c g wI f eg (fun i W => ∃ v, Mr c w0 W g v (rulesA c n q ++ eachP (fnL c q) i) ∧ Go_ g vq v wI W) HM.out.mg ⟨vq, by simpa [eachP] using HM.out, Go_.refl⟩ HMC.out.2.2.2.2.1 (fun i W hi hI => by
   obtain ⟨v, hM, hG⟩ := hI
   have hl1 := rulesA_len HMC.out (by rw [HCN.out]; exact hn16) q
   have hl2 := eachP_len (fnL c q) c.l.length 100 (fun i hi => fnL_len HMC.out (by rw [HCN.out]; exact hn16) q i hi) i (by omega)
   rw [HCN.out] at hl1
   refine (fn_any c w0 W g v _ q i f hM HMC.out hi (by rw [List.length_append]; have := HCN.out; omega) (fun h => by have h1 := HPC.out i (by omega) hi; have := HCN.out; omega) hf).mono ?_
   rintro e w' ⟨rfl, v', h2, h3⟩
   exact ⟨rfl, v', by simp only [eachP]; rw [← List.append_assoc]; exact h2, hG.then_ h3⟩)
  clear hfc eg hf
  go_wp2_with fail
  refine he.mono ?_
  rintro e wN ⟨rfl, v', h1, h2⟩
  have HF : Hid (Mr c w0 wN g v' (rulesA c n (q + 1)) ∧ Go_ g (.slice none 0 0) v' wf wN) := Lib.hid ⟨by simp only [rulesA]; rw [HCN.out] at h1; exact h1, HG.out.then_ h2⟩
  clear h1 h2 he hy hk HM
  go_wp2
  go_roundg (5 - (q + 1))
  case measure => omega
  case rel => exact ⟨q + 1, v', by go_num, by omega, Nat.le_refl _, HF⟩
 have hlz : (i : Int) < (n : Int) := by omega
 obtain ⟨dv, hdv⟩ : ∃ dv, dv = depV b.l i (depP b.l i) := ⟨_, rfl⟩
 have hdb := depV_le HPL.out i (by have := HNB.out; omega)
 rw [← hdv] at hdb
 have HDP : Hid (depP b.l (i + 1) = depP b.l i ++ [dv]) := Lib.hid (by simp only [depP]; rw [hdv])
 have HDM : Hid (depM b.l (i + 1) = max (depM b.l i) dv) := Lib.hid (by simp only [depM]; rw [hdv])
 have hmb := depM_le HPL.out i (by have := HNB.out; omega)
 obtain ⟨dm, hdm⟩ : ∃ dm, dm = depM b.l i := ⟨_, rfl⟩
 rw [← hdm] at hmb HDM HGD
 have hc12 : wO.cell? ⟨g, 12, none⟩ = some (.slice Ad i cd) := (q63 HM.out.2.2.1 12).trans rfl
 have HDV := Lib.hid hdv
 have hlen9 := depP_len b.l i
 obtain ⟨dl, hdl⟩ : ∃ dl, dl = depP b.l i := ⟨_, rfl⟩
 rw [← hdl] at HDP HRD HDV hlen9
 have HDB : Hid (∀ k : Nat, k < i → 0 ≤ rd dl (k : Int) ∧ rd dl (k : Int) ≤ k) := Lib.hid (by rw [hdl]; exact depP_le HPL.out i (by have := HNB.out; omega))
 have HL9 := Lib.hid hlen9
 have HC12 := Lib.hid hc12
 have HK0 := Lib.hid hk
 clear hdv hdm hdl hlen9
 go_upto_if 59 with (fail)
 go_cut [8] (fun s8 wc => s8 = .int .i64 dv ∧ Hid (Below wO.heap.size wO wc))
 case first =>
  by_cases hi0 : (i : Int) > 0
  case neg =>
   have HD0 : Hid (dv = 0) := Lib.hid (by rw [HDV.out, depV, if_neg hi0])
   clear hk hc12
   go_wp2
   go_meet
   case rel => exact ⟨by rw [HD0.out], Lib.hid (Below.refl _ _)⟩
  obtain ⟨p, hp⟩ : ∃ p, p = parI b.l i := ⟨_, rfl⟩
  have hpb := HPL.out i (by omega) (by have := HNB.out; omega)
  rw [← hp] at hpb
  obtain ⟨hp0, hp1⟩ := hpb
  obtain ⟨adp, e, y0⟩ := Kd.at_int (Kd.R_reads' HRD.out).2.2 p hp0 (by have := HL9.out; omega)
  subst e
  have hpt := HDB.out p.toNat (by omega)
  rw [Int.toNat_of_nonneg hp0] at hpt
  have HD1 : Hid (dv = rd dl p + 1) := Lib.hid (by rw [HDV.out, depV, if_pos hi0, hp])
  obtain ⟨pv, hpv⟩ : ∃ pv, pv = rd dl p := ⟨_, rfl⟩
  rw [← hpv] at y0 HD1 hpt
  have hwr : wrap64 (pv + 1) = pv + 1 := by unfold wrap64; omega
  have HPA : Hid (∀ W, Below wO.heap.size wO W → Calls Try.prog 27 #[.pointer (some ⟨g, 0, none⟩), .int .i64 i] W fun e w' => e = .returned (.int .i64 p) ∧ Below W.heap.size W w') := Lib.hid (fun W hb => by
   rw [hp]
   exact parent_any (mcf b fl la (.slice (some adp) i cd)) w0 W g i (HM.out.below hb).mg (HMB.out fl la _ hlab) (HM.out.below hb).1 (by show i < b.l.length; have := HNB.out; omega))
  clear hpv hp
  go_wp2_with fail
  have hS : (((wO.drew).cell? ⟨bk, 0, none⟩ = some (.pointer (some ⟨g, 0, none⟩))) ∧ ((wO.drew).cell? ⟨g, 12, none⟩ = some (.slice (some adp) i cd)) ∧ ((wO.drew).cell? (adp.add p.toNat) = some (.int .i64 pv))) ∧ Below wO.heap.size wO wO.drew := ⟨⟨hk, hc12, y0⟩, q58 (Below.refl _ _)⟩
  refine sD_ [] (fun w' => ((w'.cell? ⟨bk, 0, none⟩ = some (.pointer (some ⟨g, 0, none⟩))) ∧ (w'.cell? ⟨g, 12, none⟩ = some (.slice (some adp) i cd)) ∧ (w'.cell? (adp.add p.toNat) = some (.int .i64 pv))) ∧ Below wO.heap.size wO w') 11 hS (fun hHeld => ?_)
  clear hS
  obtain ⟨wD, hwD⟩ : ∃ wD, wD = wO.drew := ⟨_, rfl⟩
  rw [← hwD] at hHeld ⊢
  clear hwD
  refine tc_ 0 (some 60) hHeld ?_
  refine tc_ 4 (some 64) hHeld ?_
  refine pu_ 1 (some 61) ?_
  refine pu_ 2 (some 62) ?_
  refine pu_ 5 (some 65) ?_
  refine tc_ 3 (some 63) hHeld ?_
  refine ca_ 6 (some 66) Try.func27 #[.pointer (some ⟨g, 0, none⟩), .int .i64 i] ?_
  refine (HPA.out wD hHeld.2).mono ?_
  rintro e d115_ ⟨rfl, hb⟩
  refine ⟨_, rfl, (kp3 hHeld hb), fun hHeld => ⟨_, rfl, nz_ (some 66) ?_⟩⟩
  clear hb
  refine pu_ 7 (some 67) ?_
  refine tc_ 8 (some 68) hHeld ?_
  refine pu_ 9 (some 69) ?_
  refine pu_ 10 (some 8) ?_
  refine dn_ ?_
  have HH := Lib.hid hHeld.2
  clear hHeld hk hc12 y0
  go_wp2
  go_meet
  case rel => exact ⟨by first | rw [HD1.out] | rw [HD1.out, hwr], HH⟩
 case rest =>
 obtain ⟨rfl, X⟩ := hcut
 obtain ⟨wC, rfl⟩ : ∃ wC, wC = wc := ⟨_, rfl⟩
 have hk := q73 X.out hk
 have hc12 := q73 X.out hc12
 have HM := Lib.hid (HM.out.below X.out)
 have HRD := Lib.hid (Kd.R_below HRD.out X.out)
 have HGD := Lib.hid (q62 HGD.out X.out)
 have HKE := Lib.hid (Kept.below HKE.out X.out)
 clear X
 go_wp2_with fail
 have hS : wC.drew.cell? ⟨bk, 0, none⟩ = some (.pointer (some ⟨g, 0, none⟩)) ∧ wC.drew.cell? ⟨g, 12, none⟩ = some (.slice Ad i cd) := ⟨hk, hc12⟩
 refine sD_ [10] (fun w' => w'.cell? ⟨bk, 0, none⟩ = some (.pointer (some ⟨g, 0, none⟩)) ∧ w'.cell? ⟨g, 12, none⟩ = some (.slice Ad i cd)) 11 hS (fun hHeld => ?_)
 clear hS
 obtain ⟨wD, hwD⟩ : ∃ wD, wD = wC.drew := ⟨_, rfl⟩
 have hb : Below wC.heap.size wC wD := by rw [hwD]; exact q58 (Below.refl _ _)
 rw [← hwD] at hHeld ⊢
 have HM := Lib.hid (HM.out.below hb)
 have HRD := Lib.hid (Kd.R_below HRD.out hb)
 have HGD := Lib.hid (q62 HGD.out hb)
 have HKE := Lib.hid (Kept.below HKE.out hb)
 clear hwD hb hk hc12
 refine tk_ 0 (some 70) hHeld ?_ (hy := by rintro w' ⟨s0, s1⟩; go_simp; with_reducible rfl)
 refine tk_ 1 (some 71) hHeld ?_ (hy := by rintro w' ⟨s0, s1⟩; go_simp; with_reducible rfl)
 refine pu_ 2 (some 72) ?_
 refine pu_ 3 (some 73) ?_
 refine tk_ 4 (some 74) hHeld ?_ (hy := by rintro w' ⟨s0, s1⟩; go_simp; with_reducible rfl)
 refine pu_ 5 (some 75) ?_
 refine oN_ 6 (some 76) (fun K hK => ?_)
 go_simp
 have hbz : Below wD.heap.size wD (wD.alloc (.cells #[.int .i64 dv] 3)) := q57 (Below.refl _ _) _
 refine hK.out _ _ ⟨q73 hbz hHeld.1, q73 hbz hHeld.2⟩ (fun _ => ?_)
 clear hK K hbz
 have HHC := Lib.hid hHeld
 have howD : ∀ kk, (Value.slice Ad i cd).ownBlock = some kk → wX.heap.size ≤ kk := Kd.R_base HRD.out
 have hwXD : wX.heap.size ≤ wD.heap.size := HKE.out.1
 have HOWD := Lib.hid howD
 have HLM : Hid ((dl.length + 1) * 8 ≤ 140737488355328) := Lib.hid (by have := HL9.out; omega)
 clear hHeld howD
 refine oN_ 7 (some 77) (fun K hK => ?_)
 refine Kd.R_append_step (Kd.int .i64) (w0 := wD) wX.heap.size rfl (.tmp 74) (.tmp 76) 27 3 (.int .i64 0) 8 rfl Try.underlying27 info3 rfl (by decide) (by omega) (.slice Ad i cd) dl dv [.int .i64 dv] (fun _ => True) (fun _ => False) rfl rfl rfl (fun _ h => h.elim) (fun _ _ => trivial) HRD.out (Below.refl _ _) hwXD HLM.out ?_
 intro v1 wE hR1 hB1 hgr hat
 have hkl : bk < wX.heap.size := by omega
 have hcE : wE.cell? ⟨g, 12, none⟩ = some (.slice Ad i cd) := grown_cell hgr HHC.out.2 (fun e => by have := HOWD.out _ e; simp only at this; omega)
 have hcK : wE.cell? ⟨bk, 0, none⟩ = some (.pointer (some ⟨g, 0, none⟩)) := grown_cell hgr HHC.out.1 (fun e => by have := HOWD.out _ e; simp only at this; omega)
 refine hK.out _ _ ⟨hcK, hcE⟩ (fun _ => ?_)
 clear hK K
 have hgE := (hgr.block g (by omega) (fun e => by have := HOWD.out _ e.symm; omega)).trans HM.out.2.2.1
 have hDE := (hgr.block bD (by omega) (fun e => by have := HOWD.out _ e.symm; omega)).trans HGD.out
 have hKE := Kept.of_grown hgr HKE.out (fun kk ek => .inr (HOWD.out kk ek))
 have hb0E : Below w0.heap.size w0 wE := HM.out.1.grown hgr HM.out.1.size (fun kk ek => by have := HOWD.out kk ek; omega)
 obtain ⟨A9, c9, rfl⟩ := Kd.R_slice hR1
 rw [List.length_append, List.length_singleton, HL9.out] at hR1 ⊢
 have hfE := q67 hgE 12
 have hME : Mr (mcf b fl la (.slice Ad i cd)) w0 wE g (.slice none 0 0) [] := ⟨hb0E, hwg, hgE, Kd.R_nil _ _ _ _ _⟩
 have hMF : Mr (mcf b fl la (.slice A9 (i + 1) c9)) w0 (wE.setCell ⟨g, 12, none⟩ (.slice A9 (i + 1) c9)) g (.slice none 0 0) [] := hME.put 12 _ rfl
 have hKF : Kept wX (wE.setCell ⟨g, 12, none⟩ (.slice A9 (i + 1) c9)) (fun k => k = g ∨ k = bD) := hKE.setCell (p := ⟨g, 12, none⟩) (.inl (.inl rfl)) _
 have hDF : (wE.setCell ⟨g, 12, none⟩ (.slice A9 (i + 1) c9)).heap[bD]? = some (.cells #[.int .i64 dm] 3 (0, 0)) := q66 hDE (p := ⟨g, 12, none⟩) hDg _
 have hRF : Kd.R (Kd.int .i64) 3 (wE.setCell ⟨g, 12, none⟩ (.slice A9 (i + 1) c9)) wX.heap.size (fun _ => True) (.slice A9 (i + 1) c9) (dl ++ [dv]) := Kd.R_mono (Kd.R_far (Kd.R_bound hR1) (fun k hk => by have := hk.2.1; show k ≠ g; omega) _) (fun _ _ => trivial)
 have HME := Lib.hid (And.intro hMF (And.intro hKF (And.intro hDF hRF)))
 clear hgr hat hB1 hgE hDE hKE hb0E hME hMF hKF hDF hRF hR1 hcK HRD HGD HKE HM
 refine pu_ 8 (some 78) ?_
 refine pu_ 9 (some 79) ?_
 refine lA_ 10 none (fun K hK => ?_)
 go_simp
 refine hK.out _ _ ?_
 clear hK K hcE hfE
 refine dn_ ?_
 obtain ⟨wF, hwF⟩ : ∃ wF, wF = wE.setCell ⟨g, 12, none⟩ (.slice A9 (i + 1) c9) := ⟨_, rfl⟩
 rw [← hwF] at HME ⊢
 clear hwF
 have hzD : wF.cell? ⟨bD, 0, none⟩ = some (.int .i64 dm) := (q63 HME.out.2.2.1 0).trans rfl
 have hqD := q67 HME.out.2.2.1 0
 have HFIN : Hid (∀ u : Int, u = max dm dv → Mr (mcf b fl la (.slice A9 (i + 1) c9)) w0 (wF.setCell ⟨bD, 0, none⟩ (.int .i64 u)) g (.slice none 0 0) [] ∧ Kd.R (Kd.int .i64) 3 (wF.setCell ⟨bD, 0, none⟩ (.int .i64 u)) wX.heap.size (fun _ => True) (.slice A9 (i + 1) c9) (depP b.l (i + 1)) ∧ (wF.setCell ⟨bD, 0, none⟩ (.int .i64 u)).heap[bD]? = some (.cells #[.int .i64 (depM b.l (i + 1))] 3 (0, 0)) ∧ Kept wX (wF.setCell ⟨bD, 0, none⟩ (.int .i64 u)) (fun k => k = g ∨ k = bD)) := Lib.hid (fun u hu => by
  refine ⟨⟨HME.out.1.1.setCell (by show w0.heap.size ≤ bD; omega) _, hwg, q66 HME.out.1.2.2.1 (p := ⟨bD, 0, none⟩) (fun e => hDg e.symm) _, Kd.R_nil _ _ _ _ _⟩, ?_, ?_, HME.out.2.1.setCell (p := ⟨bD, 0, none⟩) (.inl (.inr rfl)) _⟩
  ·rw [HDP.out]
   exact Kd.R_mono (Kd.R_far (Kd.R_bound HME.out.2.2.2) (fun k hk => by have := hk.2.1; show k ≠ bD; omega) _) (fun _ _ => trivial)
  ·rw [HDM.out, ← hu]
   exact q68 HME.out.2.2.1 0 _ rfl)
 clear HME
 go_wp2
 case inl h =>
  go_roundg (n - (i + 1))
  case measure => omega
  case rel => exact ⟨i + 1, A9, c9, by go_num, by omega, Nat.le_refl _, Lib.hid (HFIN.out dv (by omega))⟩
 case inr h =>
  go_roundg (n - (i + 1))
  case measure => omega
  case rel => exact ⟨i + 1, A9, c9, by go_num, by omega, Nat.le_refl _, Lib.hid (HFIN.out dm (by omega))⟩
theorem sents_facts (fs : List ByteArray) (items : List (S41)) (ss : List (S45)) (h : sentsB fs items ss = true) : ss.length ≤ 3 ∧ ∀ s ∈ ss, (s.f0.length ≤ 3 ∧ s.f1.length ≤ 2) ∧ ∀ o ∈ s.f0, 0 ≤ q74 items o.f0 := by
 unfold sentsB at h
 rw [Bool.and_eq_true, decide_eq_true_eq, Bool.not_eq_true', List.any_eq_false] at h
 refine ⟨h.1, fun s hs => ?_⟩
 have h2 := h.2 s hs
 rw [Bool.not_eq_true, Bool.not_eq_false'] at h2
 unfold sentryB at h2
 rw [Bool.and_eq_true, decide_eq_true_eq, Bool.and_eq_true, List.all_eq_true] at h2
 obtain ⟨⟨a, b, -⟩, c, -⟩ := h2
 refine ⟨⟨a, b⟩, fun x hx => ?_⟩
 obtain ⟨i, hi, rfl⟩ := List.getElem_of_mem hx
 have := c i (List.mem_range.2 hi)
 unfold onOk at this
 rw [Bool.and_eq_true] at this
 have h3 := this.1
 have e : q76 s.f0 (i : Int) = s.f0[i] := by simp [q76, List.getD_eq_getElem?_getD, List.getElem?_eq_getElem hi]
 rw [e] at h3
 unfold onB at h3
 split at h3
 ·assumption
 ·cases h3
theorem to_facts (fs : List ByteArray) (l : List (S41)) (h : isB fs l = true) : (∀ x ∈ l, (x.f5 ++ x.f6).length ≤ 6 ∧ ∀ s ∈ x.f5 ++ x.f6, s.f0.length ≤ 3 ∧ s.f1.length ≤ 2) ∧ (fs.length ≤ 6 ∧ 1 ≤ l.length ∧ l.length ≤ 16) ∧ (∀ j : Nat, 0 < j → j < l.length → 0 ≤ parI l j ∧ parI l j < j) ∧ (∀ x ∈ l, ∀ s ∈ x.f5 ++ x.f6, ∀ o ∈ s.f0, ∃ j : Nat, j < l.length ∧ fidx (q39.p o.f0) l = (j : Int)) ∧ ∀ x ∈ l, wideItem x := by
 obtain ⟨h1, -, -, h4⟩ := legal_parts fs l h
 obtain ⟨-, -, -, -, -, hp⟩ := legal_facts fs l h
 have hx : ∀ x ∈ l, (x.f5.length ≤ 3 ∧ ∀ s ∈ x.f5, (s.f0.length ≤ 3 ∧ s.f1.length ≤ 2) ∧ ∀ o ∈ s.f0, 0 ≤ q74 l o.f0) ∧ (x.f6.length ≤ 3 ∧ ∀ s ∈ x.f6, (s.f0.length ≤ 3 ∧ s.f1.length ≤ 2) ∧ ∀ o ∈ s.f0, 0 ≤ q74 l o.f0) := fun x hx => by
  obtain ⟨i, hi, rfl⟩ := List.getElem_of_mem hx
  have e : q81 l (i : Int) = l[i] := by simp [q81, List.getD_eq_getElem?_getD, List.getElem?_eq_getElem hi]
  have := h4 i hi
  rw [e] at this
  exact ⟨sents_facts fs l _ this.1, sents_facts fs l _ this.2⟩
 have hs : ∀ x ∈ l, ∀ s ∈ x.f5 ++ x.f6, (s.f0.length ≤ 3 ∧ s.f1.length ≤ 2) ∧ ∀ o ∈ s.f0, 0 ≤ q74 l o.f0 := fun x hx' s hs => (List.mem_append.1 hs).elim (fun h => (hx x hx').1.2 s h) (fun h => (hx x hx').2.2 s h)
 refine ⟨fun x hx' => ⟨by rw [List.length_append]; have := (hx x hx').1.1; have := (hx x hx').2.1; omega, fun s h => (hs x hx' s h).1⟩, h1, fun j h0 hj => ?_, fun x hx' s h o ho => ?_, fun x hx' => ?_⟩
 ·obtain ⟨p, hp1, hp2, -⟩ := hp j h0 hj
  have e : parI l j = (p : Int) := hp2
  rw [e]
  omega
 ·have h2 := (hs x hx' s h).2 o ho
  have h3 : q74 l o.f0 < l.length := fidx_lt _ _
  obtain ⟨j, hj⟩ := Int.eq_ofNat_of_zero_le h2
  exact ⟨j, by omega, hj⟩
 ·have hh := hx x hx'
  exact ⟨⟨by have := hh.1.1; omega, fun s hs => by have := (hh.1.2 s hs).1; omega⟩, ⟨by have := hh.2.1; omega, fun s hs => by have := (hh.2.2 s hs).1; omega⟩⟩
end Go.Proofs.Yteddgedacjdjgaa.Pm
end
