/- The law PackNumbers: for every input the call answers true, and the input reads as it did. No condition. (Walks and laws of several texts, merged, and what is not used struck, by a program.) -/
import Derived.Lib.Hide
import Derived.Test.YtaiglhfmmdajdaaMPackNumbers1
import Derived.Test.YtaiglhfmmdajdaaMPackNumbers5
import Derived.Test.YtaiglhfmmdajdaaMPackNumbers0
import Derived.Lib.Varint
import Derived.Test.YtaiglhfmmdajdaaMPackNumbers2
import Derived.Lib.EndianBits
import Derived.Test.YtaiglhfmmdajdaaMPackNumbers4
import Derived.Below
import Derived.ChangeOld
import Derived.OpenShut
import Derived.ProofKit
import Derived.ShutString
import Derived.SizedLaws
import Derived.Test.YtaiglhfmmdajdaaRows
import Derived.WalkKit
section
namespace Go.Proofs.Ytaiglhfmmdajdaa.Pm
open Go.RowKit Go.Proofs.YtaiglhfmmdajdaaW.PrintWords Go.Proofs.YtaiglhfmmdajdaaW.PrintLast Go.Proofs.YtaiglhfmmdajdaaW.PrintMore
attribute [local go_sem] max2_int min2_int max_two min_two max_three min_three max_four min_four   -- for this text's walks alone
set_option linter.unusedVariables false
set_option linter.unusedSimpArgs false
def onsR (ids : List ByteArray) : Nat → RSt → List (S103) × RSt
  | 0, s => ([], s)
  | d + 1, s => (⟨(pickR ids s).1, (numR 6 (pickR ids s).2).1⟩ :: (onsR ids d (numR 6 (pickR ids s).2).2).1, (onsR ids d (numR 6 (pickR ids s).2).2).2)
def ifsR (files : List ByteArray) : Nat → RSt → List (S50) × RSt
  | 0, s => ([], s)
  | d + 1, s => (⟨(pickR files s).1, (pickR opsL (pickR files s).2).1, (signedR (pickR opsL (pickR files s).2).2).1⟩ :: (ifsR files d (signedR (pickR opsL (pickR files s).2).2).2).1, (ifsR files d (signedR (pickR opsL (pickR files s).2).2).2).2)
def sentR (files ids : List ByteArray) (s : RSt) : S54 × RSt :=
  let c1 := countR 3 s
  let o := onsR ids c1.1.toNat c1.2
  let c2 := countR 2 o.2
  let f := ifsR files c2.1.toNat c2.2
  (⟨o.1, f.1⟩, f.2)
def sentsGo (files ids : List ByteArray) : Nat → RSt → List (S54) × RSt
  | 0, s => ([], s)
  | d + 1, s => ((sentR files ids s).1 :: (sentsGo files ids d (sentR files ids s).2).1, (sentsGo files ids d (sentR files ids s).2).2)
def sentsR (files ids : List ByteArray) (s : RSt) : List (S54) × RSt := sentsGo files ids (countR 3 s).1.toNat (countR 3 s).2
def SentsPost (w0 w : World) (g : Nat) (r : List (S54) × RSt) (e : Ending) (w' : World) : Prop := ∃ v, e = .returned v ∧ Kd.R k54 54 w' w.heap.size (fun _ => True) v r.1 ∧ Rs w0 w w' g r.2
theorem countR_le (m : Int) (s : RSt) (h8 : Bytes s.1) (hm : 0 ≤ m) : 0 ≤ (countR m s).1 ∧ (countR m s).1 ≤ m := by
  have h := numR_lt (m + 1) s h8
  unfold countR
  split
  · exact ⟨Int.le_refl _, hm⟩
  · rename_i hb
    have := h.2.2 (by simpa using hb)
    exact ⟨h.1, by omega⟩
/-- A row of texts that is older than the reader. -/
def Txt (w0 w : World) (g : Nat) (A : Option Addr) (c : Nat) (l : List ByteArray) : Prop := Kd.C Kd.string w A l.length l ∧ l.length ≤ c ∧ (∀ ad, A = some ad → ad.block < w.heap.size ∧ ad.block ≠ g) ∧ l.length ≤ 1000000
theorem Txt.go {w0 w w1 : World} {g : Nat} {A : Option Addr} {c : Nat} {l : List ByteArray} {s : RSt} (h : Txt w0 w g A c l) (k : Rs w0 w w1 g s) : Txt w0 w1 g A c l :=
  ⟨C_kept h.1 k.2.2 h.2.2.1, h.2.1, fun ad e => ⟨Nat.lt_of_lt_of_le (h.2.2.1 ad e).1 k.2.2.1, (h.2.2.1 ad e).2⟩, h.2.2.2⟩
theorem pick_txt {w0 w wr : World} {g : Nat} {s : RSt} {A : Option Addr} {c : Nat} {l : List ByteArray} (hg0 : w0.heap.size ≤ g) (h : Rs w0 w wr g s) (ht : Txt w0 wr g A c l) :
    Calls Try.prog 79 #[.pointer (some ⟨g, 0, none⟩), .slice A l.length c] wr (PickPost w0 w g (pickR l s)) := pick_rs A c l hg0 h ht.1 ht.2.2.1 ht.2.2.2
theorem R_rs {w0 w w1 : World} {g : Nat} {s : RSt} {α : Type} {d : Kd α} {e base : Nat} {ok : Nat → Prop} {v : Value} {xs : List α} (h : d.R e w base ok v xs) (k : Rs w0 w w1 g s) (hg : g < base) : d.R e w1 base ok v xs :=
  Kd.R_mono (Kd.R_keep (Kd.R_bound h) k.keep (fun k hk => by have := hk.2.1; omega)) (fun _ hk => hk.1)
theorem R_set2 {w : World} {α : Type} {d : Kd α} {e base : Nat} {ok : Nat → Prop} {v : Value} {xs : List α} (h : d.R e w base ok v xs) (p : Addr) (u : Value) (hp : p.block < base) : d.R e (w.setCell p u) base ok v xs :=
  Kd.R_mono (Kd.R_far (Kd.R_bound h) (fun k hk => by have := hk.2.1; omega) u) (fun _ hk => hk.1)
theorem info103_ : (Try.prog.info? 103).map (fun i => (i.zero, i.size, i.bytes)) = some (some (.agg #[.string ⟨#[]⟩, .int .i64 0]), 2, 24) := by kernel_rfl
theorem info50_ : (Try.prog.info? 50).map (fun i => (i.zero, i.size, i.bytes)) = some (some (.agg #[.string ⟨#[]⟩, .string ⟨#[]⟩, .int .i64 0]), 3, 40) := by kernel_rfl
theorem info54_ : (Try.prog.info? 54).map (fun i => (i.zero, i.size, i.bytes)) = some (some (.agg #[.slice none 0 0, .slice none 0 0]), 2, 48) := by kernel_rfl
set_option maxHeartbeats 16000000 in
set_option maxRecDepth 100000 in
theorem sentsr_any (w0 w : World) (g : Nat) (s : RSt) (A1 : Option Addr) (c1 : Nat) (files : List ByteArray) (A2 : Option Addr) (c2 : Nat) (ids : List ByteArray) (hg0 : w0.heap.size ≤ g) (h : Rs w0 w w g s) (ht1 : Txt w0 w g A1 c1 files) (ht2 : Txt w0 w g A2 c2 ids) :
    Calls Try.prog 80 #[.pointer (some ⟨g, 0, none⟩), .slice A1 files.length c1, .slice A2 ids.length c2] w (SentsPost w0 w g (sentsR files ids s)) := by
  have hcnt := count_rs 3 (by omega) hg0 h
  have hcl := countR_le 3 s h.bytes (by omega)
  obtain ⟨R, hR⟩ : ∃ R, R = sentsR files ids s := ⟨_, rfl⟩
  rw [← hR]
  unfold sentsR at hR
  obtain ⟨⟨n, z0⟩, hn⟩ : ∃ r, r = countR 3 s := ⟨_, rfl⟩
  rw [← hn] at hcnt hcl hR
  obtain ⟨k, rfl⟩ := Int.eq_ofNat_of_zero_le hcl.1
  have hk3 : k ≤ 3 := by have := hcl.2; simp only at this; omega
  replace hR : R = sentsGo files ids k z0 := hR
  have HR := Lib.hid hR
  have H := Lib.hid h
  have HT1 := Lib.hid ht1
  have HT2 := Lib.hid ht2
  have hgl := h.1.lt
  clear hR hn hcl h ht1 ht2
  go_enter Try.func80, Try.ntmps80
  go_wp2_with fail
  refine hcnt.mono ?_
  rintro e w1 ⟨rfl, hs⟩
  have HS1 := Lib.hid hs
  clear hs hcnt
  go_wp2
  go_loopg [14, 7] k (fun gg s14 s7 wr => ∃ (i d : Nat) (z : RSt) (acc : List (S54)), s14 = .int .i64 i ∧ i + d = k ∧ d ≤ gg ∧ Hid (Kd.R k54 54 wr w.heap.size (fun _ => True) s7 acc ∧ Rs w0 w wr g z ∧ acc.length = i ∧ R = (acc ++ (sentsGo files ids d z).1, (sentsGo files ids d z).2)))
  case atStart => exact ⟨0, k, z0, [], rfl, by omega, Nat.le_refl _, Lib.hid ⟨Kd.R_nil _ _ _ _ _, HS1.out, rfl, by rw [HR.out]; rfl⟩⟩
  case round =>
    obtain ⟨i, d, z, acc, rfl, hid, hdg, X⟩ := hrel
    obtain ⟨wO, rfl⟩ : ∃ wO, wO = wr := ⟨_, rfl⟩
    obtain ⟨hRa, hsO, hacc, hRe⟩ := X.out
    obtain ⟨Av, cv, rfl⟩ := Kd.R_slice hRa
    clear X
    by_cases hlt : i < k
    case neg =>
      have hltz : ¬ (i : Int) < (k : Int) := by omega
      obtain rfl : d = 0 := by omega
      have HT : Hid (R = (acc, z)) := Lib.hid (by rw [hRe]; simp [sentsGo])
      have HF := Lib.hid (And.intro hRa hsO)
      clear hRa hsO hacc hRe
      go_wp2
      go_ret
      exact ⟨_, rfl, by rw [HT.out]; exact HF.out.1, by rw [HT.out]; exact HF.out.2⟩
    have hltz : (i : Int) < (k : Int) := by omega
    obtain ⟨d, rfl⟩ : ∃ e, d = e + 1 := ⟨d - 1, by omega⟩
    have hbg : wO.heap.size ≠ g := by have := hsO.1.lt; omega
    have hgb : g < wO.heap.size + 1 := by have := hsO.1.lt; omega
    have hbw : w.heap.size ≤ wO.heap.size := hsO.2.2.1
    have hbw0 : w0.heap.size ≤ wO.heap.size := hsO.2.1.size
    have hcnt := count_rs (w0 := w0) (w := wO.alloc (.cells #[.slice none 0 0, .slice none 0 0] 54)) 3 (by omega) hg0 (hsO.alloc _).here
    have hcl := countR_le 3 z hsO.bytes (by omega)
    obtain ⟨Z, hZ⟩ : ∃ Z, Z = sentR files ids z := ⟨_, rfl⟩
    have hRe2 : R = (acc ++ Z.1 :: (sentsGo files ids d Z.2).1, (sentsGo files ids d Z.2).2) := by rw [hRe, hZ]; rfl
    unfold sentR at hZ
    obtain ⟨⟨n1, z1⟩, hn1⟩ : ∃ r, r = countR 3 z := ⟨_, rfl⟩
    rw [← hn1] at hcnt hcl hZ
    obtain ⟨k1, rfl⟩ := Int.eq_ofNat_of_zero_le hcl.1
    have hk1 : k1 ≤ 3 := by have := hcl.2; simp only at this; omega
    obtain ⟨O, hO⟩ : ∃ O, O = onsR ids k1 z1 := ⟨_, rfl⟩
    replace hZ : Z = (⟨O.1, (ifsR files (countR 2 O.2).1.toNat (countR 2 O.2).2).1⟩, (ifsR files (countR 2 O.2).1.toNat (countR 2 O.2).2).2) := by rw [hZ, hO]; rfl
    have HRA := Lib.hid hRa
    have HSO := Lib.hid hsO
    have HACC := Lib.hid hacc
    have HRE := Lib.hid hRe2
    have HZ := Lib.hid hZ
    have HO := Lib.hid hO
    have hblk := heap_alloc_new wO (.cells #[.slice none 0 0, .slice none 0 0] 54)
    have HBLK := Lib.hid hblk
    clear hRa hsO hacc hRe hRe2 hZ hO hn1 hcl hblk
    go_wp2_with fail
    refine hcnt.mono ?_
    rintro e w2 ⟨rfl, s2⟩
    have HS2 := Lib.hid ((HSO.out.here.alloc (.cells #[.slice none 0 0, .slice none 0 0] 54)).then_ s2)
    have HB2 := Lib.hid (s2.blk HBLK.out hbg)
    clear s2 hcnt HBLK
    go_wp2
    go_loopg [18] k1 (fun gg s18 wi => ∃ (j e : Nat) (y : RSt) (ons : List (S103)), s18 = .int .i64 j ∧ j + e = k1 ∧ e ≤ gg ∧ Hid (∃ v1, Rs w0 wO wi g y ∧ wi.heap[wO.heap.size]? = some (.cells #[v1, .slice none 0 0] 54 (0, 0)) ∧ Kd.R k103 103 wi (wO.heap.size + 1) (fun _ => True) v1 ons ∧ ons.length = j ∧ O = (ons ++ (onsR ids e y).1, (onsR ids e y).2)))
    case atStart => exact ⟨0, k1, z1, [], rfl, by omega, Nat.le_refl _, Lib.hid ⟨_, HS2.out, HB2.out, Kd.R_nil _ _ _ _ _, rfl, by rw [HO.out]; rfl⟩⟩
    case round =>
      obtain ⟨j, e, y, ons, rfl, hje, heg, Y⟩ := hrel
      obtain ⟨wi, rfl⟩ : ∃ wi, wi = wr := ⟨_, rfl⟩
      obtain ⟨v1, hsi, hbi, hR1, hol, hOe⟩ := Y.out
      obtain ⟨A3, c3, rfl⟩ := Kd.R_slice hR1
      clear Y
      by_cases hlj : j < k1
      case pos =>
        have hltj : (j : Int) < (k1 : Int) := by omega
        obtain ⟨e, rfl⟩ : ∃ f, e = f + 1 := ⟨e - 1, by omega⟩
        have hpk := pick_txt (w0 := w0) (w := wi) hg0 hsi.here (HT2.out.go (H.out.then_ ((HSO.out.then_ hsi))))
        obtain ⟨⟨p, y1⟩, hp⟩ : ∃ r, r = pickR ids y := ⟨_, rfl⟩
        rw [← hp] at hpk
        have hOe2 : O = (ons ++ ⟨p, (numR 6 y1).1⟩ :: (onsR ids e (numR 6 y1).2).1, (onsR ids e (numR 6 y1).2).2) := by rw [hOe]; simp only [onsR]; rw [← hp]
        obtain ⟨m, hm⟩ : ∃ m, m = ons.length := ⟨_, rfl⟩
        rw [← hm] at hR1 hbi
        have HSI := Lib.hid hsi
        have HBI := Lib.hid hbi
        have HR1 := Lib.hid hR1
        have HOE := Lib.hid hOe2
        have HM := Lib.hid hm
        have HOL := Lib.hid hol
        clear hsi hbi hR1 hOe hOe2 hm hp hol
        go_wp2_with fail
        refine hpk.mono ?_
        rintro e' w4 ⟨rfl, s4⟩
        have HS4 := Lib.hid (HSI.out.then_ s4)
        have hb4 := s4.blk HBI.out hbg
        have HR4 := Lib.hid (R_rs HR1.out s4 (by omega))
        clear s4 hpk
        go_wp2
        have hcell : w4.cell? ⟨wO.heap.size, 0, none⟩ = some (.slice A3 m c3) := (blk_cell hb4 0).trans rfl
        refine sD_ [9] (fun w' => w'.cell? ⟨wO.heap.size, 0, none⟩ = some (.slice A3 m c3)) 10 hcell (fun hHeld => ?_)
        have hb5 : w4.drew.heap[wO.heap.size]? = some (.cells #[.slice A3 m c3, .slice none 0 0] 54 (0, 0)) := hb4
        have hs5 : Rs w0 wO w4.drew g y1 := HS4.out.drew
        have hR5 : Kd.R k103 103 w4.drew (wO.heap.size + 1) (fun _ => True) (.slice A3 m c3) ons := Kd.R_drew HR4.out
        clear hcell hb4 HS4 HR4
        generalize w4.drew = wD at hHeld hb5 hs5 hR5 ⊢
        refine pu_ 0 (some 23) ?_
        refine tk_ 1 (some 24) hHeld ?_ (hy := by rintro w' s0; go_simp; with_reducible rfl)
        refine pu_ 2 (some 25) ?_
        refine pu_ 3 (some 26) ?_
        have hnum := num_rs (w0 := w0) (w := wD) 6 hg0 hs5.here
        obtain ⟨⟨q, y2⟩, hq⟩ : ∃ r, r = numR 6 y1 := ⟨_, rfl⟩
        rw [← hq] at hnum
        have HQ := Lib.hid hq
        clear hq
        refine ca_ 4 (some 27) Try.func64 #[.pointer (some ⟨g, 0, none⟩), .int .i64 6] ?_
        refine hnum.mono ?_
        rintro e' w6 ⟨rfl, s6⟩
        have hs6 := hs5.then_ s6
        have hb6 := s6.blk hb5 hbg
        have hR6 := R_rs hR5 s6 hgb
        clear hnum hs5 hb5 hR5 s6 hHeld
        refine ⟨_, rfl, (blk_cell hb6 0).trans rfl, fun hHeld => ⟨_, rfl, nz_ (some 27) ?_⟩⟩
        refine pu_ 5 (some 28) ?_
        refine oN_ 6 (some 29) (fun K hK => ?_)
        go_simp
        refine hK.out _ _ ?_ (fun _ => ?_)
        · exact (blk_cell (blk_below hb6 (below_alloc (Below.refl _ _) _)) 0).trans rfl
        clear hK K
        refine oN_ 7 (some 30) (fun K hK => ?_)
        refine Kd.R_append_step k103 (w0 := w6) (wO.heap.size + 1) (by rfl) (.tmp 24) (.tmp 29) 52 103 (.agg #[.string ⟨#[]⟩, .int .i64 0]) 24 rfl Try.underlying52 info103_ rfl (by decide) (by omega) (.slice A3 m c3) ons ⟨p, q⟩ [.string p, .int .i64 q] (fun _ => True) (fun _ => False) rfl rfl (k103_mkM _ _ _ _) (fun _ h => h.elim) (fun _ _ => trivial) hR6 (Below.refl _ _) (blk_lt hb6) ?_ ?_
        · have := HOL.out; omega
        intro v7 w7 hR7 hB7 hgr hat
        have hown : ∀ kk, (Value.slice A3 m c3).ownBlock = some kk → wO.heap.size + 1 ≤ kk := Kd.R_base hR6
        have hs7 := hs6.grown hgr (fun kk ek => ⟨by have := hown kk ek; omega, by have := hown kk ek; omega, by have := hown kk ek; omega⟩)
        have hb7 := (hgr.block _ (blk_lt hb6) (fun ek => by have := hown _ ek.symm; omega)).trans hb6
        obtain ⟨A7, c7, rfl⟩ := Kd.R_slice hR7
        clear hgr hat hB7 hown hs6 hb6 hR6 hHeld
        refine hK.out _ _ ((blk_cell hb7 0).trans rfl) (fun _ => ?_)
        clear hK K
        refine nz_ (some 30) ?_
        refine pu_ 8 (some 31) ?_
        have hcz := (blk_cell hb7 0).trans rfl
        have hfz := blk_frozen hb7 0
        refine lA_ 9 none (fun K hK => ?_)
        go_simp
        have hlen : (ons ++ [(⟨p, q⟩ : S103)]).length = ons.length + 1 := by rw [List.length_append, List.length_singleton]
        have HF : Hid (Rs w0 wO (w7.setCell ⟨wO.heap.size, 0, none⟩ (.slice A7 (ons.length + 1) c7)) g y2 ∧ (w7.setCell ⟨wO.heap.size, 0, none⟩ (.slice A7 (ons.length + 1) c7)).heap[wO.heap.size]? = some (.cells #[.slice A7 (ons.length + 1) c7, .slice none 0 0] 54 (0, 0)) ∧ Kd.R k103 103 (w7.setCell ⟨wO.heap.size, 0, none⟩ (.slice A7 (ons.length + 1) c7)) (wO.heap.size + 1) (fun _ => True) (.slice A7 (ons.length + 1) c7) (ons ++ [⟨p, q⟩])) := Lib.hid ⟨hs7.set _ ⟨hbg, Nat.le_refl _, hbw0⟩, blk_put hb7 0 _ rfl, hlen ▸ R_set2 hR7 _ _ (Nat.lt_succ_self _)⟩
        have HL := Lib.hid hlen
        refine hK.out _ _ ?_
        clear hK K hs7 hb7 hR7 hcz hfz hlen
        refine dn_ ?_
        go_wp2
        go_roundg e
        case measure => omega
        case rel => exact ⟨j + 1, e, y2, ons ++ [⟨p, q⟩], by go_num, by omega, Nat.le_refl _, Lib.hid ⟨_, HF.out.1, HF.out.2.1, HF.out.2.2, by rw [HL.out, HOL.out], by rw [HOE.out, ← HQ.out, List.append_assoc]; rfl⟩⟩
      have hltj : ¬ (j : Int) < (k1 : Int) := by omega
      obtain rfl : e = 0 := by omega
      have hO2 : O = (ons, y) := by rw [hOe]; simp [onsR]
      have HO2 := Lib.hid hO2
      obtain ⟨m, hm⟩ : ∃ m, m = ons.length := ⟨_, rfl⟩
      have hcl := countR_le 2 y hsi.bytes (by omega)
      have hcnt := count_rs (w0 := w0) (w := wi) 2 (by omega) hg0 hsi.here
      obtain ⟨⟨n2, z2⟩, hn2⟩ : ∃ r, r = countR 2 y := ⟨_, rfl⟩
      rw [← hn2] at hcnt hcl
      obtain ⟨k2, rfl⟩ := Int.eq_ofNat_of_zero_le hcl.1
      have hk2 : k2 ≤ 2 := by have := hcl.2; simp only at this; omega
      have HN2 := Lib.hid hn2
      rw [← hm] at hR1 hbi
      have HSI := Lib.hid hsi
      have HBI := Lib.hid hbi
      have HR1 := Lib.hid hR1
      have HM := Lib.hid hm
      clear hsi hbi hR1 hOe hO2 hm hol hn2 hcl
      go_wp2_with fail
      refine hcnt.mono ?_
      rintro e' w5 ⟨rfl, s5⟩
      have HS5 := Lib.hid (HSI.out.then_ s5)
      have HB5 := Lib.hid (s5.blk HBI.out hbg)
      have hR5 := Kd.R_mono (Kd.R_bound (R_rs HR1.out s5 hgb)) (ok' := fun kk => kk < w5.heap.size) (fun kk hk => hk.2.2.1)
      have HR5 := Lib.hid hR5
      obtain ⟨F, hF⟩ : ∃ F, F = ifsR files k2 z2 := ⟨_, rfl⟩
      have HFF := Lib.hid hF
      have hB5 : wO.heap.size + 1 ≤ w5.heap.size := by have := blk_lt HB5.out; omega
      clear s5 hcnt hF HSI HBI HR1 hR5
      go_wp2
      go_loopg [35] k2 (fun gg s35 wi => ∃ (j e : Nat) (y : RSt) (ifs : List (S50)), s35 = .int .i64 j ∧ j + e = k2 ∧ e ≤ gg ∧ Hid (∃ v2, Rs w0 wO wi g y ∧ wi.heap[wO.heap.size]? = some (.cells #[.slice A3 m c3, v2] 54 (0, 0)) ∧ Kd.R k103 103 wi (wO.heap.size + 1) (fun kk => kk < w5.heap.size) (.slice A3 m c3) ons ∧ w5.heap.size ≤ wi.heap.size ∧ Kd.R k50 50 wi w5.heap.size (fun _ => True) v2 ifs ∧ ifs.length = j ∧ F = (ifs ++ (ifsR files e y).1, (ifsR files e y).2)))
      case atStart => exact ⟨0, k2, z2, [], rfl, by omega, Nat.le_refl _, Lib.hid ⟨_, HS5.out, HB5.out, HR5.out, Nat.le_refl _, Kd.R_nil _ _ _ _ _, rfl, by rw [HFF.out]; rfl⟩⟩
      case round =>
        obtain ⟨j2, e, y, ifs, rfl, hje2, heg2, Y⟩ := hrel
        obtain ⟨wj, rfl⟩ : ∃ wj, wj = wr := ⟨_, rfl⟩
        obtain ⟨v2, hsi, hbi, hR1, h5j, hR2, hil, hFe⟩ := Y.out
        obtain ⟨A4, c4, rfl⟩ := Kd.R_slice hR2
        clear Y
        by_cases hlj : j2 < k2
        case pos =>
          have hltj2 : (j2 : Int) < (k2 : Int) := by omega
          obtain ⟨e, rfl⟩ : ∃ f, e = f + 1 := ⟨e - 1, by omega⟩
          have hpk := pick_txt (w0 := w0) (w := wj) hg0 hsi.here (HT1.out.go (H.out.then_ ((HSO.out.then_ hsi))))
          obtain ⟨⟨p, y1⟩, hp⟩ : ∃ r, r = pickR files y := ⟨_, rfl⟩
          rw [← hp] at hpk
          obtain ⟨⟨o, y2⟩, ho⟩ : ∃ r, r = pickR opsL y1 := ⟨_, rfl⟩
          obtain ⟨⟨q, y3⟩, hq⟩ : ∃ r, r = signedR y2 := ⟨_, rfl⟩
          have hFe2 : F = (ifs ++ ⟨p, o, q⟩ :: (ifsR files e y3).1, (ifsR files e y3).2) := by rw [hFe]; simp only [ifsR]; rw [← hp]; simp only; rw [← ho]; simp only; rw [← hq]
          obtain ⟨m2, hm2⟩ : ∃ m2, m2 = ifs.length := ⟨_, rfl⟩
          rw [← hm2] at hR2 hbi
          have HSI := Lib.hid hsi
          have HBI := Lib.hid hbi
          have HR1 := Lib.hid hR1
          have HR2 := Lib.hid hR2
          have HFE := Lib.hid hFe2
          have HM2 := Lib.hid hm2
          have HIL := Lib.hid hil
          have HO := Lib.hid ho
          have HQ := Lib.hid hq
          clear hsi hbi hR1 hR2 hFe hFe2 hm2 hp hil ho hq
          go_wp2_with fail
          refine hpk.mono ?_
          rintro e' w4 ⟨rfl, s4⟩
          have HS4 := Lib.hid (HSI.out.then_ s4)
          have HB4 := Lib.hid (s4.blk HBI.out hbg)
          have HR4 := Lib.hid (R_rs HR1.out s4 hgb)
          have HR42 := Lib.hid (R_rs HR2.out s4 (by omega))
          have h54 : w5.heap.size ≤ w4.heap.size := Nat.le_trans h5j s4.2.2.1
          clear s4 hpk HSI HBI HR1 HR2
          have hop := pack_ops.calls opsL w4 rfl
          go_wp2_with fail
          refine hop.mono ?_
          rintro e' w6 ⟨vo, rfl, hRo, hbo⟩
          obtain ⟨Ao, co, rfl⟩ := Kd.R_slice hRo
          have hrd := Kd.R_reads' hRo
          have hg4 : g < w4.heap.size := HS4.out.1.lt
          have hto : Txt w0 w6 g Ao co opsL := ⟨hrd.2.2, hrd.2.1, fun ad e => by
            subst e
            have h1_ := Kd.R_base hRo ad.block (by simp [Value.ownBlock])
            have h2_ := Kd.R_lt hRo ad.block (by simp [Value.ownBlock])
            exact ⟨h2_, by omega⟩, by decide⟩
          have hpo := pick_txt (w0 := w0) (w := w6) hg0 (HS4.out.below hbo).here hto (s := y1)
          rw [← HO.out] at hpo
          have HS6 := Lib.hid (HS4.out.below hbo)
          have HB6 := Lib.hid (blk_below HB4.out hbo)
          have HR6 := Lib.hid (Kd.R_below HR4.out hbo)
          have HR62 := Lib.hid (Kd.R_below HR42.out hbo)
          have h56 : w5.heap.size ≤ w6.heap.size := Nat.le_trans h54 hbo.size
          clear hRo hrd hto hbo hop HS4 HB4 HR4 HR42
          go_wp2_with fail
          refine hpo.mono ?_
          rintro e' w7 ⟨rfl, s7⟩
          have HS7 := Lib.hid (HS6.out.then_ s7)
          have hb7 := s7.blk HB6.out hbg
          have HR7 := Lib.hid (R_rs HR6.out s7 hgb)
          have HR72 := Lib.hid (R_rs HR62.out s7 (by omega))
          have h57 : w5.heap.size ≤ w7.heap.size := Nat.le_trans h56 s7.2.2.1
          clear s7 hpo HS6 HB6 HR6 HR62
          go_wp2
          have hcell : w7.cell? ⟨wO.heap.size, 1, none⟩ = some (.slice A4 m2 c4) := (blk_cell hb7 1).trans rfl
          refine sD_ [10] (fun w' => w'.cell? ⟨wO.heap.size, 1, none⟩ = some (.slice A4 m2 c4)) 11 hcell (fun hHeld => ?_)
          have hb8 : w7.drew.heap[wO.heap.size]? = some (.cells #[.slice A3 m c3, .slice A4 m2 c4] 54 (0, 0)) := hb7
          have hs8 : Rs w0 wO w7.drew g y2 := HS7.out.drew
          have hR8 : Kd.R k103 103 w7.drew (wO.heap.size + 1) (fun kk => kk < w5.heap.size) (.slice A3 m c3) ons := Kd.R_drew HR7.out
          have hR82 : Kd.R k50 50 w7.drew w5.heap.size (fun _ => True) (.slice A4 m2 c4) ifs := Kd.R_drew HR72.out
          have h58 : w5.heap.size ≤ w7.drew.heap.size := h57
          clear hcell hb7 HS7 HR7 HR72
          generalize w7.drew = wD at hHeld hb8 hs8 hR8 hR82 h58 ⊢
          refine pu_ 0 (some 43) ?_
          refine tk_ 1 (some 44) hHeld ?_ (hy := by rintro w' s0; go_simp; with_reducible rfl)
          refine pu_ 2 (some 45) ?_
          refine pu_ 3 (some 46) ?_
          refine pu_ 4 (some 47) ?_
          have hsg := signed_rs (w0 := w0) (w := wD) hg0 hs8.here
          rw [← HQ.out] at hsg
          refine ca_ 5 (some 48) Try.func86 #[.pointer (some ⟨g, 0, none⟩)] ?_
          refine hsg.mono ?_
          rintro e' w9 ⟨rfl, s9⟩
          have hs9 := hs8.then_ s9
          have hb9 := s9.blk hb8 hbg
          have hR9 := R_rs hR8 s9 hgb
          have hR92 := R_rs hR82 s9 (by omega)
          have h59 : w5.heap.size ≤ w9.heap.size := Nat.le_trans h58 s9.2.2.1
          clear hsg hs8 hb8 hR8 hR82 s9 hHeld
          refine ⟨_, rfl, (blk_cell hb9 1).trans rfl, fun hHeld => ⟨_, rfl, nz_ (some 48) ?_⟩⟩
          refine pu_ 6 (some 49) ?_
          refine oN_ 7 (some 50) (fun K hK => ?_)
          go_simp
          refine hK.out _ _ ?_ (fun _ => ?_)
          · exact (blk_cell (blk_below hb9 (below_alloc (Below.refl _ _) _)) 1).trans rfl
          clear hK K
          refine oN_ 8 (some 51) (fun K hK => ?_)
          refine Kd.R_append_step k50 (w0 := w9) w5.heap.size (by rfl) (.tmp 44) (.tmp 50) 51 50 (.agg #[.string ⟨#[]⟩, .string ⟨#[]⟩, .int .i64 0]) 40 rfl Try.underlying51 info50_ rfl (by decide) (by omega) (.slice A4 m2 c4) ifs ⟨p, o, q⟩ [.string p, .string o, .int .i64 q] (fun _ => True) (fun _ => False) rfl rfl (k50_mkM _ _ _ _) (fun _ h => h.elim) (fun _ _ => trivial) hR92 (Below.refl _ _) h59 ?_ ?_
          · have := HIL.out; omega
          intro v10 w10 hR10 hB10 hgr hat
          have hown : ∀ kk, (Value.slice A4 m2 c4).ownBlock = some kk → w5.heap.size ≤ kk := Kd.R_base hR92
          have hs10 := hs9.grown hgr (fun kk ek => ⟨by have := hown kk ek; omega, by have := hown kk ek; omega, by have := hown kk ek; omega⟩)
          have hb10 := (hgr.block _ (blk_lt hb9) (fun ek => by have := hown _ ek.symm; omega)).trans hb9
          have hR101 := Kd.R_grown hR9 hgr (fun kk hk ek => by have := hown kk ek.symm; omega)
          have h510 : w5.heap.size ≤ w10.heap.size := Nat.le_trans h59 hgr.size
          obtain ⟨A7, c7, rfl⟩ := Kd.R_slice hR10
          clear hgr hat hB10 hown hs9 hb9 hR9 hR92 hHeld
          refine hK.out _ _ ((blk_cell hb10 1).trans rfl) (fun _ => ?_)
          clear hK K
          refine nz_ (some 51) ?_
          refine pu_ 9 (some 52) ?_
          have hcz := (blk_cell hb10 1).trans rfl
          have hfz := blk_frozen hb10 1
          refine lA_ 10 none (fun K hK => ?_)
          go_simp
          have hlen : (ifs ++ [(⟨p, o, q⟩ : S50)]).length = ifs.length + 1 := by rw [List.length_append, List.length_singleton]
          have HF : Hid (Rs w0 wO (w10.setCell ⟨wO.heap.size, 1, none⟩ (.slice A7 (ifs.length + 1) c7)) g y3 ∧ (w10.setCell ⟨wO.heap.size, 1, none⟩ (.slice A7 (ifs.length + 1) c7)).heap[wO.heap.size]? = some (.cells #[.slice A3 m c3, .slice A7 (ifs.length + 1) c7] 54 (0, 0)) ∧ Kd.R k103 103 (w10.setCell ⟨wO.heap.size, 1, none⟩ (.slice A7 (ifs.length + 1) c7)) (wO.heap.size + 1) (fun kk => kk < w5.heap.size) (.slice A3 m c3) ons ∧ w5.heap.size ≤ (w10.setCell ⟨wO.heap.size, 1, none⟩ (.slice A7 (ifs.length + 1) c7)).heap.size ∧ Kd.R k50 50 (w10.setCell ⟨wO.heap.size, 1, none⟩ (.slice A7 (ifs.length + 1) c7)) w5.heap.size (fun _ => True) (.slice A7 (ifs.length + 1) c7) (ifs ++ [⟨p, o, q⟩])) := Lib.hid ⟨hs10.set _ ⟨hbg, Nat.le_refl _, hbw0⟩, blk_put hb10 1 _ rfl, R_set2 hR101 _ _ (Nat.lt_succ_self _), by rw [set_size]; exact h510, hlen ▸ R_set2 hR10 _ _ (show wO.heap.size < w5.heap.size by omega)⟩
          have HL := Lib.hid hlen
          refine hK.out _ _ ?_
          clear hK K hs10 hb10 hR10 hR101 hcz hfz hlen
          refine dn_ ?_
          go_wp2
          go_roundg e
          case measure => omega
          case rel => exact ⟨j2 + 1, e, y3, ifs ++ [⟨p, o, q⟩], by go_num, by omega, Nat.le_refl _, Lib.hid ⟨_, HF.out.1, HF.out.2.1, HF.out.2.2.1, HF.out.2.2.2.1, HF.out.2.2.2.2, by rw [HL.out, HIL.out], by rw [HFE.out, List.append_assoc]; rfl⟩⟩
        have hltj2 : ¬ (j2 : Int) < (k2 : Int) := by omega
        obtain rfl : e = 0 := by omega
        have hF2 : F = (ifs, y) := by rw [hFe]; simp [ifsR]
        have hZ2 : Z = (⟨ons, ifs⟩, y) := by
          rw [HZ.out, HO2.out]
          simp only
          rw [← HN2.out]
          simp only [Int.toNat_natCast]
          rw [← HFF.out, hF2]
        have hcz0 := (blk_cell hbi 0).trans rfl
        have hcz1 := (blk_cell hbi 1).trans rfl
        have hRaj := R_rs HRA.out hsi (by omega)
        have hown : ∀ kk, (Value.slice Av acc.length cv).ownBlock = some kk → w.heap.size ≤ kk ∧ kk < wO.heap.size := fun kk ek => ⟨Kd.R_base HRA.out kk ek, Kd.R_lt HRA.out kk ek⟩
        have hM : Kd.M k54 wj w.heap.size (fun kk => wO.heap.size + 1 ≤ kk) ⟨ons, ifs⟩ [.slice A3 m c3, .slice A4 ifs.length c4] := k54_mkM _ _ _ _ (Kd.R_lower (Kd.R_mono (Kd.R_bound hR1) (fun kk hk => hk.2.1)) (show w.heap.size ≤ wO.heap.size + 1 by omega)) (Kd.R_lower (Kd.R_mono (Kd.R_bound hR2) (fun kk hk => Nat.le_trans hB5 hk.2.1)) (show w.heap.size ≤ w5.heap.size by omega))
        have HSJ := Lib.hid (HSO.out.then_ hsi)
        have HZ2 := Lib.hid hZ2
        have HRAJ := Lib.hid hRaj
        have HOWN := Lib.hid hown
        have HMM := Lib.hid hM
        have HWJ := Lib.hid (And.intro hgl (Nat.le_trans hbw hsi.2.2.1))
        have hw0w := H.out.2.1.size
        obtain ⟨ma, hma⟩ : ∃ ma, ma = acc.length := ⟨_, rfl⟩
        obtain ⟨mi, hmi⟩ : ∃ mi, mi = ifs.length := ⟨_, rfl⟩
        rw [← hma] at HRAJ HOWN ⊢
        rw [← hmi] at hcz1 HMM
        have hlim : (acc.length + 1) * 48 ≤ 140737488355328 := by have := HACC.out; omega
        have HLIM := Lib.hid hlim
        have HMA := Lib.hid hma
        clear hsi hbi hR1 hR2 hil hFe hF2 hZ2 hRaj hown hM hma hmi hlim
        go_wp2_with (first | ((with_reducible refine gate_builtin (b := .append) (xs := #[.tmp 54, .tmp 56]) rfl ?_); at_builtin; refine Kd.R_append k54 (w0 := wj) w.heap.size rfl (.tmp 54) (.tmp 56) 46 54 (.agg #[.slice none 0 0, .slice none 0 0]) 48 rfl Try.underlying46 info54_ rfl (by decide) (by omega) (.slice Av ma cv) acc ⟨ons, ifs⟩ [.slice A3 m c3, .slice A4 mi c4] (fun _ => True) (fun kk => wO.heap.size + 1 ≤ kk) rfl rfl HMM.out (fun kk hk => ⟨trivial, fun ek => by have := HOWN.out kk ek.symm; omega⟩) (fun _ _ => trivial) HRAJ.out (Below.refl _ _) HWJ.out.2 HLIM.out ?_; intro v11 w11 hR11 hB11 hgr hat; have HS11 := Lib.hid (HSJ.out.grown hgr (fun kk ek => ⟨by have := HOWN.out kk ek; omega, by have := HOWN.out kk ek; omega, by have := HOWN.out kk ek; omega⟩)); clear hgr hat hB11; obtain ⟨A11, c11, rfl⟩ := Kd.R_slice hR11; rw [List.length_append, List.length_singleton] at hR11; have HR11 := Lib.hid hR11; clear hR11))
        go_roundg d
        case measure => omega
        case rel => exact ⟨i + 1, d, y, acc ++ [⟨ons, ifs⟩], by go_num, by omega, Nat.le_refl _, Lib.hid ⟨HR11.out, HS11.out, by rw [List.length_append, List.length_singleton, HACC.out], by rw [HRE.out, HZ2.out, List.append_assoc]; rfl⟩⟩
end Go.Proofs.Ytaiglhfmmdajdaa.Pm
end
section
namespace Go.Proofs.Ytaiglhfmmdajdaa.Pm
open Go.RowKit Go.Proofs.YtaiglhfmmdajdaaW.PrintWords Go.Proofs.YtaiglhfmmdajdaaW.PrintLast Go.Proofs.YtaiglhfmmdajdaaW.PrintMore
attribute [local go_sem] max2_int min2_int max_two min_two max_three min_three max_four min_four   -- for this text's walks alone
set_option linter.unusedVariables false
set_option linter.unusedSimpArgs false
def itemR (id : ByteArray) (files ids : List ByteArray) (s : RSt) : S48 × RSt :=
  let k := numR 6 s
  let p := pickR (⟨#[]⟩ :: ids) k.2
  let r := numR 2 p.2
  let t := numR 101 r.2
  let en := sentsR files ids t.2
  let ex := sentsR files ids en.2
  (⟨id, k.1, p.1, r.1 == 1, t.1, en.1, ex.1⟩, ex.2)
theorem lit_str (W : World) (b : Nat) (hb : b = W.heap.size) (s : ByteArray) : Kd.R Kd.string 9 (W.alloc (.cells #[.string s] 9)) b (fun _ => True) (.slice (some ⟨b, 0, none⟩) 1 1) [s] := by
  subst hb
  exact Kd.R_of_own (by simpa [encs] using World.ownsRow_lit (base := W.heap.size) (e := 9) (size := 1) W #[.string s] 1 (Nat.le_refl _) (by decide) (by simp)) (fun _ _ => trivial)
/-- A struct under way in a block of its own. -/
def XS (w0 w W : World) (g bx : Nat) (z : RSt) (cs : Array Value) : Prop := Rs w0 w W g z ∧ W.heap[bx]? = some (.cells cs 48 (0, 0))
section
variable {w0 w W w' : World} {g bx : Nat} {z z' : RSt} {cs : Array Value}
theorem XS.call (h : XS w0 w W g bx z cs) (s : Rs w0 W w' g z') (hne : bx ≠ g) : XS w0 w w' g bx z' cs := ⟨h.1.then_ s, s.blk h.2 hne⟩
theorem XS.put (h : XS w0 w W g bx z cs) (i : Nat) (u : Value) (cs' : Array Value) (e : cs.setIfInBounds i u = cs') (hne : bx ≠ g) (hw : w.heap.size ≤ bx) (hw0 : w0.heap.size ≤ bx) : XS w0 w (W.setCell ⟨bx, i, none⟩ u) g bx z cs' := ⟨h.1.set u ⟨hne, hw, hw0⟩, blk_put h.2 i u e⟩
theorem XS.txt {A : Option Addr} {c : Nat} {l : List ByteArray} (h : XS w0 w W g bx z cs) (t : Txt w0 w g A c l) : Txt w0 W g A c l := t.go h.1
end
def ItemPost (w0 w : World) (g : Nat) (r : S48 × RSt) (e : Ending) (w' : World) : Prop := ∃ v5 v6, e = .returned (.agg #[.string r.1.f0, .int .i64 r.1.f1, .string r.1.f2, .bool r.1.f3, .int .i64 r.1.f4, v5, v6]) ∧ Kd.R k54 54 w' w.heap.size (fun _ => True) v5 r.1.f5 ∧ Kd.R k54 54 w' w.heap.size (fun _ => True) v6 r.1.f6 ∧ Rs w0 w w' g r.2
set_option maxHeartbeats 16000000 in
set_option maxRecDepth 100000 in
theorem itemr_any (w0 w : World) (g : Nat) (s : RSt) (id : ByteArray) (A1 : Option Addr) (c1 : Nat) (files : List ByteArray) (A2 : Option Addr) (c2 : Nat) (ids : List ByteArray) (hg0 : w0.heap.size ≤ g) (h : Rs w0 w w g s) (ht1 : Txt w0 w g A1 c1 files) (ht2 : Txt w0 w g A2 c2 ids) (hi : ids.length ≤ 1000) :
    Calls Try.prog 65 #[.pointer (some ⟨g, 0, none⟩), .string id, .slice A1 files.length c1, .slice A2 ids.length c2] w (ItemPost w0 w g (itemR id files ids s)) := by
  have hu48 := Try.underlying48
  obtain ⟨R, hR⟩ : ∃ R, R = itemR id files ids s := ⟨_, rfl⟩
  rw [← hR]
  unfold itemR at hR
  obtain ⟨⟨k, z1⟩, h1⟩ : ∃ r, r = numR 6 s := ⟨_, rfl⟩
  rw [← h1] at hR
  obtain ⟨⟨p, z2⟩, h2⟩ : ∃ r, r = pickR (⟨#[]⟩ :: ids) z1 := ⟨_, rfl⟩
  simp only at hR
  rw [← h2] at hR
  obtain ⟨⟨r, z3⟩, h3⟩ : ∃ r, r = numR 2 z2 := ⟨_, rfl⟩
  simp only at hR
  rw [← h3] at hR
  obtain ⟨⟨t, z4⟩, h4⟩ : ∃ r, r = numR 101 z3 := ⟨_, rfl⟩
  simp only at hR
  rw [← h4] at hR
  obtain ⟨⟨en, z5⟩, h5⟩ : ∃ r, r = sentsR files ids z4 := ⟨_, rfl⟩
  simp only at hR
  rw [← h5] at hR
  obtain ⟨⟨ex, z6⟩, h6⟩ : ∃ r, r = sentsR files ids z5 := ⟨_, rfl⟩
  simp only at hR
  rw [← h6] at hR
  simp only at hR
  have HR := Lib.hid hR
  have HH := Lib.hid (And.intro h1 (And.intro h2 (And.intro h3 (And.intro h4 (And.intro h5 h6)))))
  have HS := Lib.hid h
  have hgl := h.1.lt
  obtain ⟨wA, hwA⟩ : ∃ wA, wA = w.alloc (.cells #[.string ⟨#[]⟩, .int .i64 0, .string ⟨#[]⟩, .bool false, .int .i64 0, .slice none 0 0, .slice none 0 0] 48) := ⟨_, rfl⟩
  have hsA : Rs w0 w wA g s := by rw [hwA]; exact h.alloc _
  have hbA : wA.heap[w.heap.size]? = some (.cells #[.string ⟨#[]⟩, .int .i64 0, .string ⟨#[]⟩, .bool false, .int .i64 0, .slice none 0 0, .slice none 0 0] 48 (0, 0)) := by rw [hwA]; exact heap_alloc_new w _
  have hzA : wA.heap.size = w.heap.size + 1 := by rw [hwA]; simp
  have hc1 := num_rs (w0 := w0) (w := wA) 6 hg0 hsA.here
  rw [← h1] at hc1
  have HSA := Lib.hid hsA
  have HBA := Lib.hid hbA
  have HWA := Lib.hid hwA
  have HZA := Lib.hid hzA
  have HT1 := Lib.hid (ht1.go hsA)
  have HT2 := Lib.hid (ht2.go hsA)
  clear hR h1 h2 h3 h4 h5 h6 h ht1 ht2 hsA hbA hwA hzA
  go_enter Try.func65, Try.ntmps65
  go_wp2_with fail
  rw [← HWA.out]
  refine hc1.mono ?_
  rintro e w1 ⟨rfl, s1⟩
  have HX1 : Hid (XS w0 wA (w1.alloc (.cells #[.string id, .int .i64 k, .string ⟨#[]⟩, .bool false, .int .i64 0, .slice none 0 0, .slice none 0 0] 48)) g w1.heap.size z1 #[.string id, .int .i64 k, .string ⟨#[]⟩, .bool false, .int .i64 0, .slice none 0 0, .slice none 0 0]) := Lib.hid ⟨s1.alloc _, heap_alloc_new w1 _⟩
  have hzs : w.heap.size + 1 ≤ w1.heap.size := by have := s1.2.2.1; have := HZA.out; omega
  have hzw : wA.heap.size ≤ w1.heap.size := s1.2.2.1
  have hw0w := HS.out.2.1.size
  have HT2a : Hid (Kd.C Kd.string ((w1.alloc (.cells #[.string id, .int .i64 k, .string ⟨#[]⟩, .bool false, .int .i64 0, .slice none 0 0, .slice none 0 0] 48)).alloc (.cells #[.string ⟨#[]⟩] 9)) A2 ids.length ids) := Lib.hid (Kd.C_alloc (HX1.out.txt HT2.out).1 _)
  clear s1 hc1
  go_wp2_with (first | ((with_reducible refine gate_builtin (b := .append) (xs := #[.tmp 15, .tmp 16]) rfl ?_); at_builtin; refine Kd.R_append_rows Kd.string (w0 := _) (w1.heap.size + 1) rfl (.tmp 15) (.tmp 16) 22 9 (.string ⟨#[]⟩) 16 rfl Try.underlying22 info9 rfl (by decide) (by omega) (.slice (some ⟨w1.heap.size + 1, 0, none⟩) 1 1) [⟨#[]⟩] ids A2 ids.length c2 (fun _ => True) (fun _ => False) rfl rfl (lit_str _ _ (by simp) ⟨#[]⟩) HT2a.out (fun _ _ h => h) (fun _ h => h.elim) (fun _ _ => trivial) (Below.refl _ _) (by simp) (by simp; omega) ?_; intro v3 w3 hR3 hB3 hgr hat; have hX3 : XS w0 wA w3 g w1.heap.size z1 #[.string id, .int .i64 k, .string ⟨#[]⟩, .bool false, .int .i64 0, .slice none 0 0, .slice none 0 0] := ⟨(HX1.out.1.alloc (.cells #[.string ⟨#[]⟩] 9)).grown hgr (fun kk ek => by (have : w1.heap.size + 1 = kk := by simpa [Value.ownBlock] using ek); omega), (hgr.block _ (by simp; omega) (by simp [Value.ownBlock])).trans (blk_below HX1.out.2 (below_alloc (Below.refl _ _) _))⟩; clear hB3 hgr hat))
  have HX3 := Lib.hid hX3
  obtain ⟨A3, c3, rfl⟩ := Kd.R_slice hR3
  have ht3 : Txt w0 w3 g A3 c3 (⟨#[]⟩ :: ids) := by
    have hrd := Kd.R_reads' hR3
    refine ⟨hrd.2.2, hrd.2.1, fun ad e => ?_, by simp; omega⟩
    subst e
    have h1_ := Kd.R_base hR3 ad.block (by simp [Value.ownBlock])
    have h2_ := Kd.R_lt hR3 ad.block (by simp [Value.ownBlock])
    exact ⟨h2_, by omega⟩
  have hc2 := pick_txt (w0 := w0) (w := w3) hg0 hX3.1.here ht3
  rw [← HH.out.2.1] at hc2
  clear hX3 hR3 ht3 HX1 HT2a
  refine hc2.mono ?_
  rintro e w4 ⟨rfl, s4⟩
  have hne : w1.heap.size ≠ g := by omega
  have hx4 := HX3.out.call s4 hne
  clear s4 hc2 HX3
  have hcz := (blk_cell hx4.2 2).trans rfl
  have hfz := blk_frozen hx4.2 2
  have hx5 := hx4.put 2 (.string p) _ rfl hne (by omega) (by omega)
  have hc3 := num_rs (w0 := w0) (w := w4.setCell ⟨w1.heap.size, 2, none⟩ (.string p)) 2 hg0 hx5.1.here
  rw [← HH.out.2.2.1] at hc3
  have HX5 := Lib.hid hx5
  clear hx4 hx5
  go_wp2_with fail
  refine hc3.mono ?_
  rintro e w6 ⟨rfl, s6⟩
  have hx6 := HX5.out.call s6 hne
  clear s6 hc3 HX5 hcz hfz
  have hcz := (blk_cell hx6.2 3).trans rfl
  have hfz := blk_frozen hx6.2 3
  have hx7 := hx6.put 3 (.bool (r == 1)) _ rfl hne (by omega) (by omega)
  have hc4 := num_rs (w0 := w0) (w := w6.setCell ⟨w1.heap.size, 3, none⟩ (.bool (r == 1))) 101 hg0 hx7.1.here
  rw [← HH.out.2.2.2.1] at hc4
  have HX7 := Lib.hid hx7
  clear hx6 hx7
  go_wp2_with fail
  refine hc4.mono ?_
  rintro e w8 ⟨rfl, s8⟩
  have hx8 := HX7.out.call s8 hne
  clear s8 hc4 HX7 hcz hfz
  have hcz := (blk_cell hx8.2 4).trans rfl
  have hfz := blk_frozen hx8.2 4
  have hx9 := hx8.put 4 (.int .i64 t) _ rfl hne (by omega) (by omega)
  have hc5 := sentsr_any w0 (w8.setCell ⟨w1.heap.size, 4, none⟩ (.int .i64 t)) g z4 A1 c1 files A2 c2 ids hg0 hx9.1.here (hx9.txt HT1.out) (hx9.txt HT2.out)
  rw [← HH.out.2.2.2.2.1] at hc5
  have HX9 := Lib.hid hx9
  clear hx8 hx9
  go_wp2_with fail
  refine hc5.mono ?_
  rintro e w10 ⟨v5, rfl, hR5, s10⟩
  obtain ⟨A5, c5, rfl⟩ := Kd.R_slice hR5
  have hx10 := HX9.out.call s10 hne
  clear s10 hc5 hcz hfz
  have hcz := (blk_cell hx10.2 5).trans rfl
  have hfz := blk_frozen hx10.2 5
  have hbase5 : w1.heap.size < (w8.setCell ⟨w1.heap.size, 4, none⟩ (.int .i64 t)).heap.size := blk_lt HX9.out.2
  have hg9 : g < w1.heap.size := by omega
  have hx11 := hx10.put 5 (.slice A5 en.length c5) _ rfl hne (by omega) (by omega)
  have hR511 := R_set2 hR5 ⟨w1.heap.size, 5, none⟩ (.slice A5 en.length c5) hbase5
  have hc6 := sentsr_any w0 (w10.setCell ⟨w1.heap.size, 5, none⟩ (.slice A5 en.length c5)) g z5 A1 c1 files A2 c2 ids hg0 hx11.1.here (hx11.txt HT1.out) (hx11.txt HT2.out)
  rw [← HH.out.2.2.2.2.2] at hc6
  have HX11 := Lib.hid hx11
  have HR5 := Lib.hid (Kd.R_lower hR511 (show w1.heap.size + 1 ≤ _ from hbase5))
  have hbase6 : w1.heap.size < (w10.setCell ⟨w1.heap.size, 5, none⟩ (.slice A5 en.length c5)).heap.size := blk_lt HX11.out.2
  have HB6 := Lib.hid hbase6
  clear hx10 hx11 HX9 hR5 hR511 hbase5 hbase6
  go_wp2_with fail
  refine hc6.mono ?_
  rintro e w12 ⟨v6, rfl, hR6, s12⟩
  obtain ⟨A6, c6, rfl⟩ := Kd.R_slice hR6
  have hx12 := HX11.out.call s12 hne
  clear hc6 hcz hfz
  have hcz := (blk_cell hx12.2 6).trans rfl
  have hfz := blk_frozen hx12.2 6
  have h12_0 := (blk_cell hx12.2 0).trans rfl
  have h12_1 := (blk_cell hx12.2 1).trans rfl
  have h12_2 := (blk_cell hx12.2 2).trans rfl
  have h12_3 := (blk_cell hx12.2 3).trans rfl
  have h12_4 := (blk_cell hx12.2 4).trans rfl
  have h12_5 := (blk_cell hx12.2 5).trans rfl
  have hbz := hx12.1.blk HBA.out (by omega)
  have hz_0 := (blk_cell hbz 0).trans rfl
  have hz_1 := (blk_cell hbz 1).trans rfl
  have hz_2 := (blk_cell hbz 2).trans rfl
  have hz_3 := (blk_cell hbz 3).trans rfl
  have hz_4 := (blk_cell hbz 4).trans rfl
  have hz_5 := (blk_cell hbz 5).trans rfl
  have hz_6 := (blk_cell hbz 6).trans rfl
  have hq_0 := blk_frozen hbz 0
  have hq_1 := blk_frozen hbz 1
  have hq_2 := blk_frozen hbz 2
  have hq_3 := blk_frozen hbz 3
  have hq_4 := blk_frozen hbz 4
  have hq_5 := blk_frozen hbz 5
  have hq_6 := blk_frozen hbz 6
  have hbn : w.heap.size ≠ w1.heap.size := by omega
  have hbn2 : w1.heap.size ≠ w.heap.size := by omega
  have HX13 := Lib.hid (hx12.put 6 (.slice A6 ex.length c6) _ rfl hne (by omega) (by omega))
  have HR5 := Lib.hid (R_set2 (R_rs HR5.out s12 (by omega)) ⟨w1.heap.size, 6, none⟩ (.slice A6 ex.length c6) (Nat.lt_succ_self _))
  have HR6 := Lib.hid (Kd.R_lower (R_set2 hR6 ⟨w1.heap.size, 6, none⟩ (.slice A6 ex.length c6) HB6.out) (show w1.heap.size + 1 ≤ _ from HB6.out))
  have HBZ := Lib.hid ((Below.heap_setCell w12 ⟨w1.heap.size, 6, none⟩ (.slice A6 ex.length c6) w.heap.size hbn).trans hbz)
  clear s12 hR6 hx12 HX11 HB6 hbz
  go_wp2_with fail
  have hwl : w.heap.size < w1.heap.size + 1 := by omega
  have hwl2 : w.heap.size ≤ w1.heap.size + 1 := by omega
  have hx0 : w0.heap.size ≤ w.heap.size := hw0w
  have hgw : w.heap.size ≠ g := by omega
  have HF : Hid (Kd.R k54 54 ((((((((w12.setCell ⟨w1.heap.size, 6, none⟩ (.slice A6 ex.length c6)).setCell ⟨w.heap.size, 0, none⟩ (.string id)).setCell ⟨w.heap.size, 1, none⟩ (.int .i64 k)).setCell ⟨w.heap.size, 2, none⟩ (.string p)).setCell ⟨w.heap.size, 3, none⟩ (.bool (r == 1))).setCell ⟨w.heap.size, 4, none⟩ (.int .i64 t)).setCell ⟨w.heap.size, 5, none⟩ (.slice A5 en.length c5)).setCell ⟨w.heap.size, 6, none⟩ (.slice A6 ex.length c6)) w.heap.size (fun _ => True) (.slice A5 en.length c5) en ∧ Kd.R k54 54 ((((((((w12.setCell ⟨w1.heap.size, 6, none⟩ (.slice A6 ex.length c6)).setCell ⟨w.heap.size, 0, none⟩ (.string id)).setCell ⟨w.heap.size, 1, none⟩ (.int .i64 k)).setCell ⟨w.heap.size, 2, none⟩ (.string p)).setCell ⟨w.heap.size, 3, none⟩ (.bool (r == 1))).setCell ⟨w.heap.size, 4, none⟩ (.int .i64 t)).setCell ⟨w.heap.size, 5, none⟩ (.slice A5 en.length c5)).setCell ⟨w.heap.size, 6, none⟩ (.slice A6 ex.length c6)) w.heap.size (fun _ => True) (.slice A6 ex.length c6) ex ∧ Rs w0 w ((((((((w12.setCell ⟨w1.heap.size, 6, none⟩ (.slice A6 ex.length c6)).setCell ⟨w.heap.size, 0, none⟩ (.string id)).setCell ⟨w.heap.size, 1, none⟩ (.int .i64 k)).setCell ⟨w.heap.size, 2, none⟩ (.string p)).setCell ⟨w.heap.size, 3, none⟩ (.bool (r == 1))).setCell ⟨w.heap.size, 4, none⟩ (.int .i64 t)).setCell ⟨w.heap.size, 5, none⟩ (.slice A5 en.length c5)).setCell ⟨w.heap.size, 6, none⟩ (.slice A6 ex.length c6)) g z6) := Lib.hid ⟨Kd.R_lower (by
      iterate 7 refine R_set2 ?_ _ _ hwl
      exact HR5.out) hwl2, Kd.R_lower (by
      iterate 7 refine R_set2 ?_ _ _ hwl
      exact HR6.out) hwl2, by
      iterate 7 refine Rs.set ?_ _ ⟨hgw, Nat.le_refl _, hx0⟩
      exact HSA.out.then_ HX13.out.1⟩
  have HG := Lib.hid (blk_put (blk_put (blk_put (blk_put (blk_put (blk_put (blk_put HBZ.out 0 (.string id) rfl) 1 (.int .i64 k) rfl) 2 (.string p) rfl) 3 (.bool (r == 1)) rfl) 4 (.int .i64 t) rfl) 5 (.slice A5 en.length c5) rfl) 6 (.slice A6 ex.length c6) rfl)
  clear h12_0 h12_1 h12_2 h12_3 h12_4 h12_5 hz_0 hz_1 hz_2 hz_3 hz_4 hz_5 hz_6 hq_0 hq_1 hq_2 hq_3 hq_4 hq_5 hq_6 hcz hfz
  refine bodyPost_ret (results_cell_row rfl _ _ w.heap.size 48 #[.string id, .int .i64 k, .string p, .bool (r == 1), .int .i64 t, .slice A5 en.length c5, .slice A6 ex.length c6] (0, 0) _ rfl HG.out Try.underlying48 rfl (by kernel_rfl)) rfl ?_
  rw [HR.out]
  exact ⟨_, _, rfl, HF.out.1, HF.out.2.1, HF.out.2.2⟩
end Go.Proofs.Ytaiglhfmmdajdaa.Pm
end
section
namespace Go.Proofs.Ytaiglhfmmdajdaa.Pm
open Go.RowKit Go.Proofs.YtaiglhfmmdajdaaW.PrintWords Go.Proofs.YtaiglhfmmdajdaaW.PrintLast Go.Proofs.YtaiglhfmmdajdaaW.PrintMore
attribute [local go_sem] max2_int min2_int max_two min_two max_three min_three max_four min_four   -- for this text's walks alone
set_option linter.unusedVariables false
set_option linter.unusedSimpArgs false
def textR (s : RSt) : ByteArray × RSt := (strOfNums (takeR (numR 13 s).1.toNat (numR 13 s).2).1, (takeR (numR 13 s).1.toNat (numR 13 s).2).2)
def textsGo : Nat → RSt → List ByteArray × RSt
  | 0, s => ([], s)
  | d + 1, s => ((textR s).1 :: (textsGo d (textR s).2).1, (textsGo d (textR s).2).2)
def itemsGo (files ids : List ByteArray) : List ByteArray → RSt → List (S48) × RSt
  | [], s => ([], s)
  | id :: l, s => ((itemR id files ids s).1 :: (itemsGo files ids l (itemR id files ids s).2).1, (itemsGo files ids l (itemR id files ids s).2).2)
def modelR (s : RSt) : (List ByteArray × List (S48)) × RSt :=
  let c := countR 22 s
  let ts := textsGo c.1.toNat c.2
  let n := countR ts.1.length ts.2
  let r := itemsGo (ts.1.take n.1.toNat) (ts.1.drop n.1.toNat) (ts.1.drop n.1.toNat) n.2
  ((ts.1.take n.1.toNat, r.1), r.2)
def ModelPost (w0 w : World) (g : Nat) (r : (List ByteArray × List (S48)) × RSt) (e : Ending) (w' : World) : Prop := ∃ A c v, e = .returned (.agg #[.slice A r.1.1.length c, v]) ∧ r.1.1.length ≤ c ∧ Kd.C Kd.string w' A r.1.1.length r.1.1 ∧ (∀ ad, A = some ad → w.heap.size ≤ ad.block) ∧ Kd.R k48 48 w' w.heap.size (fun _ => True) v r.1.2 ∧ Rs w0 w w' g r.2
theorem cut_hm {P : Program} (t e : TypeId) (kh km : IntKind) {i : TypeInfo} (ht : P.underlying t = some (.slice e)) (hi : P.info? e = some i) (A : Option Addr) (n c : Nat) (j m : Int) (h0 : 0 ≤ j) (hm : j ≤ m) (hc : m ≤ c) :
    ∀ W : World, (Instr.slice t (.slice A n c) none (some (.int kh j)) (some (.int km m))).run P W = .ok (.slice A j.toNat m.toNat) W := by
  intro W
  have hel : P.elem t = e := by simp [Program.elem, ht]
  have hu : P.underlying t = some (.slice (P.elem t)) := by rw [hel]; exact ht
  have ha : (A.map fun x => x.add 0) = A := by cases A <;> simp [Addr.add]
  rw [run_slice_hm W t A n c hu kh km j m h0 hm hc, hel]
  simp [sizeOf, typeInfo, hi, sliced, Result.andThen, ha]
theorem textsGo_length (d : Nat) : ∀ s, (textsGo d s).1.length = d := by
  induction d with
  | zero => intro s; rfl
  | succ d ih => intro s; simp only [textsGo, List.length_cons, ih]
theorem info48_ : (Try.prog.info? 48).map (fun i => (i.zero, i.size, i.bytes)) = some (some (.agg #[.string ⟨#[]⟩, .int .i64 0, .string ⟨#[]⟩, .bool false, .int .i64 0, .slice none 0 0, .slice none 0 0]), 7, 104) := by kernel_rfl
set_option maxHeartbeats 16000000 in
set_option maxRecDepth 100000 in
theorem modelr_any (w0 w : World) (g : Nat) (s : RSt) (hg0 : w0.heap.size ≤ g) (h : Rs w0 w w g s) :
    Calls Try.prog 34 #[.pointer (some ⟨g, 0, none⟩)] w (ModelPost w0 w g (modelR s)) := by
  have hu25 := Try.underlying25
  obtain ⟨R, hR⟩ : ∃ R, R = modelR s := ⟨_, rfl⟩
  rw [← hR]
  unfold modelR at hR
  have hcl := countR_le 22 s h.bytes (by omega)
  obtain ⟨⟨n0, z0⟩, hn⟩ : ∃ r, r = countR 22 s := ⟨_, rfl⟩
  rw [← hn] at hR hcl
  obtain ⟨k, rfl⟩ := Int.eq_ofNat_of_zero_le hcl.1
  have hk22 : k ≤ 22 := by have := hcl.2; simp only at this; omega
  simp only [Int.toNat_natCast] at hR
  obtain ⟨⟨T, z1⟩, hT⟩ : ∃ r, r = textsGo k z0 := ⟨_, rfl⟩
  rw [← hT] at hR
  simp only at hR
  have hTl : T.length = k := by have := textsGo_length k z0; rw [← hT] at this; exact this
  obtain ⟨wA, hwA⟩ : ∃ wA, wA = w.alloc (.cells #[.slice none 0 0, .slice none 0 0] 25) := ⟨_, rfl⟩
  have hsA : Rs w0 w wA g s := by rw [hwA]; exact h.alloc _
  have hbA : wA.heap[w.heap.size]? = some (.cells #[.slice none 0 0, .slice none 0 0] 25 (0, 0)) := by rw [hwA]; exact heap_alloc_new w _
  have hzA : wA.heap.size = w.heap.size + 1 := by rw [hwA]; simp
  have hcnt := count_rs (w0 := w0) (w := wA) 22 (by omega) hg0 hsA.here
  rw [← hn] at hcnt
  have hgl := h.1.lt
  have hgA : g < wA.heap.size := by omega
  have hAw : w.heap.size < wA.heap.size := by omega
  have hw0w := h.2.1.size
  have HSA := Lib.hid hsA
  have HBA := Lib.hid hbA
  have HWA := Lib.hid hwA
  have HR := Lib.hid hR
  have HT := Lib.hid hT
  have HTL := Lib.hid hTl
  have HZA := Lib.hid hzA
  clear hR hn hT hcl hTl h hwA hsA hbA hzA
  go_enter Try.func34, Try.ntmps34
  go_wp2_with fail
  rw [← HWA.out]
  refine hcnt.mono ?_
  rintro e w1 ⟨rfl, s1⟩
  have HS1 := Lib.hid s1
  have hzw1 : wA.heap.size ≤ w1.heap.size := s1.2.2.1
  clear s1 hcnt
  go_wp2
  go_loopg [10, 3] k (fun gg s10 s3 wr => ∃ (i d : Nat) (z : RSt) (acc : List ByteArray), s10 = .int .i64 i ∧ i + d = k ∧ d ≤ gg ∧ Hid (Kd.R Kd.string 9 wr wA.heap.size (fun _ => True) s3 acc ∧ Rs w0 wA wr g z ∧ acc.length = i ∧ (T, z1) = (acc ++ (textsGo d z).1, (textsGo d z).2)))
  case atStart => exact ⟨0, k, z0, [], rfl, by omega, Nat.le_refl _, Lib.hid ⟨Kd.R_nil _ _ _ _ _, HS1.out, rfl, by rw [HT.out]; rfl⟩⟩
  case round =>
    obtain ⟨i, d, z, acc, rfl, hid, hdg, X⟩ := hrel
    obtain ⟨wO, rfl⟩ : ∃ wO, wO = wr := ⟨_, rfl⟩
    obtain ⟨hRa, hsO, hacc, hRe⟩ := X.out
    obtain ⟨Av, cv, rfl⟩ := Kd.R_slice hRa
    clear X
    by_cases hlt : i < k
    case pos =>
      have hltz : (i : Int) < (k : Int) := by omega
      obtain ⟨d, rfl⟩ : ∃ e, d = e + 1 := ⟨d - 1, by omega⟩
      have hnl := numR_lt 13 z hsO.bytes
      have hnm := num_rs (w0 := w0) (w := wO) 13 hg0 hsO.here
      have hRe2 : (T, z1) = (acc ++ strOfNums (takeR (numR 13 z).1.toNat (numR 13 z).2).1 :: (textsGo d (takeR (numR 13 z).1.toNat (numR 13 z).2).2).1, (textsGo d (takeR (numR 13 z).1.toNat (numR 13 z).2).2).2) := hRe
      obtain ⟨⟨q, y⟩, hq⟩ : ∃ r, r = numR 13 z := ⟨_, rfl⟩
      rw [← hq] at hnm hnl hRe2
      obtain ⟨q, rfl⟩ := Int.eq_ofNat_of_zero_le hnl.1
      have hq63 : q ≤ 9223372036854775807 := by have := hnl.2.1; simp only at this; omega
      simp only [Int.toNat_natCast] at hRe2
      obtain ⟨⟨b, y2⟩, hb⟩ : ∃ r, r = takeR q y := ⟨_, rfl⟩
      rw [← hb] at hRe2
      simp only at hRe2
      obtain ⟨m, hm⟩ : ∃ m, m = acc.length := ⟨_, rfl⟩
      rw [← hm] at hRa ⊢
      have hlim : (acc.length + 1) * 16 ≤ 140737488355328 := by omega
      have HRA := Lib.hid hRa
      have HSO := Lib.hid hsO
      have HACC := Lib.hid hacc
      have HRE := Lib.hid hRe2
      have HB := Lib.hid hb
      have HLIM := Lib.hid hlim
      have hwO : wA.heap.size ≤ wO.heap.size := hsO.2.2.1
      clear hRa hsO hacc hRe hRe2 hq hb hm hnl hlim
      go_wp2_with fail
      refine hnm.mono ?_
      rintro e w2 ⟨rfl, s2⟩
      have htk := take_st (w0 := w0) (w := w2) q hg0 s2.here hq63
      rw [← HB.out] at htk
      have HS2 := Lib.hid (HSO.out.then_ s2)
      have HR2 := Lib.hid (R_rs HRA.out s2 (by omega))
      clear s2 hnm HSO HRA
      go_wp2_with fail
      refine htk.mono ?_
      rintro e w3 ⟨A3, c3, rfl, hlc, hC, s3⟩
      have HS3 := Lib.hid (HS2.out.then_ s3)
      have HR3 := Lib.hid (R_rs HR2.out s3 (by omega))
      have hks : (convert 26 9 (.slice A3 b.length c3)).run Try.prog w3 = .ok (.string (strOfNums b)) w3 := Kd.C_string Try.underlying26 Try.underlying5 Try.underlying9 (Kd.C_below hC s3.2.1)
      have hw3 : wA.heap.size ≤ w3.heap.size := HS3.out.2.2.1
      clear s3 htk hC HS2 HR2
      obtain ⟨nb, hnb⟩ : ∃ nb, nb = b.length := ⟨_, rfl⟩
      rw [← hnb] at hks ⊢
      clear hnb
      go_wp2_with (first | ((with_reducible refine gate_builtin (b := .append) (xs := #[.tmp 12, .tmp 18]) rfl ?_); at_builtin; refine Kd.R_append Kd.string (w0 := w3) wA.heap.size rfl (.tmp 12) (.tmp 18) 22 9 (.string ⟨#[]⟩) 16 rfl Try.underlying22 info9 rfl (by decide) (by omega) (.slice Av m cv) acc (strOfNums b) [.string (strOfNums b)] (fun _ => True) (fun _ => False) rfl rfl rfl (fun _ h => h.elim) (fun _ _ => trivial) HR3.out (Below.refl _ _) hw3 HLIM.out ?_; intro v4 w4 hR4 hB4 hgr hat; have HS4 := Lib.hid (HS3.out.grown hgr (fun kk ek => by (have h_ := Kd.R_base HR3.out kk ek); omega)); clear hgr hat hB4; obtain ⟨A4, c4, rfl⟩ := Kd.R_slice hR4; rw [List.length_append, List.length_singleton] at hR4; have HR4 := Lib.hid hR4; clear hR4))
      go_roundg d
      case measure => omega
      case rel => exact ⟨i + 1, d, y2, acc ++ [strOfNums b], by go_num, by omega, Nat.le_refl _, Lib.hid ⟨HR4.out, HS4.out, by rw [List.length_append, List.length_singleton, HACC.out], by rw [HRE.out, List.append_assoc]; rfl⟩⟩
    have hltz : ¬ (i : Int) < (k : Int) := by omega
    obtain rfl : d = 0 := by omega
    have hTa : T = acc ∧ z1 = z := by
      have := Prod.mk.inj hRe
      simpa [textsGo] using this
    obtain ⟨rfl, rfl⟩ := hTa
    have hcl := countR_le T.length z1 hsO.bytes (by omega)
    have hcnt := count_rs (w0 := w0) (w := wO) T.length (by omega) hg0 hsO.here
    have hRR := HR.out
    obtain ⟨⟨n, z2⟩, hn⟩ : ∃ r, r = countR T.length z1 := ⟨_, rfl⟩
    rw [← hn] at hcl hcnt hRR
    obtain ⟨n, rfl⟩ := Int.eq_ofNat_of_zero_le hcl.1
    have hnT : n ≤ T.length := by have := hcl.2; simp only at this; omega
    simp only [Int.toNat_natCast] at hRR
    obtain ⟨F, hF⟩ : ∃ F, F = T.take n := ⟨_, rfl⟩
    obtain ⟨I, hI⟩ : ∃ I, I = T.drop n := ⟨_, rfl⟩
    rw [← hF, ← hI] at hRR
    have hFl : F.length = n := by rw [hF, List.length_take]; omega
    have hIl : I.length = T.length - n := by rw [hI, List.length_drop]
    have hrd := Kd.R_reads' hRa
    have hCF : Kd.C Kd.string wO Av F.length F := by rw [hF]; exact Kd.C_take hrd.2.2 hnT
    obtain ⟨Ai, hAi⟩ : ∃ Ai, Ai = if cv = n then Av else Av.map (·.add (n * 1)) := ⟨_, rfl⟩
    have hCI : Kd.C Kd.string wO Ai I.length I := by rw [hI, hAi]; exact Kd.C_drop hrd.2.2 hnT hrd.2.1
    have hAv : ∀ ad, Av = some ad → wA.heap.size ≤ ad.block ∧ ad.block < wO.heap.size := fun ad e => by
      subst e
      exact ⟨Kd.R_base hRa ad.block (by simp [Value.ownBlock]), Kd.R_lt hRa ad.block (by simp [Value.ownBlock])⟩
    have hAii : ∀ ad, Ai = some ad → wA.heap.size ≤ ad.block ∧ ad.block < wO.heap.size := by
      intro ad e
      rw [hAi] at e
      split at e
      · exact hAv ad e
      · cases Av with
        | none => cases e
        | some a0 =>
          cases e
          have hblk : (a0.add (n * 1)).block = a0.block := by unfold Addr.add; split <;> rfl
          rw [hblk]
          exact hAv a0 rfl
    obtain ⟨i0, hi0, hz0, hz1, hz2⟩ := info_parts info9
    have k1 := cut_hm (P := Try.prog) 22 9 .i64 .i64 Try.underlying22 hi0 Av T.length cv (n : Int) (n : Int) (by omega) (by omega) (by have := hrd.2.1; omega)
    have k2 := cut_from (P := Try.prog) 22 9 .i64 Try.underlying22 hi0 1 hz1 Av T.length cv (n : Int) (by omega) (by omega)
    rw [Int.toNat_natCast] at k1 k2
    rw [← hAi, ← hIl] at k2
    obtain ⟨tl, htl⟩ : ∃ tl, tl = T.length := ⟨_, rfl⟩
    obtain ⟨il, hil⟩ : ∃ il, il = I.length := ⟨_, rfl⟩
    rw [← hil] at k2
    rw [← htl] at k1 k2 hcnt ⊢
    have htl22 : tl ≤ 22 := by have := HTL.out; omega
    have hil22 : il ≤ 22 := by omega
    have hwO : wA.heap.size ≤ wO.heap.size := hsO.2.2.1
    have HSO := Lib.hid hsO
    have HTF : Hid (Txt w0 wO g Av n F) := Lib.hid ⟨hCF, by omega, fun ad e => ⟨(hAv ad e).2, by have := (hAv ad e).1; omega⟩, by omega⟩
    have HTI : Hid (Txt w0 wO g Ai (cv - n) I) := Lib.hid ⟨hCI, by have := hrd.2.1; omega, fun ad e => ⟨(hAii ad e).2, by have := (hAii ad e).1; omega⟩, by omega⟩
    have HAV := Lib.hid hAv
    have HRR : Hid (R = ((F, (itemsGo F I I z2).1), (itemsGo F I I z2).2)) := Lib.hid hRR
    have HFL := Lib.hid hFl
    have HIL := Lib.hid hil
    have hntl : n ≤ tl := by omega
    have hncv : tl ≤ cv := by have := hrd.2.1; omega
    clear hRa hsO hacc hRe hcl hRR hn hF hI hFl hIl hrd hCF hAi hCI hAv hAii hi0 hz0 hz1 hz2 htl hil
    go_wp2_with fail
    refine hcnt.mono ?_
    rintro e w5 ⟨rfl, s5⟩
    have HS5 := Lib.hid (HSO.out.then_ s5)
    have HTF := Lib.hid (HTF.out.go s5)
    have HTI := Lib.hid (HTI.out.go s5)
    have hw5 : wA.heap.size ≤ w5.heap.size := HS5.out.2.2.1
    clear s5 hcnt HSO
    go_wp2
    obtain ⟨wB, hwB⟩ : ∃ wB, wB = w5.alloc (.cells #[.slice Av n n, .slice none 0 0] 25) := ⟨_, rfl⟩
    rw [← hwB]
    have hsB : Rs w0 wA wB g z2 := by rw [hwB]; exact HS5.out.alloc _
    have hbB : wB.heap[w5.heap.size]? = some (.cells #[.slice Av n n, .slice none 0 0] 25 (0, 0)) := by rw [hwB]; exact heap_alloc_new w5 _
    have hbg : w5.heap.size ≠ g := by omega
    have hgb : g < w5.heap.size + 1 := by omega
    have HSB := Lib.hid hsB
    have HBB := Lib.hid hbB
    have HTFB : Hid (∀ wi z, Rs w0 wA wi g z → Kept w5 wi (fun k => k = g) → Txt w0 wi g Av n F ∧ Txt w0 wi g Ai (cv - n) I) := Lib.hid (fun wi z hs hk => ⟨⟨C_kept HTF.out.1 hk HTF.out.2.2.1, HTF.out.2.1, fun ad e => ⟨Nat.lt_of_lt_of_le (HTF.out.2.2.1 ad e).1 hk.1, (HTF.out.2.2.1 ad e).2⟩, HTF.out.2.2.2⟩, ⟨C_kept HTI.out.1 hk HTI.out.2.2.1, HTI.out.2.1, fun ad e => ⟨Nat.lt_of_lt_of_le (HTI.out.2.2.1 ad e).1 hk.1, (HTI.out.2.2.1 ad e).2⟩, HTI.out.2.2.2⟩⟩)
    have HKB : Hid (Rs w0 w5 wB g z2) := Lib.hid (by rw [hwB]; exact HS5.out.here.alloc _)
    clear hwB hsB hbB
    go_loopg [34] il (fun gg s34 wi => ∃ (j : Nat) (y : RSt) (its : List (S48)), s34 = .int .i64 j ∧ j ≤ il ∧ il - j ≤ gg ∧ Hid (∃ v, Rs w0 w5 wi g y ∧ wi.heap[w5.heap.size]? = some (.cells #[.slice Av n n, v] 25 (0, 0)) ∧ Kd.R k48 48 wi (w5.heap.size + 1) (fun _ => True) v its ∧ its.length = j ∧ R = ((F, its ++ (itemsGo F I (I.drop j) y).1), (itemsGo F I (I.drop j) y).2)))
    case atStart => exact ⟨0, z2, [], rfl, by omega, by omega, Lib.hid ⟨_, HKB.out, HBB.out, Kd.R_nil _ _ _ _ _, rfl, by rw [HRR.out]; rfl⟩⟩
    case round =>
      obtain ⟨j, y, its, rfl, hjl, hjg, Y⟩ := hrel
      obtain ⟨wi, rfl⟩ : ∃ wi, wi = wr := ⟨_, rfl⟩
      obtain ⟨v, hsi, hbi, hRi, hil, hRe⟩ := Y.out
      obtain ⟨A4, c4, rfl⟩ := Kd.R_slice hRi
      clear Y
      by_cases hlj : j < il
      case pos =>
        have hltj : (j : Int) < (il : Int) := by omega
        have hjI : j < I.length := by have := HIL.out; omega
        have htx := HTFB.out wi y (HS5.out.then_ hsi) hsi.2.2
        obtain ⟨ad, e, hx0⟩ := Kd.at_string htx.2.1 (j : Int) (by omega) (by omega)
        cases e
        simp only [Int.toNat_natCast] at hx0
        obtain ⟨id, hid'⟩ : ∃ id, id = rdOf ByteArray.empty I (j : Int) := ⟨_, rfl⟩
        have hidl : id = I[j] := by rw [hid', rdOf_get _ _ _ hjI]
        rw [← hid'] at hx0
        have hdr : I.drop j = id :: I.drop (j + 1) := by rw [hidl]; exact List.drop_eq_getElem_cons hjI
        rw [hdr] at hRe
        obtain ⟨⟨x, y2⟩, hxy⟩ : ∃ r, r = itemR id F I y := ⟨_, rfl⟩
        have hRe2 : R = ((F, its ++ x :: (itemsGo F I (I.drop (j + 1)) y2).1), (itemsGo F I (I.drop (j + 1)) y2).2) := by rw [hRe]; simp only [itemsGo]; rw [← hxy]
        obtain ⟨m, hm⟩ : ∃ m, m = its.length := ⟨_, rfl⟩
        rw [← hm] at hRi hbi
        have HSI := Lib.hid hsi
        have HBI := Lib.hid hbi
        have HRI := Lib.hid hRi
        have HRE := Lib.hid hRe2
        have HM := Lib.hid hm
        have HIT := Lib.hid hil
        have HXY := Lib.hid hxy
        clear hsi hbi hRi hil hRe hRe2 hm hxy hdr hid' hidl htx hjI
        go_wp2
        clear hx0
        have hb0 : wi.cell? ⟨w5.heap.size, 0, none⟩ = some (.slice Av n n) := (blk_cell HBI.out 0).trans rfl
        have hb1 : wi.cell? ⟨w5.heap.size, 1, none⟩ = some (.slice A4 m c4) := (blk_cell HBI.out 1).trans rfl
        refine sD_ [13] (fun w' => w'.cell? ⟨w5.heap.size, 0, none⟩ = some (.slice Av n n) ∧ w'.cell? ⟨w5.heap.size, 1, none⟩ = some (.slice A4 m c4)) 14 ⟨hb0, hb1⟩ (fun hHeld => ?_)
        have hb4 : wi.drew.heap[w5.heap.size]? = some (.cells #[.slice Av n n, .slice A4 m c4] 25 (0, 0)) := HBI.out
        have hs4 : Rs w0 w5 wi.drew g y := HSI.out.drew
        have hR4 : Kd.R k48 48 wi.drew (w5.heap.size + 1) (fun _ => True) (.slice A4 m c4) its := Kd.R_drew HRI.out
        clear hb0 hb1 HBI HSI HRI
        generalize wi.drew = wD at hHeld hb4 hs4 hR4 ⊢
        refine pu_ 0 (some 38) ?_
        refine tk_ 1 (some 39) hHeld ?_ (hy := by rintro w' ⟨s0, s1⟩; go_simp; with_reducible rfl)
        refine pu_ 2 (some 40) ?_
        refine pu_ 3 (some 41) ?_
        refine pu_ 4 (some 42) ?_
        refine tk_ 5 (some 43) hHeld ?_ (hy := by rintro w' ⟨s0, s1⟩; go_simp; with_reducible rfl)
        refine pu_ 6 (some 44) ?_
        refine pu_ 7 (some 45) ?_
        refine pu_ 8 (some 46) ?_
        have htx := HTFB.out wD y (HS5.out.then_ hs4) hs4.2.2
        have hit := itemr_any w0 wD g y id Av n F (some ad) (cv - n) I hg0 hs4.here htx.1 htx.2 (by have := HIL.out; omega)
        rw [HFL.out, ← HIL.out, ← HXY.out] at hit
        refine ca_ 9 (some 47) Try.func65 #[.pointer (some ⟨g, 0, none⟩), .string id, .slice Av n n, .slice (some ad) il (cv - n)] ?_
        refine hit.mono ?_
        rintro e' w6 ⟨v5, v6, rfl, hR5, hR6, s6⟩
        obtain ⟨A5, c5, rfl⟩ := Kd.R_slice hR5
        obtain ⟨A6, c6, rfl⟩ := Kd.R_slice hR6
        have hs6 := hs4.then_ s6
        have hb6 := s6.blk hb4 hbg
        have hRr := R_rs hR4 s6 hgb
        have hwD : w5.heap.size + 1 ≤ wD.heap.size := blk_lt hb4
        have hown : ∀ kk, (Value.slice A4 m c4).ownBlock = some kk → w5.heap.size + 1 ≤ kk ∧ kk < wD.heap.size := fun kk ek => ⟨Kd.R_base hR4 kk ek, Kd.R_lt hR4 kk ek⟩
        have hM : Kd.M k48 w6 (w5.heap.size + 1) (fun kk => wD.heap.size ≤ kk) x [.string x.f0, .int .i64 x.f1, .string x.f2, .bool x.f3, .int .i64 x.f4, .slice A5 x.f5.length c5, .slice A6 x.f6.length c6] := k48_mkM _ _ _ _ (Kd.R_lower (Kd.R_mono (Kd.R_bound hR5) (fun kk hk => hk.2.1)) hwD) (Kd.R_lower (Kd.R_mono (Kd.R_bound hR6) (fun kk hk => hk.2.1)) hwD)
        obtain ⟨m5, hm5⟩ : ∃ m5, m5 = x.f5.length := ⟨_, rfl⟩
        obtain ⟨m6, hm6⟩ : ∃ m6, m6 = x.f6.length := ⟨_, rfl⟩
        rw [← hm5, ← hm6] at hM ⊢
        clear hit hs4 hb4 hR4 hR5 hR6 s6 hHeld htx hm5 hm6
        refine ⟨_, rfl, ⟨(blk_cell hb6 0).trans rfl, (blk_cell hb6 1).trans rfl⟩, fun hHeld => ⟨_, rfl, nz_ (some 47) ?_⟩⟩
        refine oN_ 10 (some 48) (fun K hK => ?_)
        go_simp
        refine hK.out _ _ ?_ (fun _ => ?_)
        · have hbq := blk_below hb6 (below_alloc (Below.refl _ _) (.cells #[.string x.f0, .int .i64 x.f1, .string x.f2, .bool x.f3, .int .i64 x.f4, .slice A5 m5 c5, .slice A6 m6 c6] 48))
          exact ⟨(blk_cell hbq 0).trans rfl, (blk_cell hbq 1).trans rfl⟩
        clear hK K
        refine oN_ 11 (some 49) (fun K hK => ?_)
        refine Kd.R_append_step k48 (w0 := w6) (w5.heap.size + 1) (by rfl) (.tmp 39) (.tmp 48) 23 48 (.agg #[.string ⟨#[]⟩, .int .i64 0, .string ⟨#[]⟩, .bool false, .int .i64 0, .slice none 0 0, .slice none 0 0]) 104 rfl Try.underlying23 info48_ rfl (by decide) (by omega) (.slice A4 m c4) its x [.string x.f0, .int .i64 x.f1, .string x.f2, .bool x.f3, .int .i64 x.f4, .slice A5 m5 c5, .slice A6 m6 c6] (fun _ => True) (fun kk => wD.heap.size ≤ kk) rfl rfl hM (fun kk hk => ⟨trivial, fun ek => by have := hown kk ek.symm; omega⟩) (fun _ _ => trivial) hRr (Below.refl _ _) (blk_lt hb6) ?_ ?_
        · have := HIT.out; omega
        intro v7 w7 hR7 hB7 hgr hat
        have hs7 := hs6.grown hgr (fun kk ek => ⟨by have := hown kk ek; omega, by have := hown kk ek; omega, by have := hown kk ek; omega⟩)
        have hb7 := (hgr.block _ (blk_lt hb6) (fun ek => by have := hown _ ek.symm; omega)).trans hb6
        obtain ⟨A7, c7, rfl⟩ := Kd.R_slice hR7
        clear hgr hat hB7 hown hs6 hb6 hRr hHeld hM
        refine hK.out _ _ ⟨(blk_cell hb7 0).trans rfl, (blk_cell hb7 1).trans rfl⟩ (fun _ => ?_)
        clear hK K
        refine nz_ (some 49) ?_
        refine pu_ 12 (some 50) ?_
        have hcz := (blk_cell hb7 1).trans rfl
        have hfz := blk_frozen hb7 1
        refine lA_ 13 none (fun K hK => ?_)
        go_simp
        have hlen : (its ++ [x]).length = its.length + 1 := by rw [List.length_append, List.length_singleton]
        have HF : Hid (Rs w0 w5 (w7.setCell ⟨w5.heap.size, 1, none⟩ (.slice A7 (its.length + 1) c7)) g y2 ∧ (w7.setCell ⟨w5.heap.size, 1, none⟩ (.slice A7 (its.length + 1) c7)).heap[w5.heap.size]? = some (.cells #[.slice Av n n, .slice A7 (its.length + 1) c7] 25 (0, 0)) ∧ Kd.R k48 48 (w7.setCell ⟨w5.heap.size, 1, none⟩ (.slice A7 (its.length + 1) c7)) (w5.heap.size + 1) (fun _ => True) (.slice A7 (its.length + 1) c7) (its ++ [x])) := Lib.hid ⟨hs7.set _ ⟨hbg, Nat.le_refl _, by show w0.heap.size ≤ w5.heap.size; omega⟩, blk_put hb7 1 _ rfl, hlen ▸ R_set2 hR7 _ _ (Nat.lt_succ_self _)⟩
        have HL := Lib.hid hlen
        refine hK.out _ _ ?_
        clear hK K hs7 hb7 hR7 hcz hfz hlen
        refine dn_ ?_
        go_wp2
        go_roundg (il - (j + 1))
        case measure => omega
        case rel => exact ⟨j + 1, y2, its ++ [x], by go_num, by omega, by omega, Lib.hid ⟨_, HF.out.1, HF.out.2.1, HF.out.2.2, by rw [HL.out, HIT.out], by rw [HRE.out, List.append_assoc]; rfl⟩⟩
      have hltj : ¬ (j : Int) < (il : Int) := by omega
      obtain rfl : j = il := by omega
      have hRf : R = ((F, its), y) := by rw [hRe, List.drop_of_length_le (by have := HIL.out; omega)]; simp [itemsGo]
      have htx := HTFB.out wi y (HS5.out.then_ hsi) hsi.2.2
      have hsA := HS5.out.then_ hsi
      have hbz := hsA.blk HBA.out (by omega)
      have hbz2 : w.heap.size ≠ w5.heap.size := by omega
      have hwl : w.heap.size < w5.heap.size + 1 := by omega
      have hgw : w.heap.size ≠ g := by omega
      obtain ⟨m, hm⟩ : ∃ m, m = its.length := ⟨_, rfl⟩
      rw [← hm] at hRi hbi
      have HF : Hid (Kd.C Kd.string ((wi.setCell ⟨w.heap.size, 0, none⟩ (.slice Av n n)).setCell ⟨w.heap.size, 1, none⟩ (.slice A4 m c4)) Av F.length F ∧ Kd.R k48 48 ((wi.setCell ⟨w.heap.size, 0, none⟩ (.slice Av n n)).setCell ⟨w.heap.size, 1, none⟩ (.slice A4 m c4)) w.heap.size (fun _ => True) (.slice A4 m c4) its ∧ Rs w0 w ((wi.setCell ⟨w.heap.size, 0, none⟩ (.slice Av n n)).setCell ⟨w.heap.size, 1, none⟩ (.slice A4 m c4)) g y) := Lib.hid (by
        refine ⟨C_stay (C_stay htx.1.1 (fun ad e => Below.heap_setCell _ _ _ _ (by have := (HAV.out ad e).1; show ad.block ≠ w.heap.size; omega))) (fun ad e => Below.heap_setCell _ _ _ _ (by have := (HAV.out ad e).1; show ad.block ≠ w.heap.size; omega)), Kd.R_lower (R_set2 (R_set2 hRi _ _ hwl) _ _ hwl) (by omega), ?_⟩
        refine Rs.set (Rs.set (HSA.out.then_ hsA) _ ⟨hgw, Nat.le_refl _, hw0w⟩) _ ⟨hgw, Nat.le_refl _, hw0w⟩)
      have HG := Lib.hid (blk_put (blk_put hbz 0 (.slice Av n n) rfl) 1 (.slice A4 m c4) rfl)
      have HM := Lib.hid hm
      have HRF := Lib.hid hRf
      have hc0 := (blk_cell hbi 0).trans rfl
      have hc1 := (blk_cell hbi 1).trans rfl
      have hz0 := (blk_cell hbz 0).trans rfl
      have hz1 := (blk_cell hbz 1).trans rfl
      have hq0 := blk_frozen hbz 0
      have hq1 := blk_frozen hbz 1
      clear hsi hbi hRi hil hRe hRf htx hsA hbz hm
      go_wp2
      clear hc0 hc1 hz0 hz1 hq0 hq1
      refine bodyPost_ret (results_cell_row rfl _ _ w.heap.size 25 #[.slice Av n n, .slice A4 m c4] (0, 0) _ rfl HG.out Try.underlying25 rfl (by kernel_rfl)) rfl ?_
      rw [HRF.out]
      exact ⟨Av, n, .slice A4 m c4, by rw [HFL.out], by show F.length ≤ n; rw [HFL.out]; exact Nat.le_refl _, HF.out.1, fun ad e => by have := (HAV.out ad e).1; omega, HF.out.2.1, HF.out.2.2⟩
end Go.Proofs.Ytaiglhfmmdajdaa.Pm
end
section
namespace Go.Proofs.Ytaiglhfmmdajdaa.Pm
open Go.RowKit Go.Proofs.YtaiglhfmmdajdaaW.PrintWords Go.Proofs.YtaiglhfmmdajdaaW.PrintLast Go.Proofs.YtaiglhfmmdajdaaW.PrintMore
attribute [local go_sem] max2_int min2_int max_two min_two max_three min_three max_four min_four   -- for this text's walks alone
set_option linter.unusedVariables false
set_option linter.unusedSimpArgs false
theorem strOfNums_inj {xs : List Int} : ∀ {ys : List Int}, Bytes xs → Bytes ys → (strOfNums xs).toList = (strOfNums ys).toList → xs = ys := by
  have e : ∀ l : List Int, (strOfNums l).toList = l.map (fun n => UInt8.ofNat n.toNat) := fun l => by rw [ByteArray.toList_eq, strOfNums_data]
  intro ys hx hy h
  rw [e, e] at h
  clear e
  induction xs generalizing ys with
  | nil => cases ys with
    | nil => rfl
    | cons b ys => simp at h
  | cons a xs ih => cases ys with
    | nil => simp at h
    | cons b ys =>
      rw [List.map_cons, List.map_cons, List.cons.injEq] at h
      have ha := (Bytes.cons hx).1
      have hb := (Bytes.cons hy).1
      have h1 := congrArg UInt8.toNat h.1
      rw [UInt8.toNat_ofNat', UInt8.toNat_ofNat', Nat.mod_eq_of_lt (by omega), Nat.mod_eq_of_lt (by omega)] at h1
      rw [ih (Bytes.cons hx).2 (Bytes.cons hy).2 h.2, show a = b by omega]
theorem equal_any (w : World) (A : Option Addr) (c : Nat) (xs : List Int) (B : Option Addr) (d : Nat) (ys : List Int) (hx : Kd.C (Kd.int .u8) w A xs.length xs) (hy : Kd.C (Kd.int .u8) w B ys.length ys) :
    Calls Try.prog 35 #[.slice A xs.length c, .slice B ys.length d] w fun e w' => e = .returned (.bool ((strOfNums xs).toList == (strOfNums ys).toList)) ∧ w = w' := by
  have h1 : (convert 26 9 (.slice A xs.length c)).run Try.prog w = .ok (.string (strOfNums xs)) w := Kd.C_string Try.underlying26 Try.underlying5 Try.underlying9 hx
  have h2 : (convert 26 9 (.slice B ys.length d)).run Try.prog w = .ok (.string (strOfNums ys)) w := Kd.C_string Try.underlying26 Try.underlying5 Try.underlying9 hy
  clear hx hy
  obtain ⟨n, hn⟩ : ∃ n, n = xs.length := ⟨_, rfl⟩
  obtain ⟨m, hm⟩ : ∃ m, m = ys.length := ⟨_, rfl⟩
  obtain ⟨sx, hsx⟩ : ∃ s, s = strOfNums xs := ⟨_, rfl⟩
  obtain ⟨sy, hsy⟩ : ∃ s, s = strOfNums ys := ⟨_, rfl⟩
  rw [← hn] at h1 ⊢
  rw [← hm] at h2 ⊢
  rw [← hsx] at h1 ⊢
  rw [← hsy] at h2 ⊢
  clear hn hm hsx hsy
  go_enter Try.func35, Try.ntmps35
  go_wp2
  go_ret
  exact ⟨rfl, rfl⟩
def unpackR (l : List Int) : (List ByteArray × List (S48)) × Int :=
  if l.length < 8 then (([], []), 2) else
    let r := modelR (l.drop 8, false)
    if r.2.2 = false ∧ isB r.1.1 r.1.2 = true ∧ packL r.1.1 r.1.2 = l then (r.1, 0) else (([], []), 2)
def UnPost (w : World) (r : (List ByteArray × List (S48)) × Int) (e : Ending) (w' : World) : Prop := ∃ A c v, e = .returned (.tuple #[.agg #[.slice A r.1.1.length c, v], .int .i64 r.2]) ∧ r.1.1.length ≤ c ∧ Kd.C Kd.string w' A r.1.1.length r.1.1 ∧ (∀ ad, A = some ad → w.heap.size ≤ ad.block) ∧ Kd.R k48 48 w' w.heap.size (fun _ => True) v r.1.2 ∧ Below w.heap.size w w'
theorem bytes_num (d : Nat) : ∀ n : Int, Bytes (numW d n) := by
  induction d with
  | zero => intro n x hx; simp [numW] at hx
  | succ d ih =>
    intro n x hx
    simp only [numW] at hx
    split at hx
    · rcases List.mem_cons.1 hx with rfl | hx
      · unfold byteW; rw [Lib.u8_or128_any _ (by omega) (by omega)]; omega
      · exact ih _ x hx
    · rw [List.mem_singleton.1 hx]; omega
theorem bytes_app {a b : List Int} (h1 : Bytes a) (h2 : Bytes b) : Bytes (a ++ b) := fun x hx => (List.mem_append.1 hx).elim (h1 x) (h2 x)
theorem bytes_flat {α : Type} (f : α → List Int) (l : List α) (h : ∀ x, Bytes (f x)) : Bytes (l.flatMap f) := fun x hx => by
  obtain ⟨y, -, h2⟩ := List.mem_flatMap.1 hx
  exact h y x h2
theorem bytes_str (s : ByteArray) : Bytes (bytesOf s) := fun x hx => by
  unfold bytesOf at hx
  obtain ⟨b, -, rfl⟩ := List.mem_map.1 hx
  have := b.toNat_lt
  omega
theorem bytes_model (fs : List ByteArray) (l : List (S48)) : Bytes (modelW fs l) := by
  unfold modelW
  refine bytes_app (bytes_app (bytes_app (bytes_num _ _) (bytes_flat _ _ fun s => bytes_app (bytes_num _ _) (bytes_str s))) (bytes_num _ _)) (bytes_flat _ _ fun x => ?_)
  have hs : ∀ ss, Bytes (sentsW fs l ss) := fun ss => bytes_app (bytes_num _ _) (bytes_flat _ _ fun s => bytes_app (bytes_app (bytes_app (bytes_num _ _) (bytes_flat _ _ fun o => bytes_app (bytes_num _ _) (bytes_num _ _))) (bytes_num _ _)) (bytes_flat _ _ fun c => bytes_app (bytes_app (bytes_num _ _) (bytes_num _ _)) (bytes_num _ _)))
  exact bytes_app (bytes_app (bytes_app (bytes_app (bytes_app (bytes_num _ _) (bytes_num _ _)) (bytes_num _ _)) (bytes_num _ _)) (hs _)) (hs _)
theorem bytes_seal {l : List Int} (h : Bytes l) : Bytes (sealL l) := by
  unfold sealL
  refine bytes_app (bytes_app (fun x hx => ?_) (fun x hx => ?_)) h
  · simp only [List.mem_cons, List.not_mem_nil, or_false] at hx
    omega
  · simp only [List.mem_cons, List.not_mem_nil, or_false] at hx
    omega
theorem bytes_pack (fs : List ByteArray) (l : List (S48)) : Bytes (packL fs l) := bytes_seal (bytes_model fs l)
theorem un_bad {w W : World} {U : (List ByteArray × List (S48)) × Int} (h : U = (([], []), 2)) (hb : Below w.heap.size w W) : UnPost w U (.returned (.tuple #[.agg #[.slice none 0 0, .slice none 0 0], .int .i64 2])) W := by
  subst h
  exact ⟨none, 0, .slice none 0 0, rfl, Nat.le_refl _, Kd.C_nil _ _, (fun ad e => by cases e), Kd.R_nil _ _ _ _ _, hb⟩
set_option maxHeartbeats 16000000 in
set_option maxRecDepth 100000 in
theorem unpack_any (w : World) (A0 : Option Addr) (c0 : Nat) (l : List Int) (hr0 : Kd.C (Kd.int .u8) w A0 l.length l) (hc0 : l.length ≤ c0) (h8 : Bytes l) (hl : l.length ≤ 140737488351232) :
    Calls Try.prog 21 #[.slice A0 l.length c0] w (UnPost w (unpackR l)) := by
  have hu25 := Try.underlying25
  have hu71 := Try.underlying71
  obtain ⟨U, hU⟩ : ∃ U, U = unpackR l := ⟨_, rfl⟩
  rw [← hU]
  unfold unpackR at hU
  obtain ⟨wA, hwA⟩ : ∃ wA, wA = w.alloc (.cells #[.slice none 0 0, .slice none 0 0] 25) := ⟨_, rfl⟩
  have hbA : wA.heap[w.heap.size]? = some (.cells #[.slice none 0 0, .slice none 0 0] 25 (0, 0)) := by rw [hwA]; exact heap_alloc_new w _
  have hblA : Below w.heap.size w wA := by rw [hwA]; exact below_alloc (Below.refl _ _) _
  have hAw : w.heap.size < wA.heap.size := by rw [hwA]; simp
  have HWA := Lib.hid hwA
  have HBA := Lib.hid hbA
  have HBLA := Lib.hid hblA
  by_cases h8l : l.length < 8
  case pos =>
    rw [if_pos h8l] at hU
    have HU := Lib.hid hU
    have hz : (l.length : Int) < 8 := by omega
    have HG : Hid ((w.alloc (.cells #[.slice none 0 0, .slice none 0 0] 25)).heap[w.heap.size]? = _) := Lib.hid (HWA.out ▸ HBA.out)
    have HB2 : Hid (Below w.heap.size w (w.alloc (.cells #[.slice none 0 0, .slice none 0 0] 25))) := Lib.hid (HWA.out ▸ HBLA.out)
    obtain ⟨n, hn⟩ : ∃ n, n = l.length := ⟨_, rfl⟩
    rw [← hn] at hz ⊢
    clear hr0 hc0 hU hwA hbA hblA h8l hn hl
    go_enter Try.func21, Try.ntmps21
    go_wp2
    refine bodyPost_ret (results_ct rfl _ _ w.heap.size 25 #[.slice none 0 0, .slice none 0 0] (0, 0) _ rfl HG.out Try.underlying25 rfl (by kernel_rfl)) rfl ?_
    rw [HU.out]
    exact ⟨none, 0, .slice none 0 0, rfl, Nat.le_refl _, Kd.C_nil _ _, (fun ad e => by cases e), Kd.R_nil _ _ _ _ _, HB2.out⟩
  rw [if_neg h8l] at hU
  have hz : ¬ (l.length : Int) < 8 := by omega
  obtain ⟨i0, hi0, hz0, hz1, hz2⟩ := info_parts info5
  have k2 := cut_from (P := Try.prog) 26 5 .i64 Try.underlying26 hi0 1 hz1 A0 l.length c0 8 (by omega) (by omega)
  obtain ⟨A2, hA2⟩ : ∃ A2, A2 = if c0 = (8 : Int).toNat then A0 else A0.map (·.add ((8 : Int).toNat * 1)) := ⟨_, rfl⟩
  have hC2 : Kd.C (Kd.int .u8) w A2 (l.drop 8).length (l.drop 8) := by rw [hA2]; exact Kd.C_drop hr0 (show 8 ≤ l.length by omega) hc0
  rw [← hA2] at k2
  have h8t : (8 : Int).toNat = 8 := rfl
  rw [h8t] at k2
  have hdl : (l.drop 8).length = l.length - 8 := List.length_drop
  obtain ⟨q, hq⟩ : ∃ q, q = l.length - 8 := ⟨_, rfl⟩
  rw [← hq] at k2 hdl
  obtain ⟨wB, hwB⟩ : ∃ wB, wB = wA.alloc (.cells #[.slice A2 q (c0 - 8), .bool false] 71) := ⟨_, rfl⟩
  have hzA : wA.heap.size = w.heap.size + 1 := by rw [hwA]; simp
  have hgB : wB.heap[w.heap.size + 1]? = some (.cells #[.slice A2 q (c0 - 8), .bool false] 71 (0, 0)) := by rw [hwB, ← hzA]; exact heap_alloc_new wA _
  have hblB : Below w.heap.size w wB := by rw [hwB]; exact below_alloc hblA _
  have hsB : Rs w wB wB (w.heap.size + 1) (l.drop 8, false) := Rs.refl ⟨A2, c0 - 8, by show (l.drop 8).length ≤ c0 - 8; omega, by show wB.heap[w.heap.size + 1]? = some (.cells #[.slice A2 (l.drop 8).length (c0 - 8), .bool false] 71 (0, 0)); rw [hdl]; exact hgB, hC2, fun x hx => h8 x (List.mem_of_mem_drop hx), by show (l.drop 8).length ≤ 140737488351232; omega⟩ hblB
  have hbB : wB.heap[w.heap.size]? = some (.cells #[.slice none 0 0, .slice none 0 0] 25 (0, 0)) := by rw [hwB]; exact blk_below hbA (below_alloc (Below.refl _ _) _)
  have hmd := modelr_any w wB (w.heap.size + 1) (l.drop 8, false) (Nat.le_succ _) hsB
  obtain ⟨⟨⟨F, I⟩, z⟩, hz⟩ : ∃ r, r = modelR (l.drop 8, false) := ⟨_, rfl⟩
  rw [← hz] at hmd hU
  simp only at hU
  have HU := Lib.hid hU
  have HWB := Lib.hid hwB
  have HBB := Lib.hid hbB
  have HR0 := Lib.hid hr0
  have H8 := Lib.hid h8
  have hBw : w.heap.size + 1 < wB.heap.size := by have := hsB.1.lt; omega
  have HC0 := Lib.hid hc0
  obtain ⟨n, hn⟩ : ∃ n, n = l.length := ⟨_, rfl⟩
  have HN := Lib.hid hn
  rw [← hn] at k2 hc0 hl h8l ⊢
  have hnz : ¬ (n : Int) < 8 := by omega
  clear hr0 hU hwA hbA hblA hz0 hz1 hz2 hi0 hA2 hC2 h8t hdl hq hwB hzA hgB hblB hsB hbB hz hn h8
  go_enter Try.func21, Try.ntmps21
  go_wp2_with fail
  rw [← HWA.out, ← HWB.out]
  refine hmd.mono ?_
  rintro e w3 ⟨A3, c3, v3, rfl, hc3, hC3, hA3, hR3, s3⟩
  obtain ⟨A4, c4, rfl⟩ := Kd.R_slice hR3
  simp only at hc3 hC3 hA3 hR3 s3
  have hrd := Kd.R_reads' hR3
  have hb3 := s3.blk HBB.out (by omega)
  have hw3 : w.heap.size + 1 < w3.heap.size := by have := s3.2.2.1; omega
  obtain ⟨w4, hw4⟩ : ∃ w4, w4 = w3.alloc (.cells #[.slice A3 F.length c3, .slice A4 I.length c4] 25) := ⟨_, rfl⟩
  have hbl4 : Below w3.heap.size w3 w4 := by rw [hw4]; exact below_alloc (Below.refl _ _) _
  have hm4 : w4.heap[w3.heap.size]? = some (.cells #[.slice A3 F.length c3, .slice A4 I.length c4] 25 (0, 0)) := by rw [hw4]; exact heap_alloc_new w3 _
  have hpk := pack_Pack.calls A3 c3 F A4 c4 I (if isB F I = true then packL F I else []) (if isB F I = true then 0 else 1) w4 (Kd.C_below hC3 hbl4) hc3 (Kd.C_below hrd.2.2 hbl4) hrd.2.1 (by unfold pack_Pack.f; split <;> rfl)
  have hg4 : w4.cell? ⟨w.heap.size + 1, 1, none⟩ = some (.bool z.2) := by
    obtain ⟨A, c, hl, hg, -⟩ := s3.1
    exact keepc hbl4 ((blk_cell hg 1).trans rfl)
  have HB4 := Lib.hid (blk_below hb3 hbl4)
  have HM4 := Lib.hid hm4
  have HW4 := Lib.hid hw4
  have HG4 := Lib.hid hg4
  have HBL4 := Lib.hid (below_then s3.2.1 s3.2.1.size hbl4)
  have HC4 := Lib.hid (Kd.C_below hC3 hbl4)
  have HR4 := Lib.hid (Kd.R_below hR3 hbl4)
  have HA3 := Lib.hid hA3
  have HC3 := Lib.hid hc3
  have hw4s : w3.heap.size < w4.heap.size := blk_lt hm4
  clear hmd hC3 hR3 hA3 hrd hb3 s3 hw4 hbl4 hm4 hg4 HBB HWB
  obtain ⟨nf, hnf⟩ : ∃ nf, nf = F.length := ⟨_, rfl⟩
  obtain ⟨ni, hni⟩ : ∃ ni, ni = I.length := ⟨_, rfl⟩
  obtain ⟨p, hp⟩ : ∃ p, p = (if isB F I = true then packL F I else []) := ⟨_, rfl⟩
  obtain ⟨r, hr⟩ : ∃ r : Int, r = (if isB F I = true then 0 else 1) := ⟨_, rfl⟩
  rw [← hp, ← hr] at hpk
  have hr01 : r = 0 ∨ r = 1 := by rw [hr]; split <;> simp
  have HP := Lib.hid (And.intro hp hr)
  have HNF := Lib.hid (And.intro hnf hni)
  clear hp hr
  go_wp2_with fail
  rw [← HW4.out]
  refine hpk.mono ?_
  rintro e w5 ⟨v5, rfl, hR5, hb5⟩
  obtain ⟨A5, c5, rfl⟩ := Kd.R_slice hR5
  have hg5 := keepc hb5 HG4.out
  have hz5 := blk_below HB4.out hb5
  have hm5 := blk_below HM4.out hb5
  have hbl5 := below_then HBL4.out HBL4.out.size hb5
  have hrd5 := Kd.R_reads' hR5
  have hz_0 := (blk_cell hz5 0).trans rfl
  have hz_1 := (blk_cell hz5 1).trans rfl
  have hq_0 := blk_frozen hz5 0
  have hq_1 := blk_frozen hz5 1
  have hm_0 := (blk_cell hm5 0).trans rfl
  have hm_1 := (blk_cell hm5 1).trans rfl
  have HZ5 := Lib.hid hz5
  have HBL5 := Lib.hid hbl5
  have HC5 := Lib.hid (Kd.C_below HC4.out hb5)
  have HR5 := Lib.hid (Kd.R_below HR4.out hb5)
  have HX5 := Lib.hid hrd5.2.2
  have HY5 := Lib.hid (Kd.C_below HR0.out hbl5)
  obtain ⟨m, hm⟩ : ∃ m, m = p.length := ⟨_, rfl⟩
  have HM := Lib.hid hm
  have heq := equal_any w5 A5 c5 p A0 c0 l HX5.out HY5.out
  rw [← hm, ← HN.out] at heq
  rw [← hm]
  have HBAD : Hid (∀ W, W = (w5.setCell ⟨w.heap.size, 0, none⟩ (.slice none 0 0)).setCell ⟨w.heap.size, 1, none⟩ (.slice none 0 0) → W.heap[w.heap.size]? = some (.cells #[.slice none 0 0, .slice none 0 0] 25 (0, 0)) ∧ Below w.heap.size w W) := Lib.hid (fun W hW => by
    subst hW
    exact ⟨blk_put (blk_put HZ5.out 0 (.slice none 0 0) rfl) 1 (.slice none 0 0) rfl, (HBL5.out.setCell (Nat.le_refl _) _).setCell (Nat.le_refl _) _⟩)
  clear hR5 hb5 hz5 hm5 hbl5 hrd5 hpk hm HM4 HB4 HBL4 HC4 HR4 HG4
  obtain ⟨zx, zb⟩ := z
  simp only at hg5
  cases zb with
  | true =>
    have HUB : Hid (U = (([], []), 2)) := Lib.hid (by rw [HU.out, if_neg (by simp)])
    clear heq hm_0 hm_1
    go_wp2
    refine bodyPost_ret (results_ct rfl _ _ w.heap.size 25 #[.slice none 0 0, .slice none 0 0] (0, 0) _ rfl (HBAD.out _ rfl).1 Try.underlying25 rfl (by kernel_rfl)) rfl ?_
    exact un_bad HUB.out (HBAD.out _ rfl).2
  | false =>
    rcases hr01 with rfl | rfl
    case inr =>
      have HUB : Hid (U = (([], []), 2)) := Lib.hid (by
        have h1 := HP.out.2
        rw [HU.out, if_neg]
        rintro ⟨-, h2, -⟩
        rw [if_pos h2] at h1
        cases h1)
      clear heq hm_0 hm_1
      go_wp2
      refine bodyPost_ret (results_ct rfl _ _ w.heap.size 25 #[.slice none 0 0, .slice none 0 0] (0, 0) _ rfl (HBAD.out _ rfl).1 Try.underlying25 rfl (by kernel_rfl)) rfl ?_
      exact un_bad HUB.out (HBAD.out _ rfl).2
    case inl =>
      have hB : isB F I = true := by
        have h1 := HP.out.2
        by_cases h : isB F I = true
        · exact h
        · rw [if_neg h] at h1; cases h1
      have hpp : p = packL F I := by rw [HP.out.1, if_pos hB]
      have HPP := Lib.hid hpp
      have HBB := Lib.hid hB
      clear hB hpp
      by_cases hq : (strOfNums p).toList = (strOfNums l).toList
      case neg =>
        have HUB : Hid (U = (([], []), 2)) := Lib.hid (by
          rw [HU.out, if_neg]
          rintro ⟨-, -, h2⟩
          exact hq (by rw [HPP.out, h2]))
        rw [beq_eq_false_iff_ne.mpr hq] at heq
        clear hm_0 hm_1 hq
        go_wp2_with fail
        refine heq.mono ?_
        rintro e w6 ⟨rfl, rfl⟩
        clear heq
        go_wp2
        refine bodyPost_ret (results_ct rfl _ _ w.heap.size 25 #[.slice none 0 0, .slice none 0 0] (0, 0) _ rfl (HBAD.out _ rfl).1 Try.underlying25 rfl (by kernel_rfl)) rfl ?_
        exact un_bad HUB.out (HBAD.out _ rfl).2
      case pos =>
        have HUB : Hid (U = ((F, I), 0)) := Lib.hid (by
          have := strOfNums_inj (by rw [HPP.out]; exact bytes_pack F I) H8.out hq
          rw [HU.out, if_pos ⟨rfl, HBB.out, by rw [← HPP.out]; exact this⟩])
        rw [beq_iff_eq.mpr hq] at heq
        clear hq
        go_wp2_with fail
        refine heq.mono ?_
        rintro e w6 ⟨rfl, rfl⟩
        clear heq
        go_wp2
        have hne : ∀ ad, A3 = some ad → ad.block ≠ w.heap.size := fun ad e => by have := HA3.out ad e; omega
        have HF : Hid (Kd.C Kd.string ((w5.setCell ⟨w.heap.size, 0, none⟩ (.slice A3 F.length c3)).setCell ⟨w.heap.size, 1, none⟩ (.slice A4 I.length c4)) A3 F.length F ∧ Kd.R k48 48 ((w5.setCell ⟨w.heap.size, 0, none⟩ (.slice A3 F.length c3)).setCell ⟨w.heap.size, 1, none⟩ (.slice A4 I.length c4)) w.heap.size (fun _ => True) (.slice A4 I.length c4) I ∧ Below w.heap.size w ((w5.setCell ⟨w.heap.size, 0, none⟩ (.slice A3 F.length c3)).setCell ⟨w.heap.size, 1, none⟩ (.slice A4 I.length c4))) := Lib.hid ⟨C_stay (C_stay HC5.out (fun ad e => Below.heap_setCell _ _ _ _ (hne ad e))) (fun ad e => Below.heap_setCell _ _ _ _ (hne ad e)), Kd.R_lower (R_set2 (R_set2 HR5.out _ _ (show w.heap.size < wB.heap.size by omega)) _ _ (show w.heap.size < wB.heap.size by omega)) (by omega), (HBL5.out.setCell (Nat.le_refl _) _).setCell (Nat.le_refl _) _⟩
        refine bodyPost_ret (results_ct rfl _ _ w.heap.size 25 #[.slice A3 F.length c3, .slice A4 I.length c4] (0, 0) _ rfl (blk_put (blk_put HZ5.out 0 _ rfl) 1 _ rfl) Try.underlying25 rfl (by kernel_rfl)) rfl ?_
        rw [HUB.out]
        exact ⟨A3, c3, .slice A4 I.length c4, rfl, HC3.out, HF.out.1, fun ad e => by have := HA3.out ad e; omega, HF.out.2.1, HF.out.2.2⟩
end Go.Proofs.Ytaiglhfmmdajdaa.Pm
end
section
namespace Go.Proofs.Ytaiglhfmmdajdaa.Pm
open Go.RowKit Go.Proofs.YtaiglhfmmdajdaaW.PrintWords Go.Proofs.YtaiglhfmmdajdaaW.PrintLast Go.Proofs.YtaiglhfmmdajdaaW.PrintMore
attribute [local go_sem] max2_int min2_int max_two min_two max_three min_three max_four min_four   -- for this text's walks alone
set_option linter.unusedVariables false
set_option linter.unusedSimpArgs false
theorem ba_ext {a b : ByteArray} (h : a.toList = b.toList) : a = b := by
  rw [ByteArray.toList_eq, ByteArray.toList_eq] at h
  exact Go.WideShapes.bytes_inj h
theorem byteW_v (n : Int) : byteW n = n % 128 + 128 := by
  unfold byteW
  rw [Lib.u8_or128_any _ (by omega) (by omega)]
  omega
theorem numGo_numW (below : Int) (rest : List Int) (d : Nat) : ∀ (k : Nat) (n : Int) (i : Nat) (acc : Int), 0 ≤ n → n < (128 : Int) ^ d → 1 ≤ d → d ≤ k → numGo below d i acc (numW k n ++ rest, false) = (acc + n * (128 : Int) ^ i, (rest, decide (below ≤ acc + n * (128 : Int) ^ i))) := by
  induction d with
  | zero => intro k n i acc _ _ h; omega
  | succ d ih =>
    intro k n i acc h0 hn _ hk
    obtain ⟨k, rfl⟩ : ∃ m, k = m + 1 := ⟨k - 1, by omega⟩
    by_cases h : n ≥ 128
    · have hd1 : 1 ≤ d := by
        rcases Nat.eq_zero_or_pos d with rfl | h'
        · simp at hn; omega
        · exact h'
      have hn' : n / 128 < (128 : Int) ^ d := by
        rw [Int.pow_succ] at hn
        omega
      have e1 : byteW n % 128 = n % 128 := by rw [byteW_v]; omega
      simp only [numW]
      rw [if_pos h]
      show numGo below (d + 1) i acc (byteW n :: (numW k (n / 128) ++ rest), false) = _
      simp only [numGo]
      rw [if_neg (by decide), if_neg (by rw [byteW_v]; omega), e1, ih k (n / 128) (i + 1) _ (by omega) hn' hd1 (by omega)]
      have e2 : acc + n % 128 * (128 : Int) ^ i + n / 128 * (128 : Int) ^ (i + 1) = acc + n * (128 : Int) ^ i := by
        rw [Int.pow_succ, Int.add_assoc, ← Int.mul_assoc (n / 128), Int.mul_comm (n / 128 * 128 ^ i) 128, ← Int.mul_assoc 128, ← Int.add_mul, Int.emod_add_mul_ediv]
      rw [e2]
    · simp only [numW]
      rw [if_neg h]
      show numGo below (d + 1) i acc (n % 256 :: rest, false) = _
      simp only [numGo]
      have e1 : n % 256 % 128 = n := by omega
      rw [if_neg (by decide), if_pos (by omega), e1]
theorem numR_numW (below n : Int) (rest : List Int) (h0 : 0 ≤ n) (h1 : n < 34359738368) (h2 : n < below) : numR below (numW 10 n ++ rest, false) = (n, (rest, false)) := by
  unfold numR
  rw [numGo_numW below rest 5 10 n 0 0 h0 (by exact h1) (by decide) (by decide)]
  have e : (0 : Int) + n * (128 : Int) ^ 0 = n := by omega
  rw [e, decide_eq_false (by omega)]
theorem countR_numW (m n : Int) (rest : List Int) (h0 : 0 ≤ n) (h1 : n ≤ m) (hm : m ≤ 1000000) : countR m (numW 10 n ++ rest, false) = (n, (rest, false)) := by
  unfold countR
  rw [numR_numW (m + 1) n rest h0 (by omega) (by omega), if_neg (by simp)]
theorem pickR_numW (l : List ByteArray) (q : Nat) (rest : List Int) (hq : q < l.length) (hl : l.length ≤ 1000000) : pickR l (numW 10 (q : Int) ++ rest, false) = (l[q], (rest, false)) := by
  unfold pickR
  rw [numR_numW l.length q rest (by omega) (by omega) (by omega), if_neg (by simp), rdOf_get _ _ _ hq]
theorem unsgn_sgn (n : Int) : unsgn (sgn n) = n := by
  unfold unsgn sgn
  split <;> split <;> omega
theorem signedR_numW (n : Int) (rest : List Int) (h : -1000000 ≤ n ∧ n ≤ 1000000) : signedR (numW 10 (sgn n) ++ rest, false) = (n, (rest, false)) := by
  unfold signedR
  have h1 : 0 ≤ sgn n ∧ sgn n < 2000001 := by unfold sgn; split <;> omega
  rw [numR_numW 2000001 (sgn n) rest h1.1 (by omega) h1.2, unsgn_sgn]
theorem strOf_bytes (s : ByteArray) : strOfNums (bytesOf s) = s := by
  apply ba_ext
  rw [ByteArray.toList_eq, ByteArray.toList_eq, strOfNums_data]
  unfold bytesOf
  rw [List.map_map]
  have : (fun (n : Int) => UInt8.ofNat n.toNat) ∘ (fun (b : UInt8) => (b.toNat : Int)) = id := by
    funext b
    simp
  rw [this, List.map_id]
theorem textR_textW (s : ByteArray) (rest : List Int) (h : s.size ≤ 12) : textR (textW s ++ rest, false) = (s, (rest, false)) := by
  unfold textR textW
  rw [List.append_assoc, numR_numW 13 s.size _ (by omega) (by omega) (by omega)]
  have hl : (bytesOf s).length = s.size := bytesOf_length s
  have e : takeR (s.size : Int).toNat (bytesOf s ++ rest, false) = (bytesOf s, (rest, false)) := by
    rw [Int.toNat_natCast]
    unfold takeR
    rw [if_neg (by rw [List.length_append, hl]; simp), ← hl, List.take_left', List.drop_left'] <;> rfl
  simp only
  rw [e, strOf_bytes]
theorem textsGo_textW (rest : List Int) (l : List ByteArray) : (∀ s ∈ l, s.size ≤ 12) → textsGo l.length (l.flatMap textW ++ rest, false) = (l, (rest, false)) := by
  induction l with
  | nil => intro _; rfl
  | cons s l ih =>
    intro h
    rw [List.length_cons, List.flatMap_cons, List.append_assoc]
    simp only [textsGo]
    rw [textR_textW s _ (h s List.mem_cons_self)]
    simp only
    rw [ih (fun x hx => h x (List.mem_cons_of_mem _ hx))]
def gOn (ids : List ByteArray) (items : List (S48)) (x : S103) : Prop := (∃ p : Nat, ∃ h : p < ids.length, placeI items x.f0 = p ∧ ids[p] = x.f0) ∧ 0 ≤ x.f1 ∧ x.f1 < 6
def gIf (fs : List ByteArray) (c : S50) : Prop := (∃ p : Nat, ∃ h : p < fs.length, idxI fs c.f0 = p ∧ fs[p] = c.f0) ∧ (∃ p : Nat, ∃ h : p < opsL.length, idxI opsL c.f1 = p ∧ opsL[p] = c.f1) ∧ -1000000 ≤ c.f2 ∧ c.f2 ≤ 1000000
def gS (fs ids : List ByteArray) (items : List (S48)) (s : S54) : Prop := s.f0.length ≤ 3 ∧ s.f1.length ≤ 2 ∧ (∀ x ∈ s.f0, gOn ids items x) ∧ ∀ c ∈ s.f1, gIf fs c
def gI (fs ids : List ByteArray) (items : List (S48)) (x : S48) : Prop := (0 ≤ x.f1 ∧ x.f1 < 6) ∧ ((placeI items x.f2 = -1 ∧ x.f2 = ⟨#[]⟩) ∨ ∃ p : Nat, ∃ h : p < ids.length, placeI items x.f2 = p ∧ ids[p] = x.f2) ∧ (0 ≤ x.f4 ∧ x.f4 ≤ 100) ∧ (x.f5.length ≤ 3 ∧ ∀ s ∈ x.f5, gS fs ids items s) ∧ x.f6.length ≤ 3 ∧ ∀ s ∈ x.f6, gS fs ids items s
set_option linter.unusedSectionVars false
section
variable {fs ids : List ByteArray} {items : List (S48)} (hfs : fs.length ≤ 1000000) (hids : ids.length ≤ 100000)
include hfs hids
theorem onsR_W (rest : List Int) (l : List (S103)) : (∀ x ∈ l, gOn ids items x) → onsR ids l.length (l.flatMap (onW items) ++ rest, false) = (l, (rest, false)) := by
  induction l with
  | nil => intro _; rfl
  | cons x l ih =>
    intro h
    obtain ⟨⟨p, hp, h1, h2⟩, h3, h4⟩ := h x List.mem_cons_self
    rw [List.length_cons, List.flatMap_cons, List.append_assoc]
    simp only [onsR]
    unfold onW
    rw [List.append_assoc, h1, pickR_numW ids p _ hp (by omega)]
    simp only
    rw [numR_numW 6 x.f1 _ h3 (by omega) h4]
    simp only
    rw [show (l.flatMap fun x => numW 10 (placeI items x.f0) ++ numW 10 x.f1) = l.flatMap (onW items) from rfl, ih (fun y hy => h y (List.mem_cons_of_mem _ hy)), h2]
theorem ifsR_W (rest : List Int) (l : List (S50)) : (∀ x ∈ l, gIf fs x) → ifsR fs l.length (l.flatMap (ifW fs) ++ rest, false) = (l, (rest, false)) := by
  induction l with
  | nil => intro _; rfl
  | cons x l ih =>
    intro h
    obtain ⟨⟨p, hp, h1, h2⟩, ⟨q, hq, h3, h4⟩, h5⟩ := h x List.mem_cons_self
    have ih' := ih (fun y hy => h y (List.mem_cons_of_mem _ hy))
    rw [List.length_cons, List.flatMap_cons, List.append_assoc]
    simp only [ifsR]
    have e : ifW fs x ++ (l.flatMap (ifW fs) ++ rest) = numW 10 (p : Int) ++ (numW 10 (q : Int) ++ (numW 10 (sgn x.f2) ++ (l.flatMap (ifW fs) ++ rest))) := by
      unfold ifW
      rw [h1, h3]
      simp only [List.append_assoc]
    rw [e, pickR_numW fs p _ hp hfs]
    simp only
    rw [pickR_numW opsL q _ hq (by decide)]
    simp only
    rw [signedR_numW x.f2 _ h5]
    simp only
    rw [ih', h2, h4]
theorem sentR_W (rest : List Int) (s : S54) (h : gS fs ids items s) : sentR fs ids (sentW fs items s ++ rest, false) = (s, (rest, false)) := by
  obtain ⟨h1, h2, h3, h4⟩ := h
  have e : sentW fs items s ++ rest = numW 10 (s.f0.length : Int) ++ (s.f0.flatMap (onW items) ++ (numW 10 (s.f1.length : Int) ++ (s.f1.flatMap (ifW fs) ++ rest))) := by
    unfold sentW
    simp only [List.append_assoc]
  unfold sentR
  rw [e, countR_numW 3 s.f0.length _ (by omega) (by omega) (by omega)]
  simp only [Int.toNat_natCast]
  rw [onsR_W hfs hids _ s.f0 h3]
  simp only
  rw [countR_numW 2 s.f1.length _ (by omega) (by omega) (by omega)]
  simp only [Int.toNat_natCast]
  rw [ifsR_W hfs hids _ s.f1 h4]
theorem sentsGo_W (rest : List Int) (l : List (S54)) : (∀ x ∈ l, gS fs ids items x) → sentsGo fs ids l.length (l.flatMap (sentW fs items) ++ rest, false) = (l, (rest, false)) := by
  induction l with
  | nil => intro _; rfl
  | cons x l ih =>
    intro h
    rw [List.length_cons, List.flatMap_cons, List.append_assoc]
    simp only [sentsGo]
    rw [sentR_W hfs hids _ x (h x List.mem_cons_self)]
    simp only
    rw [ih (fun y hy => h y (List.mem_cons_of_mem _ hy))]
theorem sentsR_W (rest : List Int) (l : List (S54)) (h : l.length ≤ 3 ∧ ∀ x ∈ l, gS fs ids items x) : sentsR fs ids (sentsW fs items l ++ rest, false) = (l, (rest, false)) := by
  unfold sentsR sentsW
  rw [List.append_assoc, countR_numW 3 l.length _ (by omega) (by omega) (by omega)]
  simp only [Int.toNat_natCast]
  exact sentsGo_W hfs hids rest l h.2
theorem itemR_W (rest : List Int) (x : S48) (h : gI fs ids items x) : itemR x.f0 fs ids (itemW fs items x ++ rest, false) = (x, (rest, false)) := by
  obtain ⟨h1, h2, h3, h4, h5⟩ := h
  have e : itemW fs items x ++ rest = numW 10 x.f1 ++ (numW 10 (placeI items x.f2 + 1) ++ (numW 10 (if x.f3 = true then 1 else 0) ++ (numW 10 x.f4 ++ (sentsW fs items x.f5 ++ (sentsW fs items x.f6 ++ rest))))) := by
    unfold itemW
    simp only [List.append_assoc]
  unfold itemR
  rw [e, numR_numW 6 x.f1 _ h1.1 (by omega) h1.2]
  simp only
  have hp : ∀ r, pickR (⟨#[]⟩ :: ids) (numW 10 (placeI items x.f2 + 1) ++ r, false) = (x.f2, (r, false)) := by
    intro r
    rcases h2 with ⟨a, b⟩ | ⟨p, hp, a, b⟩
    · rw [a, b]
      have := pickR_numW (⟨#[]⟩ :: ids) 0 r (by simp) (by simp; omega)
      exact this
    · rw [a]
      have := pickR_numW (⟨#[]⟩ :: ids) (p + 1) r (by simp; omega) (by simp; omega)
      rw [show ((p : Int) + 1) = ((p + 1 : Nat) : Int) by omega, this]
      simp [b]
  rw [hp]
  simp only
  rw [numR_numW 2 (if x.f3 = true then 1 else 0) _ (by split <;> omega) (by split <;> omega) (by split <;> omega)]
  simp only
  rw [numR_numW 101 x.f4 _ h3.1 (by omega) (by omega)]
  simp only
  rw [sentsR_W hfs hids _ x.f5 h4]
  simp only
  rw [sentsR_W hfs hids _ x.f6 h5]
  have e3 : ((if x.f3 = true then (1 : Int) else 0) == 1) = x.f3 := by cases x.f3 <;> rfl
  rw [e3]
theorem itemsGo_W (rest : List Int) (l : List (S48)) : (∀ x ∈ l, gI fs ids items x) → itemsGo fs ids (l.map (fun x => x.f0)) (l.flatMap (itemW fs items) ++ rest, false) = (l, (rest, false)) := by
  induction l with
  | nil => intro _; rfl
  | cons x l ih =>
    intro h
    rw [List.map_cons, List.flatMap_cons, List.append_assoc]
    simp only [itemsGo]
    rw [itemR_W hfs hids _ x (h x List.mem_cons_self)]
    simp only
    rw [ih (fun y hy => h y (List.mem_cons_of_mem _ hy))]
end
theorem idx_at (l : List ByteArray) (s : ByteArray) (h : memB l s = true) : ∃ q : Nat, ∃ hq : q < l.length, idxI l s = q ∧ l[q] = s := by
  unfold memB at h
  cases hf : l.findIdx? (fun x => s.toList == x.toList) with
  | none =>
    rw [List.findIdx?_eq_none_iff] at hf
    obtain ⟨x, hx, hp⟩ := List.any_eq_true.1 h
    rw [hf x hx] at hp
    cases hp
  | some q =>
    obtain ⟨hq, h2, _⟩ := List.findIdx?_eq_some_iff_getElem.1 hf
    refine ⟨q, hq, by unfold idxI fidx; rw [hf], ?_⟩
    apply ba_ext
    simpa using (beq_iff_eq.1 h2).symm
theorem gS_of (fs : List ByteArray) (items : List (S48)) (ss : List (S54)) (h : sentsB fs items ss = true) : ss.length ≤ 3 ∧ ∀ s ∈ ss, gS fs (items.map (fun x => x.f0)) items s := by
  obtain ⟨h3, hok⟩ := sOk_of fs items ss h
  unfold sentsB at h
  rw [Bool.and_eq_true, decide_eq_true_eq, Bool.not_eq_true', List.any_eq_false] at h
  refine ⟨h3, fun s hs => ?_⟩
  have h2 := h.2 s hs
  rw [Bool.not_eq_true, Bool.not_eq_false'] at h2
  unfold sentryB at h2
  rw [Bool.and_eq_true, decide_eq_true_eq, Bool.and_eq_true, List.all_eq_true] at h2
  obtain ⟨⟨a, b, -⟩, c, d⟩ := h2
  refine ⟨a, b, fun x hx => ?_, fun y hy => ?_⟩
  · obtain ⟨i, hi, rfl⟩ := List.getElem_of_mem hx
    have := c i (List.mem_range.2 hi)
    unfold onOk at this
    rw [Bool.and_eq_true] at this
    have h3 := this.1
    have e : rd_T103 s.f0 (i : Int) = s.f0[i] := by simp [rd_T103, List.getD_eq_getElem?_getD, List.getElem?_eq_getElem hi]
    rw [e] at h3
    unfold onB at h3
    split at h3
    case isFalse => cases h3
    rename_i hp
    obtain ⟨p, hp2⟩ := Int.eq_ofNat_of_zero_le hp
    obtain ⟨hl, hn⟩ := placeI_at items _ p hp2
    refine ⟨⟨p, by rw [List.length_map]; exact hl, hp2, ?_⟩, ?_⟩
    · rw [List.getElem_map]
      apply ba_ext
      rw [← hn]
      show _ = ((rd_T48 items (p : Int)).f0).toList
      simp [rd_T48, List.getD_eq_getElem?_getD, List.getElem?_eq_getElem hl]
    · unfold legalB at h3
      split at h3
      · omega
      · split at h3
        · omega
        · split at h3
          · omega
          · cases h3
  · unfold ifsOk at d
    rw [Bool.not_eq_true', List.any_eq_false] at d
    have h3 := d y hy
    rw [Bool.not_eq_true, Bool.not_eq_false'] at h3
    unfold ifB at h3
    rw [Bool.and_eq_true, Bool.and_eq_true, decide_eq_true_eq] at h3
    have hm : ∀ l, memB l y.f0 = true → ∃ p : Nat, ∃ h : p < l.length, idxI l y.f0 = p ∧ l[p] = y.f0 := fun l hl => by
      obtain ⟨q, hq, hf, he⟩ := idx_at l y.f0 hl
      exact ⟨q, hq, hf, he⟩
    obtain ⟨q, hq, hf, he⟩ := idx_at opsL y.f1 h3.1
    exact ⟨hm fs h3.2.1, ⟨q, hq, hf, he⟩, h3.2.2⟩
theorem gI_of (fs : List ByteArray) (items : List (S48)) (h : isB fs items = true) : ∀ x ∈ items, gI fs (items.map (fun x => x.f0)) items x := by
  intro x hx
  have hf := legal_facts fs items h
  unfold isB at h
  rw [Bool.and_eq_true, Bool.and_eq_true, Bool.and_eq_true, Bool.and_eq_true, Bool.and_eq_true, decide_eq_true_eq, Bool.not_eq_true', List.any_eq_false] at h
  obtain ⟨-, -, -, -, -, f⟩ := h
  have h2 := f x hx
  rw [Bool.not_eq_true, Bool.not_eq_false'] at h2
  unfold itemB at h2
  rw [Bool.and_eq_true, Bool.and_eq_true, Bool.and_eq_true, Bool.and_eq_true, decide_eq_true_eq] at h2
  obtain ⟨p, q, r, s, -⟩ := h2
  refine ⟨by omega, ?_, ?_, gS_of fs items _ q, gS_of fs items _ r⟩
  · obtain ⟨i, hi, rfl⟩ := List.getElem_of_mem hx
    have e : rd_T48 items (i : Int) = items[i] := by simp [rd_T48, List.getD_eq_getElem?_getD, List.getElem?_eq_getElem hi]
    rcases Nat.eq_zero_or_pos i with rfl | hi0
    · left
      have h0 : (items[0].f2).toList = [] := by
        have := hf.2.2.2.2.1
        unfold paA at this
        rw [show (0 : Int) = ((0 : Nat) : Int) from rfl, e] at this
        exact this
      refine ⟨?_, ba_ext (by rw [h0, ByteArray.toList_eq])⟩
      have h1 : -1 ≤ placeI items items[0].f2 := fidx_ge _ _
      rcases Int.lt_or_le (placeI items items[0].f2) 0 with h0' | h0'
      · omega
      · obtain ⟨p, hp⟩ := Int.eq_ofNat_of_zero_le h0'
        obtain ⟨hl, hn⟩ := placeI_at items _ p hp
        exact absurd (hn.trans h0) (hf.2.2.2.1 p hl).2
    · right
      obtain ⟨p, hp, hpl, -, -⟩ := hf.2.2.2.2.2 i hi0 hi
      unfold paA at hpl
      rw [e] at hpl
      obtain ⟨hl, hn⟩ := placeI_at items _ p hpl
      refine ⟨p, by rw [List.length_map]; exact hl, hpl, ?_⟩
      rw [List.getElem_map]
      apply ba_ext
      rw [← hn]
      show _ = ((rd_T48 items (p : Int)).f0).toList
      simp [rd_T48, List.getD_eq_getElem?_getD, List.getElem?_eq_getElem hl]
  · split at s
    · rw [decide_eq_true_eq] at s; omega
    · rw [decide_eq_true_eq] at s; omega
theorem name12 (l : List ByteArray) (h : namesB l = true) : ∀ s ∈ l, s.size ≤ 12 := by
  intro s hs
  obtain ⟨i, hi, rfl⟩ := List.getElem_of_mem hs
  unfold namesB at h
  rw [List.all_eq_true] at h
  have := h i (List.mem_range.2 hi)
  unfold nameOk at this
  rw [rdOf_get _ _ _ hi, Bool.and_eq_true] at this
  have h1 := this.1
  unfold nameB at h1
  simp only [Bool.and_eq_true, decide_eq_true_eq] at h1
  omega
theorem modelR_W (fs : List ByteArray) (items : List (S48)) (rest : List Int) (h : isB fs items = true) : modelR (modelW fs items ++ rest, false) = ((fs, items), (rest, false)) := by
  have hg := gI_of fs items h
  have hm := MOk_of fs items h
  have h12 : ∀ s ∈ textsOf fs items, s.size ≤ 12 := by
    unfold isB at h
    rw [Bool.and_eq_true, Bool.and_eq_true, Bool.and_eq_true] at h
    intro s hs
    unfold textsOf at hs
    rcases List.mem_append.1 hs with hs | hs
    · exact name12 fs h.2.1 s hs
    · exact name12 _ h.2.2.1 s hs
  have hl : (textsOf fs items).length = fs.length + items.length := by unfold textsOf; rw [List.length_append, List.length_map]
  have h1 := hm.1
  have h2 := hm.2.1
  have e : modelW fs items ++ rest = numW 10 ((textsOf fs items).length : Int) ++ ((textsOf fs items).flatMap textW ++ (numW 10 (fs.length : Int) ++ (items.flatMap (itemW fs items) ++ rest))) := by
    unfold modelW
    simp only [List.append_assoc]
  unfold modelR
  rw [e, countR_numW 22 _ _ (by omega) (by omega) (by omega)]
  simp only [Int.toNat_natCast]
  rw [textsGo_textW _ _ h12]
  simp only
  rw [countR_numW _ (fs.length : Int) _ (by omega) (by omega) (by omega)]
  simp only [Int.toNat_natCast]
  have e1 : (textsOf fs items).take fs.length = fs := by unfold textsOf; exact List.take_left' rfl
  have e2 : (textsOf fs items).drop fs.length = items.map (fun x => x.f0) := by unfold textsOf; exact List.drop_left' rfl
  rw [e1, e2, itemsGo_W (by omega) (by rw [List.length_map]; omega) rest items hg]
theorem unpack_pack (fs : List ByteArray) (items : List (S48)) (h : isB fs items = true) : unpackR (packL fs items) = ((fs, items), 0) := by
  have hd : (packL fs items).drop 8 = modelW fs items := rfl
  have hl : (packL fs items).length = 8 + (modelW fs items).length := by unfold packL sealL; simp; omega
  have hm := modelR_W fs items [] h
  rw [List.append_nil] at hm
  unfold unpackR
  rw [if_neg (by omega), hd, hm]
  exact if_pos ⟨rfl, h, rfl⟩
end Go.Proofs.Ytaiglhfmmdajdaa.Pm
end
section
namespace Go.Proofs.Ytaiglhfmmdajdaa.Pm
open Go.RowKit Go.Proofs.YtaiglhfmmdajdaaW.PrintWords Go.Proofs.YtaiglhfmmdajdaaW.PrintLast Go.Proofs.YtaiglhfmmdajdaaW.PrintMore
attribute [local go_sem] max2_int min2_int max_two min_two max_three min_three max_four min_four   -- for this text's walks alone
set_option linter.unusedVariables false
set_option linter.unusedSimpArgs false
end Go.Proofs.Ytaiglhfmmdajdaa.Pm
end
section
namespace Go.Proofs.Ytaiglhfmmdajdaa.Pm
open Go.RowKit Go.Proofs.YtaiglhfmmdajdaaW.PrintWords Go.Proofs.YtaiglhfmmdajdaaW.PrintLast Go.Proofs.YtaiglhfmmdajdaaW.PrintMore
attribute [local go_sem] max2_int min2_int max_two min_two max_three min_three max_four min_four   -- for this text's walks alone
set_option linter.unusedVariables false
set_option linter.unusedSimpArgs false
theorem packL_long (fs : List ByteArray) (l : List (S48)) : (packL fs l).length = 8 + (modelW fs l).length := by
  unfold packL sealL
  simp
  omega
end Go.Proofs.Ytaiglhfmmdajdaa.Pm
end
section
namespace Go.Proofs.Ytaiglhfmmdajdaa.Pm
open Go.RowKit Go.Proofs.YtaiglhfmmdajdaaW.PrintWords Go.Proofs.YtaiglhfmmdajdaaW.PrintLast Go.Proofs.YtaiglhfmmdajdaaW.PrintMore
attribute [local go_sem] max2_int min2_int max_two min_two max_three min_three max_four min_four   -- for this text's walks alone
set_option linter.unusedVariables false
set_option linter.unusedSimpArgs false
theorem C_lit {α : Type} {d : Kd α} {W : World} {b e : Nat} {cs : List Value} {xs : List α} (hb : W.heap[b]? = some (.cells cs.toArray e (0, 0))) (hr : Reps (d.K W) d.sz xs cs) (hm : xs.length ≤ 9223372036854775807) : Kd.C d W (some ⟨b, 0, none⟩) xs.length xs := by
  refine ⟨rfl, hm, fun _ => ⟨_, rfl, fun j p hj => ⟨(cs.drop (j * d.sz)).take d.sz, ?_, hr.2 j p hj, fun i u hu => ?_⟩⟩⟩
  · have hjl := (List.getElem?_eq_some_iff.1 hj).1
    have h1 := hr.1
    have h2 : j * d.sz + d.sz ≤ xs.length * d.sz := by
      have := Nat.mul_le_mul_right d.sz (show j + 1 ≤ xs.length from hjl)
      rwa [Nat.succ_mul] at this
    rw [List.length_take, List.length_drop]
    omega
  · rw [add_plain, blk_cell hb]
    rw [List.getElem?_take] at hu
    split at hu
    · rw [List.getElem?_drop] at hu
      simpa using hu
    · cases hu
def numItems (n ticks : Int) : List (S48) := [⟨⟨#[112]⟩, 1, ⟨#[]⟩, false, 0, [], []⟩, ⟨⟨#[116]⟩, 5, ⟨#[112]⟩, false, ticks, [], [⟨[], [⟨⟨#[102]⟩, ⟨#[62, 61]⟩, n⟩]⟩]⟩]
theorem num_world (w : World) (n ticks : Int) : ∃ W : World, W = ((((w.alloc (.cells #[.string ⟨#[102]⟩] 9)).alloc (.cells #[.string ⟨#[102]⟩, .string ⟨#[62, 61]⟩, .int .i64 n] 50)).alloc (.cells #[.slice none 0 0, .slice (some ⟨w.heap.size + 1, 0, none⟩) 1 1] 54)).alloc (.cells #[.string ⟨#[112]⟩, .int .i64 1, .string ⟨#[]⟩, .bool false, .int .i64 0, .slice none 0 0, .slice none 0 0, .string ⟨#[116]⟩, .int .i64 5, .string ⟨#[112]⟩, .bool false, .int .i64 ticks, .slice none 0 0, .slice (some ⟨w.heap.size + 1 + 1, 0, none⟩) 1 1] 48)).alloc (.cells #[.slice (some ⟨w.heap.size, 0, none⟩) 1 1, .slice (some ⟨w.heap.size + 1 + 1 + 1, 0, none⟩) 2 2] 25) ∧
    Md W (some ⟨w.heap.size, 0, none⟩) 1 [⟨#[102]⟩] (some ⟨w.heap.size + 1 + 1 + 1, 0, none⟩) 2 (numItems n ticks) ∧ Below w.heap.size w W ∧ W.cell? ⟨w.heap.size + 1 + 1 + 1 + 1, 0, none⟩ = some (.slice (some ⟨w.heap.size, 0, none⟩) 1 1) ∧ W.cell? ⟨w.heap.size + 1 + 1 + 1 + 1, 1, none⟩ = some (.slice (some ⟨w.heap.size + 1 + 1 + 1, 0, none⟩) 2 2) := by
  refine ⟨_, rfl, ?_⟩
  obtain ⟨W1, h1⟩ : ∃ W1, W1 = w.alloc (.cells #[.string ⟨#[102]⟩] 9) := ⟨_, rfl⟩
  have b1 : W1.heap[w.heap.size]? = some (.cells [.string ⟨#[102]⟩].toArray 9 (0, 0)) := by rw [h1]; exact heap_alloc_new w _
  have l1 : Below w.heap.size w W1 := by rw [h1]; exact below_alloc (Below.refl _ _) _
  have z1 : W1.heap.size = w.heap.size + 1 := by rw [h1]; simp
  rw [← h1]
  obtain ⟨W2, h2⟩ : ∃ W2, W2 = W1.alloc (.cells #[.string ⟨#[102]⟩, .string ⟨#[62, 61]⟩, .int .i64 n] 50) := ⟨_, rfl⟩
  have b2 : W2.heap[w.heap.size + 1]? = some (.cells [.string ⟨#[102]⟩, .string ⟨#[62, 61]⟩, .int .i64 n].toArray 50 (0, 0)) := by rw [h2, ← z1]; exact heap_alloc_new W1 _
  have l2 : Below W1.heap.size W1 W2 := by rw [h2]; exact below_alloc (Below.refl _ _) _
  have z2 : W2.heap.size = w.heap.size + 1 + 1 := by rw [h2, ← z1]; simp
  rw [← h2]
  obtain ⟨W3, h3⟩ : ∃ W3, W3 = W2.alloc (.cells #[.slice none 0 0, .slice (some ⟨w.heap.size + 1, 0, none⟩) 1 1] 54) := ⟨_, rfl⟩
  have b3 : W3.heap[w.heap.size + 1 + 1]? = some (.cells [.slice none 0 0, .slice (some ⟨w.heap.size + 1, 0, none⟩) 1 1].toArray 54 (0, 0)) := by rw [h3, ← z2]; exact heap_alloc_new W2 _
  have l3 : Below W2.heap.size W2 W3 := by rw [h3]; exact below_alloc (Below.refl _ _) _
  have z3 : W3.heap.size = w.heap.size + 1 + 1 + 1 := by rw [h3, ← z2]; simp
  rw [← h3]
  obtain ⟨W4, h4⟩ : ∃ W4, W4 = W3.alloc (.cells #[.string ⟨#[112]⟩, .int .i64 1, .string ⟨#[]⟩, .bool false, .int .i64 0, .slice none 0 0, .slice none 0 0, .string ⟨#[116]⟩, .int .i64 5, .string ⟨#[112]⟩, .bool false, .int .i64 ticks, .slice none 0 0, .slice (some ⟨w.heap.size + 1 + 1, 0, none⟩) 1 1] 48) := ⟨_, rfl⟩
  have b4 : W4.heap[w.heap.size + 1 + 1 + 1]? = some (.cells [.string ⟨#[112]⟩, .int .i64 1, .string ⟨#[]⟩, .bool false, .int .i64 0, .slice none 0 0, .slice none 0 0, .string ⟨#[116]⟩, .int .i64 5, .string ⟨#[112]⟩, .bool false, .int .i64 ticks, .slice none 0 0, .slice (some ⟨w.heap.size + 1 + 1, 0, none⟩) 1 1].toArray 48 (0, 0)) := by rw [h4, ← z3]; exact heap_alloc_new W3 _
  have l4 : Below W3.heap.size W3 W4 := by rw [h4]; exact below_alloc (Below.refl _ _) _
  have z4 : W4.heap.size = w.heap.size + 1 + 1 + 1 + 1 := by rw [h4, ← z3]; simp
  rw [← h4]
  obtain ⟨W5, h5⟩ : ∃ W5, W5 = W4.alloc (.cells #[.slice (some ⟨w.heap.size, 0, none⟩) 1 1, .slice (some ⟨w.heap.size + 1 + 1 + 1, 0, none⟩) 2 2] 25) := ⟨_, rfl⟩
  have b5 : W5.heap[w.heap.size + 1 + 1 + 1 + 1]? = some (.cells #[.slice (some ⟨w.heap.size, 0, none⟩) 1 1, .slice (some ⟨w.heap.size + 1 + 1 + 1, 0, none⟩) 2 2] 25 (0, 0)) := by rw [h5, ← z4]; exact heap_alloc_new W4 _
  have l5 : Below W4.heap.size W4 W5 := by rw [h5]; exact below_alloc (Below.refl _ _) _
  rw [← h5]
  clear h1 h2 h3 h4 h5 z1 z2 z3 z4
  have l25 : Below W2.heap.size W2 W5 := below_then (below_then l3 l3.size l4) (below_then l3 l3.size l4).size l5
  have c1 : Kd.C Kd.string W5 (some ⟨w.heap.size, 0, none⟩) 1 [⟨#[102]⟩] := C_lit (blk_below (blk_below b1 l2) l25) (Reps.one (show Kd.K Kd.string _ _ [.string ⟨#[102]⟩] from rfl) (Reps.none _ _)) (by decide)
  have c2 : Kd.C k50 W5 (some ⟨w.heap.size + 1, 0, none⟩) 1 [⟨⟨#[102]⟩, ⟨#[62, 61]⟩, n⟩] := C_lit (blk_below b2 l25) (Reps.snoc (Reps.none _ _) (k50_mk W5 ⟨⟨#[102]⟩, ⟨#[62, 61]⟩, n⟩) rfl) (show (1 : Nat) ≤ 9223372036854775807 by decide)
  have c3 : Kd.C k54 W5 (some ⟨w.heap.size + 1 + 1, 0, none⟩) 1 [⟨[], [⟨⟨#[102]⟩, ⟨#[62, 61]⟩, n⟩]⟩] := C_lit (blk_below b3 (below_then l4 l4.size l5)) (Reps.snoc (Reps.none _ _) (k54_mk W5 ⟨[], [⟨⟨#[102]⟩, ⟨#[62, 61]⟩, n⟩]⟩ (A0 := none) (c0 := 0) (Nat.le_refl _) (Kd.C_nil _ _) (A1 := some ⟨w.heap.size + 1, 0, none⟩) (c1 := 1) (Nat.le_refl _) c2) rfl) (show (1 : Nat) ≤ 9223372036854775807 by decide)
  have c4 : Kd.C k48 W5 (some ⟨w.heap.size + 1 + 1 + 1, 0, none⟩) 2 (numItems n ticks) := C_lit (blk_below b4 l5) (Reps.snoc (Reps.snoc (Reps.none _ _) (k48_mk W5 ⟨⟨#[112]⟩, 1, ⟨#[]⟩, false, 0, [], []⟩ (A5 := none) (c5 := 0) (Nat.le_refl _) (Kd.C_nil _ _) (A6 := none) (c6 := 0) (Nat.le_refl _) (Kd.C_nil _ _)) rfl) (k48_mk W5 ⟨⟨#[116]⟩, 5, ⟨#[112]⟩, false, ticks, [], [⟨[], [⟨⟨#[102]⟩, ⟨#[62, 61]⟩, n⟩]⟩]⟩ (A5 := none) (c5 := 0) (Nat.le_refl _) (Kd.C_nil _ _) (A6 := some ⟨w.heap.size + 1 + 1, 0, none⟩) (c6 := 1) (Nat.le_refl _) c3) rfl) (show (2 : Nat) ≤ 9223372036854775807 by decide)
  refine ⟨⟨⟨c1, Nat.le_refl _, c4, Nat.le_refl _⟩, by decide, show (2 : Nat) ≤ 140737488351232 by decide, ?_⟩, below_then (below_then l1 l1.size l2) (below_then l1 l1.size l2).size l25, (blk_cell b5 0).trans rfl, (blk_cell b5 1).trans rfl⟩
  intro x hx
  unfold numItems at hx
  simp only [List.mem_cons, List.not_mem_nil, or_false] at hx
  rcases hx with rfl | rfl
  · unfold goodItem; simp
    decide
  · unfold goodItem goodSentry; simp
    decide
set_option maxHeartbeats 16000000 in
set_option maxRecDepth 100000 in
theorem packNumbers_any (n ticks : Int) (w : World) :
    Calls Try.prog 12 #[.int .i64 n, .int .i64 ticks] w (TB true w) := by
  have hu25 := Try.underlying25
  have hu48 := Try.underlying48
  have hu54 := Try.underlying54
  have hu50 := Try.underlying50
  go_enter Try.func12, Try.ntmps12
  go_wp2_with fail
  obtain ⟨W5, hW5, hM, hbl, hm0, hm1⟩ := num_world w n ticks
  rw [← hW5]
  clear hW5
  obtain ⟨l, hl⟩ : ∃ l, l = numItems n ticks := ⟨_, rfl⟩
  obtain ⟨fs, hfs⟩ : ∃ fs : List ByteArray, fs = [⟨#[102]⟩] := ⟨_, rfl⟩
  have hl2 : l.length = 2 := by rw [hl]; rfl
  have hf1 : fs.length = 1 := by rw [hfs]; rfl
  rw [← hl, ← hfs] at hM
  have hi := hM.is
  have hun := fun h => unpack_pack fs l h
  obtain ⟨iB, hiB⟩ : ∃ b, b = isB fs l := ⟨_, rfl⟩
  have hpk := pack_Pack.calls (some ⟨w.heap.size, 0, none⟩) 1 fs (some ⟨w.heap.size + 1 + 1 + 1, 0, none⟩) 2 l (if iB = true then packL fs l else []) (if iB = true then 0 else 1) W5 (hf1 ▸ hM.1.1) (hf1 ▸ hM.1.2.1) (hl2 ▸ hM.1.2.2.1) (hl2 ▸ hM.1.2.2.2) (by unfold pack_Pack.f; rw [← hiB]; split <;> rfl)
  rw [hf1, hl2] at hpk hi
  rw [← hiB] at hi
  have HIB := Lib.hid hiB
  have HM := Lib.hid hM
  have HI := Lib.hid hi
  have HUN := Lib.hid hun
  have HBL := Lib.hid hbl
  have HC := Lib.hid (And.intro hm0 hm1)
  have HLN := Lib.hid (And.intro hf1 hl2)
  clear hl hfs hl2 hf1 hM hi hun hiB hbl hm0 hm1
  cases iB with
  | false =>
    rw [if_neg (by decide), if_neg (by decide)] at hpk
    refine hpk.mono ?_
    rintro e w6 ⟨v6, rfl, hR6, hb6⟩
    obtain ⟨A6, c6, rfl⟩ := Kd.R_slice hR6
    have HB6 := Lib.hid hb6
    have hi := HI.out w6 hb6
    obtain ⟨hc0, hc1⟩ := HC.out
    have hc0 := keepc hb6 hc0
    have hc1 := keepc hb6 hc1
    clear hpk hb6 hR6
    go_wp2_with fail
    refine hi.mono ?_
    rintro e w7 ⟨rfl, hb7⟩
    have HB7 := Lib.hid (keepb hb7 HB6.out)
    clear hi hb7 hc0 hc1
    have hkn := known_call w7
    go_wp2_with fail
    refine hkn.mono ?_
    rintro e w8 ⟨rfl, hb8⟩
    have HB8 := Lib.hid (keepb (keepb hb8 HB7.out) HBL.out)
    clear hkn hb8
    go_wp2
    go_ret
    exact ⟨rfl, HB8.out⟩
  | true =>
    rw [if_pos rfl, if_pos rfl] at hpk
    have hul := HUN.out HIB.out.symm
    have hpb := bytes_pack fs l
    have hpm : (packL fs l).length ≤ 200000 := by rw [packL_long]; have := modelW_le fs l (MOk_of fs l HIB.out.symm); omega
    obtain ⟨p, hp⟩ : ∃ p, p = packL fs l := ⟨_, rfl⟩
    rw [← hp] at hpk hul hpb hpm
    have HPB := Lib.hid (And.intro hul (And.intro hpb hpm))
    clear hul hpb hpm hp
    refine hpk.mono ?_
    rintro e w6 ⟨v6, rfl, hR6, hb6⟩
    obtain ⟨A6, c6, rfl⟩ := Kd.R_slice hR6
    have hrd := Kd.R_reads' hR6
    have HB6 := Lib.hid hb6
    have hi := HI.out w6 hb6
    obtain ⟨hc0, hc1⟩ := HC.out
    have hc0 := keepc hb6 hc0
    have hc1 := keepc hb6 hc1
    have HC6 := Lib.hid (And.intro hc0 hc1)
    have HR6 := Lib.hid hrd
    obtain ⟨m, hm⟩ : ∃ m, m = p.length := ⟨_, rfl⟩
    have HMM := Lib.hid hm
    rw [← hm]
    clear hpk hb6 hR6 hrd hm
    go_wp2_with fail
    refine hi.mono ?_
    rintro e w7 ⟨rfl, hb7⟩
    have HB7 := Lib.hid (keepb hb7 HB6.out)
    have hc0 := keepc hb7 HC6.out.1
    have hc1 := keepc hb7 HC6.out.2
    have HC7 := Lib.hid (And.intro hc0 hc1)
    have hup := unpack_any w7 A6 c6 p (Kd.C_below HR6.out.2.2 hb7) HR6.out.2.1 HPB.out.2.1 (by have := HPB.out.2.2; omega)
    rw [HPB.out.1, ← HMM.out] at hup
    clear hi hb7 hc0 hc1
    go_wp2_with fail
    refine hup.mono ?_
    rintro e w8 ⟨A9, c9, v9, rfl, hc9, hC9, -, hR9, hb9⟩
    obtain ⟨A10, c10, rfl⟩ := Kd.R_slice hR9
    have hrd9 := Kd.R_reads' hR9
    simp only at hc9 hC9 hrd9
    simp only
    obtain ⟨wX, hwX⟩ : ∃ wX, wX = w8.alloc (.cells #[.slice A9 fs.length c9, .slice A10 l.length c10] 25) := ⟨_, rfl⟩
    have hbX : Below w8.heap.size w8 wX := by rw [hwX]; exact below_alloc (Below.refl _ _) _
    have hgX : wX.heap[w8.heap.size]? = some (.cells #[.slice A9 fs.length c9, .slice A10 l.length c10] 25 (0, 0)) := by rw [hwX]; exact heap_alloc_new w8 _
    have h7X := below_then hb9 hb9.size hbX
    have hbw := keepb h7X HB7.out
    obtain ⟨r, hr, hsame⟩ := same_call fs l fs l (fit_of HIB.out.symm)
    obtain rfl : r = true := hr.2 ⟨rfl, rfl⟩
    have hsm := hsame wX A9 c9 A10 c10 (some ⟨w.heap.size, 0, none⟩) 1 (some ⟨w.heap.size + 1 + 1 + 1, 0, none⟩) 2 ⟨Kd.C_below hC9 hbX, hc9, Kd.C_below hrd9.2.2 hbX, hrd9.2.1⟩ ⟨Kd.C_below HM.out.1.1 hbw, HM.out.1.2.1, Kd.C_below HM.out.1.2.2.1 hbw, HM.out.1.2.2.2⟩
    have hx_0 : wX.cell? ⟨w8.heap.size, 0, none⟩ = some (.slice A9 fs.length c9) := (blk_cell hgX 0).trans rfl
    have hx_1 : wX.cell? ⟨w8.heap.size, 1, none⟩ = some (.slice A10 l.length c10) := (blk_cell hgX 1).trans rfl
    have hm_0 := keepc h7X HC7.out.1
    have hm_1 := keepc h7X HC7.out.2
    rw [HLN.out.1] at hx_0
    rw [HLN.out.2] at hx_1
    rw [HLN.out.1, HLN.out.2] at hsm
    rw [HLN.out.1, HLN.out.2] at hwX ⊢
    rw [hwX] at hx_0 hx_1 hm_0 hm_1
    have HWX := Lib.hid hwX
    have HBW := Lib.hid (keepb hbw HBL.out)
    clear hup hb9 hR9 hrd9 hc9 hC9 hwX hbX hgX h7X hbw hr hsame
    go_wp2_with fail
    rw [← HWX.out]
    clear hx_0 hx_1 hm_0 hm_1
    refine hsm.mono ?_
    rintro e w16 ⟨rfl, hb16⟩
    have HB16 := Lib.hid (below_then HBW.out HBW.out.size hb16)
    clear hsm hb16
    have hkn := known_call w16
    go_wp2_with fail
    refine hkn.mono ?_
    rintro e w17 ⟨rfl, hb17⟩
    have HB17 := Lib.hid (below_then HB16.out HB16.out.size hb17)
    clear hkn hb17
    go_wp2
    go_ret
    exact ⟨rfl, HB17.out⟩
end Go.Proofs.Ytaiglhfmmdajdaa.Pm
end
section
namespace Go.Proofs.Ytaiglhfmmdajdaa.packNumbers
open Go.ChangeShapes Go.WideShapes Go.ChangeAt Go.RowKit Go.Proofs.YtaiglhfmmdajdaaW.PrintWords
open Go.ChangeMaps (open_string shut_string)
set_option linter.unusedVariables false
theorem own : ownKnob Try.prog.godebug = none := by kernel_rfl
set_option maxRecDepth 100000 in
theorem lifted (os : Os) (started : os.Started) (H : Type) (enc : TypeId × Value → H) :
    ReturnsInHanded {} Try.checked os 12 .any (Rows.packNumbersSpec.pre6 enc Try.prog Try.f12 Rows.packNumbersRow.domain false) (Rows.packNumbersSpec.post enc Try.prog Try.f12 false true false false) := by
  refine returnsInHanded_of_change_sized (C := Try.checked) own started (by kernel_rfl) Try.func12
    (ChangeSpec.witness6 (enc := enc) (C := Try.checked) false ⟨#[], #[.int .i64 0, .int .i64 0], []⟩ 8 (by kernel_rfl) (by kernel_rfl) (by kernel_rfl) (by kernel_rfl)) ?_
  intro W base args ds gs before hval0 hW hcnd hsz0 _
  have hsz : (DataW.weightsEach Try.prog (Try.f12.params.toList ++ Rows.packNumbersSpec.plain.varTypes Try.prog) (ds ++ gs)).all (· ≤ reachBytes) = true := hsz0
  have hval : ∀ (j : Nat) t v, Try.f12.params[j]? = some t → args[j]? = some v → Value.okWide Try.prog W .any base t v := hval0
  have hW' := hW
  obtain ⟨p, q, hA0, hV, rfl, hfz, hnd⟩ := hW
  have hA : DataW.TrodAll enc Try.prog W 0 (fun _ => true) true Try.f12.params.toList args.toList ds p := hA0
  rw [Try.params12] at hA hval hsz
  obtain ⟨v0, vs0, d0, ds0, p0, q0, hargs, rfl, rfl, h0, r0⟩ := trodAll_cons hA
  obtain ⟨v1, vs1, d1, ds1, p1, q1, rfl, rfl, rfl, h1, r1⟩ := trodAll_cons r0
  obtain ⟨rfl, rfl, rfl⟩ := trodAll_nil r1
  obtain rfl : args = #[v0, v1] := by cases args; simp_all
  obtain ⟨rfl, rfl⟩ := trodVars_none hV
  obtain ⟨a0, rfl, rfl, rfl, w0⟩ := open_int Try.underlying3 (hval 0 3 v0 rfl rfl) h0
  obtain ⟨a1, rfl, rfl, rfl, w1⟩ := open_int Try.underlying3 (hval 1 3 v1 rfl rfl) h1
  clear hA0 hval0 hsz0 hsz
  refine ((Pm.packNumbers_any a0 a1 W).mono fun e w' h => (⟨h.1, h.2⟩ : e = .returned (.bool true) ∧ Below W.heap.size W w')).mono fun e W' ⟨he, bel⟩ => ?_
  subst he
  exact ⟨_, rfl, _, _, _, [], _, [], hW', trodAll_mk1 (shut_bool Try.underlying4 _), (trodAll_cons_mk (shut_int Try.underlying3 w0) (trodAll_cons_mk (shut_int Try.underlying3 w1) trodAll_mk0)), rfl, bel.frame _, fun h => by cases h⟩
theorem over : Rows.packNumbersRow.holds Try.pinned (OpenSpec.ofChange Rows.packNumbersSpec) :=
  OpenClaim.holds_of_wide 12 Try.f12 rfl rfl rfl rfl rfl rfl rfl ⟨rfl, rfl, rfl, rfl, rfl⟩ rfl rfl rfl rfl rfl (by kernel_rfl) Try.func12 (by kernel_rfl)
    (of_decide_eq_true (by kernel_rfl)) (by unfold Func.isWrapper; first | (rw [if_pos (by decide +kernel)]; kernel_rfl) | (rw [if_neg (by decide +kernel)]; exact ⟨rfl, rfl⟩))
    (fun os started H enc _ => lifted os started H enc)
theorem proved : Rows.PackNumbersSaid := over
end Go.Proofs.Ytaiglhfmmdajdaa.packNumbers
namespace Go.Proofs.Ytaiglhfmmdajdaa
/-- The row, under a short name, for the claim. -/
theorem packNumbers_holds : Rows.PackNumbersSaid := packNumbers.proved
end Go.Proofs.Ytaiglhfmmdajdaa
end
