/- known: a stage may be a plan; nothing may be none; a milestone occurs, and does not start. -/
import Derived.Test.YtchellnfenekaaaPm0
import Derived.Test.YtchellnfenekaaaPmFmodel_Legal
import Derived.Test.YtchellnfenekaaaGIs
import Derived.Test.YtchellnfenekaaaGIsPlain
import Derived.Test.YtchellnfenekaaaGPlain
import Derived.Lib.Hide
namespace Go.Proofs.Ytchellnfenekaaa.Pm
open Go.RowKit Go.Proofs.YtchellnfenekaaaW.PrintWords Go.Proofs.YtchellnfenekaaaW.PrintLast Go.Proofs.YtchellnfenekaaaW.PrintMore
attribute [local go_sem] max2_int min2_int max_two min_two max_three min_three max_four min_four   -- for this text's walks alone
set_option linter.unusedVariables false
set_option linter.unusedSimpArgs false

def sentrylaw4_known.f : Option Bool := some true
def oneItem : S32 := ⟨(⟨#[97]⟩ : ByteArray), 1, (⟨#[]⟩ : ByteArray), false, 0, [], []⟩
set_option maxRecDepth 100000 in
theorem isB_one : isB [] [oneItem] = true := by decide +kernel
set_option maxRecDepth 100000 in
theorem isB_none : isB [] [] = false := by decide +kernel
theorem one_C (W : World) (g : Nat) (hc : ∀ j u, [Value.string ⟨#[97]⟩, .int .i64 1, .string ⟨#[]⟩, .bool false, .int .i64 0, .slice none 0 0, .slice none 0 0][j]? = some u → W.cell? ((⟨g, 0, none⟩ : Addr).add j) = some u) : Kd.C k32 W (some ⟨g, 0, none⟩) [oneItem].length [oneItem] := by
  refine ⟨rfl, by decide, fun _ => ⟨_, rfl, fun j p hj => ?_⟩⟩
  obtain rfl : j = 0 := by
    have := (List.getElem?_eq_some_iff.1 hj).1
    simp at this
    exact this
  obtain rfl : oneItem = p := by simpa using hj
  refine ⟨_, rfl, k32_mk W oneItem (A5 := none) (c5 := 0) (Nat.le_refl _) (Kd.C_nil _ W) (A6 := none) (c6 := 0) (Nat.le_refl _) (Kd.C_nil _ W), fun i u hi => ?_⟩
  have h2 := hc i u hi
  rwa [show 0 * (Kd.sz k32) + i = i by omega]
set_option maxHeartbeats 8000000 in
theorem sentrylaw4_known.calls (r : Bool) (w : World) (h : sentrylaw4_known.f = some r) :
    Calls Try.prog 14 #[] w fun e w' => e = .returned (.bool r) ∧ Below w.heap.size w w' := by
  obtain rfl := Option.some.inj h
  clear h
  have h1 := fun (W : World) => model_Legal.calls 2 3 2 _ W (legal_eq 3 2)
  have h2 := fun (W : World) => model_Legal.calls 2 3 4 _ W (legal_eq 3 4)
  rw [show legalB 3 2 = false by decide] at h1
  rw [show legalB 3 4 = true by decide] at h2
  have hu36 := Try.underlying36
  have hu32 := Try.underlying32
  go_enter Try.func14, Try.ntmps14
  go_wp2_with fail
  go_at_call 12
  refine (h1 _).mono ?_
  rintro e w1 ⟨rfl, ⟨n1, rfl⟩⟩
  go_wp2_with fail
  go_at_call 12
  refine (h2 _).mono ?_
  rintro e w1 ⟨rfl, ⟨n2, rfl⟩⟩
  clear h1 h2
  have hb1 : Below w.heap.size w ((w.drewN n1).drewN n2) := pw_below_drewN (pw_below_drewN (Below.refl _ _) _) _
  obtain ⟨W1, hW1⟩ : ∃ W, W = (w.drewN n1).drewN n2 := ⟨_, rfl⟩
  rw [← hW1] at hb1 ⊢
  clear hW1
  have HB1 := Lib.hid hb1
  clear hb1
  have hC := one_C (W1.alloc (.cells #[.string ⟨#[97]⟩, .int .i64 1, .string ⟨#[]⟩, .bool false, .int .i64 0, .slice none 0 0, .slice none 0 0] 32)) W1.heap.size (World.news_of_block (cs := #[.string ⟨#[97]⟩, .int .i64 1, .string ⟨#[]⟩, .bool false, .int .i64 0, .slice none 0 0, .slice none 0 0]) (t := 32) (fr := (0, 0)) (heap_alloc_new W1 _))
  have h3 := model_Is.calls none 0 [] (some ⟨W1.heap.size, 0, none⟩) 1 [oneItem] _ _ (Kd.C_nil _ _) (Nat.le_refl _) hC (Nat.le_refl _) rfl
  rw [isB_one] at h3
  have hb2 := below_alloc HB1.out (.cells #[.string ⟨#[97]⟩, .int .i64 1, .string ⟨#[]⟩, .bool false, .int .i64 0, .slice none 0 0, .slice none 0 0] 32)
  have HB2 := Lib.hid hb2
  clear hC hb2
  go_wp2_with fail
  refine h3.mono ?_
  rintro e w2 ⟨rfl, hb3⟩
  have HB3 := Lib.hid (below_then HB2.out HB2.out.size hb3)
  have h4 := model_Is.calls none 0 [] none 0 [] _ w2 (Kd.C_nil _ _) (Nat.le_refl _) (Kd.C_nil _ _) (Nat.le_refl _) rfl
  rw [isB_none] at h4
  clear h3 hb3
  go_wp2_with fail
  go_at_call 16
  refine h4.mono ?_
  rintro e w3 ⟨rfl, hb4⟩
  have HB4 := Lib.hid (below_then HB3.out HB3.out.size hb4)
  clear h4 hb4
  go_wp2
  go_ret
  exact ⟨rfl, HB4.out⟩

end Go.Proofs.Ytchellnfenekaaa.Pm
