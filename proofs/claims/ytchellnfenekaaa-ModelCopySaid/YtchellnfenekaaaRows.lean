/-
  No cell of these rows narrows 'for every input' (looked for: loops, veiled, ifaces, maps, wideKeys, modest, calm, conditions, laid).
  DERIVED. THE GIVEN ROWS OF THIS SEAT. 9 by the template 'for every input the law returns true; each argument reads behind the call as it read before'; 0 by the template 'total and deterministic' (their statements: YtchellnfenekaaaTotals.lean).
  GIVEN WITH THE SEED: the statements are not yours to turn. If you find one false, say at which input.
  Laid BY PROGRAM, IN A SANDBOX (cutbox-rows.mjs): the forced cells as the released guide's own fill.sh prints them over the translation 67df732d5d0a2e2c… (all of the seat's roots in one cut). By AI agents, Wed Nov 11 2026. No macro, syntax, notation, axiom, sorry.
-/
import Derived.Test.YtchellnfenekaaaChecked
import GoSem.Claim
import GoSem.ClaimJoined
import GoSem.ClaimMapViews
import Derived.JoinedTies
import Derived.KernelRfl
namespace Go.Proofs.Ytchellnfenekaaa
/- THE CELL 'sum', in the pinned program and in every row, IS THE sha256 OF THE DUMP (.gsa) THAT YtchellnfenekaaaProg.lean LOADS. Nothing in Lean hashes anything: it is a label: what it is worth is what the hold of that sum in a sandbox is worth. -/
noncomputable def Try.pinned : Pinned := { name := "ytchellnfenekaaa", sum := "67df732d5d0a2e2cb1af4b10d9ab47117d0dcbc3f421ca3165e82181de307c99", checked := Try.checked }
namespace Rows
def none {H : Type} : Left H := { results := [], args := [] }

/-- 'sentrylaw4.ModelLegal': WHATEVER THE INPUT: true; the input reads as it did. -/
def modelLegalSpec : ChangeSpec := { name := "modelLegal", fn := fun _ => fun
  | [d1, d2] => { results := [.lit (.bool true)], args := [d1, d2] }
  | _ => none }
def modelLegalRow : OpenClaim := { program := "ytchellnfenekaaa", sum := "67df732d5d0a2e2cb1af4b10d9ab47117d0dcbc3f421ca3165e82181de307c99", func := "sentry/sentrylaw4.ModelLegal", spec := "modelLegal", unfollowed := true, recurses := true, apart := false }
def ModelLegalSaid : Prop := modelLegalRow.holds Try.pinned (OpenSpec.ofChange modelLegalSpec)

/-- ITS FALSE NEIGHBOUR: 'it returns false'. Refute it at one input. -/
def modelLegalWrong : ChangeSpec := { name := "modelLegal", fn := fun _ => fun
  | [d1, d2] => { results := [.lit (.bool false)], args := [d1, d2] }
  | _ => none }
def ModelLegalWrongFalsely : Prop := modelLegalRow.holds Try.pinned (OpenSpec.ofChange modelLegalWrong)

/-- 'sentrylaw4.ModelOdd': WHATEVER THE INPUT: true; the input reads as it did. -/
def modelOddSpec : ChangeSpec := { name := "modelOdd", fn := fun _ => fun
  | [d] => { results := [.lit (.bool true)], args := [d] }
  | _ => none }
def modelOddRow : OpenClaim := { program := "ytchellnfenekaaa", sum := "67df732d5d0a2e2cb1af4b10d9ab47117d0dcbc3f421ca3165e82181de307c99", func := "sentry/sentrylaw4.ModelOdd", spec := "modelOdd", unfollowed := true, recurses := true, apart := false }
def ModelOddSaid : Prop := modelOddRow.holds Try.pinned (OpenSpec.ofChange modelOddSpec)

/-- ITS FALSE NEIGHBOUR: 'it returns false'. Refute it at one input. -/
def modelOddWrong : ChangeSpec := { name := "modelOdd", fn := fun _ => fun
  | [d] => { results := [.lit (.bool false)], args := [d] }
  | _ => none }
def ModelOddWrongFalsely : Prop := modelOddRow.holds Try.pinned (OpenSpec.ofChange modelOddWrong)

/-- 'sentrylaw4.ModelOrder': WHATEVER THE INPUT: true; the input reads as it did. -/
def modelOrderSpec : ChangeSpec := { name := "modelOrder", fn := fun _ => fun
  | [d1, d2] => { results := [.lit (.bool true)], args := [d1, d2] }
  | _ => none }
def modelOrderRow : OpenClaim := { program := "ytchellnfenekaaa", sum := "67df732d5d0a2e2cb1af4b10d9ab47117d0dcbc3f421ca3165e82181de307c99", func := "sentry/sentrylaw4.ModelOrder", spec := "modelOrder", unfollowed := true, recurses := true, apart := false }
def ModelOrderSaid : Prop := modelOrderRow.holds Try.pinned (OpenSpec.ofChange modelOrderSpec)

/-- ITS FALSE NEIGHBOUR: 'it returns false'. Refute it at one input. -/
def modelOrderWrong : ChangeSpec := { name := "modelOrder", fn := fun _ => fun
  | [d1, d2] => { results := [.lit (.bool false)], args := [d1, d2] }
  | _ => none }
def ModelOrderWrongFalsely : Prop := modelOrderRow.holds Try.pinned (OpenSpec.ofChange modelOrderWrong)

/-- 'sentrylaw4.ModelLess': WHATEVER THE INPUT: true; the input reads as it did. -/
def modelLessSpec : ChangeSpec := { name := "modelLess", fn := fun _ => fun
  | [d] => { results := [.lit (.bool true)], args := [d] }
  | _ => none }
def modelLessRow : OpenClaim := { program := "ytchellnfenekaaa", sum := "67df732d5d0a2e2cb1af4b10d9ab47117d0dcbc3f421ca3165e82181de307c99", func := "sentry/sentrylaw4.ModelLess", spec := "modelLess", unfollowed := true, recurses := true, apart := false }
def ModelLessSaid : Prop := modelLessRow.holds Try.pinned (OpenSpec.ofChange modelLessSpec)

/-- ITS FALSE NEIGHBOUR: 'it returns false'. Refute it at one input. -/
def modelLessWrong : ChangeSpec := { name := "modelLess", fn := fun _ => fun
  | [d] => { results := [.lit (.bool false)], args := [d] }
  | _ => none }
def ModelLessWrongFalsely : Prop := modelLessRow.holds Try.pinned (OpenSpec.ofChange modelLessWrong)

/-- 'sentrylaw4.ModelMany': WHATEVER THE INPUT: true; the input reads as it did. -/
def modelManySpec : ChangeSpec := { name := "modelMany", fn := fun _ => fun
  | [d1, d2] => { results := [.lit (.bool true)], args := [d1, d2] }
  | _ => none }
def modelManyRow : OpenClaim := { program := "ytchellnfenekaaa", sum := "67df732d5d0a2e2cb1af4b10d9ab47117d0dcbc3f421ca3165e82181de307c99", func := "sentry/sentrylaw4.ModelMany", spec := "modelMany", unfollowed := true, recurses := true, apart := false }
def ModelManySaid : Prop := modelManyRow.holds Try.pinned (OpenSpec.ofChange modelManySpec)

/-- ITS FALSE NEIGHBOUR: 'it returns false'. Refute it at one input. -/
def modelManyWrong : ChangeSpec := { name := "modelMany", fn := fun _ => fun
  | [d1, d2] => { results := [.lit (.bool false)], args := [d1, d2] }
  | _ => none }
def ModelManyWrongFalsely : Prop := modelManyRow.holds Try.pinned (OpenSpec.ofChange modelManyWrong)

/-- 'sentrylaw4.ModelTells': WHATEVER THE INPUT: true; the input reads as it did. -/
def modelTellsSpec : ChangeSpec := { name := "modelTells", fn := fun _ => fun
  | [d1, d2] => { results := [.lit (.bool true)], args := [d1, d2] }
  | _ => none }
def modelTellsRow : OpenClaim := { program := "ytchellnfenekaaa", sum := "67df732d5d0a2e2cb1af4b10d9ab47117d0dcbc3f421ca3165e82181de307c99", func := "sentry/sentrylaw4.ModelTells", spec := "modelTells", unfollowed := true, recurses := true, apart := false }
def ModelTellsSaid : Prop := modelTellsRow.holds Try.pinned (OpenSpec.ofChange modelTellsSpec)

/-- ITS FALSE NEIGHBOUR: 'it returns false'. Refute it at one input. -/
def modelTellsWrong : ChangeSpec := { name := "modelTells", fn := fun _ => fun
  | [d1, d2] => { results := [.lit (.bool false)], args := [d1, d2] }
  | _ => none }
def ModelTellsWrongFalsely : Prop := modelTellsRow.holds Try.pinned (OpenSpec.ofChange modelTellsWrong)

/-- 'sentrylaw4.ModelKids': WHATEVER THE INPUT: true; the input reads as it did. -/
def modelKidsSpec : ChangeSpec := { name := "modelKids", fn := fun _ => fun
  | [d] => { results := [.lit (.bool true)], args := [d] }
  | _ => none }
def modelKidsRow : OpenClaim := { program := "ytchellnfenekaaa", sum := "67df732d5d0a2e2cb1af4b10d9ab47117d0dcbc3f421ca3165e82181de307c99", func := "sentry/sentrylaw4.ModelKids", spec := "modelKids", unfollowed := true, recurses := true, apart := false }
def ModelKidsSaid : Prop := modelKidsRow.holds Try.pinned (OpenSpec.ofChange modelKidsSpec)

/-- ITS FALSE NEIGHBOUR: 'it returns false'. Refute it at one input. -/
def modelKidsWrong : ChangeSpec := { name := "modelKids", fn := fun _ => fun
  | [d] => { results := [.lit (.bool false)], args := [d] }
  | _ => none }
def ModelKidsWrongFalsely : Prop := modelKidsRow.holds Try.pinned (OpenSpec.ofChange modelKidsWrong)

/-- 'sentrylaw4.ModelCopy': WHATEVER THE INPUT: true; the input reads as it did. -/
def modelCopySpec : ChangeSpec := { name := "modelCopy", fn := fun _ => fun
  | [d] => { results := [.lit (.bool true)], args := [d] }
  | _ => none }
def modelCopyRow : OpenClaim := { program := "ytchellnfenekaaa", sum := "67df732d5d0a2e2cb1af4b10d9ab47117d0dcbc3f421ca3165e82181de307c99", func := "sentry/sentrylaw4.ModelCopy", spec := "modelCopy", unfollowed := true, recurses := true, apart := false }
def ModelCopySaid : Prop := modelCopyRow.holds Try.pinned (OpenSpec.ofChange modelCopySpec)

/-- ITS FALSE NEIGHBOUR: 'it returns false'. Refute it at one input. -/
def modelCopyWrong : ChangeSpec := { name := "modelCopy", fn := fun _ => fun
  | [d] => { results := [.lit (.bool false)], args := [d] }
  | _ => none }
def ModelCopyWrongFalsely : Prop := modelCopyRow.holds Try.pinned (OpenSpec.ofChange modelCopyWrong)

/-- 'sentrylaw4.ModelSame': WHATEVER THE INPUT: true; the input reads as it did. -/
def modelSameSpec : ChangeSpec := { name := "modelSame", fn := fun _ => fun
  | [d1, d2] => { results := [.lit (.bool true)], args := [d1, d2] }
  | _ => none }
def modelSameRow : OpenClaim := { program := "ytchellnfenekaaa", sum := "67df732d5d0a2e2cb1af4b10d9ab47117d0dcbc3f421ca3165e82181de307c99", func := "sentry/sentrylaw4.ModelSame", spec := "modelSame", unfollowed := true, recurses := true, apart := false }
def ModelSameSaid : Prop := modelSameRow.holds Try.pinned (OpenSpec.ofChange modelSameSpec)

/-- ITS FALSE NEIGHBOUR: 'it returns false'. Refute it at one input. -/
def modelSameWrong : ChangeSpec := { name := "modelSame", fn := fun _ => fun
  | [d1, d2] => { results := [.lit (.bool false)], args := [d1, d2] }
  | _ => none }
def ModelSameWrongFalsely : Prop := modelSameRow.holds Try.pinned (OpenSpec.ofChange modelSameWrong)

/- THE SECOND FORM. 'bulk': how many values and letters a reading holds, each counted each time it is reached (what is shared counts as often as it is met; a slice's spare places count too). A statement '..UptoSaid' is the law's where the arguments, and the package variables that the reading takes, are together of bulk at most 1048576: NARROWER than '..Said'. Prove '..Said' where nothing that the law and all that it calls make is longer than what came in: it says more and counts as full. Else prove '..UptoSaid'. A law counts once. -/
mutual
def uptoBulk {H : Type} : DataW H → Nat
  | .lit (.string bytes) => bytes.length + 1
  | .lit _ => 1
  | .nil => 1
  | .ptr d => uptoBulk d + 1
  | .slice elems spare => uptoBulkAll elems + uptoBulkAll spare + 1
  | .agg parts => uptoBulkAll parts + 1
  | .iface _ d => uptoBulk d + 1
  | .map entries => uptoBulkEntries entries + 1
  | .held _ => 1
def uptoBulkAll {H : Type} : List (DataW H) → Nat
  | [] => 0
  | d :: r => uptoBulk d + uptoBulkAll r
def uptoBulkEntries {H : Type} : List (Lit × DataW H) → Nat
  | [] => 0
  | x :: r => uptoBulkEntry x + uptoBulkEntries r
def uptoBulkEntry {H : Type} : Lit × DataW H → Nat
  | (.string bytes, d) => bytes.length + uptoBulk d + 1
  | (_, d) => uptoBulk d + 1
 end
def uptoSmall : (H : Type) → List (DataW H) → Bool := fun _ ds => decide (uptoBulkAll ds ≤ 1048576)
def OpenSpec.upto (s : _root_.Go.ChangeSpec) : _root_.Go.OpenSpec := { _root_.Go.OpenSpec.ofChange s with cond := some uptoSmall }

/-- 'sentrylaw4.ModelLegal', WHERE WHAT IT READS IS OF BULK AT MOST 1048576: true; the input reads as it did. -/
def modelLegalUptoRow : OpenClaim := { program := "ytchellnfenekaaa", sum := "67df732d5d0a2e2cb1af4b10d9ab47117d0dcbc3f421ca3165e82181de307c99", func := "sentry/sentrylaw4.ModelLegal", spec := "modelLegal", unfollowed := true, recurses := true, apart := false, narrowed := true }
def ModelLegalUptoSaid : Prop := modelLegalUptoRow.holds Try.pinned (OpenSpec.upto modelLegalSpec)

/-- 'sentrylaw4.ModelOdd', WHERE WHAT IT READS IS OF BULK AT MOST 1048576: true; the input reads as it did. -/
def modelOddUptoRow : OpenClaim := { program := "ytchellnfenekaaa", sum := "67df732d5d0a2e2cb1af4b10d9ab47117d0dcbc3f421ca3165e82181de307c99", func := "sentry/sentrylaw4.ModelOdd", spec := "modelOdd", unfollowed := true, recurses := true, apart := false, narrowed := true }
def ModelOddUptoSaid : Prop := modelOddUptoRow.holds Try.pinned (OpenSpec.upto modelOddSpec)

/-- 'sentrylaw4.ModelOrder', WHERE WHAT IT READS IS OF BULK AT MOST 1048576: true; the input reads as it did. -/
def modelOrderUptoRow : OpenClaim := { program := "ytchellnfenekaaa", sum := "67df732d5d0a2e2cb1af4b10d9ab47117d0dcbc3f421ca3165e82181de307c99", func := "sentry/sentrylaw4.ModelOrder", spec := "modelOrder", unfollowed := true, recurses := true, apart := false, narrowed := true }
def ModelOrderUptoSaid : Prop := modelOrderUptoRow.holds Try.pinned (OpenSpec.upto modelOrderSpec)

/-- 'sentrylaw4.ModelLess', WHERE WHAT IT READS IS OF BULK AT MOST 1048576: true; the input reads as it did. -/
def modelLessUptoRow : OpenClaim := { program := "ytchellnfenekaaa", sum := "67df732d5d0a2e2cb1af4b10d9ab47117d0dcbc3f421ca3165e82181de307c99", func := "sentry/sentrylaw4.ModelLess", spec := "modelLess", unfollowed := true, recurses := true, apart := false, narrowed := true }
def ModelLessUptoSaid : Prop := modelLessUptoRow.holds Try.pinned (OpenSpec.upto modelLessSpec)

/-- 'sentrylaw4.ModelMany', WHERE WHAT IT READS IS OF BULK AT MOST 1048576: true; the input reads as it did. -/
def modelManyUptoRow : OpenClaim := { program := "ytchellnfenekaaa", sum := "67df732d5d0a2e2cb1af4b10d9ab47117d0dcbc3f421ca3165e82181de307c99", func := "sentry/sentrylaw4.ModelMany", spec := "modelMany", unfollowed := true, recurses := true, apart := false, narrowed := true }
def ModelManyUptoSaid : Prop := modelManyUptoRow.holds Try.pinned (OpenSpec.upto modelManySpec)

/-- 'sentrylaw4.ModelTells', WHERE WHAT IT READS IS OF BULK AT MOST 1048576: true; the input reads as it did. -/
def modelTellsUptoRow : OpenClaim := { program := "ytchellnfenekaaa", sum := "67df732d5d0a2e2cb1af4b10d9ab47117d0dcbc3f421ca3165e82181de307c99", func := "sentry/sentrylaw4.ModelTells", spec := "modelTells", unfollowed := true, recurses := true, apart := false, narrowed := true }
def ModelTellsUptoSaid : Prop := modelTellsUptoRow.holds Try.pinned (OpenSpec.upto modelTellsSpec)

/-- 'sentrylaw4.ModelKids', WHERE WHAT IT READS IS OF BULK AT MOST 1048576: true; the input reads as it did. -/
def modelKidsUptoRow : OpenClaim := { program := "ytchellnfenekaaa", sum := "67df732d5d0a2e2cb1af4b10d9ab47117d0dcbc3f421ca3165e82181de307c99", func := "sentry/sentrylaw4.ModelKids", spec := "modelKids", unfollowed := true, recurses := true, apart := false, narrowed := true }
def ModelKidsUptoSaid : Prop := modelKidsUptoRow.holds Try.pinned (OpenSpec.upto modelKidsSpec)

/-- 'sentrylaw4.ModelCopy', WHERE WHAT IT READS IS OF BULK AT MOST 1048576: true; the input reads as it did. -/
def modelCopyUptoRow : OpenClaim := { program := "ytchellnfenekaaa", sum := "67df732d5d0a2e2cb1af4b10d9ab47117d0dcbc3f421ca3165e82181de307c99", func := "sentry/sentrylaw4.ModelCopy", spec := "modelCopy", unfollowed := true, recurses := true, apart := false, narrowed := true }
def ModelCopyUptoSaid : Prop := modelCopyUptoRow.holds Try.pinned (OpenSpec.upto modelCopySpec)

/-- 'sentrylaw4.ModelSame', WHERE WHAT IT READS IS OF BULK AT MOST 1048576: true; the input reads as it did. -/
def modelSameUptoRow : OpenClaim := { program := "ytchellnfenekaaa", sum := "67df732d5d0a2e2cb1af4b10d9ab47117d0dcbc3f421ca3165e82181de307c99", func := "sentry/sentrylaw4.ModelSame", spec := "modelSame", unfollowed := true, recurses := true, apart := false, narrowed := true }
def ModelSameUptoSaid : Prop := modelSameUptoRow.holds Try.pinned (OpenSpec.upto modelSameSpec)

end Rows
end Go.Proofs.Ytchellnfenekaaa
