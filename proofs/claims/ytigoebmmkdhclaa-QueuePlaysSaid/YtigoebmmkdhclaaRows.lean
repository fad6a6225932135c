/-
  No cell of these rows narrows 'for every input' (looked for: loops, veiled, ifaces, maps, wideKeys, modest, calm, conditions, laid).
  DERIVED. THE GIVEN ROWS OF THIS SEAT. 7 by the template 'for every input the law returns true; each argument reads behind the call as it read before'; 0 by the template 'total and deterministic' (their statements: YtigoebmmkdhclaaTotals.lean).
  GIVEN WITH THE SEED: the statements are not yours to turn. If you find one false, say at which input.
  Laid BY PROGRAM, IN A SANDBOX (cutbox-rows.mjs): the forced cells as the released guide's own fill.sh prints them over the translation 2115266c35f546b8… (all of the seat's roots in one cut). By AI agents, Wed Nov 11 2026. No macro, syntax, notation, axiom, sorry.
-/
import Derived.Test.YtigoebmmkdhclaaChecked
import GoSem.Claim
import GoSem.ClaimJoined
import GoSem.ClaimMapViews
import Derived.JoinedTies
import Derived.KernelRfl
namespace Go.Proofs.Ytigoebmmkdhclaa
/- THE CELL 'sum', in the pinned program and in every row, IS THE sha256 OF THE DUMP (.gsa) THAT YtigoebmmkdhclaaProg.lean LOADS. Nothing in Lean hashes anything: it is a label: what it is worth is what the hold of that sum in a sandbox is worth. -/
noncomputable def Try.pinned : Pinned := { name := "ytigoebmmkdhclaa", sum := "2115266c35f546b84b1a0128723c521a9e11f9dd0ac7f33c60723fa6a14d91fa", checked := Try.checked }
namespace Rows
def none {H : Type} : Left H := { results := [], args := [] }

/-- 'sentrylaw8.QueueSorts': WHATEVER THE INPUT: true; the input reads as it did. -/
def queueSortsSpec : ChangeSpec := { name := "queueSorts", fn := fun _ => fun
  | [d] => { results := [.lit (.bool true)], args := [d] }
  | _ => none }
def queueSortsRow : OpenClaim := { program := "ytigoebmmkdhclaa", sum := "2115266c35f546b84b1a0128723c521a9e11f9dd0ac7f33c60723fa6a14d91fa", func := "sentry/sentrylaw8.QueueSorts", spec := "queueSorts", unfollowed := true, recurses := true, apart := false }
def QueueSortsSaid : Prop := queueSortsRow.holds Try.pinned (OpenSpec.ofChange queueSortsSpec)

/-- ITS FALSE NEIGHBOUR: 'it returns false'. Refute it at one input. -/
def queueSortsWrong : ChangeSpec := { name := "queueSorts", fn := fun _ => fun
  | [d] => { results := [.lit (.bool false)], args := [d] }
  | _ => none }
def QueueSortsWrongFalsely : Prop := queueSortsRow.holds Try.pinned (OpenSpec.ofChange queueSortsWrong)

/-- 'sentrylaw8.QueueFull': WHATEVER THE INPUT: true; the input reads as it did. -/
def queueFullSpec : ChangeSpec := { name := "queueFull", fn := fun _ => fun
  | [d] => { results := [.lit (.bool true)], args := [d] }
  | _ => none }
def queueFullRow : OpenClaim := { program := "ytigoebmmkdhclaa", sum := "2115266c35f546b84b1a0128723c521a9e11f9dd0ac7f33c60723fa6a14d91fa", func := "sentry/sentrylaw8.QueueFull", spec := "queueFull", unfollowed := true, recurses := true, apart := false }
def QueueFullSaid : Prop := queueFullRow.holds Try.pinned (OpenSpec.ofChange queueFullSpec)

/-- ITS FALSE NEIGHBOUR: 'it returns false'. Refute it at one input. -/
def queueFullWrong : ChangeSpec := { name := "queueFull", fn := fun _ => fun
  | [d] => { results := [.lit (.bool false)], args := [d] }
  | _ => none }
def QueueFullWrongFalsely : Prop := queueFullRow.holds Try.pinned (OpenSpec.ofChange queueFullWrong)

/-- 'sentrylaw8.QueueSame': WHATEVER THE INPUT: true; the input reads as it did. -/
def queueSameSpec : ChangeSpec := { name := "queueSame", fn := fun _ => fun
  | [d1, d2] => { results := [.lit (.bool true)], args := [d1, d2] }
  | _ => none }
def queueSameRow : OpenClaim := { program := "ytigoebmmkdhclaa", sum := "2115266c35f546b84b1a0128723c521a9e11f9dd0ac7f33c60723fa6a14d91fa", func := "sentry/sentrylaw8.QueueSame", spec := "queueSame", unfollowed := true, recurses := true, apart := false }
def QueueSameSaid : Prop := queueSameRow.holds Try.pinned (OpenSpec.ofChange queueSameSpec)

/-- ITS FALSE NEIGHBOUR: 'it returns false'. Refute it at one input. -/
def queueSameWrong : ChangeSpec := { name := "queueSame", fn := fun _ => fun
  | [d1, d2] => { results := [.lit (.bool false)], args := [d1, d2] }
  | _ => none }
def QueueSameWrongFalsely : Prop := queueSameRow.holds Try.pinned (OpenSpec.ofChange queueSameWrong)

/-- 'sentrylaw8.QueueTurns': WHATEVER THE INPUT: true; the input reads as it did. -/
def queueTurnsSpec : ChangeSpec := { name := "queueTurns", fn := fun _ => fun
  | [d] => { results := [.lit (.bool true)], args := [d] }
  | _ => none }
def queueTurnsRow : OpenClaim := { program := "ytigoebmmkdhclaa", sum := "2115266c35f546b84b1a0128723c521a9e11f9dd0ac7f33c60723fa6a14d91fa", func := "sentry/sentrylaw8.QueueTurns", spec := "queueTurns", unfollowed := true, recurses := true, apart := false }
def QueueTurnsSaid : Prop := queueTurnsRow.holds Try.pinned (OpenSpec.ofChange queueTurnsSpec)

/-- ITS FALSE NEIGHBOUR: 'it returns false'. Refute it at one input. -/
def queueTurnsWrong : ChangeSpec := { name := "queueTurns", fn := fun _ => fun
  | [d] => { results := [.lit (.bool false)], args := [d] }
  | _ => none }
def QueueTurnsWrongFalsely : Prop := queueTurnsRow.holds Try.pinned (OpenSpec.ofChange queueTurnsWrong)

/-- 'sentrylaw8.QueuePlays': WHATEVER THE INPUT: true; the input reads as it did. -/
def queuePlaysSpec : ChangeSpec := { name := "queuePlays", fn := fun _ => fun
  | [d] => { results := [.lit (.bool true)], args := [d] }
  | _ => none }
def queuePlaysRow : OpenClaim := { program := "ytigoebmmkdhclaa", sum := "2115266c35f546b84b1a0128723c521a9e11f9dd0ac7f33c60723fa6a14d91fa", func := "sentry/sentrylaw8.QueuePlays", spec := "queuePlays", unfollowed := true, recurses := true, apart := false }
def QueuePlaysSaid : Prop := queuePlaysRow.holds Try.pinned (OpenSpec.ofChange queuePlaysSpec)

/-- ITS FALSE NEIGHBOUR: 'it returns false'. Refute it at one input. -/
def queuePlaysWrong : ChangeSpec := { name := "queuePlays", fn := fun _ => fun
  | [d] => { results := [.lit (.bool false)], args := [d] }
  | _ => none }
def QueuePlaysWrongFalsely : Prop := queuePlaysRow.holds Try.pinned (OpenSpec.ofChange queuePlaysWrong)

/-- 'sentrylaw8.QueueCopy': WHATEVER THE INPUT: true; the input reads as it did. -/
def queueCopySpec : ChangeSpec := { name := "queueCopy", fn := fun _ => fun
  | [d1, d2] => { results := [.lit (.bool true)], args := [d1, d2] }
  | _ => none }
def queueCopyRow : OpenClaim := { program := "ytigoebmmkdhclaa", sum := "2115266c35f546b84b1a0128723c521a9e11f9dd0ac7f33c60723fa6a14d91fa", func := "sentry/sentrylaw8.QueueCopy", spec := "queueCopy", unfollowed := true, recurses := true, apart := false }
def QueueCopySaid : Prop := queueCopyRow.holds Try.pinned (OpenSpec.ofChange queueCopySpec)

/-- ITS FALSE NEIGHBOUR: 'it returns false'. Refute it at one input. -/
def queueCopyWrong : ChangeSpec := { name := "queueCopy", fn := fun _ => fun
  | [d1, d2] => { results := [.lit (.bool false)], args := [d1, d2] }
  | _ => none }
def QueueCopyWrongFalsely : Prop := queueCopyRow.holds Try.pinned (OpenSpec.ofChange queueCopyWrong)

/-- 'sentrylaw8.QueueOfNothing': WHATEVER THE INPUT: true; the input reads as it did. -/
def queueOfNothingSpec : ChangeSpec := { name := "queueOfNothing", fn := fun _ => fun
  | [d1, d2] => { results := [.lit (.bool true)], args := [d1, d2] }
  | _ => none }
def queueOfNothingRow : OpenClaim := { program := "ytigoebmmkdhclaa", sum := "2115266c35f546b84b1a0128723c521a9e11f9dd0ac7f33c60723fa6a14d91fa", func := "sentry/sentrylaw8.QueueOfNothing", spec := "queueOfNothing", unfollowed := true, recurses := true, apart := false }
def QueueOfNothingSaid : Prop := queueOfNothingRow.holds Try.pinned (OpenSpec.ofChange queueOfNothingSpec)

/-- ITS FALSE NEIGHBOUR: 'it returns false'. Refute it at one input. -/
def queueOfNothingWrong : ChangeSpec := { name := "queueOfNothing", fn := fun _ => fun
  | [d1, d2] => { results := [.lit (.bool false)], args := [d1, d2] }
  | _ => none }
def QueueOfNothingWrongFalsely : Prop := queueOfNothingRow.holds Try.pinned (OpenSpec.ofChange queueOfNothingWrong)

/- THE SECOND FORM. 'bulk': how many values and letters a reading holds, each counted each time it is reached (what is shared counts as often as it is met; a slice's spare places count too). A statement '..UptoSaid' is the law's where the arguments, and the package variables that the reading takes, are together of bulk at most 1048576: NARROWER than '..Said'. Prove '..Said' where nothing that the law and all that it calls make is longer than what came in: it says more and counts as full. Else prove '..UptoSaid'. A law counts once. -/
mutual
def uptoBulk {H : Type} : DataW H → Nat
  | .lit (.string bytes) => bytes.length + 1
  | .lit _ => 1
  | .nil => 1
  | .ptr d => uptoBulk d + 1
  | .slice elems spare => uptoBulkAll elems + uptoBulkAll spare + 1
  | .agg parts => uptoBulkAll parts + 1
  | .iface _ d => uptoBulk d + 1
  | .map entries => uptoBulkEntries entries + 1
  | .held _ => 1
def uptoBulkAll {H : Type} : List (DataW H) → Nat
  | [] => 0
  | d :: r => uptoBulk d + uptoBulkAll r
def uptoBulkEntries {H : Type} : List (Lit × DataW H) → Nat
  | [] => 0
  | x :: r => uptoBulkEntry x + uptoBulkEntries r
def uptoBulkEntry {H : Type} : Lit × DataW H → Nat
  | (.string bytes, d) => bytes.length + uptoBulk d + 1
  | (_, d) => uptoBulk d + 1
 end
def uptoSmall : (H : Type) → List (DataW H) → Bool := fun _ ds => decide (uptoBulkAll ds ≤ 1048576)
def OpenSpec.upto (s : _root_.Go.ChangeSpec) : _root_.Go.OpenSpec := { _root_.Go.OpenSpec.ofChange s with cond := some uptoSmall }

/-- 'sentrylaw8.QueueSorts', WHERE WHAT IT READS IS OF BULK AT MOST 1048576: true; the input reads as it did. -/
def queueSortsUptoRow : OpenClaim := { program := "ytigoebmmkdhclaa", sum := "2115266c35f546b84b1a0128723c521a9e11f9dd0ac7f33c60723fa6a14d91fa", func := "sentry/sentrylaw8.QueueSorts", spec := "queueSorts", unfollowed := true, recurses := true, apart := false, narrowed := true }
def QueueSortsUptoSaid : Prop := queueSortsUptoRow.holds Try.pinned (OpenSpec.upto queueSortsSpec)

/-- 'sentrylaw8.QueueFull', WHERE WHAT IT READS IS OF BULK AT MOST 1048576: true; the input reads as it did. -/
def queueFullUptoRow : OpenClaim := { program := "ytigoebmmkdhclaa", sum := "2115266c35f546b84b1a0128723c521a9e11f9dd0ac7f33c60723fa6a14d91fa", func := "sentry/sentrylaw8.QueueFull", spec := "queueFull", unfollowed := true, recurses := true, apart := false, narrowed := true }
def QueueFullUptoSaid : Prop := queueFullUptoRow.holds Try.pinned (OpenSpec.upto queueFullSpec)

/-- 'sentrylaw8.QueueSame', WHERE WHAT IT READS IS OF BULK AT MOST 1048576: true; the input reads as it did. -/
def queueSameUptoRow : OpenClaim := { program := "ytigoebmmkdhclaa", sum := "2115266c35f546b84b1a0128723c521a9e11f9dd0ac7f33c60723fa6a14d91fa", func := "sentry/sentrylaw8.QueueSame", spec := "queueSame", unfollowed := true, recurses := true, apart := false, narrowed := true }
def QueueSameUptoSaid : Prop := queueSameUptoRow.holds Try.pinned (OpenSpec.upto queueSameSpec)

/-- 'sentrylaw8.QueueTurns', WHERE WHAT IT READS IS OF BULK AT MOST 1048576: true; the input reads as it did. -/
def queueTurnsUptoRow : OpenClaim := { program := "ytigoebmmkdhclaa", sum := "2115266c35f546b84b1a0128723c521a9e11f9dd0ac7f33c60723fa6a14d91fa", func := "sentry/sentrylaw8.QueueTurns", spec := "queueTurns", unfollowed := true, recurses := true, apart := false, narrowed := true }
def QueueTurnsUptoSaid : Prop := queueTurnsUptoRow.holds Try.pinned (OpenSpec.upto queueTurnsSpec)

/-- 'sentrylaw8.QueuePlays', WHERE WHAT IT READS IS OF BULK AT MOST 1048576: true; the input reads as it did. -/
def queuePlaysUptoRow : OpenClaim := { program := "ytigoebmmkdhclaa", sum := "2115266c35f546b84b1a0128723c521a9e11f9dd0ac7f33c60723fa6a14d91fa", func := "sentry/sentrylaw8.QueuePlays", spec := "queuePlays", unfollowed := true, recurses := true, apart := false, narrowed := true }
def QueuePlaysUptoSaid : Prop := queuePlaysUptoRow.holds Try.pinned (OpenSpec.upto queuePlaysSpec)

/-- 'sentrylaw8.QueueCopy', WHERE WHAT IT READS IS OF BULK AT MOST 1048576: true; the input reads as it did. -/
def queueCopyUptoRow : OpenClaim := { program := "ytigoebmmkdhclaa", sum := "2115266c35f546b84b1a0128723c521a9e11f9dd0ac7f33c60723fa6a14d91fa", func := "sentry/sentrylaw8.QueueCopy", spec := "queueCopy", unfollowed := true, recurses := true, apart := false, narrowed := true }
def QueueCopyUptoSaid : Prop := queueCopyUptoRow.holds Try.pinned (OpenSpec.upto queueCopySpec)

/-- 'sentrylaw8.QueueOfNothing', WHERE WHAT IT READS IS OF BULK AT MOST 1048576: true; the input reads as it did. -/
def queueOfNothingUptoRow : OpenClaim := { program := "ytigoebmmkdhclaa", sum := "2115266c35f546b84b1a0128723c521a9e11f9dd0ac7f33c60723fa6a14d91fa", func := "sentry/sentrylaw8.QueueOfNothing", spec := "queueOfNothing", unfollowed := true, recurses := true, apart := false, narrowed := true }
def QueueOfNothingUptoSaid : Prop := queueOfNothingUptoRow.holds Try.pinned (OpenSpec.upto queueOfNothingSpec)

end Rows
end Go.Proofs.Ytigoebmmkdhclaa
