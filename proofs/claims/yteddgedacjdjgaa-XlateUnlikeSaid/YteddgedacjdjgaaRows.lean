/-
  No cell of these rows narrows 'for every input' (looked for: loops, veiled, ifaces, maps, wideKeys, modest, calm, conditions, laid).
  DERIVED. THE GIVEN ROWS OF THIS SEAT. 3 by the template 'for every input the law returns true; each argument reads behind the call as it read before'; 0 by the template 'total and deterministic' (their statements: YteddgedacjdjgaaTotals.lean).
  GIVEN WITH THE SEED: the statements are not yours to turn. If you find one false, say at which input.
  Laid BY PROGRAM, IN A SANDBOX (cutbox-rows.mjs): the forced cells as the released guide's own fill.sh prints them over the translation 5d6330e6c031f9ed… (all of the seat's roots in one cut). By AI agents, Wed Nov 11 2026. No macro, syntax, notation, axiom, sorry.
-/
import Derived.Test.YteddgedacjdjgaaChecked
import GoSem.Claim
import GoSem.ClaimJoined
import GoSem.ClaimMapViews
import Derived.JoinedTies
import Derived.KernelRfl
namespace Go.Proofs.Yteddgedacjdjgaa
/- THE CELL 'sum', in the pinned program and in every row, IS THE sha256 OF THE DUMP (.gsa) THAT YteddgedacjdjgaaProg.lean LOADS. Nothing in Lean hashes anything: it is a label: what it is worth is what the hold of that sum in a sandbox is worth. -/
noncomputable def Try.pinned : Pinned := { name := "yteddgedacjdjgaa", sum := "5d6330e6c031f9ed2bea61ab760f132f91f7cae3b9814871c7694347ba6ccfff", checked := Try.checked }
namespace Rows
def none {H : Type} : Left H := { results := [], args := [] }

/-- 'sentrylaw12.XlateUnlike': WHATEVER THE INPUT: true; the input reads as it did. -/
def xlateUnlikeSpec : ChangeSpec := { name := "xlateUnlike", fn := fun _ => fun
  | [d1, d2] => { results := [.lit (.bool true)], args := [d1, d2] }
  | _ => none }
def xlateUnlikeRow : OpenClaim := { program := "yteddgedacjdjgaa", sum := "5d6330e6c031f9ed2bea61ab760f132f91f7cae3b9814871c7694347ba6ccfff", func := "sentry/sentrylaw12.XlateUnlike", spec := "xlateUnlike", unfollowed := true, recurses := true, apart := false }
def XlateUnlikeSaid : Prop := xlateUnlikeRow.holds Try.pinned (OpenSpec.ofChange xlateUnlikeSpec)

/-- ITS FALSE NEIGHBOUR: 'it returns false'. Refute it at one input. -/
def xlateUnlikeWrong : ChangeSpec := { name := "xlateUnlike", fn := fun _ => fun
  | [d1, d2] => { results := [.lit (.bool false)], args := [d1, d2] }
  | _ => none }
def XlateUnlikeWrongFalsely : Prop := xlateUnlikeRow.holds Try.pinned (OpenSpec.ofChange xlateUnlikeWrong)

/-- 'sentrylaw12.XlateLong': WHATEVER THE INPUT: true; the input reads as it did. -/
def xlateLongSpec : ChangeSpec := { name := "xlateLong", fn := fun _ => fun
  | [d] => { results := [.lit (.bool true)], args := [d] }
  | _ => none }
def xlateLongRow : OpenClaim := { program := "yteddgedacjdjgaa", sum := "5d6330e6c031f9ed2bea61ab760f132f91f7cae3b9814871c7694347ba6ccfff", func := "sentry/sentrylaw12.XlateLong", spec := "xlateLong", unfollowed := true, recurses := true, apart := false }
def XlateLongSaid : Prop := xlateLongRow.holds Try.pinned (OpenSpec.ofChange xlateLongSpec)

/-- ITS FALSE NEIGHBOUR: 'it returns false'. Refute it at one input. -/
def xlateLongWrong : ChangeSpec := { name := "xlateLong", fn := fun _ => fun
  | [d] => { results := [.lit (.bool false)], args := [d] }
  | _ => none }
def XlateLongWrongFalsely : Prop := xlateLongRow.holds Try.pinned (OpenSpec.ofChange xlateLongWrong)

/-- 'sentrylaw12.XlateFlags': WHATEVER THE INPUT: true; the input reads as it did. -/
def xlateFlagsSpec : ChangeSpec := { name := "xlateFlags", fn := fun _ => fun
  | [d1, d2, d3, d4] => { results := [.lit (.bool true)], args := [d1, d2, d3, d4] }
  | _ => none }
def xlateFlagsRow : OpenClaim := { program := "yteddgedacjdjgaa", sum := "5d6330e6c031f9ed2bea61ab760f132f91f7cae3b9814871c7694347ba6ccfff", func := "sentry/sentrylaw12.XlateFlags", spec := "xlateFlags", unfollowed := true, recurses := true, apart := false }
def XlateFlagsSaid : Prop := xlateFlagsRow.holds Try.pinned (OpenSpec.ofChange xlateFlagsSpec)

/-- ITS FALSE NEIGHBOUR: 'it returns false'. Refute it at one input. -/
def xlateFlagsWrong : ChangeSpec := { name := "xlateFlags", fn := fun _ => fun
  | [d1, d2, d3, d4] => { results := [.lit (.bool false)], args := [d1, d2, d3, d4] }
  | _ => none }
def XlateFlagsWrongFalsely : Prop := xlateFlagsRow.holds Try.pinned (OpenSpec.ofChange xlateFlagsWrong)

/- THE SECOND FORM. 'bulk': how many values and letters a reading holds, each counted each time it is reached (what is shared counts as often as it is met; a slice's spare places count too). A statement '..UptoSaid' is the law's where the arguments, and the package variables that the reading takes, are together of bulk at most 1048576: NARROWER than '..Said'. Prove '..Said' where nothing that the law and all that it calls make is longer than what came in: it says more and counts as full. Else prove '..UptoSaid'. A law counts once. -/
mutual
def uptoBulk {H : Type} : DataW H → Nat
  | .lit (.string bytes) => bytes.length + 1
  | .lit _ => 1
  | .nil => 1
  | .ptr d => uptoBulk d + 1
  | .slice elems spare => uptoBulkAll elems + uptoBulkAll spare + 1
  | .agg parts => uptoBulkAll parts + 1
  | .iface _ d => uptoBulk d + 1
  | .map entries => uptoBulkEntries entries + 1
  | .held _ => 1
def uptoBulkAll {H : Type} : List (DataW H) → Nat
  | [] => 0
  | d :: r => uptoBulk d + uptoBulkAll r
def uptoBulkEntries {H : Type} : List (Lit × DataW H) → Nat
  | [] => 0
  | x :: r => uptoBulkEntry x + uptoBulkEntries r
def uptoBulkEntry {H : Type} : Lit × DataW H → Nat
  | (.string bytes, d) => bytes.length + uptoBulk d + 1
  | (_, d) => uptoBulk d + 1
 end
def uptoSmall : (H : Type) → List (DataW H) → Bool := fun _ ds => decide (uptoBulkAll ds ≤ 1048576)
def OpenSpec.upto (s : _root_.Go.ChangeSpec) : _root_.Go.OpenSpec := { _root_.Go.OpenSpec.ofChange s with cond := some uptoSmall }

/-- 'sentrylaw12.XlateUnlike', WHERE WHAT IT READS IS OF BULK AT MOST 1048576: true; the input reads as it did. -/
def xlateUnlikeUptoRow : OpenClaim := { program := "yteddgedacjdjgaa", sum := "5d6330e6c031f9ed2bea61ab760f132f91f7cae3b9814871c7694347ba6ccfff", func := "sentry/sentrylaw12.XlateUnlike", spec := "xlateUnlike", unfollowed := true, recurses := true, apart := false, narrowed := true }
def XlateUnlikeUptoSaid : Prop := xlateUnlikeUptoRow.holds Try.pinned (OpenSpec.upto xlateUnlikeSpec)

/-- 'sentrylaw12.XlateLong', WHERE WHAT IT READS IS OF BULK AT MOST 1048576: true; the input reads as it did. -/
def xlateLongUptoRow : OpenClaim := { program := "yteddgedacjdjgaa", sum := "5d6330e6c031f9ed2bea61ab760f132f91f7cae3b9814871c7694347ba6ccfff", func := "sentry/sentrylaw12.XlateLong", spec := "xlateLong", unfollowed := true, recurses := true, apart := false, narrowed := true }
def XlateLongUptoSaid : Prop := xlateLongUptoRow.holds Try.pinned (OpenSpec.upto xlateLongSpec)

/-- 'sentrylaw12.XlateFlags', WHERE WHAT IT READS IS OF BULK AT MOST 1048576: true; the input reads as it did. -/
def xlateFlagsUptoRow : OpenClaim := { program := "yteddgedacjdjgaa", sum := "5d6330e6c031f9ed2bea61ab760f132f91f7cae3b9814871c7694347ba6ccfff", func := "sentry/sentrylaw12.XlateFlags", spec := "xlateFlags", unfollowed := true, recurses := true, apart := false, narrowed := true }
def XlateFlagsUptoSaid : Prop := xlateFlagsUptoRow.holds Try.pinned (OpenSpec.upto xlateFlagsSpec)

end Rows
end Go.Proofs.Yteddgedacjdjgaa
