/-
  No cell of these rows narrows 'for every input' (looked for: loops, veiled, ifaces, maps, wideKeys, modest, calm, conditions, laid).
  DERIVED. THE GIVEN ROWS OF THIS SEAT. 10 by the template 'for every input the law returns true; each argument reads behind the call as it read before'; 0 by the template 'total and deterministic' (their statements: YtmifdccaajngcaaTotals.lean).
  GIVEN WITH THE SEED: the statements are not yours to turn. If you find one false, say at which input.
  Laid BY PROGRAM, IN A SANDBOX (cutbox-rows.mjs): the forced cells as the released guide's own fill.sh prints them over the translation 130f61ea3b9c40cf… (all of the seat's roots in one cut). By AI agents, Wed Nov 11 2026. No macro, syntax, notation, axiom, sorry.
-/
import Derived.Test.YtmifdccaajngcaaChecked
import GoSem.Claim
import GoSem.ClaimJoined
import GoSem.ClaimMapViews
import Derived.JoinedTies
import Derived.KernelRfl
namespace Go.Proofs.Ytmifdccaajngcaa
/- THE CELL 'sum', in the pinned program and in every row, IS THE sha256 OF THE DUMP (.gsa) THAT YtmifdccaajngcaaProg.lean LOADS. Nothing in Lean hashes anything: it is a label: what it is worth is what the hold of that sum in a sandbox is worth. -/
noncomputable def Try.pinned : Pinned := { name := "ytmifdccaajngcaa", sum := "130f61ea3b9c40cff52a6443f615bf4bd6e16ec0f18780d5da17ea0aa76bd7dc", checked := Try.checked }
namespace Rows
def none {H : Type} : Left H := { results := [], args := [] }

/-- 'laws.FnExactFresh': WHATEVER THE INPUT: true; the input reads as it did. -/
def fnExactFreshSpec : ChangeSpec := { name := "fnExactFresh", fn := fun _ => fun
  | [d1, d2] => { results := [.lit (.bool true)], args := [d1, d2] }
  | _ => none }
def fnExactFreshRow : OpenClaim := { program := "ytmifdccaajngcaa", sum := "130f61ea3b9c40cff52a6443f615bf4bd6e16ec0f18780d5da17ea0aa76bd7dc", func := "loop.example/g00385/laws.FnExactFresh", spec := "fnExactFresh", unfollowed := true, recurses := true, apart := false }
def FnExactFreshSaid : Prop := fnExactFreshRow.holds Try.pinned (OpenSpec.ofChange fnExactFreshSpec)

/-- ITS FALSE NEIGHBOUR: 'it returns false'. Refute it at one input. -/
def fnExactFreshWrong : ChangeSpec := { name := "fnExactFresh", fn := fun _ => fun
  | [d1, d2] => { results := [.lit (.bool false)], args := [d1, d2] }
  | _ => none }
def FnExactFreshWrongFalsely : Prop := fnExactFreshRow.holds Try.pinned (OpenSpec.ofChange fnExactFreshWrong)

/-- 'laws.FnExactKnown': WHATEVER THE INPUT: true; the input reads as it did. -/
def fnExactKnownSpec : ChangeSpec := { name := "fnExactKnown", fn := fun _ => fun
  | [d1, d2] => { results := [.lit (.bool true)], args := [d1, d2] }
  | _ => none }
def fnExactKnownRow : OpenClaim := { program := "ytmifdccaajngcaa", sum := "130f61ea3b9c40cff52a6443f615bf4bd6e16ec0f18780d5da17ea0aa76bd7dc", func := "loop.example/g00385/laws.FnExactKnown", spec := "fnExactKnown", unfollowed := true, recurses := true, apart := false }
def FnExactKnownSaid : Prop := fnExactKnownRow.holds Try.pinned (OpenSpec.ofChange fnExactKnownSpec)

/-- ITS FALSE NEIGHBOUR: 'it returns false'. Refute it at one input. -/
def fnExactKnownWrong : ChangeSpec := { name := "fnExactKnown", fn := fun _ => fun
  | [d1, d2] => { results := [.lit (.bool false)], args := [d1, d2] }
  | _ => none }
def FnExactKnownWrongFalsely : Prop := fnExactKnownRow.holds Try.pinned (OpenSpec.ofChange fnExactKnownWrong)

/-- 'laws.FnExactSteps': WHATEVER THE INPUT: true; the input reads as it did. -/
def fnExactStepsSpec : ChangeSpec := { name := "fnExactSteps", fn := fun _ => fun
  | [d1, d2, d3] => { results := [.lit (.bool true)], args := [d1, d2, d3] }
  | _ => none }
def fnExactStepsRow : OpenClaim := { program := "ytmifdccaajngcaa", sum := "130f61ea3b9c40cff52a6443f615bf4bd6e16ec0f18780d5da17ea0aa76bd7dc", func := "loop.example/g00385/laws.FnExactSteps", spec := "fnExactSteps", unfollowed := true, recurses := true, apart := false }
def FnExactStepsSaid : Prop := fnExactStepsRow.holds Try.pinned (OpenSpec.ofChange fnExactStepsSpec)

/-- ITS FALSE NEIGHBOUR: 'it returns false'. Refute it at one input. -/
def fnExactStepsWrong : ChangeSpec := { name := "fnExactSteps", fn := fun _ => fun
  | [d1, d2, d3] => { results := [.lit (.bool false)], args := [d1, d2, d3] }
  | _ => none }
def FnExactStepsWrongFalsely : Prop := fnExactStepsRow.holds Try.pinned (OpenSpec.ofChange fnExactStepsWrong)

/-- 'laws.FnExactTwice': WHATEVER THE INPUT: true; the input reads as it did. -/
def fnExactTwiceSpec : ChangeSpec := { name := "fnExactTwice", fn := fun _ => fun
  | [d] => { results := [.lit (.bool true)], args := [d] }
  | _ => none }
def fnExactTwiceRow : OpenClaim := { program := "ytmifdccaajngcaa", sum := "130f61ea3b9c40cff52a6443f615bf4bd6e16ec0f18780d5da17ea0aa76bd7dc", func := "loop.example/g00385/laws.FnExactTwice", spec := "fnExactTwice", unfollowed := true, recurses := true, apart := false }
def FnExactTwiceSaid : Prop := fnExactTwiceRow.holds Try.pinned (OpenSpec.ofChange fnExactTwiceSpec)

/-- ITS FALSE NEIGHBOUR: 'it returns false'. Refute it at one input. -/
def fnExactTwiceWrong : ChangeSpec := { name := "fnExactTwice", fn := fun _ => fun
  | [d] => { results := [.lit (.bool false)], args := [d] }
  | _ => none }
def FnExactTwiceWrongFalsely : Prop := fnExactTwiceRow.holds Try.pinned (OpenSpec.ofChange fnExactTwiceWrong)

/-- 'laws.FnExactCopies': WHATEVER THE INPUT: true; the input reads as it did. -/
def fnExactCopiesSpec : ChangeSpec := { name := "fnExactCopies", fn := fun _ => fun
  | [d] => { results := [.lit (.bool true)], args := [d] }
  | _ => none }
def fnExactCopiesRow : OpenClaim := { program := "ytmifdccaajngcaa", sum := "130f61ea3b9c40cff52a6443f615bf4bd6e16ec0f18780d5da17ea0aa76bd7dc", func := "loop.example/g00385/laws.FnExactCopies", spec := "fnExactCopies", unfollowed := true, recurses := true, apart := false }
def FnExactCopiesSaid : Prop := fnExactCopiesRow.holds Try.pinned (OpenSpec.ofChange fnExactCopiesSpec)

/-- ITS FALSE NEIGHBOUR: 'it returns false'. Refute it at one input. -/
def fnExactCopiesWrong : ChangeSpec := { name := "fnExactCopies", fn := fun _ => fun
  | [d] => { results := [.lit (.bool false)], args := [d] }
  | _ => none }
def FnExactCopiesWrongFalsely : Prop := fnExactCopiesRow.holds Try.pinned (OpenSpec.ofChange fnExactCopiesWrong)

/-- 'laws.FnExactFold': WHATEVER THE INPUT: true; the input reads as it did. -/
def fnExactFoldSpec : ChangeSpec := { name := "fnExactFold", fn := fun _ => fun
  | [d] => { results := [.lit (.bool true)], args := [d] }
  | _ => none }
def fnExactFoldRow : OpenClaim := { program := "ytmifdccaajngcaa", sum := "130f61ea3b9c40cff52a6443f615bf4bd6e16ec0f18780d5da17ea0aa76bd7dc", func := "loop.example/g00385/laws.FnExactFold", spec := "fnExactFold", unfollowed := true, recurses := true, apart := false }
def FnExactFoldSaid : Prop := fnExactFoldRow.holds Try.pinned (OpenSpec.ofChange fnExactFoldSpec)

/-- ITS FALSE NEIGHBOUR: 'it returns false'. Refute it at one input. -/
def fnExactFoldWrong : ChangeSpec := { name := "fnExactFold", fn := fun _ => fun
  | [d] => { results := [.lit (.bool false)], args := [d] }
  | _ => none }
def FnExactFoldWrongFalsely : Prop := fnExactFoldRow.holds Try.pinned (OpenSpec.ofChange fnExactFoldWrong)

/-- 'laws.FnExactPlaces': WHATEVER THE INPUT: true; the input reads as it did. -/
def fnExactPlacesSpec : ChangeSpec := { name := "fnExactPlaces", fn := fun _ => fun
  | [d1, d2] => { results := [.lit (.bool true)], args := [d1, d2] }
  | _ => none }
def fnExactPlacesRow : OpenClaim := { program := "ytmifdccaajngcaa", sum := "130f61ea3b9c40cff52a6443f615bf4bd6e16ec0f18780d5da17ea0aa76bd7dc", func := "loop.example/g00385/laws.FnExactPlaces", spec := "fnExactPlaces", unfollowed := true, recurses := true, apart := false }
def FnExactPlacesSaid : Prop := fnExactPlacesRow.holds Try.pinned (OpenSpec.ofChange fnExactPlacesSpec)

/-- ITS FALSE NEIGHBOUR: 'it returns false'. Refute it at one input. -/
def fnExactPlacesWrong : ChangeSpec := { name := "fnExactPlaces", fn := fun _ => fun
  | [d1, d2] => { results := [.lit (.bool false)], args := [d1, d2] }
  | _ => none }
def FnExactPlacesWrongFalsely : Prop := fnExactPlacesRow.holds Try.pinned (OpenSpec.ofChange fnExactPlacesWrong)

/-- 'laws.FnExactPath': WHATEVER THE INPUT: true; the input reads as it did. -/
def fnExactPathSpec : ChangeSpec := { name := "fnExactPath", fn := fun _ => fun
  | [d1, d2, d3, d4] => { results := [.lit (.bool true)], args := [d1, d2, d3, d4] }
  | _ => none }
def fnExactPathRow : OpenClaim := { program := "ytmifdccaajngcaa", sum := "130f61ea3b9c40cff52a6443f615bf4bd6e16ec0f18780d5da17ea0aa76bd7dc", func := "loop.example/g00385/laws.FnExactPath", spec := "fnExactPath", unfollowed := true, recurses := true, apart := false }
def FnExactPathSaid : Prop := fnExactPathRow.holds Try.pinned (OpenSpec.ofChange fnExactPathSpec)

/-- ITS FALSE NEIGHBOUR: 'it returns false'. Refute it at one input. -/
def fnExactPathWrong : ChangeSpec := { name := "fnExactPath", fn := fun _ => fun
  | [d1, d2, d3, d4] => { results := [.lit (.bool false)], args := [d1, d2, d3, d4] }
  | _ => none }
def FnExactPathWrongFalsely : Prop := fnExactPathRow.holds Try.pinned (OpenSpec.ofChange fnExactPathWrong)

/-- 'laws.FnExactClash': WHATEVER THE INPUT: true; the input reads as it did. -/
def fnExactClashSpec : ChangeSpec := { name := "fnExactClash", fn := fun _ => fun
  | [d1, d2] => { results := [.lit (.bool true)], args := [d1, d2] }
  | _ => none }
def fnExactClashRow : OpenClaim := { program := "ytmifdccaajngcaa", sum := "130f61ea3b9c40cff52a6443f615bf4bd6e16ec0f18780d5da17ea0aa76bd7dc", func := "loop.example/g00385/laws.FnExactClash", spec := "fnExactClash", unfollowed := true, recurses := true, apart := false }
def FnExactClashSaid : Prop := fnExactClashRow.holds Try.pinned (OpenSpec.ofChange fnExactClashSpec)

/-- ITS FALSE NEIGHBOUR: 'it returns false'. Refute it at one input. -/
def fnExactClashWrong : ChangeSpec := { name := "fnExactClash", fn := fun _ => fun
  | [d1, d2] => { results := [.lit (.bool false)], args := [d1, d2] }
  | _ => none }
def FnExactClashWrongFalsely : Prop := fnExactClashRow.holds Try.pinned (OpenSpec.ofChange fnExactClashWrong)

/-- 'laws.FnExactWalk': WHATEVER THE INPUT: true; the input reads as it did. -/
def fnExactWalkSpec : ChangeSpec := { name := "fnExactWalk", fn := fun _ => fun
  | [d1, d2, d3, d4] => { results := [.lit (.bool true)], args := [d1, d2, d3, d4] }
  | _ => none }
def fnExactWalkRow : OpenClaim := { program := "ytmifdccaajngcaa", sum := "130f61ea3b9c40cff52a6443f615bf4bd6e16ec0f18780d5da17ea0aa76bd7dc", func := "loop.example/g00385/laws.FnExactWalk", spec := "fnExactWalk", unfollowed := true, recurses := true, apart := false }
def FnExactWalkSaid : Prop := fnExactWalkRow.holds Try.pinned (OpenSpec.ofChange fnExactWalkSpec)

/-- ITS FALSE NEIGHBOUR: 'it returns false'. Refute it at one input. -/
def fnExactWalkWrong : ChangeSpec := { name := "fnExactWalk", fn := fun _ => fun
  | [d1, d2, d3, d4] => { results := [.lit (.bool false)], args := [d1, d2, d3, d4] }
  | _ => none }
def FnExactWalkWrongFalsely : Prop := fnExactWalkRow.holds Try.pinned (OpenSpec.ofChange fnExactWalkWrong)

/- THE SECOND FORM. 'bulk': how many values and letters a reading holds, each counted each time it is reached (what is shared counts as often as it is met; a slice's spare places count too). A statement '..UptoSaid' is the law's where the arguments, and the package variables that the reading takes, are together of bulk at most 1048576: NARROWER than '..Said'. Prove '..Said' where nothing that the law and all that it calls make is longer than what came in: it says more and counts as full. Else prove '..UptoSaid'. A law counts once. -/
mutual
def uptoBulk {H : Type} : DataW H → Nat
  | .lit (.string bytes) => bytes.length + 1
  | .lit _ => 1
  | .nil => 1
  | .ptr d => uptoBulk d + 1
  | .slice elems spare => uptoBulkAll elems + uptoBulkAll spare + 1
  | .agg parts => uptoBulkAll parts + 1
  | .iface _ d => uptoBulk d + 1
  | .map entries => uptoBulkEntries entries + 1
  | .held _ => 1
def uptoBulkAll {H : Type} : List (DataW H) → Nat
  | [] => 0
  | d :: r => uptoBulk d + uptoBulkAll r
def uptoBulkEntries {H : Type} : List (Lit × DataW H) → Nat
  | [] => 0
  | x :: r => uptoBulkEntry x + uptoBulkEntries r
def uptoBulkEntry {H : Type} : Lit × DataW H → Nat
  | (.string bytes, d) => bytes.length + uptoBulk d + 1
  | (_, d) => uptoBulk d + 1
 end
def uptoSmall : (H : Type) → List (DataW H) → Bool := fun _ ds => decide (uptoBulkAll ds ≤ 1048576)
def OpenSpec.upto (s : _root_.Go.ChangeSpec) : _root_.Go.OpenSpec := { _root_.Go.OpenSpec.ofChange s with cond := some uptoSmall }

/-- 'laws.FnExactFresh', WHERE WHAT IT READS IS OF BULK AT MOST 1048576: true; the input reads as it did. -/
def fnExactFreshUptoRow : OpenClaim := { program := "ytmifdccaajngcaa", sum := "130f61ea3b9c40cff52a6443f615bf4bd6e16ec0f18780d5da17ea0aa76bd7dc", func := "loop.example/g00385/laws.FnExactFresh", spec := "fnExactFresh", unfollowed := true, recurses := true, apart := false, narrowed := true }
def FnExactFreshUptoSaid : Prop := fnExactFreshUptoRow.holds Try.pinned (OpenSpec.upto fnExactFreshSpec)

/-- 'laws.FnExactKnown', WHERE WHAT IT READS IS OF BULK AT MOST 1048576: true; the input reads as it did. -/
def fnExactKnownUptoRow : OpenClaim := { program := "ytmifdccaajngcaa", sum := "130f61ea3b9c40cff52a6443f615bf4bd6e16ec0f18780d5da17ea0aa76bd7dc", func := "loop.example/g00385/laws.FnExactKnown", spec := "fnExactKnown", unfollowed := true, recurses := true, apart := false, narrowed := true }
def FnExactKnownUptoSaid : Prop := fnExactKnownUptoRow.holds Try.pinned (OpenSpec.upto fnExactKnownSpec)

/-- 'laws.FnExactSteps', WHERE WHAT IT READS IS OF BULK AT MOST 1048576: true; the input reads as it did. -/
def fnExactStepsUptoRow : OpenClaim := { program := "ytmifdccaajngcaa", sum := "130f61ea3b9c40cff52a6443f615bf4bd6e16ec0f18780d5da17ea0aa76bd7dc", func := "loop.example/g00385/laws.FnExactSteps", spec := "fnExactSteps", unfollowed := true, recurses := true, apart := false, narrowed := true }
def FnExactStepsUptoSaid : Prop := fnExactStepsUptoRow.holds Try.pinned (OpenSpec.upto fnExactStepsSpec)

/-- 'laws.FnExactTwice', WHERE WHAT IT READS IS OF BULK AT MOST 1048576: true; the input reads as it did. -/
def fnExactTwiceUptoRow : OpenClaim := { program := "ytmifdccaajngcaa", sum := "130f61ea3b9c40cff52a6443f615bf4bd6e16ec0f18780d5da17ea0aa76bd7dc", func := "loop.example/g00385/laws.FnExactTwice", spec := "fnExactTwice", unfollowed := true, recurses := true, apart := false, narrowed := true }
def FnExactTwiceUptoSaid : Prop := fnExactTwiceUptoRow.holds Try.pinned (OpenSpec.upto fnExactTwiceSpec)

/-- 'laws.FnExactCopies', WHERE WHAT IT READS IS OF BULK AT MOST 1048576: true; the input reads as it did. -/
def fnExactCopiesUptoRow : OpenClaim := { program := "ytmifdccaajngcaa", sum := "130f61ea3b9c40cff52a6443f615bf4bd6e16ec0f18780d5da17ea0aa76bd7dc", func := "loop.example/g00385/laws.FnExactCopies", spec := "fnExactCopies", unfollowed := true, recurses := true, apart := false, narrowed := true }
def FnExactCopiesUptoSaid : Prop := fnExactCopiesUptoRow.holds Try.pinned (OpenSpec.upto fnExactCopiesSpec)

/-- 'laws.FnExactFold', WHERE WHAT IT READS IS OF BULK AT MOST 1048576: true; the input reads as it did. -/
def fnExactFoldUptoRow : OpenClaim := { program := "ytmifdccaajngcaa", sum := "130f61ea3b9c40cff52a6443f615bf4bd6e16ec0f18780d5da17ea0aa76bd7dc", func := "loop.example/g00385/laws.FnExactFold", spec := "fnExactFold", unfollowed := true, recurses := true, apart := false, narrowed := true }
def FnExactFoldUptoSaid : Prop := fnExactFoldUptoRow.holds Try.pinned (OpenSpec.upto fnExactFoldSpec)

/-- 'laws.FnExactPlaces', WHERE WHAT IT READS IS OF BULK AT MOST 1048576: true; the input reads as it did. -/
def fnExactPlacesUptoRow : OpenClaim := { program := "ytmifdccaajngcaa", sum := "130f61ea3b9c40cff52a6443f615bf4bd6e16ec0f18780d5da17ea0aa76bd7dc", func := "loop.example/g00385/laws.FnExactPlaces", spec := "fnExactPlaces", unfollowed := true, recurses := true, apart := false, narrowed := true }
def FnExactPlacesUptoSaid : Prop := fnExactPlacesUptoRow.holds Try.pinned (OpenSpec.upto fnExactPlacesSpec)

/-- 'laws.FnExactPath', WHERE WHAT IT READS IS OF BULK AT MOST 1048576: true; the input reads as it did. -/
def fnExactPathUptoRow : OpenClaim := { program := "ytmifdccaajngcaa", sum := "130f61ea3b9c40cff52a6443f615bf4bd6e16ec0f18780d5da17ea0aa76bd7dc", func := "loop.example/g00385/laws.FnExactPath", spec := "fnExactPath", unfollowed := true, recurses := true, apart := false, narrowed := true }
def FnExactPathUptoSaid : Prop := fnExactPathUptoRow.holds Try.pinned (OpenSpec.upto fnExactPathSpec)

/-- 'laws.FnExactClash', WHERE WHAT IT READS IS OF BULK AT MOST 1048576: true; the input reads as it did. -/
def fnExactClashUptoRow : OpenClaim := { program := "ytmifdccaajngcaa", sum := "130f61ea3b9c40cff52a6443f615bf4bd6e16ec0f18780d5da17ea0aa76bd7dc", func := "loop.example/g00385/laws.FnExactClash", spec := "fnExactClash", unfollowed := true, recurses := true, apart := false, narrowed := true }
def FnExactClashUptoSaid : Prop := fnExactClashUptoRow.holds Try.pinned (OpenSpec.upto fnExactClashSpec)

/-- 'laws.FnExactWalk', WHERE WHAT IT READS IS OF BULK AT MOST 1048576: true; the input reads as it did. -/
def fnExactWalkUptoRow : OpenClaim := { program := "ytmifdccaajngcaa", sum := "130f61ea3b9c40cff52a6443f615bf4bd6e16ec0f18780d5da17ea0aa76bd7dc", func := "loop.example/g00385/laws.FnExactWalk", spec := "fnExactWalk", unfollowed := true, recurses := true, apart := false, narrowed := true }
def FnExactWalkUptoSaid : Prop := fnExactWalkUptoRow.holds Try.pinned (OpenSpec.upto fnExactWalkSpec)

end Rows
end Go.Proofs.Ytmifdccaajngcaa
