/-
  No cell of these rows narrows 'for every input' (looked for: loops, veiled, ifaces, maps, wideKeys, modest, calm, conditions, laid).
  DERIVED. THE GIVEN ROWS OF THIS SEAT. 10 by the template 'for every input the law returns true; each argument reads behind the call as it read before'; 0 by the template 'total and deterministic' (their statements: YtoomcmaifgkkfaaTotals.lean).
  GIVEN WITH THE SEED: the statements are not yours to turn. If you find one false, say at which input.
  Laid BY PROGRAM, IN A SANDBOX (cutbox-rows.mjs): the forced cells as the released guide's own fill.sh prints them over the translation 73e66b5ee9d272e8… (all of the seat's roots in one cut). By AI agents, Wed Nov 11 2026. No macro, syntax, notation, axiom, sorry.
-/
import Derived.Test.YtoomcmaifgkkfaaChecked
import GoSem.Claim
import GoSem.ClaimJoined
import GoSem.ClaimMapViews
import Derived.JoinedTies
import Derived.KernelRfl
namespace Go.Proofs.Ytoomcmaifgkkfaa
/- THE CELL 'sum', in the pinned program and in every row, IS THE sha256 OF THE DUMP (.gsa) THAT YtoomcmaifgkkfaaProg.lean LOADS. Nothing in Lean hashes anything: it is a label: what it is worth is what the hold of that sum in a sandbox is worth. -/
noncomputable def Try.pinned : Pinned := { name := "ytoomcmaifgkkfaa", sum := "73e66b5ee9d272e841ec3da6add707a594425e0615e6a7c91edefd7453378e55", checked := Try.checked }
namespace Rows
def none {H : Type} : Left H := { results := [], args := [] }

/-- 'laws.FnExactAims': WHATEVER THE INPUT: true; the input reads as it did. -/
def fnExactAimsSpec : ChangeSpec := { name := "fnExactAims", fn := fun _ => fun
  | [d] => { results := [.lit (.bool true)], args := [d] }
  | _ => none }
def fnExactAimsRow : OpenClaim := { program := "ytoomcmaifgkkfaa", sum := "73e66b5ee9d272e841ec3da6add707a594425e0615e6a7c91edefd7453378e55", func := "loop.example/g00385/laws.FnExactAims", spec := "fnExactAims", unfollowed := true, recurses := true, apart := false }
def FnExactAimsSaid : Prop := fnExactAimsRow.holds Try.pinned (OpenSpec.ofChange fnExactAimsSpec)

/-- ITS FALSE NEIGHBOUR: 'it returns false'. Refute it at one input. -/
def fnExactAimsWrong : ChangeSpec := { name := "fnExactAims", fn := fun _ => fun
  | [d] => { results := [.lit (.bool false)], args := [d] }
  | _ => none }
def FnExactAimsWrongFalsely : Prop := fnExactAimsRow.holds Try.pinned (OpenSpec.ofChange fnExactAimsWrong)

/-- 'laws.FnExactPeep': WHATEVER THE INPUT: true; the input reads as it did. -/
def fnExactPeepSpec : ChangeSpec := { name := "fnExactPeep", fn := fun _ => fun
  | [d] => { results := [.lit (.bool true)], args := [d] }
  | _ => none }
def fnExactPeepRow : OpenClaim := { program := "ytoomcmaifgkkfaa", sum := "73e66b5ee9d272e841ec3da6add707a594425e0615e6a7c91edefd7453378e55", func := "loop.example/g00385/laws.FnExactPeep", spec := "fnExactPeep", unfollowed := true, recurses := true, apart := false }
def FnExactPeepSaid : Prop := fnExactPeepRow.holds Try.pinned (OpenSpec.ofChange fnExactPeepSpec)

/-- ITS FALSE NEIGHBOUR: 'it returns false'. Refute it at one input. -/
def fnExactPeepWrong : ChangeSpec := { name := "fnExactPeep", fn := fun _ => fun
  | [d] => { results := [.lit (.bool false)], args := [d] }
  | _ => none }
def FnExactPeepWrongFalsely : Prop := fnExactPeepRow.holds Try.pinned (OpenSpec.ofChange fnExactPeepWrong)

/-- 'laws.FnExactPlain': WHATEVER THE INPUT: true; the input reads as it did. -/
def fnExactPlainSpec : ChangeSpec := { name := "fnExactPlain", fn := fun _ => fun
  | [d] => { results := [.lit (.bool true)], args := [d] }
  | _ => none }
def fnExactPlainRow : OpenClaim := { program := "ytoomcmaifgkkfaa", sum := "73e66b5ee9d272e841ec3da6add707a594425e0615e6a7c91edefd7453378e55", func := "loop.example/g00385/laws.FnExactPlain", spec := "fnExactPlain", unfollowed := true, recurses := true, apart := false }
def FnExactPlainSaid : Prop := fnExactPlainRow.holds Try.pinned (OpenSpec.ofChange fnExactPlainSpec)

/-- ITS FALSE NEIGHBOUR: 'it returns false'. Refute it at one input. -/
def fnExactPlainWrong : ChangeSpec := { name := "fnExactPlain", fn := fun _ => fun
  | [d] => { results := [.lit (.bool false)], args := [d] }
  | _ => none }
def FnExactPlainWrongFalsely : Prop := fnExactPlainRow.holds Try.pinned (OpenSpec.ofChange fnExactPlainWrong)

/-- 'laws.FnExactBelow': WHATEVER THE INPUT: true; the input reads as it did. -/
def fnExactBelowSpec : ChangeSpec := { name := "fnExactBelow", fn := fun _ => fun
  | [d1, d2] => { results := [.lit (.bool true)], args := [d1, d2] }
  | _ => none }
def fnExactBelowRow : OpenClaim := { program := "ytoomcmaifgkkfaa", sum := "73e66b5ee9d272e841ec3da6add707a594425e0615e6a7c91edefd7453378e55", func := "loop.example/g00385/laws.FnExactBelow", spec := "fnExactBelow", unfollowed := true, recurses := true, apart := false }
def FnExactBelowSaid : Prop := fnExactBelowRow.holds Try.pinned (OpenSpec.ofChange fnExactBelowSpec)

/-- ITS FALSE NEIGHBOUR: 'it returns false'. Refute it at one input. -/
def fnExactBelowWrong : ChangeSpec := { name := "fnExactBelow", fn := fun _ => fun
  | [d1, d2] => { results := [.lit (.bool false)], args := [d1, d2] }
  | _ => none }
def FnExactBelowWrongFalsely : Prop := fnExactBelowRow.holds Try.pinned (OpenSpec.ofChange fnExactBelowWrong)

/-- 'laws.FnExactRuler': WHATEVER THE INPUT: true; the input reads as it did. -/
def fnExactRulerSpec : ChangeSpec := { name := "fnExactRuler", fn := fun _ => fun
  | [d] => { results := [.lit (.bool true)], args := [d] }
  | _ => none }
def fnExactRulerRow : OpenClaim := { program := "ytoomcmaifgkkfaa", sum := "73e66b5ee9d272e841ec3da6add707a594425e0615e6a7c91edefd7453378e55", func := "loop.example/g00385/laws.FnExactRuler", spec := "fnExactRuler", unfollowed := true, recurses := true, apart := false }
def FnExactRulerSaid : Prop := fnExactRulerRow.holds Try.pinned (OpenSpec.ofChange fnExactRulerSpec)

/-- ITS FALSE NEIGHBOUR: 'it returns false'. Refute it at one input. -/
def fnExactRulerWrong : ChangeSpec := { name := "fnExactRuler", fn := fun _ => fun
  | [d] => { results := [.lit (.bool false)], args := [d] }
  | _ => none }
def FnExactRulerWrongFalsely : Prop := fnExactRulerRow.holds Try.pinned (OpenSpec.ofChange fnExactRulerWrong)

/-- 'laws.FnExactRules': WHATEVER THE INPUT: true; the input reads as it did. -/
def fnExactRulesSpec : ChangeSpec := { name := "fnExactRules", fn := fun _ => fun
  | [d] => { results := [.lit (.bool true)], args := [d] }
  | _ => none }
def fnExactRulesRow : OpenClaim := { program := "ytoomcmaifgkkfaa", sum := "73e66b5ee9d272e841ec3da6add707a594425e0615e6a7c91edefd7453378e55", func := "loop.example/g00385/laws.FnExactRules", spec := "fnExactRules", unfollowed := true, recurses := true, apart := false }
def FnExactRulesSaid : Prop := fnExactRulesRow.holds Try.pinned (OpenSpec.ofChange fnExactRulesSpec)

/-- ITS FALSE NEIGHBOUR: 'it returns false'. Refute it at one input. -/
def fnExactRulesWrong : ChangeSpec := { name := "fnExactRules", fn := fun _ => fun
  | [d] => { results := [.lit (.bool false)], args := [d] }
  | _ => none }
def FnExactRulesWrongFalsely : Prop := fnExactRulesRow.holds Try.pinned (OpenSpec.ofChange fnExactRulesWrong)

/-- 'laws.FnExactEdge': WHATEVER THE INPUT: true; the input reads as it did. -/
def fnExactEdgeSpec : ChangeSpec := { name := "fnExactEdge", fn := fun _ => fun
  | [d] => { results := [.lit (.bool true)], args := [d] }
  | _ => none }
def fnExactEdgeRow : OpenClaim := { program := "ytoomcmaifgkkfaa", sum := "73e66b5ee9d272e841ec3da6add707a594425e0615e6a7c91edefd7453378e55", func := "loop.example/g00385/laws.FnExactEdge", spec := "fnExactEdge", unfollowed := true, recurses := true, apart := false }
def FnExactEdgeSaid : Prop := fnExactEdgeRow.holds Try.pinned (OpenSpec.ofChange fnExactEdgeSpec)

/-- ITS FALSE NEIGHBOUR: 'it returns false'. Refute it at one input. -/
def fnExactEdgeWrong : ChangeSpec := { name := "fnExactEdge", fn := fun _ => fun
  | [d] => { results := [.lit (.bool false)], args := [d] }
  | _ => none }
def FnExactEdgeWrongFalsely : Prop := fnExactEdgeRow.holds Try.pinned (OpenSpec.ofChange fnExactEdgeWrong)

/-- 'laws.FnExactBacks': WHATEVER THE INPUT: true; the input reads as it did. -/
def fnExactBacksSpec : ChangeSpec := { name := "fnExactBacks", fn := fun _ => fun
  | [d] => { results := [.lit (.bool true)], args := [d] }
  | _ => none }
def fnExactBacksRow : OpenClaim := { program := "ytoomcmaifgkkfaa", sum := "73e66b5ee9d272e841ec3da6add707a594425e0615e6a7c91edefd7453378e55", func := "loop.example/g00385/laws.FnExactBacks", spec := "fnExactBacks", unfollowed := true, recurses := true, apart := false }
def FnExactBacksSaid : Prop := fnExactBacksRow.holds Try.pinned (OpenSpec.ofChange fnExactBacksSpec)

/-- ITS FALSE NEIGHBOUR: 'it returns false'. Refute it at one input. -/
def fnExactBacksWrong : ChangeSpec := { name := "fnExactBacks", fn := fun _ => fun
  | [d] => { results := [.lit (.bool false)], args := [d] }
  | _ => none }
def FnExactBacksWrongFalsely : Prop := fnExactBacksRow.holds Try.pinned (OpenSpec.ofChange fnExactBacksWrong)

/-- 'laws.FnExactLoop': WHATEVER THE INPUT: true; the input reads as it did. -/
def fnExactLoopSpec : ChangeSpec := { name := "fnExactLoop", fn := fun _ => fun
  | [d1, d2, d3] => { results := [.lit (.bool true)], args := [d1, d2, d3] }
  | _ => none }
def fnExactLoopRow : OpenClaim := { program := "ytoomcmaifgkkfaa", sum := "73e66b5ee9d272e841ec3da6add707a594425e0615e6a7c91edefd7453378e55", func := "loop.example/g00385/laws.FnExactLoop", spec := "fnExactLoop", unfollowed := true, recurses := true, apart := false }
def FnExactLoopSaid : Prop := fnExactLoopRow.holds Try.pinned (OpenSpec.ofChange fnExactLoopSpec)

/-- ITS FALSE NEIGHBOUR: 'it returns false'. Refute it at one input. -/
def fnExactLoopWrong : ChangeSpec := { name := "fnExactLoop", fn := fun _ => fun
  | [d1, d2, d3] => { results := [.lit (.bool false)], args := [d1, d2, d3] }
  | _ => none }
def FnExactLoopWrongFalsely : Prop := fnExactLoopRow.holds Try.pinned (OpenSpec.ofChange fnExactLoopWrong)

/-- 'laws.FnExactDeep': WHATEVER THE INPUT: true; the input reads as it did. -/
def fnExactDeepSpec : ChangeSpec := { name := "fnExactDeep", fn := fun _ => fun
  | [d] => { results := [.lit (.bool true)], args := [d] }
  | _ => none }
def fnExactDeepRow : OpenClaim := { program := "ytoomcmaifgkkfaa", sum := "73e66b5ee9d272e841ec3da6add707a594425e0615e6a7c91edefd7453378e55", func := "loop.example/g00385/laws.FnExactDeep", spec := "fnExactDeep", unfollowed := true, recurses := true, apart := false }
def FnExactDeepSaid : Prop := fnExactDeepRow.holds Try.pinned (OpenSpec.ofChange fnExactDeepSpec)

/-- ITS FALSE NEIGHBOUR: 'it returns false'. Refute it at one input. -/
def fnExactDeepWrong : ChangeSpec := { name := "fnExactDeep", fn := fun _ => fun
  | [d] => { results := [.lit (.bool false)], args := [d] }
  | _ => none }
def FnExactDeepWrongFalsely : Prop := fnExactDeepRow.holds Try.pinned (OpenSpec.ofChange fnExactDeepWrong)

/- THE SECOND FORM. 'bulk': how many values and letters a reading holds, each counted each time it is reached (what is shared counts as often as it is met; a slice's spare places count too). A statement '..UptoSaid' is the law's where the arguments, and the package variables that the reading takes, are together of bulk at most 1048576: NARROWER than '..Said'. Prove '..Said' where nothing that the law and all that it calls make is longer than what came in: it says more and counts as full. Else prove '..UptoSaid'. A law counts once. -/
mutual
def uptoBulk {H : Type} : DataW H → Nat
  | .lit (.string bytes) => bytes.length + 1
  | .lit _ => 1
  | .nil => 1
  | .ptr d => uptoBulk d + 1
  | .slice elems spare => uptoBulkAll elems + uptoBulkAll spare + 1
  | .agg parts => uptoBulkAll parts + 1
  | .iface _ d => uptoBulk d + 1
  | .map entries => uptoBulkEntries entries + 1
  | .held _ => 1
def uptoBulkAll {H : Type} : List (DataW H) → Nat
  | [] => 0
  | d :: r => uptoBulk d + uptoBulkAll r
def uptoBulkEntries {H : Type} : List (Lit × DataW H) → Nat
  | [] => 0
  | x :: r => uptoBulkEntry x + uptoBulkEntries r
def uptoBulkEntry {H : Type} : Lit × DataW H → Nat
  | (.string bytes, d) => bytes.length + uptoBulk d + 1
  | (_, d) => uptoBulk d + 1
 end
def uptoSmall : (H : Type) → List (DataW H) → Bool := fun _ ds => decide (uptoBulkAll ds ≤ 1048576)
def OpenSpec.upto (s : _root_.Go.ChangeSpec) : _root_.Go.OpenSpec := { _root_.Go.OpenSpec.ofChange s with cond := some uptoSmall }

/-- 'laws.FnExactAims', WHERE WHAT IT READS IS OF BULK AT MOST 1048576: true; the input reads as it did. -/
def fnExactAimsUptoRow : OpenClaim := { program := "ytoomcmaifgkkfaa", sum := "73e66b5ee9d272e841ec3da6add707a594425e0615e6a7c91edefd7453378e55", func := "loop.example/g00385/laws.FnExactAims", spec := "fnExactAims", unfollowed := true, recurses := true, apart := false, narrowed := true }
def FnExactAimsUptoSaid : Prop := fnExactAimsUptoRow.holds Try.pinned (OpenSpec.upto fnExactAimsSpec)

/-- 'laws.FnExactPeep', WHERE WHAT IT READS IS OF BULK AT MOST 1048576: true; the input reads as it did. -/
def fnExactPeepUptoRow : OpenClaim := { program := "ytoomcmaifgkkfaa", sum := "73e66b5ee9d272e841ec3da6add707a594425e0615e6a7c91edefd7453378e55", func := "loop.example/g00385/laws.FnExactPeep", spec := "fnExactPeep", unfollowed := true, recurses := true, apart := false, narrowed := true }
def FnExactPeepUptoSaid : Prop := fnExactPeepUptoRow.holds Try.pinned (OpenSpec.upto fnExactPeepSpec)

/-- 'laws.FnExactPlain', WHERE WHAT IT READS IS OF BULK AT MOST 1048576: true; the input reads as it did. -/
def fnExactPlainUptoRow : OpenClaim := { program := "ytoomcmaifgkkfaa", sum := "73e66b5ee9d272e841ec3da6add707a594425e0615e6a7c91edefd7453378e55", func := "loop.example/g00385/laws.FnExactPlain", spec := "fnExactPlain", unfollowed := true, recurses := true, apart := false, narrowed := true }
def FnExactPlainUptoSaid : Prop := fnExactPlainUptoRow.holds Try.pinned (OpenSpec.upto fnExactPlainSpec)

/-- 'laws.FnExactBelow', WHERE WHAT IT READS IS OF BULK AT MOST 1048576: true; the input reads as it did. -/
def fnExactBelowUptoRow : OpenClaim := { program := "ytoomcmaifgkkfaa", sum := "73e66b5ee9d272e841ec3da6add707a594425e0615e6a7c91edefd7453378e55", func := "loop.example/g00385/laws.FnExactBelow", spec := "fnExactBelow", unfollowed := true, recurses := true, apart := false, narrowed := true }
def FnExactBelowUptoSaid : Prop := fnExactBelowUptoRow.holds Try.pinned (OpenSpec.upto fnExactBelowSpec)

/-- 'laws.FnExactRuler', WHERE WHAT IT READS IS OF BULK AT MOST 1048576: true; the input reads as it did. -/
def fnExactRulerUptoRow : OpenClaim := { program := "ytoomcmaifgkkfaa", sum := "73e66b5ee9d272e841ec3da6add707a594425e0615e6a7c91edefd7453378e55", func := "loop.example/g00385/laws.FnExactRuler", spec := "fnExactRuler", unfollowed := true, recurses := true, apart := false, narrowed := true }
def FnExactRulerUptoSaid : Prop := fnExactRulerUptoRow.holds Try.pinned (OpenSpec.upto fnExactRulerSpec)

/-- 'laws.FnExactRules', WHERE WHAT IT READS IS OF BULK AT MOST 1048576: true; the input reads as it did. -/
def fnExactRulesUptoRow : OpenClaim := { program := "ytoomcmaifgkkfaa", sum := "73e66b5ee9d272e841ec3da6add707a594425e0615e6a7c91edefd7453378e55", func := "loop.example/g00385/laws.FnExactRules", spec := "fnExactRules", unfollowed := true, recurses := true, apart := false, narrowed := true }
def FnExactRulesUptoSaid : Prop := fnExactRulesUptoRow.holds Try.pinned (OpenSpec.upto fnExactRulesSpec)

/-- 'laws.FnExactEdge', WHERE WHAT IT READS IS OF BULK AT MOST 1048576: true; the input reads as it did. -/
def fnExactEdgeUptoRow : OpenClaim := { program := "ytoomcmaifgkkfaa", sum := "73e66b5ee9d272e841ec3da6add707a594425e0615e6a7c91edefd7453378e55", func := "loop.example/g00385/laws.FnExactEdge", spec := "fnExactEdge", unfollowed := true, recurses := true, apart := false, narrowed := true }
def FnExactEdgeUptoSaid : Prop := fnExactEdgeUptoRow.holds Try.pinned (OpenSpec.upto fnExactEdgeSpec)

/-- 'laws.FnExactBacks', WHERE WHAT IT READS IS OF BULK AT MOST 1048576: true; the input reads as it did. -/
def fnExactBacksUptoRow : OpenClaim := { program := "ytoomcmaifgkkfaa", sum := "73e66b5ee9d272e841ec3da6add707a594425e0615e6a7c91edefd7453378e55", func := "loop.example/g00385/laws.FnExactBacks", spec := "fnExactBacks", unfollowed := true, recurses := true, apart := false, narrowed := true }
def FnExactBacksUptoSaid : Prop := fnExactBacksUptoRow.holds Try.pinned (OpenSpec.upto fnExactBacksSpec)

/-- 'laws.FnExactLoop', WHERE WHAT IT READS IS OF BULK AT MOST 1048576: true; the input reads as it did. -/
def fnExactLoopUptoRow : OpenClaim := { program := "ytoomcmaifgkkfaa", sum := "73e66b5ee9d272e841ec3da6add707a594425e0615e6a7c91edefd7453378e55", func := "loop.example/g00385/laws.FnExactLoop", spec := "fnExactLoop", unfollowed := true, recurses := true, apart := false, narrowed := true }
def FnExactLoopUptoSaid : Prop := fnExactLoopUptoRow.holds Try.pinned (OpenSpec.upto fnExactLoopSpec)

/-- 'laws.FnExactDeep', WHERE WHAT IT READS IS OF BULK AT MOST 1048576: true; the input reads as it did. -/
def fnExactDeepUptoRow : OpenClaim := { program := "ytoomcmaifgkkfaa", sum := "73e66b5ee9d272e841ec3da6add707a594425e0615e6a7c91edefd7453378e55", func := "loop.example/g00385/laws.FnExactDeep", spec := "fnExactDeep", unfollowed := true, recurses := true, apart := false, narrowed := true }
def FnExactDeepUptoSaid : Prop := fnExactDeepUptoRow.holds Try.pinned (OpenSpec.upto fnExactDeepSpec)

end Rows
end Go.Proofs.Ytoomcmaifgkkfaa
