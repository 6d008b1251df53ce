/-
  No cell of these rows narrows 'for every input' (looked for: loops, veiled, ifaces, maps, wideKeys, modest, calm, conditions, laid).
  DERIVED. THE GIVEN ROWS OF THIS SEAT. 8 by the template 'for every input the law returns true; each argument reads behind the call as it read before'; 0 by the template 'total and deterministic' (their statements: YtnbaojaocagjcaaTotals.lean).
  GIVEN WITH THE SEED: the statements are not yours to turn. If you find one false, say at which input.
  Laid BY PROGRAM, IN A SANDBOX (cutbox-rows.mjs): the forced cells as the released guide's own fill.sh prints them over the translation 4fb89fc48925be93… (all of the seat's roots in one cut). By AI agents, Wed Nov 11 2026. No macro, syntax, notation, axiom, sorry.
-/
import Derived.Test.YtnbaojaocagjcaaChecked
import GoSem.Claim
import GoSem.ClaimJoined
import GoSem.ClaimMapViews
import Derived.JoinedTies
import Derived.KernelRfl
namespace Go.Proofs.Ytnbaojaocagjcaa
/- THE CELL 'sum', in the pinned program and in every row, IS THE sha256 OF THE DUMP (.gsa) THAT YtnbaojaocagjcaaProg.lean LOADS. Nothing in Lean hashes anything: it is a label: what it is worth is what the hold of that sum in a sandbox is worth. -/
noncomputable def Try.pinned : Pinned := { name := "ytnbaojaocagjcaa", sum := "4fb89fc48925be934402be4e97fd688412046e4da8696c454bb1846921ddbff7", checked := Try.checked }
namespace Rows
def none {H : Type} : Left H := { results := [], args := [] }

/-- 'laws.FnExactSum': WHATEVER THE INPUT: true; the input reads as it did. -/
def fnExactSumSpec : ChangeSpec := { name := "fnExactSum", fn := fun _ => fun
  | [d] => { results := [.lit (.bool true)], args := [d] }
  | _ => none }
def fnExactSumRow : OpenClaim := { program := "ytnbaojaocagjcaa", sum := "4fb89fc48925be934402be4e97fd688412046e4da8696c454bb1846921ddbff7", func := "loop.example/g00385/laws.FnExactSum", spec := "fnExactSum", apart := false }
def FnExactSumSaid : Prop := fnExactSumRow.holds Try.pinned (OpenSpec.ofChange fnExactSumSpec)

/-- ITS FALSE NEIGHBOUR: 'it returns false'. Refute it at one input. -/
def fnExactSumWrong : ChangeSpec := { name := "fnExactSum", fn := fun _ => fun
  | [d] => { results := [.lit (.bool false)], args := [d] }
  | _ => none }
def FnExactSumWrongFalsely : Prop := fnExactSumRow.holds Try.pinned (OpenSpec.ofChange fnExactSumWrong)

/-- 'laws.FnExactCountOp': WHATEVER THE INPUT: true; the input reads as it did. -/
def fnExactCountOpSpec : ChangeSpec := { name := "fnExactCountOp", fn := fun _ => fun
  | [d1, d2] => { results := [.lit (.bool true)], args := [d1, d2] }
  | _ => none }
def fnExactCountOpRow : OpenClaim := { program := "ytnbaojaocagjcaa", sum := "4fb89fc48925be934402be4e97fd688412046e4da8696c454bb1846921ddbff7", func := "loop.example/g00385/laws.FnExactCountOp", spec := "fnExactCountOp", apart := false }
def FnExactCountOpSaid : Prop := fnExactCountOpRow.holds Try.pinned (OpenSpec.ofChange fnExactCountOpSpec)

/-- ITS FALSE NEIGHBOUR: 'it returns false'. Refute it at one input. -/
def fnExactCountOpWrong : ChangeSpec := { name := "fnExactCountOp", fn := fun _ => fun
  | [d1, d2] => { results := [.lit (.bool false)], args := [d1, d2] }
  | _ => none }
def FnExactCountOpWrongFalsely : Prop := fnExactCountOpRow.holds Try.pinned (OpenSpec.ofChange fnExactCountOpWrong)

/-- 'laws.FnExactSameImage': WHATEVER THE INPUT: true; the input reads as it did. -/
def fnExactSameImageSpec : ChangeSpec := { name := "fnExactSameImage", fn := fun _ => fun
  | [d1, d2] => { results := [.lit (.bool true)], args := [d1, d2] }
  | _ => none }
def fnExactSameImageRow : OpenClaim := { program := "ytnbaojaocagjcaa", sum := "4fb89fc48925be934402be4e97fd688412046e4da8696c454bb1846921ddbff7", func := "loop.example/g00385/laws.FnExactSameImage", spec := "fnExactSameImage", apart := false }
def FnExactSameImageSaid : Prop := fnExactSameImageRow.holds Try.pinned (OpenSpec.ofChange fnExactSameImageSpec)

/-- ITS FALSE NEIGHBOUR: 'it returns false'. Refute it at one input. -/
def fnExactSameImageWrong : ChangeSpec := { name := "fnExactSameImage", fn := fun _ => fun
  | [d1, d2] => { results := [.lit (.bool false)], args := [d1, d2] }
  | _ => none }
def FnExactSameImageWrongFalsely : Prop := fnExactSameImageRow.holds Try.pinned (OpenSpec.ofChange fnExactSameImageWrong)

/-- 'laws.FnExactWeight': WHATEVER THE INPUT: true; the input reads as it did. -/
def fnExactWeightSpec : ChangeSpec := { name := "fnExactWeight", fn := fun _ => fun
  | [d] => { results := [.lit (.bool true)], args := [d] }
  | _ => none }
def fnExactWeightRow : OpenClaim := { program := "ytnbaojaocagjcaa", sum := "4fb89fc48925be934402be4e97fd688412046e4da8696c454bb1846921ddbff7", func := "loop.example/g00385/laws.FnExactWeight", spec := "fnExactWeight", apart := false }
def FnExactWeightSaid : Prop := fnExactWeightRow.holds Try.pinned (OpenSpec.ofChange fnExactWeightSpec)

/-- ITS FALSE NEIGHBOUR: 'it returns false'. Refute it at one input. -/
def fnExactWeightWrong : ChangeSpec := { name := "fnExactWeight", fn := fun _ => fun
  | [d] => { results := [.lit (.bool false)], args := [d] }
  | _ => none }
def FnExactWeightWrongFalsely : Prop := fnExactWeightRow.holds Try.pinned (OpenSpec.ofChange fnExactWeightWrong)

/-- 'laws.FnExactImageOk': WHATEVER THE INPUT: true; the input reads as it did. -/
def fnExactImageOkSpec : ChangeSpec := { name := "fnExactImageOk", fn := fun _ => fun
  | [d] => { results := [.lit (.bool true)], args := [d] }
  | _ => none }
def fnExactImageOkRow : OpenClaim := { program := "ytnbaojaocagjcaa", sum := "4fb89fc48925be934402be4e97fd688412046e4da8696c454bb1846921ddbff7", func := "loop.example/g00385/laws.FnExactImageOk", spec := "fnExactImageOk", unfollowed := true, recurses := true, apart := false }
def FnExactImageOkSaid : Prop := fnExactImageOkRow.holds Try.pinned (OpenSpec.ofChange fnExactImageOkSpec)

/-- ITS FALSE NEIGHBOUR: 'it returns false'. Refute it at one input. -/
def fnExactImageOkWrong : ChangeSpec := { name := "fnExactImageOk", fn := fun _ => fun
  | [d] => { results := [.lit (.bool false)], args := [d] }
  | _ => none }
def FnExactImageOkWrongFalsely : Prop := fnExactImageOkRow.holds Try.pinned (OpenSpec.ofChange fnExactImageOkWrong)

/-- 'laws.FnExactPutImage': WHATEVER THE INPUT: true; the input reads as it did. -/
def fnExactPutImageSpec : ChangeSpec := { name := "fnExactPutImage", fn := fun _ => fun
  | [d] => { results := [.lit (.bool true)], args := [d] }
  | _ => none }
def fnExactPutImageRow : OpenClaim := { program := "ytnbaojaocagjcaa", sum := "4fb89fc48925be934402be4e97fd688412046e4da8696c454bb1846921ddbff7", func := "loop.example/g00385/laws.FnExactPutImage", spec := "fnExactPutImage", unfollowed := true, recurses := true, named := ["encoding/binary.BigEndian"], apart := false }
def FnExactPutImageSaid : Prop := fnExactPutImageRow.holds Try.pinned (OpenSpec.ofChange fnExactPutImageSpec)

/-- ITS FALSE NEIGHBOUR: 'it returns false'. Refute it at one input. -/
def fnExactPutImageWrong : ChangeSpec := { name := "fnExactPutImage", fn := fun _ => fun
  | [d] => { results := [.lit (.bool false)], args := [d] }
  | _ => none }
def FnExactPutImageWrongFalsely : Prop := fnExactPutImageRow.holds Try.pinned (OpenSpec.ofChange fnExactPutImageWrong)

/-- 'laws.FnExactDead': WHATEVER THE INPUT: true; the input reads as it did. -/
def fnExactDeadSpec : ChangeSpec := { name := "fnExactDead", fn := fun _ => fun
  | [d] => { results := [.lit (.bool true)], args := [d] }
  | _ => none }
def fnExactDeadRow : OpenClaim := { program := "ytnbaojaocagjcaa", sum := "4fb89fc48925be934402be4e97fd688412046e4da8696c454bb1846921ddbff7", func := "loop.example/g00385/laws.FnExactDead", spec := "fnExactDead", unfollowed := true, recurses := true, apart := false }
def FnExactDeadSaid : Prop := fnExactDeadRow.holds Try.pinned (OpenSpec.ofChange fnExactDeadSpec)

/-- ITS FALSE NEIGHBOUR: 'it returns false'. Refute it at one input. -/
def fnExactDeadWrong : ChangeSpec := { name := "fnExactDead", fn := fun _ => fun
  | [d] => { results := [.lit (.bool false)], args := [d] }
  | _ => none }
def FnExactDeadWrongFalsely : Prop := fnExactDeadRow.holds Try.pinned (OpenSpec.ofChange fnExactDeadWrong)

/-- 'laws.FnExactGetImage': WHATEVER THE INPUT: true; the input reads as it did. -/
def fnExactGetImageSpec : ChangeSpec := { name := "fnExactGetImage", fn := fun _ => fun
  | [d] => { results := [.lit (.bool true)], args := [d] }
  | _ => none }
def fnExactGetImageRow : OpenClaim := { program := "ytnbaojaocagjcaa", sum := "4fb89fc48925be934402be4e97fd688412046e4da8696c454bb1846921ddbff7", func := "loop.example/g00385/laws.FnExactGetImage", spec := "fnExactGetImage", unfollowed := true, recurses := true, named := ["encoding/binary.BigEndian"], apart := false }
def FnExactGetImageSaid : Prop := fnExactGetImageRow.holds Try.pinned (OpenSpec.ofChange fnExactGetImageSpec)

/-- ITS FALSE NEIGHBOUR: 'it returns false'. Refute it at one input. -/
def fnExactGetImageWrong : ChangeSpec := { name := "fnExactGetImage", fn := fun _ => fun
  | [d] => { results := [.lit (.bool false)], args := [d] }
  | _ => none }
def FnExactGetImageWrongFalsely : Prop := fnExactGetImageRow.holds Try.pinned (OpenSpec.ofChange fnExactGetImageWrong)

/- THE SECOND FORM. 'bulk': how many values and letters a reading holds, each counted each time it is reached (what is shared counts as often as it is met; a slice's spare places count too). A statement '..UptoSaid' is the law's where the arguments, and the package variables that the reading takes, are together of bulk at most 1048576: NARROWER than '..Said'. Prove '..Said' where nothing that the law and all that it calls make is longer than what came in: it says more and counts as full. Else prove '..UptoSaid'. A law counts once. -/
mutual
def uptoBulk {H : Type} : DataW H → Nat
  | .lit (.string bytes) => bytes.length + 1
  | .lit _ => 1
  | .nil => 1
  | .ptr d => uptoBulk d + 1
  | .slice elems spare => uptoBulkAll elems + uptoBulkAll spare + 1
  | .agg parts => uptoBulkAll parts + 1
  | .iface _ d => uptoBulk d + 1
  | .map entries => uptoBulkEntries entries + 1
  | .held _ => 1
def uptoBulkAll {H : Type} : List (DataW H) → Nat
  | [] => 0
  | d :: r => uptoBulk d + uptoBulkAll r
def uptoBulkEntries {H : Type} : List (Lit × DataW H) → Nat
  | [] => 0
  | x :: r => uptoBulkEntry x + uptoBulkEntries r
def uptoBulkEntry {H : Type} : Lit × DataW H → Nat
  | (.string bytes, d) => bytes.length + uptoBulk d + 1
  | (_, d) => uptoBulk d + 1
 end
def uptoSmall : (H : Type) → List (DataW H) → Bool := fun _ ds => decide (uptoBulkAll ds ≤ 1048576)
def OpenSpec.upto (s : _root_.Go.ChangeSpec) : _root_.Go.OpenSpec := { _root_.Go.OpenSpec.ofChange s with cond := some uptoSmall }

/-- 'laws.FnExactSum', WHERE WHAT IT READS IS OF BULK AT MOST 1048576: true; the input reads as it did. -/
def fnExactSumUptoRow : OpenClaim := { program := "ytnbaojaocagjcaa", sum := "4fb89fc48925be934402be4e97fd688412046e4da8696c454bb1846921ddbff7", func := "loop.example/g00385/laws.FnExactSum", spec := "fnExactSum", apart := false, narrowed := true }
def FnExactSumUptoSaid : Prop := fnExactSumUptoRow.holds Try.pinned (OpenSpec.upto fnExactSumSpec)

/-- 'laws.FnExactCountOp', WHERE WHAT IT READS IS OF BULK AT MOST 1048576: true; the input reads as it did. -/
def fnExactCountOpUptoRow : OpenClaim := { program := "ytnbaojaocagjcaa", sum := "4fb89fc48925be934402be4e97fd688412046e4da8696c454bb1846921ddbff7", func := "loop.example/g00385/laws.FnExactCountOp", spec := "fnExactCountOp", apart := false, narrowed := true }
def FnExactCountOpUptoSaid : Prop := fnExactCountOpUptoRow.holds Try.pinned (OpenSpec.upto fnExactCountOpSpec)

/-- 'laws.FnExactSameImage', WHERE WHAT IT READS IS OF BULK AT MOST 1048576: true; the input reads as it did. -/
def fnExactSameImageUptoRow : OpenClaim := { program := "ytnbaojaocagjcaa", sum := "4fb89fc48925be934402be4e97fd688412046e4da8696c454bb1846921ddbff7", func := "loop.example/g00385/laws.FnExactSameImage", spec := "fnExactSameImage", apart := false, narrowed := true }
def FnExactSameImageUptoSaid : Prop := fnExactSameImageUptoRow.holds Try.pinned (OpenSpec.upto fnExactSameImageSpec)

/-- 'laws.FnExactWeight', WHERE WHAT IT READS IS OF BULK AT MOST 1048576: true; the input reads as it did. -/
def fnExactWeightUptoRow : OpenClaim := { program := "ytnbaojaocagjcaa", sum := "4fb89fc48925be934402be4e97fd688412046e4da8696c454bb1846921ddbff7", func := "loop.example/g00385/laws.FnExactWeight", spec := "fnExactWeight", apart := false, narrowed := true }
def FnExactWeightUptoSaid : Prop := fnExactWeightUptoRow.holds Try.pinned (OpenSpec.upto fnExactWeightSpec)

/-- 'laws.FnExactImageOk', WHERE WHAT IT READS IS OF BULK AT MOST 1048576: true; the input reads as it did. -/
def fnExactImageOkUptoRow : OpenClaim := { program := "ytnbaojaocagjcaa", sum := "4fb89fc48925be934402be4e97fd688412046e4da8696c454bb1846921ddbff7", func := "loop.example/g00385/laws.FnExactImageOk", spec := "fnExactImageOk", unfollowed := true, recurses := true, apart := false, narrowed := true }
def FnExactImageOkUptoSaid : Prop := fnExactImageOkUptoRow.holds Try.pinned (OpenSpec.upto fnExactImageOkSpec)

/-- 'laws.FnExactPutImage', WHERE WHAT IT READS IS OF BULK AT MOST 1048576: true; the input reads as it did. -/
def fnExactPutImageUptoRow : OpenClaim := { program := "ytnbaojaocagjcaa", sum := "4fb89fc48925be934402be4e97fd688412046e4da8696c454bb1846921ddbff7", func := "loop.example/g00385/laws.FnExactPutImage", spec := "fnExactPutImage", unfollowed := true, recurses := true, named := ["encoding/binary.BigEndian"], apart := false, narrowed := true }
def FnExactPutImageUptoSaid : Prop := fnExactPutImageUptoRow.holds Try.pinned (OpenSpec.upto fnExactPutImageSpec)

/-- 'laws.FnExactDead', WHERE WHAT IT READS IS OF BULK AT MOST 1048576: true; the input reads as it did. -/
def fnExactDeadUptoRow : OpenClaim := { program := "ytnbaojaocagjcaa", sum := "4fb89fc48925be934402be4e97fd688412046e4da8696c454bb1846921ddbff7", func := "loop.example/g00385/laws.FnExactDead", spec := "fnExactDead", unfollowed := true, recurses := true, apart := false, narrowed := true }
def FnExactDeadUptoSaid : Prop := fnExactDeadUptoRow.holds Try.pinned (OpenSpec.upto fnExactDeadSpec)

/-- 'laws.FnExactGetImage', WHERE WHAT IT READS IS OF BULK AT MOST 1048576: true; the input reads as it did. -/
def fnExactGetImageUptoRow : OpenClaim := { program := "ytnbaojaocagjcaa", sum := "4fb89fc48925be934402be4e97fd688412046e4da8696c454bb1846921ddbff7", func := "loop.example/g00385/laws.FnExactGetImage", spec := "fnExactGetImage", unfollowed := true, recurses := true, named := ["encoding/binary.BigEndian"], apart := false, narrowed := true }
def FnExactGetImageUptoSaid : Prop := fnExactGetImageUptoRow.holds Try.pinned (OpenSpec.upto fnExactGetImageSpec)

end Rows
end Go.Proofs.Ytnbaojaocagjcaa
