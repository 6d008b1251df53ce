/-
  No cell of these rows narrows 'for every input' (looked for: loops, veiled, ifaces, maps, wideKeys, modest, calm, conditions, laid).
  DERIVED. THE GIVEN ROWS OF THIS SEAT. 7 by the template 'for every input the law returns true; each argument reads behind the call as it read before'; 0 by the template 'total and deterministic' (their statements: YtkigbdceceeenaaTotals.lean).
  GIVEN WITH THE SEED: the statements are not yours to turn. If you find one false, say at which input.
  Laid BY PROGRAM, IN A SANDBOX (cutbox-rows.mjs): the forced cells as the released guide's own fill.sh prints them over the translation 573ea718ac9eae10… (all of the seat's roots in one cut). By AI agents, Wed Nov 11 2026. No macro, syntax, notation, axiom, sorry.
-/
import Derived.Test.YtkigbdceceeenaaChecked
import GoSem.Claim
import GoSem.ClaimJoined
import GoSem.ClaimMapViews
import Derived.JoinedTies
import Derived.KernelRfl
namespace Go.Proofs.Ytkigbdceceeenaa
/- THE CELL 'sum', in the pinned program and in every row, IS THE sha256 OF THE DUMP (.gsa) THAT YtkigbdceceeenaaProg.lean LOADS. Nothing in Lean hashes anything: it is a label: what it is worth is what the hold of that sum in a sandbox is worth. -/
noncomputable def Try.pinned : Pinned := { name := "ytkigbdceceeenaa", sum := "573ea718ac9eae1046cd7cd018f59fba6cbc21108631420bdd7a51cb76b5e3d1", checked := Try.checked }
namespace Rows
def none {H : Type} : Left H := { results := [], args := [] }

/-- 'laws.FnExactPressure': WHATEVER THE INPUT: true; the input reads as it did. -/
def fnExactPressureSpec : ChangeSpec := { name := "fnExactPressure", fn := fun _ => fun
  | [d] => { results := [.lit (.bool true)], args := [d] }
  | _ => none }
def fnExactPressureRow : OpenClaim := { program := "ytkigbdceceeenaa", sum := "573ea718ac9eae1046cd7cd018f59fba6cbc21108631420bdd7a51cb76b5e3d1", func := "loop.example/g00385/laws.FnExactPressure", spec := "fnExactPressure", unfollowed := true, recurses := true, apart := false }
def FnExactPressureSaid : Prop := fnExactPressureRow.holds Try.pinned (OpenSpec.ofChange fnExactPressureSpec)

/-- ITS FALSE NEIGHBOUR: 'it returns false'. Refute it at one input. -/
def fnExactPressureWrong : ChangeSpec := { name := "fnExactPressure", fn := fun _ => fun
  | [d] => { results := [.lit (.bool false)], args := [d] }
  | _ => none }
def FnExactPressureWrongFalsely : Prop := fnExactPressureRow.holds Try.pinned (OpenSpec.ofChange fnExactPressureWrong)

/-- 'laws.FnExactLiveIn': WHATEVER THE INPUT: true; the input reads as it did. -/
def fnExactLiveInSpec : ChangeSpec := { name := "fnExactLiveIn", fn := fun _ => fun
  | [d1, d2] => { results := [.lit (.bool true)], args := [d1, d2] }
  | _ => none }
def fnExactLiveInRow : OpenClaim := { program := "ytkigbdceceeenaa", sum := "573ea718ac9eae1046cd7cd018f59fba6cbc21108631420bdd7a51cb76b5e3d1", func := "loop.example/g00385/laws.FnExactLiveIn", spec := "fnExactLiveIn", unfollowed := true, recurses := true, apart := false }
def FnExactLiveInSaid : Prop := fnExactLiveInRow.holds Try.pinned (OpenSpec.ofChange fnExactLiveInSpec)

/-- ITS FALSE NEIGHBOUR: 'it returns false'. Refute it at one input. -/
def fnExactLiveInWrong : ChangeSpec := { name := "fnExactLiveIn", fn := fun _ => fun
  | [d1, d2] => { results := [.lit (.bool false)], args := [d1, d2] }
  | _ => none }
def FnExactLiveInWrongFalsely : Prop := fnExactLiveInRow.holds Try.pinned (OpenSpec.ofChange fnExactLiveInWrong)

/-- 'laws.FnExactColorsOk': WHATEVER THE INPUT: true; the input reads as it did. -/
def fnExactColorsOkSpec : ChangeSpec := { name := "fnExactColorsOk", fn := fun _ => fun
  | [d1, d2] => { results := [.lit (.bool true)], args := [d1, d2] }
  | _ => none }
def fnExactColorsOkRow : OpenClaim := { program := "ytkigbdceceeenaa", sum := "573ea718ac9eae1046cd7cd018f59fba6cbc21108631420bdd7a51cb76b5e3d1", func := "loop.example/g00385/laws.FnExactColorsOk", spec := "fnExactColorsOk", unfollowed := true, recurses := true, apart := false }
def FnExactColorsOkSaid : Prop := fnExactColorsOkRow.holds Try.pinned (OpenSpec.ofChange fnExactColorsOkSpec)

/-- ITS FALSE NEIGHBOUR: 'it returns false'. Refute it at one input. -/
def fnExactColorsOkWrong : ChangeSpec := { name := "fnExactColorsOk", fn := fun _ => fun
  | [d1, d2] => { results := [.lit (.bool false)], args := [d1, d2] }
  | _ => none }
def FnExactColorsOkWrongFalsely : Prop := fnExactColorsOkRow.holds Try.pinned (OpenSpec.ofChange fnExactColorsOkWrong)

/-- 'laws.FnExactMeets': WHATEVER THE INPUT: true; the input reads as it did. -/
def fnExactMeetsSpec : ChangeSpec := { name := "fnExactMeets", fn := fun _ => fun
  | [d] => { results := [.lit (.bool true)], args := [d] }
  | _ => none }
def fnExactMeetsRow : OpenClaim := { program := "ytkigbdceceeenaa", sum := "573ea718ac9eae1046cd7cd018f59fba6cbc21108631420bdd7a51cb76b5e3d1", func := "loop.example/g00385/laws.FnExactMeets", spec := "fnExactMeets", unfollowed := true, recurses := true, apart := false }
def FnExactMeetsSaid : Prop := fnExactMeetsRow.holds Try.pinned (OpenSpec.ofChange fnExactMeetsSpec)

/-- ITS FALSE NEIGHBOUR: 'it returns false'. Refute it at one input. -/
def fnExactMeetsWrong : ChangeSpec := { name := "fnExactMeets", fn := fun _ => fun
  | [d] => { results := [.lit (.bool false)], args := [d] }
  | _ => none }
def FnExactMeetsWrongFalsely : Prop := fnExactMeetsRow.holds Try.pinned (OpenSpec.ofChange fnExactMeetsWrong)

/-- 'laws.FnExactColors': WHATEVER THE INPUT: true; the input reads as it did. -/
def fnExactColorsSpec : ChangeSpec := { name := "fnExactColors", fn := fun _ => fun
  | [d1, d2] => { results := [.lit (.bool true)], args := [d1, d2] }
  | _ => none }
def fnExactColorsRow : OpenClaim := { program := "ytkigbdceceeenaa", sum := "573ea718ac9eae1046cd7cd018f59fba6cbc21108631420bdd7a51cb76b5e3d1", func := "loop.example/g00385/laws.FnExactColors", spec := "fnExactColors", unfollowed := true, recurses := true, apart := false }
def FnExactColorsSaid : Prop := fnExactColorsRow.holds Try.pinned (OpenSpec.ofChange fnExactColorsSpec)

/-- ITS FALSE NEIGHBOUR: 'it returns false'. Refute it at one input. -/
def fnExactColorsWrong : ChangeSpec := { name := "fnExactColors", fn := fun _ => fun
  | [d1, d2] => { results := [.lit (.bool false)], args := [d1, d2] }
  | _ => none }
def FnExactColorsWrongFalsely : Prop := fnExactColorsRow.holds Try.pinned (OpenSpec.ofChange fnExactColorsWrong)

/-- 'laws.FnExactSpilled': WHATEVER THE INPUT: true; the input reads as it did. -/
def fnExactSpilledSpec : ChangeSpec := { name := "fnExactSpilled", fn := fun _ => fun
  | [d1, d2] => { results := [.lit (.bool true)], args := [d1, d2] }
  | _ => none }
def fnExactSpilledRow : OpenClaim := { program := "ytkigbdceceeenaa", sum := "573ea718ac9eae1046cd7cd018f59fba6cbc21108631420bdd7a51cb76b5e3d1", func := "loop.example/g00385/laws.FnExactSpilled", spec := "fnExactSpilled", unfollowed := true, recurses := true, apart := false }
def FnExactSpilledSaid : Prop := fnExactSpilledRow.holds Try.pinned (OpenSpec.ofChange fnExactSpilledSpec)

/-- ITS FALSE NEIGHBOUR: 'it returns false'. Refute it at one input. -/
def fnExactSpilledWrong : ChangeSpec := { name := "fnExactSpilled", fn := fun _ => fun
  | [d1, d2] => { results := [.lit (.bool false)], args := [d1, d2] }
  | _ => none }
def FnExactSpilledWrongFalsely : Prop := fnExactSpilledRow.holds Try.pinned (OpenSpec.ofChange fnExactSpilledWrong)

/-- 'laws.FnExactCode': WHATEVER THE INPUT: true; the input reads as it did. -/
def fnExactCodeSpec : ChangeSpec := { name := "fnExactCode", fn := fun _ => fun
  | [d] => { results := [.lit (.bool true)], args := [d] }
  | _ => none }
def fnExactCodeRow : OpenClaim := { program := "ytkigbdceceeenaa", sum := "573ea718ac9eae1046cd7cd018f59fba6cbc21108631420bdd7a51cb76b5e3d1", func := "loop.example/g00385/laws.FnExactCode", spec := "fnExactCode", unfollowed := true, recurses := true, apart := false }
def FnExactCodeSaid : Prop := fnExactCodeRow.holds Try.pinned (OpenSpec.ofChange fnExactCodeSpec)

/-- ITS FALSE NEIGHBOUR: 'it returns false'. Refute it at one input. -/
def fnExactCodeWrong : ChangeSpec := { name := "fnExactCode", fn := fun _ => fun
  | [d] => { results := [.lit (.bool false)], args := [d] }
  | _ => none }
def FnExactCodeWrongFalsely : Prop := fnExactCodeRow.holds Try.pinned (OpenSpec.ofChange fnExactCodeWrong)

/- THE SECOND FORM. 'bulk': how many values and letters a reading holds, each counted each time it is reached (what is shared counts as often as it is met; a slice's spare places count too). A statement '..UptoSaid' is the law's where the arguments, and the package variables that the reading takes, are together of bulk at most 1048576: NARROWER than '..Said'. Prove '..Said' where nothing that the law and all that it calls make is longer than what came in: it says more and counts as full. Else prove '..UptoSaid'. A law counts once. -/
mutual
def uptoBulk {H : Type} : DataW H → Nat
  | .lit (.string bytes) => bytes.length + 1
  | .lit _ => 1
  | .nil => 1
  | .ptr d => uptoBulk d + 1
  | .slice elems spare => uptoBulkAll elems + uptoBulkAll spare + 1
  | .agg parts => uptoBulkAll parts + 1
  | .iface _ d => uptoBulk d + 1
  | .map entries => uptoBulkEntries entries + 1
  | .held _ => 1
def uptoBulkAll {H : Type} : List (DataW H) → Nat
  | [] => 0
  | d :: r => uptoBulk d + uptoBulkAll r
def uptoBulkEntries {H : Type} : List (Lit × DataW H) → Nat
  | [] => 0
  | x :: r => uptoBulkEntry x + uptoBulkEntries r
def uptoBulkEntry {H : Type} : Lit × DataW H → Nat
  | (.string bytes, d) => bytes.length + uptoBulk d + 1
  | (_, d) => uptoBulk d + 1
 end
def uptoSmall : (H : Type) → List (DataW H) → Bool := fun _ ds => decide (uptoBulkAll ds ≤ 1048576)
def OpenSpec.upto (s : _root_.Go.ChangeSpec) : _root_.Go.OpenSpec := { _root_.Go.OpenSpec.ofChange s with cond := some uptoSmall }

/-- 'laws.FnExactPressure', WHERE WHAT IT READS IS OF BULK AT MOST 1048576: true; the input reads as it did. -/
def fnExactPressureUptoRow : OpenClaim := { program := "ytkigbdceceeenaa", sum := "573ea718ac9eae1046cd7cd018f59fba6cbc21108631420bdd7a51cb76b5e3d1", func := "loop.example/g00385/laws.FnExactPressure", spec := "fnExactPressure", unfollowed := true, recurses := true, apart := false, narrowed := true }
def FnExactPressureUptoSaid : Prop := fnExactPressureUptoRow.holds Try.pinned (OpenSpec.upto fnExactPressureSpec)

/-- 'laws.FnExactLiveIn', WHERE WHAT IT READS IS OF BULK AT MOST 1048576: true; the input reads as it did. -/
def fnExactLiveInUptoRow : OpenClaim := { program := "ytkigbdceceeenaa", sum := "573ea718ac9eae1046cd7cd018f59fba6cbc21108631420bdd7a51cb76b5e3d1", func := "loop.example/g00385/laws.FnExactLiveIn", spec := "fnExactLiveIn", unfollowed := true, recurses := true, apart := false, narrowed := true }
def FnExactLiveInUptoSaid : Prop := fnExactLiveInUptoRow.holds Try.pinned (OpenSpec.upto fnExactLiveInSpec)

/-- 'laws.FnExactColorsOk', WHERE WHAT IT READS IS OF BULK AT MOST 1048576: true; the input reads as it did. -/
def fnExactColorsOkUptoRow : OpenClaim := { program := "ytkigbdceceeenaa", sum := "573ea718ac9eae1046cd7cd018f59fba6cbc21108631420bdd7a51cb76b5e3d1", func := "loop.example/g00385/laws.FnExactColorsOk", spec := "fnExactColorsOk", unfollowed := true, recurses := true, apart := false, narrowed := true }
def FnExactColorsOkUptoSaid : Prop := fnExactColorsOkUptoRow.holds Try.pinned (OpenSpec.upto fnExactColorsOkSpec)

/-- 'laws.FnExactMeets', WHERE WHAT IT READS IS OF BULK AT MOST 1048576: true; the input reads as it did. -/
def fnExactMeetsUptoRow : OpenClaim := { program := "ytkigbdceceeenaa", sum := "573ea718ac9eae1046cd7cd018f59fba6cbc21108631420bdd7a51cb76b5e3d1", func := "loop.example/g00385/laws.FnExactMeets", spec := "fnExactMeets", unfollowed := true, recurses := true, apart := false, narrowed := true }
def FnExactMeetsUptoSaid : Prop := fnExactMeetsUptoRow.holds Try.pinned (OpenSpec.upto fnExactMeetsSpec)

/-- 'laws.FnExactColors', WHERE WHAT IT READS IS OF BULK AT MOST 1048576: true; the input reads as it did. -/
def fnExactColorsUptoRow : OpenClaim := { program := "ytkigbdceceeenaa", sum := "573ea718ac9eae1046cd7cd018f59fba6cbc21108631420bdd7a51cb76b5e3d1", func := "loop.example/g00385/laws.FnExactColors", spec := "fnExactColors", unfollowed := true, recurses := true, apart := false, narrowed := true }
def FnExactColorsUptoSaid : Prop := fnExactColorsUptoRow.holds Try.pinned (OpenSpec.upto fnExactColorsSpec)

/-- 'laws.FnExactSpilled', WHERE WHAT IT READS IS OF BULK AT MOST 1048576: true; the input reads as it did. -/
def fnExactSpilledUptoRow : OpenClaim := { program := "ytkigbdceceeenaa", sum := "573ea718ac9eae1046cd7cd018f59fba6cbc21108631420bdd7a51cb76b5e3d1", func := "loop.example/g00385/laws.FnExactSpilled", spec := "fnExactSpilled", unfollowed := true, recurses := true, apart := false, narrowed := true }
def FnExactSpilledUptoSaid : Prop := fnExactSpilledUptoRow.holds Try.pinned (OpenSpec.upto fnExactSpilledSpec)

/-- 'laws.FnExactCode', WHERE WHAT IT READS IS OF BULK AT MOST 1048576: true; the input reads as it did. -/
def fnExactCodeUptoRow : OpenClaim := { program := "ytkigbdceceeenaa", sum := "573ea718ac9eae1046cd7cd018f59fba6cbc21108631420bdd7a51cb76b5e3d1", func := "loop.example/g00385/laws.FnExactCode", spec := "fnExactCode", unfollowed := true, recurses := true, apart := false, narrowed := true }
def FnExactCodeUptoSaid : Prop := fnExactCodeUptoRow.holds Try.pinned (OpenSpec.upto fnExactCodeSpec)

end Rows
end Go.Proofs.Ytkigbdceceeenaa
