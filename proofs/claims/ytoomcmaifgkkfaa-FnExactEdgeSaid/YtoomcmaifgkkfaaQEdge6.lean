import Derived.Shelf.Abstract
import Derived.Outline
import Derived.RegionTactic
import Derived.Test.YtoomcmaifgkkfaaQEdge1
import Derived.Test.YtoomcmaifgkkfaaQEdge5
import Derived.Deep.QuietTactic
import Derived.BigQuiet
import Derived.Shelf.Small.Bits
import Derived.Shelf.Small.Wraps
import Derived.Shelf.Strconv.Itoa0
import Derived.Shelf.Sort.Plain
import Derived.Shelf.Slices.Turned
import Derived.Shelf.Slices.Reverse
import Derived.Ground.Names2Prog
import Derived.Shelf.Slices.CompactI
import Derived.Shelf.Slices.SearchI
import Derived.Shelf.Slices.Cells
import Derived.Shelf.Slices.In.SortNone
import Derived.Sort.OwnSortedInts
set_option maxHeartbeats 8000000
set_option maxRecDepth 100000
section
namespace Go.Proofs.Ytoomcmaifgkkfaa.P
open Go.RowKit Go.Proofs.Ia.Zb Go.Proofs.Ia.Qd Go.Proofs.Ia.Me
set_option linter.unusedVariables false
set_option linter.unusedSimpArgs false
attribute [local go_sem high] X7
def wL:List ByteArray:=[⟨#[61,61]⟩,⟨#[60]⟩,⟨#[38]⟩,⟨#[43]⟩,⟨#[45]⟩,⟨#[42]⟩]
def Dx (s:ByteArray):Bool:=wL.any fun y=>decide (s.toList=y.toList)
theorem IQ (s:ByteArray):Lo.f 8 s=some (Dx s):=by
 unfold Lo.f ld.f Db.f Dx wL;simp only [Db.l0,List.any_cons,List.any_nil]
 by_cases h0:s.toList=[61,61]
 ·simp [qg,h0]
 by_cases h1:s.toList=[60]
 ·simp [qg,h1,wrap64]
 by_cases h2:s.toList=[38]
 ·simp [qg,h2,wrap64]
 by_cases h3:s.toList=[43]
 ·simp [qg,h3,wrap64]
 by_cases h4:s.toList=[45]
 ·simp [qg,h4,wrap64]
 by_cases h5:s.toList=[42]
 ·simp [qg,h5,wrap64]
 simp [qg,h0,h1,h2,h3,h4,h5,wrap64]
theorem QL (s:ByteArray) (w:World):Calls Try.prog 139 #[.string s] w fun e w'=>e = .returned (.bool (Dx s))∧Below w.heap.size w w':=Lo.calls 8 s (Dx s) w (IQ s)
def dn (slots s:Int):Bool:=decide (0 ≤ s) && decide (s < slots)
theorem Fk (B:Nat) (slots s:Int) (W:World) (QY:W.cell? ⟨B,3,none⟩=some (.int .i64 slots)):Calls Try.prog 138 #[.int .i64 s,.pointer (some ⟨B,0,none⟩)] W fun e w'=>e = .returned (.bool (dn slots s))∧W=w':=by
 unfold dn
 by_cases h:0 ≤ s
 all_goals
  go_enter Try.func138,Try.ntmps138;go_wp2;go_ret;exact ⟨by simp [*];try omega,rfl⟩
theorem RQ (A0 A4:Option Addr) (c0 c4 n0 n4:Nat) (p1 p2 slots d a b c n:Int) (t:ByteArray) (w:World) (hn0:n0 ≤ 9223372036854775807) (AE:n4 ≤ 9223372036854775807) :
  Calls Try.prog 125 #[.agg #[.slice A0 n0 c0,.int .i64 p1,.int .i64 p2,.int .i64 slots,.slice A4 n4 c4],.agg #[.int .i64 0,.int .i64 d,.int .i64 a,.int .i64 b,.int .i64 c,.int .i64 n,.string t]] w fun e w'=>e = .returned (.bool (dn slots d && (a == 0 && (b == 0 && (c == 0 && t.toList.isEmpty)))))∧Below w.heap.size w w':=by
 obtain ⟨W1,Mg⟩:∃ W1,W1=(w.alloc (.cells #[.slice A0 n0 c0,.int .i64 p1,.int .i64 p2,.int .i64 slots,.slice A4 n4 c4] 45 (0,0))).alloc (.cells #[.int .i64 0,.int .i64 d,.int .i64 a,.int .i64 b,.int .i64 c,.int .i64 n,.string t] 122 (0,0)):=⟨_,rfl⟩;have HW:=aa.mk Mg;have HB:=aa.mk (show Below w.heap.size w W1 from by rw [Mg];exact oa (oa (Below.refl _ _) _) _);have hz:W1.heap.size=w.heap.size + 2:=by rw [Mg];simp
 have wV:W1.cell? ⟨w.heap.size,3,none⟩=some (.int .i64 slots):=by rw [Mg];simp
 have hx0:W1.cell? ⟨w.heap.size + 1,0,none⟩=some (.int .i64 0):=by rw [Mg];simp
 have hx1:W1.cell? ⟨w.heap.size + 1,1,none⟩=some (.int .i64 d):=by rw [Mg];simp
 have hx2:W1.cell? ⟨w.heap.size + 1,2,none⟩=some (.int .i64 a):=by rw [Mg];simp
 have fB:W1.cell? ⟨w.heap.size + 1,3,none⟩=some (.int .i64 b):=by rw [Mg];simp
 have Pz:W1.cell? ⟨w.heap.size + 1,4,none⟩=some (.int .i64 c):=by rw [Mg];simp
 have CR:W1.cell? ⟨w.heap.size + 1,5,none⟩=some (.int .i64 n):=by rw [Mg];simp
 have pF:W1.cell? ⟨w.heap.size + 1,6,none⟩=some (.string t):=by rw [Mg];simp
 clear Mg;go_enter Try.func125,Try.ntmps125;go_wp2_with (first|(go_at_call 94;(with_reducible refine (Yl _ _ _ _).mono ?_);rintro e w1 ⟨rfl,⟨k1,rfl⟩⟩));rw [← HW.out];clear HW
 go_region
 all_goals go_wp2_with (first|(go_at_call 138;(refine (Fk _ slots _ _ ?hc).mono ?_);(case hc=>first|(go_simp;done)|(go_simp;rfl));rintro e w1 ⟨rfl,rfl⟩))
 all_goals go_ret
 all_goals exact ⟨by (try clear OY CX LS zu);simp [*],by repeat (first|exact HB.out|(refine Oa ?_ zu.out)|apply ia|apply qa|apply oa|refine ua ?_ (by first|omega|(simp;done)|(simp;omega)))⟩
theorem OQ (A0 A4:Option Addr) (c0 c4 n0 n4:Nat) (p1 p2 slots d a b c n:Int) (t:ByteArray) (w:World) (hn0:n0 ≤ 9223372036854775807) (AE:n4 ≤ 9223372036854775807) :
  Calls Try.prog 125 #[.agg #[.slice A0 n0 c0,.int .i64 p1,.int .i64 p2,.int .i64 slots,.slice A4 n4 c4],.agg #[.int .i64 1,.int .i64 d,.int .i64 a,.int .i64 b,.int .i64 c,.int .i64 n,.string t]] w fun e w'=>e = .returned (.bool (dn slots d && dn slots a && (b == 0 && (c == 0 && (n == 0 && t.toList.isEmpty)))))∧Below w.heap.size w w':=by
 obtain ⟨W1,Mg⟩:∃ W1,W1=(w.alloc (.cells #[.slice A0 n0 c0,.int .i64 p1,.int .i64 p2,.int .i64 slots,.slice A4 n4 c4] 45 (0,0))).alloc (.cells #[.int .i64 1,.int .i64 d,.int .i64 a,.int .i64 b,.int .i64 c,.int .i64 n,.string t] 122 (0,0)):=⟨_,rfl⟩;have HW:=aa.mk Mg;have HB:=aa.mk (show Below w.heap.size w W1 from by rw [Mg];exact oa (oa (Below.refl _ _) _) _);have hz:W1.heap.size=w.heap.size + 2:=by rw [Mg];simp
 have wV:W1.cell? ⟨w.heap.size,3,none⟩=some (.int .i64 slots):=by rw [Mg];simp
 have hx0:W1.cell? ⟨w.heap.size + 1,0,none⟩=some (.int .i64 1):=by rw [Mg];simp
 have hx1:W1.cell? ⟨w.heap.size + 1,1,none⟩=some (.int .i64 d):=by rw [Mg];simp
 have hx2:W1.cell? ⟨w.heap.size + 1,2,none⟩=some (.int .i64 a):=by rw [Mg];simp
 have fB:W1.cell? ⟨w.heap.size + 1,3,none⟩=some (.int .i64 b):=by rw [Mg];simp
 have Pz:W1.cell? ⟨w.heap.size + 1,4,none⟩=some (.int .i64 c):=by rw [Mg];simp
 have CR:W1.cell? ⟨w.heap.size + 1,5,none⟩=some (.int .i64 n):=by rw [Mg];simp
 have pF:W1.cell? ⟨w.heap.size + 1,6,none⟩=some (.string t):=by rw [Mg];simp
 clear Mg;go_enter Try.func125,Try.ntmps125;go_wp2_with (first|(go_at_call 94;(with_reducible refine (Yl _ _ _ _).mono ?_);rintro e w1 ⟨rfl,⟨k1,rfl⟩⟩));rw [← HW.out];clear HW
 go_region
 all_goals go_wp2_with (first|(go_at_call 138;(refine (Fk _ slots _ _ ?hc).mono ?_);(case hc=>first|(go_simp;done)|(go_simp;rfl));rintro e w1 ⟨rfl,rfl⟩))
 all_goals go_ret
 all_goals exact ⟨by (try clear OY CX LS zu);simp [*],by repeat (first|exact HB.out|(refine Oa ?_ zu.out)|apply ia|apply qa|apply oa|refine ua ?_ (by first|omega|(simp;done)|(simp;omega)))⟩
theorem NQ (A0 A4:Option Addr) (c0 c4 n0 n4:Nat) (p1 p2 slots d a b c n:Int) (t:ByteArray) (w:World) (hn0:n0 ≤ 9223372036854775807) (AE:n4 ≤ 9223372036854775807) :
  Calls Try.prog 125 #[.agg #[.slice A0 n0 c0,.int .i64 p1,.int .i64 p2,.int .i64 slots,.slice A4 n4 c4],.agg #[.int .i64 2,.int .i64 d,.int .i64 a,.int .i64 b,.int .i64 c,.int .i64 n,.string t]] w fun e w'=>e = .returned (.bool (dn slots d && dn slots a && dn slots b && Dx t && (c == 0 && n == 0)))∧Below w.heap.size w w':=by
 obtain ⟨W1,Mg⟩:∃ W1,W1=(w.alloc (.cells #[.slice A0 n0 c0,.int .i64 p1,.int .i64 p2,.int .i64 slots,.slice A4 n4 c4] 45 (0,0))).alloc (.cells #[.int .i64 2,.int .i64 d,.int .i64 a,.int .i64 b,.int .i64 c,.int .i64 n,.string t] 122 (0,0)):=⟨_,rfl⟩;have HW:=aa.mk Mg;have HB:=aa.mk (show Below w.heap.size w W1 from by rw [Mg];exact oa (oa (Below.refl _ _) _) _);have hz:W1.heap.size=w.heap.size + 2:=by rw [Mg];simp
 have wV:W1.cell? ⟨w.heap.size,3,none⟩=some (.int .i64 slots):=by rw [Mg];simp
 have hx0:W1.cell? ⟨w.heap.size + 1,0,none⟩=some (.int .i64 2):=by rw [Mg];simp
 have hx1:W1.cell? ⟨w.heap.size + 1,1,none⟩=some (.int .i64 d):=by rw [Mg];simp
 have hx2:W1.cell? ⟨w.heap.size + 1,2,none⟩=some (.int .i64 a):=by rw [Mg];simp
 have fB:W1.cell? ⟨w.heap.size + 1,3,none⟩=some (.int .i64 b):=by rw [Mg];simp
 have Pz:W1.cell? ⟨w.heap.size + 1,4,none⟩=some (.int .i64 c):=by rw [Mg];simp
 have CR:W1.cell? ⟨w.heap.size + 1,5,none⟩=some (.int .i64 n):=by rw [Mg];simp
 have pF:W1.cell? ⟨w.heap.size + 1,6,none⟩=some (.string t):=by rw [Mg];simp
 clear Mg;go_enter Try.func125,Try.ntmps125;go_wp2_with (first|(go_at_call 94;(with_reducible refine (Yl _ _ _ _).mono ?_);rintro e w1 ⟨rfl,⟨k1,rfl⟩⟩));rw [← HW.out];clear HW
 go_region
 all_goals go_wp2_with (first|(go_at_call 138;(refine (Fk _ slots _ _ ?hc).mono ?_);(case hc=>first|(go_simp;done)|(go_simp;rfl));rintro e w1 ⟨rfl,rfl⟩)|(go_at_call 139;(with_reducible refine (QL _ _).mono ?_);rintro e w2 ⟨rfl,Gj⟩;have zu:=aa.mk Gj;obtain ⟨OY,CX⟩:=o3 Gj;have LS:=Gj.size;simp at LS;clear Gj))
 all_goals go_ret
 all_goals exact ⟨by (try clear OY CX LS zu);simp [*],by repeat (first|exact HB.out|(refine Oa ?_ zu.out)|apply ia|apply qa|apply oa|refine ua ?_ (by first|omega|(simp;done)|(simp;omega)))⟩
theorem MQ (A0 A4:Option Addr) (c0 c4 n0 n4:Nat) (p1 p2 slots d a b c n:Int) (t:ByteArray) (w:World) (hn0:n0 ≤ 9223372036854775807) (AE:n4 ≤ 9223372036854775807) :
  Calls Try.prog 125 #[.agg #[.slice A0 n0 c0,.int .i64 p1,.int .i64 p2,.int .i64 slots,.slice A4 n4 c4],.agg #[.int .i64 3,.int .i64 d,.int .i64 a,.int .i64 b,.int .i64 c,.int .i64 n,.string t]] w fun e w'=>e = .returned (.bool (dn slots d && dn slots b && Vk n 0 ((n0:Int) - 1) && (dn slots a || a == -1) && (c == 0 && t.toList.isEmpty)))∧Below w.heap.size w w':=by
 obtain ⟨W1,Mg⟩:∃ W1,W1=(w.alloc (.cells #[.slice A0 n0 c0,.int .i64 p1,.int .i64 p2,.int .i64 slots,.slice A4 n4 c4] 45 (0,0))).alloc (.cells #[.int .i64 3,.int .i64 d,.int .i64 a,.int .i64 b,.int .i64 c,.int .i64 n,.string t] 122 (0,0)):=⟨_,rfl⟩;have HW:=aa.mk Mg;have HB:=aa.mk (show Below w.heap.size w W1 from by rw [Mg];exact oa (oa (Below.refl _ _) _) _);have hz:W1.heap.size=w.heap.size + 2:=by rw [Mg];simp
 have wV:W1.cell? ⟨w.heap.size,3,none⟩=some (.int .i64 slots):=by rw [Mg];simp
 have hx0:W1.cell? ⟨w.heap.size + 1,0,none⟩=some (.int .i64 3):=by rw [Mg];simp
 have hx1:W1.cell? ⟨w.heap.size + 1,1,none⟩=some (.int .i64 d):=by rw [Mg];simp
 have hx2:W1.cell? ⟨w.heap.size + 1,2,none⟩=some (.int .i64 a):=by rw [Mg];simp
 have fB:W1.cell? ⟨w.heap.size + 1,3,none⟩=some (.int .i64 b):=by rw [Mg];simp
 have Pz:W1.cell? ⟨w.heap.size + 1,4,none⟩=some (.int .i64 c):=by rw [Mg];simp
 have CR:W1.cell? ⟨w.heap.size + 1,5,none⟩=some (.int .i64 n):=by rw [Mg];simp
 have pF:W1.cell? ⟨w.heap.size + 1,6,none⟩=some (.string t):=by rw [Mg];simp
 clear Mg;go_enter Try.func125,Try.ntmps125;go_wp2_with (first|(go_at_call 94;(with_reducible refine (Yl _ _ _ _).mono ?_);rintro e w1 ⟨rfl,⟨k1,rfl⟩⟩));rw [← HW.out];clear HW
 go_region
 all_goals go_wp2_with (first|(go_at_call 138;(refine (Fk _ slots _ _ ?hc).mono ?_);(case hc=>first|(go_simp;done)|(go_simp;rfl));rintro e w1 ⟨rfl,rfl⟩))
 all_goals go_ret
 all_goals exact ⟨by (try clear OY CX LS zu);simp [*],by repeat (first|exact HB.out|(refine Oa ?_ zu.out)|apply ia|apply qa|apply oa|refine ua ?_ (by first|omega|(simp;done)|(simp;omega)))⟩
theorem LQ (A0 A4:Option Addr) (c0 c4 n0 n4:Nat) (p1 p2 slots d a b c n:Int) (t:ByteArray) (w:World) (hn0:n0 ≤ 9223372036854775807) (AE:n4 ≤ 9223372036854775807) :
  Calls Try.prog 125 #[.agg #[.slice A0 n0 c0,.int .i64 p1,.int .i64 p2,.int .i64 slots,.slice A4 n4 c4],.agg #[.int .i64 4,.int .i64 d,.int .i64 a,.int .i64 b,.int .i64 c,.int .i64 n,.string t]] w fun e w'=>e = .returned (.bool (dn slots c && dn slots b && Vk n 0 ((n0:Int) - 1) && (dn slots a || a == -1) && (d == 0 && t.toList.isEmpty)))∧Below w.heap.size w w':=by
 obtain ⟨W1,Mg⟩:∃ W1,W1=(w.alloc (.cells #[.slice A0 n0 c0,.int .i64 p1,.int .i64 p2,.int .i64 slots,.slice A4 n4 c4] 45 (0,0))).alloc (.cells #[.int .i64 4,.int .i64 d,.int .i64 a,.int .i64 b,.int .i64 c,.int .i64 n,.string t] 122 (0,0)):=⟨_,rfl⟩;have HW:=aa.mk Mg;have HB:=aa.mk (show Below w.heap.size w W1 from by rw [Mg];exact oa (oa (Below.refl _ _) _) _);have hz:W1.heap.size=w.heap.size + 2:=by rw [Mg];simp
 have wV:W1.cell? ⟨w.heap.size,3,none⟩=some (.int .i64 slots):=by rw [Mg];simp
 have hx0:W1.cell? ⟨w.heap.size + 1,0,none⟩=some (.int .i64 4):=by rw [Mg];simp
 have hx1:W1.cell? ⟨w.heap.size + 1,1,none⟩=some (.int .i64 d):=by rw [Mg];simp
 have hx2:W1.cell? ⟨w.heap.size + 1,2,none⟩=some (.int .i64 a):=by rw [Mg];simp
 have fB:W1.cell? ⟨w.heap.size + 1,3,none⟩=some (.int .i64 b):=by rw [Mg];simp
 have Pz:W1.cell? ⟨w.heap.size + 1,4,none⟩=some (.int .i64 c):=by rw [Mg];simp
 have CR:W1.cell? ⟨w.heap.size + 1,5,none⟩=some (.int .i64 n):=by rw [Mg];simp
 have pF:W1.cell? ⟨w.heap.size + 1,6,none⟩=some (.string t):=by rw [Mg];simp
 clear Mg;go_enter Try.func125,Try.ntmps125;go_wp2_with (first|(go_at_call 94;(with_reducible refine (Yl _ _ _ _).mono ?_);rintro e w1 ⟨rfl,⟨k1,rfl⟩⟩));rw [← HW.out];clear HW
 go_region
 all_goals go_wp2_with (first|(go_at_call 138;(refine (Fk _ slots _ _ ?hc).mono ?_);(case hc=>first|(go_simp;done)|(go_simp;rfl));rintro e w1 ⟨rfl,rfl⟩))
 all_goals go_ret
 all_goals exact ⟨by (try clear OY CX LS zu);simp [*],by repeat (first|exact HB.out|(refine Oa ?_ zu.out)|apply ia|apply qa|apply oa|refine ua ?_ (by first|omega|(simp;done)|(simp;omega)))⟩
theorem KQ (A0 A4:Option Addr) (c0 c4 n0 n4:Nat) (p1 p2 slots d a b c n:Int) (t:ByteArray) (w:World) (hn0:n0 ≤ 9223372036854775807) (AE:n4 ≤ 9223372036854775807) :
  Calls Try.prog 125 #[.agg #[.slice A0 n0 c0,.int .i64 p1,.int .i64 p2,.int .i64 slots,.slice A4 n4 c4],.agg #[.int .i64 5,.int .i64 d,.int .i64 a,.int .i64 b,.int .i64 c,.int .i64 n,.string t]] w fun e w'=>e = .returned (.bool (dn slots d && (a == 0 && (b == 0 && (c == 0 && (n == 0 && t.toList.isEmpty))))))∧Below w.heap.size w w':=by
 obtain ⟨W1,Mg⟩:∃ W1,W1=(w.alloc (.cells #[.slice A0 n0 c0,.int .i64 p1,.int .i64 p2,.int .i64 slots,.slice A4 n4 c4] 45 (0,0))).alloc (.cells #[.int .i64 5,.int .i64 d,.int .i64 a,.int .i64 b,.int .i64 c,.int .i64 n,.string t] 122 (0,0)):=⟨_,rfl⟩;have HW:=aa.mk Mg;have HB:=aa.mk (show Below w.heap.size w W1 from by rw [Mg];exact oa (oa (Below.refl _ _) _) _);have hz:W1.heap.size=w.heap.size + 2:=by rw [Mg];simp
 have wV:W1.cell? ⟨w.heap.size,3,none⟩=some (.int .i64 slots):=by rw [Mg];simp
 have hx0:W1.cell? ⟨w.heap.size + 1,0,none⟩=some (.int .i64 5):=by rw [Mg];simp
 have hx1:W1.cell? ⟨w.heap.size + 1,1,none⟩=some (.int .i64 d):=by rw [Mg];simp
 have hx2:W1.cell? ⟨w.heap.size + 1,2,none⟩=some (.int .i64 a):=by rw [Mg];simp
 have fB:W1.cell? ⟨w.heap.size + 1,3,none⟩=some (.int .i64 b):=by rw [Mg];simp
 have Pz:W1.cell? ⟨w.heap.size + 1,4,none⟩=some (.int .i64 c):=by rw [Mg];simp
 have CR:W1.cell? ⟨w.heap.size + 1,5,none⟩=some (.int .i64 n):=by rw [Mg];simp
 have pF:W1.cell? ⟨w.heap.size + 1,6,none⟩=some (.string t):=by rw [Mg];simp
 clear Mg;go_enter Try.func125,Try.ntmps125;go_wp2_with (first|(go_at_call 94;(with_reducible refine (Yl _ _ _ _).mono ?_);rintro e w1 ⟨rfl,⟨k1,rfl⟩⟩));rw [← HW.out];clear HW
 go_region
 all_goals go_wp2_with (first|(go_at_call 138;(refine (Fk _ slots _ _ ?hc).mono ?_);(case hc=>first|(go_simp;done)|(go_simp;rfl));rintro e w1 ⟨rfl,rfl⟩))
 all_goals go_ret
 all_goals exact ⟨by (try clear OY CX LS zu);simp [*],by repeat (first|exact HB.out|(refine Oa ?_ zu.out)|apply ia|apply qa|apply oa|refine ua ?_ (by first|omega|(simp;done)|(simp;omega)))⟩
theorem JQ (A0 A4:Option Addr) (c0 c4 n0 n4:Nat) (p1 p2 slots d a b c n:Int) (t:ByteArray) (w:World) (hn0:n0 ≤ 9223372036854775807) (AE:n4 ≤ 9223372036854775807) :
  Calls Try.prog 125 #[.agg #[.slice A0 n0 c0,.int .i64 p1,.int .i64 p2,.int .i64 slots,.slice A4 n4 c4],.agg #[.int .i64 6,.int .i64 d,.int .i64 a,.int .i64 b,.int .i64 c,.int .i64 n,.string t]] w fun e w'=>e = .returned (.bool (dn slots a && (d == 0 && (b == 0 && (c == 0 && (n == 0 && t.toList.isEmpty))))))∧Below w.heap.size w w':=by
 obtain ⟨W1,Mg⟩:∃ W1,W1=(w.alloc (.cells #[.slice A0 n0 c0,.int .i64 p1,.int .i64 p2,.int .i64 slots,.slice A4 n4 c4] 45 (0,0))).alloc (.cells #[.int .i64 6,.int .i64 d,.int .i64 a,.int .i64 b,.int .i64 c,.int .i64 n,.string t] 122 (0,0)):=⟨_,rfl⟩;have HW:=aa.mk Mg;have HB:=aa.mk (show Below w.heap.size w W1 from by rw [Mg];exact oa (oa (Below.refl _ _) _) _);have hz:W1.heap.size=w.heap.size + 2:=by rw [Mg];simp
 have wV:W1.cell? ⟨w.heap.size,3,none⟩=some (.int .i64 slots):=by rw [Mg];simp
 have hx0:W1.cell? ⟨w.heap.size + 1,0,none⟩=some (.int .i64 6):=by rw [Mg];simp
 have hx1:W1.cell? ⟨w.heap.size + 1,1,none⟩=some (.int .i64 d):=by rw [Mg];simp
 have hx2:W1.cell? ⟨w.heap.size + 1,2,none⟩=some (.int .i64 a):=by rw [Mg];simp
 have fB:W1.cell? ⟨w.heap.size + 1,3,none⟩=some (.int .i64 b):=by rw [Mg];simp
 have Pz:W1.cell? ⟨w.heap.size + 1,4,none⟩=some (.int .i64 c):=by rw [Mg];simp
 have CR:W1.cell? ⟨w.heap.size + 1,5,none⟩=some (.int .i64 n):=by rw [Mg];simp
 have pF:W1.cell? ⟨w.heap.size + 1,6,none⟩=some (.string t):=by rw [Mg];simp
 clear Mg;go_enter Try.func125,Try.ntmps125;go_wp2_with (first|(go_at_call 94;(with_reducible refine (Yl _ _ _ _).mono ?_);rintro e w1 ⟨rfl,⟨k1,rfl⟩⟩));rw [← HW.out];clear HW
 go_region
 all_goals go_wp2_with (first|(go_at_call 138;(refine (Fk _ slots _ _ ?hc).mono ?_);(case hc=>first|(go_simp;done)|(go_simp;rfl));rintro e w1 ⟨rfl,rfl⟩))
 all_goals go_ret
 all_goals exact ⟨by (try clear OY CX LS zu);simp [*],by repeat (first|exact HB.out|(refine Oa ?_ zu.out)|apply ia|apply qa|apply oa|refine ua ?_ (by first|omega|(simp;done)|(simp;omega)))⟩
theorem RL (A0 A4:Option Addr) (c0 c4 n0 n4:Nat) (p1 p2 slots d a b c n:Int) (t:ByteArray) (w:World) (hn0:n0 ≤ 9223372036854775807) (AE:n4 ≤ 9223372036854775807) (o:Int) (h0:(o == 0)=false) (h1:(o == 1)=false) (h2:(o == 2)=false) (h3:(o == 3)=false) (h4:(o == 4)=false) (h5:(o == 5)=false) (h6:(o == 6)=false) :
  Calls Try.prog 125 #[.agg #[.slice A0 n0 c0,.int .i64 p1,.int .i64 p2,.int .i64 slots,.slice A4 n4 c4],.agg #[.int .i64 o,.int .i64 d,.int .i64 a,.int .i64 b,.int .i64 c,.int .i64 n,.string t]] w fun e w'=>e = .returned (.bool (false))∧Below w.heap.size w w':=by
 obtain ⟨W1,Mg⟩:∃ W1,W1=(w.alloc (.cells #[.slice A0 n0 c0,.int .i64 p1,.int .i64 p2,.int .i64 slots,.slice A4 n4 c4] 45 (0,0))).alloc (.cells #[.int .i64 o,.int .i64 d,.int .i64 a,.int .i64 b,.int .i64 c,.int .i64 n,.string t] 122 (0,0)):=⟨_,rfl⟩;have HW:=aa.mk Mg;have HB:=aa.mk (show Below w.heap.size w W1 from by rw [Mg];exact oa (oa (Below.refl _ _) _) _);have hz:W1.heap.size=w.heap.size + 2:=by rw [Mg];simp
 have wV:W1.cell? ⟨w.heap.size,3,none⟩=some (.int .i64 slots):=by rw [Mg];simp
 have hx0:W1.cell? ⟨w.heap.size + 1,0,none⟩=some (.int .i64 o):=by rw [Mg];simp
 have hx1:W1.cell? ⟨w.heap.size + 1,1,none⟩=some (.int .i64 d):=by rw [Mg];simp
 have hx2:W1.cell? ⟨w.heap.size + 1,2,none⟩=some (.int .i64 a):=by rw [Mg];simp
 have fB:W1.cell? ⟨w.heap.size + 1,3,none⟩=some (.int .i64 b):=by rw [Mg];simp
 have Pz:W1.cell? ⟨w.heap.size + 1,4,none⟩=some (.int .i64 c):=by rw [Mg];simp
 have CR:W1.cell? ⟨w.heap.size + 1,5,none⟩=some (.int .i64 n):=by rw [Mg];simp
 have pF:W1.cell? ⟨w.heap.size + 1,6,none⟩=some (.string t):=by rw [Mg];simp
 clear Mg;go_enter Try.func125,Try.ntmps125;go_wp2_with (first|(go_at_call 94;(with_reducible refine (Yl _ _ _ _).mono ?_);rintro e w1 ⟨rfl,⟨k1,rfl⟩⟩));rw [← HW.out];clear HW
 go_region
 all_goals go_wp2_with (first|(go_at_call 138;(refine (Fk _ slots _ _ ?hc).mono ?_);(case hc=>first|(go_simp;done)|(go_simp;rfl));rintro e w1 ⟨rfl,rfl⟩))
 all_goals go_ret
 all_goals exact ⟨by (try clear OY CX LS zu);simp [*],by repeat (first|exact HB.out|(refine Oa ?_ zu.out)|apply ia|apply qa|apply oa|refine ua ?_ (by first|omega|(simp;done)|(simp;omega)))⟩
def jo (n0:Nat) (slots:Int) (o d a b c n:Int) (t:ByteArray):Bool :=
 if o=0 then dn slots d && (a == 0 && (b == 0 && (c == 0 && t.toList.isEmpty)))
 else if o=1 then dn slots d && dn slots a && (b == 0 && (c == 0 && (n == 0 && t.toList.isEmpty)))
 else if o=2 then dn slots d && dn slots a && dn slots b && Dx t && (c == 0 && n == 0)
 else if o=3 then dn slots d && dn slots b && Vk n 0 ((n0:Int) - 1) && (dn slots a || a == -1) && (c == 0 && t.toList.isEmpty)
 else if o=4 then dn slots c && dn slots b && Vk n 0 ((n0:Int) - 1) && (dn slots a || a == -1) && (d == 0 && t.toList.isEmpty)
 else if o=5 then dn slots d && (a == 0 && (b == 0 && (c == 0 && (n == 0 && t.toList.isEmpty))))
 else if o=6 then dn slots a && (d == 0 && (b == 0 && (c == 0 && (n == 0 && t.toList.isEmpty))))
 else false
theorem kJ (A0 A4:Option Addr) (c0 c4 n0 n4:Nat) (p1 p2 slots:Int) (w:World) (hn0:n0 ≤ 9223372036854775807) (AE:n4 ≤ 9223372036854775807) (o d a b c n:Int) (t:ByteArray) :
  Calls Try.prog 125 #[.agg #[.slice A0 n0 c0,.int .i64 p1,.int .i64 p2,.int .i64 slots,.slice A4 n4 c4],.agg #[.int .i64 o,.int .i64 d,.int .i64 a,.int .i64 b,.int .i64 c,.int .i64 n,.string t]] w fun e w'=>e = .returned (.bool (jo n0 slots o d a b c n t))∧Below w.heap.size w w':=by
 unfold jo
 by_cases h0:o=0
 ·rw [if_pos h0,h0];exact RQ A0 A4 c0 c4 n0 n4 p1 p2 slots d a b c n t w hn0 AE
 rw [if_neg h0]
 by_cases h1:o=1
 ·rw [if_pos h1,h1];exact OQ A0 A4 c0 c4 n0 n4 p1 p2 slots d a b c n t w hn0 AE
 rw [if_neg h1]
 by_cases h2:o=2
 ·rw [if_pos h2,h2];exact NQ A0 A4 c0 c4 n0 n4 p1 p2 slots d a b c n t w hn0 AE
 rw [if_neg h2]
 by_cases h3:o=3
 ·rw [if_pos h3,h3];exact MQ A0 A4 c0 c4 n0 n4 p1 p2 slots d a b c n t w hn0 AE
 rw [if_neg h3]
 by_cases h4:o=4
 ·rw [if_pos h4,h4];exact LQ A0 A4 c0 c4 n0 n4 p1 p2 slots d a b c n t w hn0 AE
 rw [if_neg h4]
 by_cases h5:o=5
 ·rw [if_pos h5,h5];exact KQ A0 A4 c0 c4 n0 n4 p1 p2 slots d a b c n t w hn0 AE
 rw [if_neg h5]
 by_cases h6:o=6
 ·rw [if_pos h6,h6];exact JQ A0 A4 c0 c4 n0 n4 p1 p2 slots d a b c n t w hn0 AE
 rw [if_neg h6];exact RL A0 A4 c0 c4 n0 n4 p1 p2 slots d a b c n t w hn0 AE o (beq_eq_false_iff_ne.mpr h0) (beq_eq_false_iff_ne.mpr h1) (beq_eq_false_iff_ne.mpr h2) (beq_eq_false_iff_ne.mpr h3) (beq_eq_false_iff_ne.mpr h4) (beq_eq_false_iff_ne.mpr h5) (beq_eq_false_iff_ne.mpr h6)
def Vq (n0:Nat) (slots:Int) (x:ud):Bool:=jo n0 slots x.f0 x.f1 x.f2 x.f3 x.f4 x.f5 x.f6
def Tl (n0:Nat) (slots:Int) (n4:Nat) (code:List ud) (j a tg els:Int):Bool :=
 !(code.any fun x=>!Vq n0 slots x) && decide (0 ≤ slots) &&
  (if j=0 then Vk tg 0 ((n4:Int) - 1) && a == 0 && els == 0
   else if j=1 then Vk tg 0 ((n4:Int) - 1) && Vk els 0 ((n4:Int) - 1) && dn slots a
   else if j=2 then dn slots a && tg == 0 && els == 0
   else false)
theorem SQ (B:Nat) (A0 A4:Option Addr) (c0 c4 n0 n4:Nat) (p1 p2 slots:Int) (hn0:n0 ≤ 9223372036854775807) (AE:n4 ≤ 9223372036854775807) (W:World) (x:ud)
  (hb0:W.cell? ⟨B,0,none⟩=some (.slice A0 n0 c0)) (Ys:W.cell? ⟨B,1,none⟩=some (.int .i64 p1)) (Gj:W.cell? ⟨B,2,none⟩=some (.int .i64 p2)) (QY:W.cell? ⟨B,3,none⟩=some (.int .i64 slots)) (hb4:W.cell? ⟨B,4,none⟩=some (.slice A4 n4 c4)) (hB:B < W.heap.size) :
  Calls Try.prog 124 #[.agg #[.int .i64 x.f0,.int .i64 x.f1,.int .i64 x.f2,.int .i64 x.f3,.int .i64 x.f4,.int .i64 x.f5,.string x.f6],.pointer (some ⟨B,0,none⟩)] W
   fun e w'=>e = .returned (.bool (!Vq n0 slots x))∧Below W.heap.size W w':=by
 have hne:B ≠ W.heap.size:=by omega
 unfold Vq;have HC:=aa.mk (fun W'=>kJ A0 A4 c0 c4 n0 n4 p1 p2 slots W' hn0 AE x.f0 x.f1 x.f2 x.f3 x.f4 x.f5 x.f6);generalize jo n0 slots x.f0 x.f1 x.f2 x.f3 x.f4 x.f5 x.f6=b at HC ⊢;go_enter Try.func124,Try.ntmps124;go_wp2_with (go_at_call 125;(with_reducible refine (HC.out _).mono ?_);rintro e w1 ⟨rfl,hb⟩;have HD:=aa.mk (Oa (oa (Below.refl _ _) _) hb);clear hb);go_ret;exact ⟨rfl,HD.out⟩
theorem lJ (A0 A4 A5:Option Addr) (c0 c4 c5 n0 n4:Nat) (p1 p2 slots:Int) (l5:List ud) (j a tg els:Int) (w:World) (hn0:n0 ≤ 9223372036854775807) (AE:n4 ≤ 9223372036854775807) (hr5:Kd.C sg w A5 l5.length l5) (hc5:l5.length ≤ c5) :
  Calls Try.prog 104 #[.agg #[.slice A0 n0 c0,.int .i64 p1,.int .i64 p2,.int .i64 slots,.slice A4 n4 c4],.agg #[.slice A5 l5.length c5,.int .i64 j,.int .i64 a,.int .i64 tg,.int .i64 els]] w fun e w'=>e = .returned (.bool (Tl n0 slots n4 l5 j a tg els))∧Below w.heap.size w w':=by
 have eg:=enters_of Try.func124 (by kernel_rfl) rfl;have hm5:=hr5.2.1;obtain ⟨W1,Mg⟩:∃ W1,W1=(w.alloc (.cells #[.slice A0 n0 c0,.int .i64 p1,.int .i64 p2,.int .i64 slots,.slice A4 n4 c4] 45 (0,0))).alloc (.cells #[.slice A5 l5.length c5,.int .i64 j,.int .i64 a,.int .i64 tg,.int .i64 els] 83 (0,0)):=⟨_,rfl⟩;have HW:=aa.mk Mg;have hB1:Below w.heap.size w W1:=by rw [Mg];exact oa (oa (Below.refl _ _) _) _
 have hz:W1.heap.size=w.heap.size + 2:=by rw [Mg];simp
 have WQ:W1.cell? ⟨w.heap.size,0,none⟩=some (.slice A0 n0 c0):=by rw [Mg];simp
 have KD:W1.cell? ⟨w.heap.size,1,none⟩=some (.int .i64 p1):=by rw [Mg];simp
 have hg2:W1.cell? ⟨w.heap.size,2,none⟩=some (.int .i64 p2):=by rw [Mg];simp
 have dL:W1.cell? ⟨w.heap.size,3,none⟩=some (.int .i64 slots):=by rw [Mg];simp
 have cL:W1.cell? ⟨w.heap.size,4,none⟩=some (.slice A4 n4 c4):=by rw [Mg];simp
 have hx0:W1.cell? ⟨w.heap.size + 1,0,none⟩=some (.slice A5 l5.length c5):=by rw [Mg];simp
 have hx1:W1.cell? ⟨w.heap.size + 1,1,none⟩=some (.int .i64 j):=by rw [Mg];simp
 have hx2:W1.cell? ⟨w.heap.size + 1,2,none⟩=some (.int .i64 a):=by rw [Mg];simp
 have fB:W1.cell? ⟨w.heap.size + 1,3,none⟩=some (.int .i64 tg):=by rw [Mg];simp
 have Pz:W1.cell? ⟨w.heap.size + 1,4,none⟩=some (.int .i64 els):=by rw [Mg];simp
 have hr1:=Kd.Ib hr5 hB1;clear Mg hr5
 have HF:=aa.mk (Zw 124 #[.pointer (some ⟨w.heap.size,0,none⟩)] (fun x=>!Vq n0 slots x) eg A5 c5 l5 W1 hr1 hc5
  (fun W2 x hb'=>SQ w.heap.size A0 A4 c0 c4 n0 n4 p1 p2 slots hn0 AE W2 x ((hb'.cell (p:=⟨w.heap.size,0,none⟩) (by simp;omega)).trans WQ) ((hb'.cell (p:=⟨w.heap.size,1,none⟩) (by simp;omega)).trans KD) ((hb'.cell (p:=⟨w.heap.size,2,none⟩) (by simp;omega)).trans hg2) ((hb'.cell (p:=⟨w.heap.size,3,none⟩) (by simp;omega)).trans dL) ((hb'.cell (p:=⟨w.heap.size,4,none⟩) (by simp;omega)).trans cL) (Nat.lt_of_lt_of_le (by omega) hb'.size)))
 have HB:=aa.mk hB1;clear hr1 hB1 eg;unfold Tl;cases hq:l5.any (fun x=>!Vq n0 slots x) with
 | true =>
  rw [hq] at HF;go_enter Try.func104,Try.ntmps104
  go_upto_region 1 with (fail)
  rw [← HW.out];clear HW;go_wp2_with (first|(go_at_call 123;(with_reducible refine HF.out.mono ?_);rintro e w2 ⟨rfl,Gj⟩;have zu:=aa.mk Gj;clear Gj))
  all_goals
   go_ret;exact ⟨by simp,Oa HB.out zu.out⟩
 | false =>
  rw [hq] at HF;cases ha0:decide (0 ≤ a)
  all_goals
   go_enter Try.func104,Try.ntmps104
   go_upto_region 1 with (fail)
   rw [← HW.out];clear HW
   go_upto_region 3 with (first|(go_at_call 123;(with_reducible refine HF.out.mono ?_);rintro e w2 ⟨rfl,Gj⟩;replace dL:=(Gj.cell (World.block_lt_of_cell? W1 _ dL)).trans dL;replace cL:=(Gj.cell (World.block_lt_of_cell? W1 _ cL)).trans cL;replace hx1:=(Gj.cell (World.block_lt_of_cell? W1 _ hx1)).trans hx1;replace hx2:=(Gj.cell (World.block_lt_of_cell? W1 _ hx2)).trans hx2;replace fB:=(Gj.cell (World.block_lt_of_cell? W1 _ fB)).trans fB;replace Pz:=(Gj.cell (World.block_lt_of_cell? W1 _ Pz)).trans Pz;have zu:=aa.mk (Oa HB.out Gj);clear Gj HB WQ KD hg2 hx0))
   go_quiet ((go_at_call 94;exact Calls.quiet_of ((Yl _ _ _ _).mono fun _ _ ⟨he,hm⟩=>⟨he,hm.out⟩)))
   go_wp2
   all_goals go_ret
   all_goals exact ⟨by first|(simp [dn, *];done)|(simp [dn, *];intros;omega)|(clear HF dL cL hx1 hx2 fB Pz;simp_all [dn];done)|(clear HF dL cL hx1 hx2 fB Pz;simp_all [dn];omega),by repeat (first|exact zu.out|apply ia)⟩
def Dj.f (Ma:List Int) (La:Int) (Na:Int) (Ka:Int) (Ea:List (Df)) (Zc:List (ud)) (qc:Int) (ec:Int) (fc:Int) (Qc:Int):Option Bool:=some (Tl Ma.length Ka Ea.length Zc qc ec fc Qc)
theorem Dj.calls (xb:Option Addr) (qb:Nat) (Ma:List Int) (La:Int) (Na:Int) (Ka:Int) (Qb:Option Addr) (Kb:Nat) (Ea:List (Df)) (dg:Option Addr) (Rf:Nat) (Zc:List (ud)) (qc:Int) (ec:Int) (fc:Int) (Qc:Int) (r:Bool) (w:World) (Re:Kd.C (Kd.int .i64) w xb Ma.length Ma) (Pe:Ma.length ≤ qb) (Cg:Kd.C Pr w Qb Ea.length Ea) (zg:Ea.length ≤ Kb) (Aw:Kd.C sg w dg Zc.length Zc) (Cw:Zc.length ≤ Rf) (h:Dj.f Ma La Na Ka Ea Zc qc ec fc Qc=some r) :
  Calls Try.prog 104 #[.agg #[.slice xb Ma.length qb,.int .i64 La,.int .i64 Na,.int .i64 Ka,.slice Qb Ea.length Kb],.agg #[.slice dg Zc.length Rf,.int .i64 qc,.int .i64 ec,.int .i64 fc,.int .i64 Qc]] w fun e w'=>e = .returned (.bool r)∧Below w.heap.size w w':=by
 injection h with h
 subst h;exact lJ xb Qb dg qb Kb Rf Ma.length Ea.length La Na Ka Zc qc ec fc Qc w Re.2.1 Cg.2.1 Aw Cw
attribute [local go_sem] Wi Ui jk fk Ch Bh Vi Ti
mutual
def Bc.j0:Nat→Bool→List Int→Int→Int→Int→List (Df)→Option (Bool)
 | 0,_,_,_,_,_,_=>none
 | k + 1,x29,Mc,Nc,Lc,Jc,Nb=>if x29=true then (some false) else (Bc.l0 k 0 Nb (Nb.length:Int) 0 Mc Nc Lc Jc Nb)
def Bc.l0:Nat→Int→List (Df)→Int→Int→List Int→Int→Int→Int→List (Df)→Option (Bool)
 | 0,_,_,_,_,_,_,_,_,_=>none
 | k + 1,x3,QZ,x32,JD,Mc,Nc,Lc,Jc,Nb=>if JD < x32 then (if 0 ≤ JD then (if JD < (QZ.length:Int) then ((Dj.f Mc Nc Lc Jc Nb ((Ta QZ JD).f0) ((Ta QZ JD).f1) ((Ta QZ JD).f2) ((Ta QZ JD).f3) ((Ta QZ JD).f4)).bind fun t107=>(if t107=true then (Bc.l0 k (wrap64 (x3 + (((Ta QZ JD).f0).length:Int))) QZ x32 (wrap64 (JD + 1)) Mc Nc Lc Jc Nb) else (some false))) else (none)) else (none)) else (some (decide (x3 ≤ 1000)))
end
def Bc.f (k:Nat) (Ma:List Int) (La:Int) (Na:Int) (Ka:Int) (Ea:List (Df)):Option (Bool):=(Tg.f Ma La Na ([]:List (tA))).bind fun t102=>(if t102=true then ((Ph.f Ka Na 1000).bind fun t103=>(if t103=true then ((Ph.f (Ea.length:Int) 1 300).bind fun t104=>(Bc.j0 k (!t104) Ma La Na Ka Ea)) else (Bc.j0 k true Ma La Na Ka Ea))) else (Bc.j0 k true Ma La Na Ka Ea))
theorem Bc.calls (k:Nat) (xb:Option Addr) (qb:Nat) (Ma:List Int) (La:Int) (Na:Int) (Ka:Int) (Qb:Option Addr) (Kb:Nat) (Ea:List (Df)) (r:Bool) (w:World) (Re:Kd.C (Kd.int .i64) w xb Ma.length Ma) (Pe:Ma.length ≤ qb) (Cg:Kd.C Pr w Qb Ea.length Ea) (zg:Ea.length ≤ Kb) (h:Bc.f k Ma La Na Ka Ea=some r) :
  Calls Try.prog 71 #[.agg #[.slice xb Ma.length qb,.int .i64 La,.int .i64 Na,.int .i64 Ka,.slice Qb Ea.length Kb]] w fun e w'=>e = .returned (.bool r)∧Below w.heap.size w w':=by
 have RC:=Try.underlying45;have yau:=Try.underlying100;have dA:=Try.underlying83;have Ue:=aa.mk Re;have af:=aa.mk Pe;clear Re Pe;have Xf:=aa.mk Cg;have Zg:=aa.mk zg;clear Cg zg;have HB:=aa.mk (Below.refl w.heap.size w);have H:((Tg.f Ma La Na ([]:List (tA))).bind fun t102=>(if t102=true then ((Ph.f Ka Na 1000).bind fun t103=>(if t103=true then ((Ph.f (Ea.length:Int) 1 300).bind fun t104=>(Bc.j0 k (!t104) Ma La Na Ka Ea)) else (Bc.j0 k true Ma La Na Ka Ea))) else (Bc.j0 k true Ma La Na Ka Ea)))=some r:=h;clear h;have HC2:=aa.mk H;clear H;go_enter Try.func71,Try.ntmps71
 go_upto_region 1 with (first|((with_reducible refine Bb (N:=1) rfl ?_);(try (refine Jj (by rfl) ?_;dsimp only));refine Ob ?hg (N:=1) ?hd (cs:=#[.slice xb Ma.length qb,.int .i64 La,.int .i64 Na,.int .i64 Ka,.slice Qb Ea.length Kb]) (t:=45) ?hr ?_;(case hd=>rfl);(case hg=>rfl);(case hr=>first|(go_simp;done)|(go_simp;rfl));intro za hg w3 oc hb;have Cb:=aa.mk (Oa (by repeat (first|(with_reducible first|exact HB.out|apply oa|apply ia|apply qa)|exact HB.out)) hb);have Lb:=aa.mk (oc);have Pb:=aa.mk ((by rw [hg];exact (Ja (by repeat (first|(with_reducible first|exact HB.out|apply oa|apply ia|apply qa)|exact HB.out))):w.heap.size ≤ za));have Ec:=aa.mk ((by rw [hg];exact (Ja (by repeat (first|(with_reducible first|exact HB.out|apply oa|apply ia|apply qa)|exact HB.out))):w.heap.size ≤ za));clear HB;have HB:=Cb;have ta:=Lb;have He:=Pb;have Ua:=Ec;clear Cb Lb Pb Ec hb oc hg))
 (try simp only [Act.put,List.setIfInBounds_toArray,List.set_cons_zero,List.set_cons_succ])
 go_cut [29] (fun v29 wc=>∃ (kq:Nat) (ZM:Bool),v29 = .bool ZM∧aa (Bc.j0 kq ZM Ma La Na Ka Ea=some r)∧aa (kq ≤ k)∧aa (wc.heap[za]? = some (.cells #[(.slice xb Ma.length qb),.int .i64 La,.int .i64 Na,.int .i64 Ka,(.slice Qb Ea.length Kb)] 45 (0,0)))∧aa (Below w.heap.size w wc))
 case first =>
  have H:=HC2.out;clear HC2;replace H:=Option.bind_eq_some_iff.mp H;obtain ⟨t102,mE,H⟩:=H;replace H:(if t102=true then ((Ph.f Ka Na 1000).bind fun t103=>(if t103=true then ((Ph.f (Ea.length:Int) 1 300).bind fun t104=>(Bc.j0 k (!t104) Ma La Na Ka Ea)) else (Bc.j0 k true Ma La Na Ka Ea))) else (Bc.j0 k true Ma La Na Ka Ea))=some r:=H;have A4:=aa.mk mE;clear mE
  by_cases c5:t102=true
  ·subst c5;have H1:((Ph.f Ka Na 1000).bind fun t103=>(if t103=true then ((Ph.f (Ea.length:Int) 1 300).bind fun t104=>(Bc.j0 k (!t104) Ma La Na Ka Ea)) else (Bc.j0 k true Ma La Na Ka Ea)))=some r:=by rw [if_pos rfl] at H;exact H
   clear H;have H:=H1;clear H1;replace H:=Option.bind_eq_some_iff.mp H;obtain ⟨t103,k5,H⟩:=H;replace H:(if t103=true then ((Ph.f (Ea.length:Int) 1 300).bind fun t104=>(Bc.j0 k (!t104) Ma La Na Ka Ea)) else (Bc.j0 k true Ma La Na Ka Ea))=some r:=H;have A6:=aa.mk k5;clear k5
   by_cases c7:t103=true
   ·subst c7;have H1:((Ph.f (Ea.length:Int) 1 300).bind fun t104=>(Bc.j0 k (!t104) Ma La Na Ka Ea))=some r:=by rw [if_pos rfl] at H;exact H
    clear H;have H:=H1;clear H1;replace H:=Option.bind_eq_some_iff.mp H;obtain ⟨t104,gV,H⟩:=H;replace H:(Bc.j0 k (!t104) Ma La Na Ka Ea)=some r:=H;have A8:=aa.mk gV;clear gV;have H':=aa.mk H;clear H;have Ip:w3.cell? ⟨za,0,none⟩=some (.slice xb Ma.length qb):=(ja ta.out 0).trans rfl;have Hp:w3.cell? ⟨za,1,none⟩=some (.int .i64 La):=(ja ta.out 1).trans rfl;have Gp:w3.cell? ⟨za,2,none⟩=some (.int .i64 Na):=(ja ta.out 2).trans rfl;have Fp:w3.cell? ⟨za,3,none⟩=some (.int .i64 Ka):=(ja ta.out 3).trans rfl;have Ep:w3.cell? ⟨za,4,none⟩=some (.slice Qb Ea.length Kb):=(ja ta.out 4).trans rfl;have Dp:=ga ta.out 0;have Cp:=ga ta.out 1;have Bp:=ga ta.out 2;have Ap:=ga ta.out 3;have yp:=ga ta.out 4;go_wp2_with (first|((with_reducible refine Ab (f:=93) rfl ?_);refine Uc (some 13) rfl rfl Try.func93 (by kernel_rfl) rfl #[.agg #[.slice xb Ma.length qb,.int .i64 La,.int .i64 Na,.slice none 0 0]] rfl (by (try simp only [List.map_toArray,List.map_cons,List.map_nil]);first|done|rfl|(simp only [List.length_drop,List.length_take];rfl)) ?_;(refine (Tg.calls _ _ Ma La Na _ _ ([]:List (tA)) true _ ?jc ?ic ?Ed ?Dd A4.out).mono ?_);(case jc=>repeat (first|exact (Kd.Ib Ue.out HB.out)|(with_reducible refine Kd.Jb ?_ _)|(with_reducible refine Kd.Gb ?_ _)|(with_reducible refine Kd.dc ?_)));(case ic=>exact af.out);(case Ed=>exact Kd.kQ _ _);(case Dd=>exact Nat.le_refl _);rintro e Nq ⟨rfl,hb⟩;refine ⟨_,rfl,?_⟩;have Cb:=aa.mk (Xa (g:=za) (o:=.cells #[.slice xb Ma.length qb,.int .i64 La,.int .i64 Na,.int .i64 Ka,.slice Qb Ea.length Kb] 45 (0,0)) (by (with_reducible repeat (first|refine Aa ?_ _|refine Fa ?_|refine Ba ?_ _));exact ta.out) hb);have Lb:=aa.mk (Oa (by repeat (first|(with_reducible first|exact HB.out|apply oa|apply ia|apply qa|refine ua ?_ Ua.out)|exact HB.out)) hb);clear ta HB;have ta:=Cb;have HB:=Lb;clear Cb Lb;(try clear hb);(try clear Gj);(try clear hk);(try clear hi);have yz:Nq.cell? ⟨za,0,none⟩=some (.slice xb Ma.length qb):=(ja ta.out 0).trans rfl;have xz:Nq.cell? ⟨za,1,none⟩=some (.int .i64 La):=(ja ta.out 1).trans rfl;have wz:Nq.cell? ⟨za,2,none⟩=some (.int .i64 Na):=(ja ta.out 2).trans rfl;have uz:Nq.cell? ⟨za,3,none⟩=some (.int .i64 Ka):=(ja ta.out 3).trans rfl;have rz:Nq.cell? ⟨za,4,none⟩=some (.slice Qb Ea.length Kb):=(ja ta.out 4).trans rfl;have Xy:=ga ta.out 0;have Wy:=ga ta.out 1;have Vy:=ga ta.out 2;have Uy:=ga ta.out 3;have Ty:=ga ta.out 4)|(go_at_call 94;(with_reducible refine (Ph.calls Ka Na 1000 true _ A6.out).mono ?_);rintro e w' ⟨rfl,⟨nd,rfl⟩⟩)|(go_at_call 94;(with_reducible refine (Ph.calls (Ea.length:Int) 1 300 t104 _ A8.out).mono ?_);rintro e w' ⟨rfl,⟨nd,rfl⟩⟩))
    go_meet
    case rel=>exact ⟨_,(!t104),(by first|rfl|(simp;done)|(simp [*];done)),H',⟨by first|omega|exact Nat.le_refl _⟩,⟨by (with_reducible repeat (first|refine Aa ?_ _|refine Fa ?_|refine Ba ?_ _));exact ta.out⟩,⟨by repeat (first|(with_reducible first|exact HB.out|apply oa|apply ia|apply qa|refine ua ?_ Ua.out)|exact HB.out)⟩⟩
   ·replace c7:=Bool.eq_false_iff.mpr c7;subst c7;have H1:(Bc.j0 k true Ma La Na Ka Ea)=some r:=by rw [if_neg (show ¬ (false=true) by decide)] at H;exact H
    clear H;have H:=H1;clear H1;have H':=aa.mk H;clear H;have Ql:w3.cell? ⟨za,0,none⟩=some (.slice xb Ma.length qb):=(ja ta.out 0).trans rfl;have Ol:w3.cell? ⟨za,1,none⟩=some (.int .i64 La):=(ja ta.out 1).trans rfl;have Nl:w3.cell? ⟨za,2,none⟩=some (.int .i64 Na):=(ja ta.out 2).trans rfl;have Ml:w3.cell? ⟨za,3,none⟩=some (.int .i64 Ka):=(ja ta.out 3).trans rfl;have Ll:w3.cell? ⟨za,4,none⟩=some (.slice Qb Ea.length Kb):=(ja ta.out 4).trans rfl;have Kl:=ga ta.out 0;have Jl:=ga ta.out 1;have Il:=ga ta.out 2;have Hl:=ga ta.out 3;have Gl:=ga ta.out 4;go_wp2_with (first|((with_reducible refine Ab (f:=93) rfl ?_);refine Uc (some 13) rfl rfl Try.func93 (by kernel_rfl) rfl #[.agg #[.slice xb Ma.length qb,.int .i64 La,.int .i64 Na,.slice none 0 0]] rfl (by (try simp only [List.map_toArray,List.map_cons,List.map_nil]);first|done|rfl|(simp only [List.length_drop,List.length_take];rfl)) ?_;(refine (Tg.calls _ _ Ma La Na _ _ ([]:List (tA)) true _ ?jc ?ic ?Ed ?Dd A4.out).mono ?_);(case jc=>repeat (first|exact (Kd.Ib Ue.out HB.out)|(with_reducible refine Kd.Jb ?_ _)|(with_reducible refine Kd.Gb ?_ _)|(with_reducible refine Kd.dc ?_)));(case ic=>exact af.out);(case Ed=>exact Kd.kQ _ _);(case Dd=>exact Nat.le_refl _);rintro e KI ⟨rfl,hb⟩;refine ⟨_,rfl,?_⟩;have Cb:=aa.mk (Xa (g:=za) (o:=.cells #[.slice xb Ma.length qb,.int .i64 La,.int .i64 Na,.int .i64 Ka,.slice Qb Ea.length Kb] 45 (0,0)) (by (with_reducible repeat (first|refine Aa ?_ _|refine Fa ?_|refine Ba ?_ _));exact ta.out) hb);have Lb:=aa.mk (Oa (by repeat (first|(with_reducible first|exact HB.out|apply oa|apply ia|apply qa|refine ua ?_ Ua.out)|exact HB.out)) hb);clear ta HB;have ta:=Cb;have HB:=Lb;clear Cb Lb;(try clear hb);(try clear Gj);(try clear hk);(try clear hi);have Qt:KI.cell? ⟨za,0,none⟩=some (.slice xb Ma.length qb):=(ja ta.out 0).trans rfl;have Pt:KI.cell? ⟨za,1,none⟩=some (.int .i64 La):=(ja ta.out 1).trans rfl;have Ot:KI.cell? ⟨za,2,none⟩=some (.int .i64 Na):=(ja ta.out 2).trans rfl;have Nt:KI.cell? ⟨za,3,none⟩=some (.int .i64 Ka):=(ja ta.out 3).trans rfl;have Mt:KI.cell? ⟨za,4,none⟩=some (.slice Qb Ea.length Kb):=(ja ta.out 4).trans rfl;have Ft:=ga ta.out 0;have Et:=ga ta.out 1;have Dt:=ga ta.out 2;have Ct:=ga ta.out 3;have Bt:=ga ta.out 4)|(go_at_call 94;(with_reducible refine (Ph.calls Ka Na 1000 false _ A6.out).mono ?_);rintro e w' ⟨rfl,⟨nd,rfl⟩⟩))
    go_meet
    case rel=>exact ⟨_,(true),(by first|rfl|(simp;done)|(simp [*];done)),H',⟨by first|omega|exact Nat.le_refl _⟩,⟨by (with_reducible repeat (first|refine Aa ?_ _|refine Fa ?_|refine Ba ?_ _));exact ta.out⟩,⟨by repeat (first|(with_reducible first|exact HB.out|apply oa|apply ia|apply qa|refine ua ?_ Ua.out)|exact HB.out)⟩⟩
  ·replace c5:=Bool.eq_false_iff.mpr c5;subst c5;have H1:(Bc.j0 k true Ma La Na Ka Ea)=some r:=by rw [if_neg (show ¬ (false=true) by decide)] at H;exact H
   clear H;have H:=H1;clear H1;have H':=aa.mk H;clear H;have LH:w3.cell? ⟨za,0,none⟩=some (.slice xb Ma.length qb):=(ja ta.out 0).trans rfl;have KH:w3.cell? ⟨za,1,none⟩=some (.int .i64 La):=(ja ta.out 1).trans rfl;have JH:w3.cell? ⟨za,2,none⟩=some (.int .i64 Na):=(ja ta.out 2).trans rfl;have GH:w3.cell? ⟨za,3,none⟩=some (.int .i64 Ka):=(ja ta.out 3).trans rfl;have FH:w3.cell? ⟨za,4,none⟩=some (.slice Qb Ea.length Kb):=(ja ta.out 4).trans rfl;have GG:=ga ta.out 0;have FG:=ga ta.out 1;have EG:=ga ta.out 2;have DG:=ga ta.out 3;have CG:=ga ta.out 4;go_wp2_with (first|((with_reducible refine Ab (f:=93) rfl ?_);refine Uc (some 13) rfl rfl Try.func93 (by kernel_rfl) rfl #[.agg #[.slice xb Ma.length qb,.int .i64 La,.int .i64 Na,.slice none 0 0]] rfl (by (try simp only [List.map_toArray,List.map_cons,List.map_nil]);first|done|rfl|(simp only [List.length_drop,List.length_take];rfl)) ?_;(refine (Tg.calls _ _ Ma La Na _ _ ([]:List (tA)) false _ ?jc ?ic ?Ed ?Dd A4.out).mono ?_);(case jc=>repeat (first|exact (Kd.Ib Ue.out HB.out)|(with_reducible refine Kd.Jb ?_ _)|(with_reducible refine Kd.Gb ?_ _)|(with_reducible refine Kd.dc ?_)));(case ic=>exact af.out);(case Ed=>exact Kd.kQ _ _);(case Dd=>exact Nat.le_refl _);rintro e qE ⟨rfl,hb⟩;refine ⟨_,rfl,?_⟩;have Cb:=aa.mk (Xa (g:=za) (o:=.cells #[.slice xb Ma.length qb,.int .i64 La,.int .i64 Na,.int .i64 Ka,.slice Qb Ea.length Kb] 45 (0,0)) (by (with_reducible repeat (first|refine Aa ?_ _|refine Fa ?_|refine Ba ?_ _));exact ta.out) hb);have Lb:=aa.mk (Oa (by repeat (first|(with_reducible first|exact HB.out|apply oa|apply ia|apply qa|refine ua ?_ Ua.out)|exact HB.out)) hb);clear ta HB;have ta:=Cb;have HB:=Lb;clear Cb Lb;(try clear hb);(try clear Gj);(try clear hk);(try clear hi)))
   go_meet
   case rel=>exact ⟨_,(true),(by first|rfl|(simp;done)|(simp [*];done)),H',⟨by first|omega|exact Nat.le_refl _⟩,⟨by (with_reducible repeat (first|refine Aa ?_ _|refine Fa ?_|refine Ba ?_ _));exact ta.out⟩,⟨by repeat (first|(with_reducible first|exact HB.out|apply oa|apply ia|apply qa|refine ua ?_ Ua.out)|exact HB.out)⟩⟩
 case rest =>
  clear HC2
  try clear p2
  try clear c5
  try clear c7
  try clear c9
  try clear yz
  try clear xz
  try clear wz
  try clear uz
  try clear rz
  try clear Ql
  try clear Ol
  try clear Nl
  try clear Ml
  try clear Ll
  try clear Qt
  try clear Pt
  try clear Ot
  try clear Nt
  try clear Mt
  try clear LH
  try clear KH
  try clear JH
  try clear GH
  try clear FH
  try clear Ip
  try clear Hp
  try clear Gp
  try clear Fp
  try clear Ep
  try clear Xy
  try clear Wy
  try clear Vy
  try clear Uy
  try clear Ty
  try clear Kl
  try clear Jl
  try clear Il
  try clear Hl
  try clear Gl
  try clear Ft
  try clear Et
  try clear Dt
  try clear Ct
  try clear Bt
  try clear GG
  try clear FG
  try clear EG
  try clear DG
  try clear CG
  try clear Dp
  try clear Cp
  try clear Bp
  try clear Ap
  try clear yp
  obtain ⟨kq,ZM,rfl,HA,HJ1,ta,HB⟩:=hcut;cases kq with
  | zero=>exact absurd HA.out (by simp [Bc.j0])
  | succ kj1 =>
   have H:=HA.out;clear HA;simp only [Bc.j0] at H
   by_cases qw:ZM=true
   ·subst qw;have H1:(some false)=some r:=by rw [if_pos rfl] at H;exact H
    clear H;have H:=H1;clear H1;obtain rfl:=Option.some.inj H;go_wp2;go_ret;exact ⟨by first|rfl|(simp [Ra,Qa] <;> rfl)|(simp [*,Ra,Qa] <;> rfl),by repeat (first|(with_reducible first|exact HB.out|apply oa|apply ia|apply qa|refine ua ?_ Ua.out)|exact HB.out)⟩
   ·replace qw:=Bool.eq_false_iff.mpr qw;subst qw;have H1:(Bc.l0 kj1 0 Ea (Ea.length:Int) 0 Ma La Na Ka Ea)=some r:=by rw [if_neg (show ¬ (false=true) by decide)] at H;exact H
    clear H;have H:=H1;clear H1;have H':=aa.mk H;clear H;have Wv:wc.cell? ⟨za,0,none⟩=some (.slice xb Ma.length qb):=(ja ta.out 0).trans rfl;have Vv:wc.cell? ⟨za,1,none⟩=some (.int .i64 La):=(ja ta.out 1).trans rfl;have Uv:wc.cell? ⟨za,2,none⟩=some (.int .i64 Na):=(ja ta.out 2).trans rfl;have Tv:wc.cell? ⟨za,3,none⟩=some (.int .i64 Ka):=(ja ta.out 3).trans rfl;have Sv:wc.cell? ⟨za,4,none⟩=some (.slice Qb Ea.length Kb):=(ja ta.out 4).trans rfl;have Hv:=ga ta.out 0;have Gv:=ga ta.out 1;have Fv:=ga ta.out 2;have Dv:=ga ta.out 3;have Cv:=ga ta.out 4;go_wp2
    go_loopg [3,33] kj1 (fun kq v3 v33 w'=>∃ (Ck:Int) (ye:Int),v3 = .int .i64 Ck∧v33 = .int .i64 ye∧aa (Bc.l0 kq Ck Ea (Ea.length:Int) ye Ma La Na Ka Ea=some r)∧aa (kq ≤ kj1)∧aa (w'.heap[za]? = some (.cells #[(.slice xb Ma.length qb),.int .i64 La,.int .i64 Na,.int .i64 Ka,(.slice Qb Ea.length Kb)] 45 (0,0)))∧aa (Below w.heap.size w w'))
    case atStart=>exact ⟨(0),(0),(by first|rfl|(simp;done)|(simp [*];done)),(by first|rfl|(simp;done)|(simp [*];done)),H',⟨Nat.le_refl _⟩,⟨by (with_reducible repeat (first|refine Aa ?_ _|refine Fa ?_|refine Ba ?_ _));exact ta.out⟩,⟨by repeat (first|(with_reducible first|exact HB.out|apply oa|apply ia|apply qa|refine ua ?_ Ua.out)|exact HB.out)⟩⟩
    case round =>
     clear H'
     try clear c1
     try clear p2
     try clear c5
     try clear c7
     try clear c9
     try clear qw
     try clear yz
     try clear xz
     try clear wz
     try clear uz
     try clear rz
     try clear Ql
     try clear Ol
     try clear Nl
     try clear Ml
     try clear Ll
     try clear Qt
     try clear Pt
     try clear Ot
     try clear Nt
     try clear Mt
     try clear LH
     try clear KH
     try clear JH
     try clear GH
     try clear FH
     try clear Wv
     try clear Vv
     try clear Uv
     try clear Tv
     try clear Sv
     try clear Ip
     try clear Hp
     try clear Gp
     try clear Fp
     try clear Ep
     try clear Xy
     try clear Wy
     try clear Vy
     try clear Uy
     try clear Ty
     try clear Kl
     try clear Jl
     try clear Il
     try clear Hl
     try clear Gl
     try clear Ft
     try clear Et
     try clear Dt
     try clear Ct
     try clear Bt
     try clear GG
     try clear FG
     try clear EG
     try clear DG
     try clear CG
     try clear Hv
     try clear Gv
     try clear Fv
     try clear Dv
     try clear Cv
     try clear Dp
     try clear Cp
     try clear Bp
     try clear Ap
     try clear yp
     try clear p2
     (try clear HA);(try clear Qk);(try clear ta);(try clear HB);obtain ⟨Ck,ye,rfl,rfl,HA,Qk,ta,HB⟩:=hrel;cases gk with
     | zero=>exact absurd HA.out (by simp [Bc.l0])
     | succ k2 =>
      have H:=HA.out;clear HA;simp only [Bc.l0] at H
      by_cases gw:ye < (Ea.length:Int)
      ·rw [if_pos gw] at H;have QA:decide (ye < (Ea.length:Int))=true:=decide_eq_true gw;clear gw
       by_cases Qz:0 ≤ ye
       ·rw [if_pos Qz] at H;have wU:decide (0 ≤ ye)=true:=decide_eq_true Qz;clear Qz
        by_cases fE:ye < (Ea.length:Int)
        ·rw [if_pos fE] at H;have vK:decide (ye < (Ea.length:Int))=true:=decide_eq_true fE;clear fE;replace H:=Option.bind_eq_some_iff.mp H;obtain ⟨t107,iV,H⟩:=H;replace H:(if t107=true then (Bc.l0 k2 (wrap64 (Ck + (((Ta Ea ye).f0).length:Int))) Ea (Ea.length:Int) (wrap64 (ye + 1)) Ma La Na Ka Ea) else (some false))=some r:=H;have o5:=aa.mk iV;clear iV
         by_cases Dw:t107=true
         ·subst Dw;have H1:(Bc.l0 k2 (wrap64 (Ck + (((Ta Ea ye).f0).length:Int))) Ea (Ea.length:Int) (wrap64 (ye + 1)) Ma La Na Ka Ea)=some r:=by rw [if_pos rfl] at H;exact H
          clear H;have H:=H1;clear H1;have H':=aa.mk H;clear H;have LL:0 ≤ (ye:Int):=Pa;have FL:ye < (Ea.length:Int):=Pa;obtain ⟨Ns,Xn,Un,F8,Rx,Qx,Px,Ox,Nx,yy,Cy⟩:=Nk Xf.out ye LL FL;cases F8;replace Rx:=Sa HB.out Rx;replace Qx:=Sa HB.out Qx;replace Px:=Sa HB.out Px;replace Ox:=Sa HB.out Ox;replace Nx:=Sa HB.out Nx;have zI:=aa.mk Cy;have GI:=aa.mk yy;clear Cy yy;replace LL:=eq_true LL;replace FL:=eq_true FL;go_wp2_with (first|((with_reducible refine Bb (N:=5) rfl ?_);(try (refine Jj (by rfl) ?_;dsimp only));refine Ob ?hg (N:=5) ?hd (cs:=#[.slice none 0 0,.int .i64 0,.int .i64 0,.int .i64 0,.int .i64 0]) (t:=83) ?hr ?_;(case hd=>rfl);(case hg=>rfl);(case hr=>first|(go_simp;done)|(go_simp;rfl));intro yl hg RR oc hb;have Cb:=aa.mk (Xa (g:=za) (o:=.cells #[.slice xb Ma.length qb,.int .i64 La,.int .i64 Na,.int .i64 Ka,.slice (some Ns) Ea.length Kb] 45 (0,0)) (by (with_reducible repeat (first|refine Aa ?_ _|refine Fa ?_|refine Ba ?_ _));exact ta.out) hb);have Lb:=aa.mk (Oa (by repeat (first|(with_reducible first|exact HB.out|apply oa|apply ia|apply qa|refine ua ?_ Ua.out)|exact HB.out)) hb);have Pb:=aa.mk (oc);have Ec:=aa.mk ((by rw [hg];exact (Ja (by repeat (first|(with_reducible first|exact HB.out|apply oa|apply ia|apply qa|refine ua ?_ Ua.out)|exact HB.out))):w.heap.size ≤ yl));have fe:=aa.mk ((by rw [hg];exact (Ja (by repeat (first|(with_reducible first|exact HB.out|apply oa|apply ia|apply qa|refine ua ?_ Ua.out)|exact HB.out))):w.heap.size ≤ yl));have Af:=aa.mk ((by rw [hg];exact Nat.ne_of_lt (qd (g:=za) (o:=.cells #[.slice xb Ma.length qb,.int .i64 La,.int .i64 Na,.int .i64 Ka,.slice (some Ns) Ea.length Kb] 45 (0,0)) (by (with_reducible repeat (first|refine Aa ?_ _|refine Fa ?_|refine Ba ?_ _));exact ta.out)):za ≠ yl));have Ah:=aa.mk ((by rw [hg];exact Nat.ne_of_gt (qd (g:=za) (o:=.cells #[.slice xb Ma.length qb,.int .i64 La,.int .i64 Na,.int .i64 Ka,.slice (some Ns) Ea.length Kb] 45 (0,0)) (by (with_reducible repeat (first|refine Aa ?_ _|refine Fa ?_|refine Ba ?_ _));exact ta.out)):yl ≠ za));clear ta HB;have ta:=Cb;have HB:=Lb;have tj:=Pb;have Sag:=Ec;have Xu:=fe;have ai:=Af;have vA:=Ah;clear Cb Lb Pb Ec fe Af Ah hb oc hg;have Waa:=vA.out;have Naa:=ai.out;have dz:RR.cell? ⟨yl,0,none⟩=some (.slice none 0 0):=(ja tj.out 0).trans rfl;have cz:RR.cell? ⟨yl,1,none⟩=some (.int .i64 0):=(ja tj.out 1).trans rfl;have bz:RR.cell? ⟨yl,2,none⟩=some (.int .i64 0):=(ja tj.out 2).trans rfl;have az:RR.cell? ⟨yl,3,none⟩=some (.int .i64 0):=(ja tj.out 3).trans rfl;have Zy:RR.cell? ⟨yl,4,none⟩=some (.int .i64 0):=(ja tj.out 4).trans rfl;have Hy:=ga tj.out 0;have Gy:=ga tj.out 1;have Fy:=ga tj.out 2;have Ey:=ga tj.out 3;have Dy:=ga tj.out 4;have lC:RR.cell? ⟨za,0,none⟩=some (.slice xb Ma.length qb):=(ja ta.out 0).trans rfl;have kC:RR.cell? ⟨za,1,none⟩=some (.int .i64 La):=(ja ta.out 1).trans rfl;have jC:RR.cell? ⟨za,2,none⟩=some (.int .i64 Na):=(ja ta.out 2).trans rfl;have iC:RR.cell? ⟨za,3,none⟩=some (.int .i64 Ka):=(ja ta.out 3).trans rfl;have fC:RR.cell? ⟨za,4,none⟩=some (.slice (some Ns) Ea.length Kb):=(ja ta.out 4).trans rfl;have OB:=ga ta.out 0;have NB:=ga ta.out 1;have MB:=ga ta.out 2;have LB:=ga ta.out 3;have KB:=ga ta.out 4)|((with_reducible refine Ab (f:=104) rfl ?_);refine Uc (some 44) rfl rfl Try.func104 (by kernel_rfl) rfl #[.agg #[.slice xb Ma.length qb,.int .i64 La,.int .i64 Na,.int .i64 Ka,.slice (some Ns) Ea.length Kb],.agg #[.slice Xn ((Ta Ea ye).f0).length Un,.int .i64 ((Ta Ea ye).f1),.int .i64 ((Ta Ea ye).f2),.int .i64 ((Ta Ea ye).f3),.int .i64 ((Ta Ea ye).f4)]] rfl (by (try simp only [List.map_toArray,List.map_cons,List.map_nil]);first|done|rfl|(simp only [List.length_drop,List.length_take];rfl)) ?_;(with_reducible refine (Dj.calls _ _ Ma La Na Ka _ _ Ea _ _ ((Ta Ea ye).f0) ((Ta Ea ye).f1) ((Ta Ea ye).f2) ((Ta Ea ye).f3) ((Ta Ea ye).f4) true _ ?jc ?ic ?Ed ?Dd ?Fx ?Ex o5.out).mono ?_);(case jc=>exact Kd.Ib Ue.out (by repeat (first|(with_reducible first|exact HB.out|apply oa|apply ia|apply qa|refine ua ?_ Ua.out|refine ua ?_ Xu.out)|exact HB.out)));(case ic=>exact af.out);(case Ed=>exact Kd.Ib Xf.out (by repeat (first|(with_reducible first|exact HB.out|apply oa|apply ia|apply qa|refine ua ?_ Ua.out|refine ua ?_ Xu.out)|exact HB.out)));(case Dd=>exact Zg.out);(case Fx=>exact Kd.Ib zI.out (by repeat (first|(with_reducible first|exact HB.out|apply oa|apply ia|apply qa|refine ua ?_ Ua.out|refine ua ?_ Xu.out)|exact HB.out)));(case Ex=>exact GI.out);rintro e pL ⟨rfl,hb⟩;refine ⟨_,rfl,?_⟩;have Cb:=aa.mk (Xa (g:=za) (o:=.cells #[.slice xb Ma.length qb,.int .i64 La,.int .i64 Na,.int .i64 Ka,.slice (some Ns) Ea.length Kb] 45 (0,0)) (by (with_reducible repeat (first|refine Aa ?_ _|refine Fa ?_|refine Ba ?_ _));refine Qe ?_ ai.out _;(with_reducible repeat (first|refine Aa ?_ _|refine Fa ?_|refine Ba ?_ _));refine Qe ?_ ai.out _;(with_reducible repeat (first|refine Aa ?_ _|refine Fa ?_|refine Ba ?_ _));refine Qe ?_ ai.out _;(with_reducible repeat (first|refine Aa ?_ _|refine Fa ?_|refine Ba ?_ _));refine Qe ?_ ai.out _;(with_reducible repeat (first|refine Aa ?_ _|refine Fa ?_|refine Ba ?_ _));refine Qe ?_ ai.out _;(with_reducible repeat (first|refine Aa ?_ _|refine Fa ?_|refine Ba ?_ _));exact ta.out) hb);have Lb:=aa.mk (Xa (g:=yl) (o:=.cells #[.slice Xn ((Ta Ea ye).f0).length Un,.int .i64 ((Ta Ea ye).f1),.int .i64 ((Ta Ea ye).f2),.int .i64 ((Ta Ea ye).f3),.int .i64 ((Ta Ea ye).f4)] 83 (0,0)) (by (with_reducible repeat (first|refine Aa ?_ _|refine Fa ?_|refine Ba ?_ _));refine bf (cs:=#[.slice Xn ((Ta Ea ye).f0).length Un,.int .i64 ((Ta Ea ye).f1),.int .i64 ((Ta Ea ye).f2),.int .i64 ((Ta Ea ye).f3),.int .i64 0]) ?_ 4 _ rfl;(with_reducible repeat (first|refine Aa ?_ _|refine Fa ?_|refine Ba ?_ _));refine bf (cs:=#[.slice Xn ((Ta Ea ye).f0).length Un,.int .i64 ((Ta Ea ye).f1),.int .i64 ((Ta Ea ye).f2),.int .i64 0,.int .i64 0]) ?_ 3 _ rfl;(with_reducible repeat (first|refine Aa ?_ _|refine Fa ?_|refine Ba ?_ _));refine bf (cs:=#[.slice Xn ((Ta Ea ye).f0).length Un,.int .i64 ((Ta Ea ye).f1),.int .i64 0,.int .i64 0,.int .i64 0]) ?_ 2 _ rfl;(with_reducible repeat (first|refine Aa ?_ _|refine Fa ?_|refine Ba ?_ _));refine bf (cs:=#[.slice Xn ((Ta Ea ye).f0).length Un,.int .i64 0,.int .i64 0,.int .i64 0,.int .i64 0]) ?_ 1 _ rfl;(with_reducible repeat (first|refine Aa ?_ _|refine Fa ?_|refine Ba ?_ _));refine bf (cs:=#[.slice none 0 0,.int .i64 0,.int .i64 0,.int .i64 0,.int .i64 0]) ?_ 0 _ rfl;(with_reducible repeat (first|refine Aa ?_ _|refine Fa ?_|refine Ba ?_ _));exact tj.out) hb);have Pb:=aa.mk (Oa (by repeat (first|(with_reducible first|exact HB.out|apply oa|apply ia|apply qa|refine ua ?_ Ua.out|refine ua ?_ Xu.out)|exact HB.out)) hb);clear ta tj HB;have ta:=Cb;have tj:=Lb;have HB:=Pb;clear Cb Lb Pb;(try clear hb);(try clear Gj);(try clear hk);(try clear hi)))
          go_roundg k2
          case measure=>have:=HJ1.out;have:=Qk.out;omega
          case rel=>exact ⟨(wrap64 (Ck + (((Ta Ea ye).f0).length:Int))),(wrap64 (ye + 1)),(by first|rfl|(simp;done)|(simp [*];done)),(by first|rfl|(simp;done)|(simp [*];done)),H',⟨by have:=HJ1.out;have:=Qk.out;omega⟩,⟨by (with_reducible repeat (first|refine Aa ?_ _|refine Fa ?_|refine Ba ?_ _));exact ta.out⟩,⟨by repeat (first|(with_reducible first|exact HB.out|apply oa|apply ia|apply qa|refine ua ?_ Ua.out|refine ua ?_ Xu.out)|exact HB.out)⟩⟩
         ·replace Dw:=Bool.eq_false_iff.mpr Dw;subst Dw;have H1:(some false)=some r:=by rw [if_neg (show ¬ (false=true) by decide)] at H;exact H
          clear H;have H:=H1;clear H1;obtain rfl:=Option.some.inj H;have LL:0 ≤ (ye:Int):=Pa;have FL:ye < (Ea.length:Int):=Pa;obtain ⟨Ns,Xn,Un,F8,Rx,Qx,Px,Ox,Nx,yy,Cy⟩:=Nk Xf.out ye LL FL;cases F8;replace Rx:=Sa HB.out Rx;replace Qx:=Sa HB.out Qx;replace Px:=Sa HB.out Px;replace Ox:=Sa HB.out Ox;replace Nx:=Sa HB.out Nx;have zI:=aa.mk Cy;have GI:=aa.mk yy;clear Cy yy;replace LL:=eq_true LL;replace FL:=eq_true FL;go_wp2_with (first|((with_reducible refine Bb (N:=5) rfl ?_);(try (refine Jj (by rfl) ?_;dsimp only));refine Ob ?hg (N:=5) ?hd (cs:=#[.slice none 0 0,.int .i64 0,.int .i64 0,.int .i64 0,.int .i64 0]) (t:=83) ?hr ?_;(case hd=>rfl);(case hg=>rfl);(case hr=>first|(go_simp;done)|(go_simp;rfl));intro yl hg sV oc hb;have Cb:=aa.mk (Xa (g:=za) (o:=.cells #[.slice xb Ma.length qb,.int .i64 La,.int .i64 Na,.int .i64 Ka,.slice (some Ns) Ea.length Kb] 45 (0,0)) (by (with_reducible repeat (first|refine Aa ?_ _|refine Fa ?_|refine Ba ?_ _));exact ta.out) hb);have Lb:=aa.mk (Oa (by repeat (first|(with_reducible first|exact HB.out|apply oa|apply ia|apply qa|refine ua ?_ Ua.out)|exact HB.out)) hb);have Pb:=aa.mk (oc);have Ec:=aa.mk ((by rw [hg];exact (Ja (by repeat (first|(with_reducible first|exact HB.out|apply oa|apply ia|apply qa|refine ua ?_ Ua.out)|exact HB.out))):w.heap.size ≤ yl));have fe:=aa.mk ((by rw [hg];exact (Ja (by repeat (first|(with_reducible first|exact HB.out|apply oa|apply ia|apply qa|refine ua ?_ Ua.out)|exact HB.out))):w.heap.size ≤ yl));have Af:=aa.mk ((by rw [hg];exact Nat.ne_of_lt (qd (g:=za) (o:=.cells #[.slice xb Ma.length qb,.int .i64 La,.int .i64 Na,.int .i64 Ka,.slice (some Ns) Ea.length Kb] 45 (0,0)) (by (with_reducible repeat (first|refine Aa ?_ _|refine Fa ?_|refine Ba ?_ _));exact ta.out)):za ≠ yl));have Ah:=aa.mk ((by rw [hg];exact Nat.ne_of_gt (qd (g:=za) (o:=.cells #[.slice xb Ma.length qb,.int .i64 La,.int .i64 Na,.int .i64 Ka,.slice (some Ns) Ea.length Kb] 45 (0,0)) (by (with_reducible repeat (first|refine Aa ?_ _|refine Fa ?_|refine Ba ?_ _));exact ta.out)):yl ≠ za));clear ta HB;have ta:=Cb;have HB:=Lb;have tj:=Pb;have Sag:=Ec;have Xu:=fe;have ai:=Af;have vA:=Ah;clear Cb Lb Pb Ec fe Af Ah hb oc hg;have Kav:=vA.out;have cav:=ai.out;have uH:sV.cell? ⟨yl,0,none⟩=some (.slice none 0 0):=(ja tj.out 0).trans rfl;have tH:sV.cell? ⟨yl,1,none⟩=some (.int .i64 0):=(ja tj.out 1).trans rfl;have sH:sV.cell? ⟨yl,2,none⟩=some (.int .i64 0):=(ja tj.out 2).trans rfl;have rH:sV.cell? ⟨yl,3,none⟩=some (.int .i64 0):=(ja tj.out 3).trans rfl;have qH:sV.cell? ⟨yl,4,none⟩=some (.int .i64 0):=(ja tj.out 4).trans rfl;have qG:=ga tj.out 0;have pG:=ga tj.out 1;have oG:=ga tj.out 2;have nG:=ga tj.out 3;have mG:=ga tj.out 4;have pH:sV.cell? ⟨za,0,none⟩=some (.slice xb Ma.length qb):=(ja ta.out 0).trans rfl;have oH:sV.cell? ⟨za,1,none⟩=some (.int .i64 La):=(ja ta.out 1).trans rfl;have nH:sV.cell? ⟨za,2,none⟩=some (.int .i64 Na):=(ja ta.out 2).trans rfl;have mH:sV.cell? ⟨za,3,none⟩=some (.int .i64 Ka):=(ja ta.out 3).trans rfl;have lH:sV.cell? ⟨za,4,none⟩=some (.slice (some Ns) Ea.length Kb):=(ja ta.out 4).trans rfl;have lG:=ga ta.out 0;have kG:=ga ta.out 1;have jG:=ga ta.out 2;have iG:=ga ta.out 3;have gG:=ga ta.out 4)|((with_reducible refine Ab (f:=104) rfl ?_);refine Uc (some 44) rfl rfl Try.func104 (by kernel_rfl) rfl #[.agg #[.slice xb Ma.length qb,.int .i64 La,.int .i64 Na,.int .i64 Ka,.slice (some Ns) Ea.length Kb],.agg #[.slice Xn ((Ta Ea ye).f0).length Un,.int .i64 ((Ta Ea ye).f1),.int .i64 ((Ta Ea ye).f2),.int .i64 ((Ta Ea ye).f3),.int .i64 ((Ta Ea ye).f4)]] rfl (by (try simp only [List.map_toArray,List.map_cons,List.map_nil]);first|done|rfl|(simp only [List.length_drop,List.length_take];rfl)) ?_;(with_reducible refine (Dj.calls _ _ Ma La Na Ka _ _ Ea _ _ ((Ta Ea ye).f0) ((Ta Ea ye).f1) ((Ta Ea ye).f2) ((Ta Ea ye).f3) ((Ta Ea ye).f4) false _ ?jc ?ic ?Ed ?Dd ?Fx ?Ex o5.out).mono ?_);(case jc=>exact Kd.Ib Ue.out (by repeat (first|(with_reducible first|exact HB.out|apply oa|apply ia|apply qa|refine ua ?_ Ua.out|refine ua ?_ Xu.out)|exact HB.out)));(case ic=>exact af.out);(case Ed=>exact Kd.Ib Xf.out (by repeat (first|(with_reducible first|exact HB.out|apply oa|apply ia|apply qa|refine ua ?_ Ua.out|refine ua ?_ Xu.out)|exact HB.out)));(case Dd=>exact Zg.out);(case Fx=>exact Kd.Ib zI.out (by repeat (first|(with_reducible first|exact HB.out|apply oa|apply ia|apply qa|refine ua ?_ Ua.out|refine ua ?_ Xu.out)|exact HB.out)));(case Ex=>exact GI.out);rintro e AR ⟨rfl,hb⟩;refine ⟨_,rfl,?_⟩;have Cb:=aa.mk (Xa (g:=za) (o:=.cells #[.slice xb Ma.length qb,.int .i64 La,.int .i64 Na,.int .i64 Ka,.slice (some Ns) Ea.length Kb] 45 (0,0)) (by (with_reducible repeat (first|refine Aa ?_ _|refine Fa ?_|refine Ba ?_ _));refine Qe ?_ ai.out _;(with_reducible repeat (first|refine Aa ?_ _|refine Fa ?_|refine Ba ?_ _));refine Qe ?_ ai.out _;(with_reducible repeat (first|refine Aa ?_ _|refine Fa ?_|refine Ba ?_ _));refine Qe ?_ ai.out _;(with_reducible repeat (first|refine Aa ?_ _|refine Fa ?_|refine Ba ?_ _));refine Qe ?_ ai.out _;(with_reducible repeat (first|refine Aa ?_ _|refine Fa ?_|refine Ba ?_ _));refine Qe ?_ ai.out _;(with_reducible repeat (first|refine Aa ?_ _|refine Fa ?_|refine Ba ?_ _));exact ta.out) hb);have Lb:=aa.mk (Xa (g:=yl) (o:=.cells #[.slice Xn ((Ta Ea ye).f0).length Un,.int .i64 ((Ta Ea ye).f1),.int .i64 ((Ta Ea ye).f2),.int .i64 ((Ta Ea ye).f3),.int .i64 ((Ta Ea ye).f4)] 83 (0,0)) (by (with_reducible repeat (first|refine Aa ?_ _|refine Fa ?_|refine Ba ?_ _));refine bf (cs:=#[.slice Xn ((Ta Ea ye).f0).length Un,.int .i64 ((Ta Ea ye).f1),.int .i64 ((Ta Ea ye).f2),.int .i64 ((Ta Ea ye).f3),.int .i64 0]) ?_ 4 _ rfl;(with_reducible repeat (first|refine Aa ?_ _|refine Fa ?_|refine Ba ?_ _));refine bf (cs:=#[.slice Xn ((Ta Ea ye).f0).length Un,.int .i64 ((Ta Ea ye).f1),.int .i64 ((Ta Ea ye).f2),.int .i64 0,.int .i64 0]) ?_ 3 _ rfl;(with_reducible repeat (first|refine Aa ?_ _|refine Fa ?_|refine Ba ?_ _));refine bf (cs:=#[.slice Xn ((Ta Ea ye).f0).length Un,.int .i64 ((Ta Ea ye).f1),.int .i64 0,.int .i64 0,.int .i64 0]) ?_ 2 _ rfl;(with_reducible repeat (first|refine Aa ?_ _|refine Fa ?_|refine Ba ?_ _));refine bf (cs:=#[.slice Xn ((Ta Ea ye).f0).length Un,.int .i64 0,.int .i64 0,.int .i64 0,.int .i64 0]) ?_ 1 _ rfl;(with_reducible repeat (first|refine Aa ?_ _|refine Fa ?_|refine Ba ?_ _));refine bf (cs:=#[.slice none 0 0,.int .i64 0,.int .i64 0,.int .i64 0,.int .i64 0]) ?_ 0 _ rfl;(with_reducible repeat (first|refine Aa ?_ _|refine Fa ?_|refine Ba ?_ _));exact tj.out) hb);have Pb:=aa.mk (Oa (by repeat (first|(with_reducible first|exact HB.out|apply oa|apply ia|apply qa|refine ua ?_ Ua.out|refine ua ?_ Xu.out)|exact HB.out)) hb);clear ta tj HB;have ta:=Cb;have tj:=Lb;have HB:=Pb;clear Cb Lb Pb;(try clear hb);(try clear Gj);(try clear hk);(try clear hi)));go_ret;exact ⟨by first|rfl|(simp [Ra,Qa] <;> rfl)|(simp [*,Ra,Qa] <;> rfl),by repeat (first|(with_reducible first|exact HB.out|apply oa|apply ia|apply qa|refine ua ?_ Ua.out|refine ua ?_ Xu.out)|exact HB.out)⟩
        ·rw [if_neg fE] at H;exact absurd H (by simp)
       ·rw [if_neg Qz] at H;exact absurd H (by simp)
      ·rw [if_neg gw] at H;have QA:decide (ye < (Ea.length:Int))=false:=decide_eq_false gw;clear gw;obtain rfl:=Option.some.inj H;go_wp2;go_ret;exact ⟨by first|rfl|(simp [Ra,Qa] <;> rfl)|(simp [*,Ra,Qa] <;> rfl),by repeat (first|(with_reducible first|exact HB.out|apply oa|apply ia|apply qa|refine ua ?_ Ua.out)|exact HB.out)⟩
def bg.f (Ma:List (ud)) (La:Int) (Na:Int) (Ka:Int) (Pc:Int):Option (List Int):=if La=0 then (some (([Ka]:List Int))) else (if La=1 then (some (([Ka,Pc]:List Int))) else (some ([]:List Int)))
theorem bg.calls (xb:Option Addr) (qb:Nat) (Ma:List (ud)) (La:Int) (Na:Int) (Ka:Int) (Pc:Int) (r:List Int) (w:World) (Re:Kd.C sg w xb Ma.length Ma) (Pe:Ma.length ≤ qb) (h:bg.f Ma La Na Ka Pc=some r) :
  Calls Try.prog 75 #[.agg #[.slice xb Ma.length qb,.int .i64 La,.int .i64 Na,.int .i64 Ka,.int .i64 Pc]] w fun e w'=>∃ Kp:Value,e = .returned (Kp)∧Kd.R (Kd.int .i64) 3 w' w.heap.size (fun _=>True) Kp r∧Below w.heap.size w w':=by
 have dA:=Try.underlying83;have Ue:=aa.mk Re;have af:=aa.mk Pe;clear Re Pe;have HB:=aa.mk (Below.refl w.heap.size w);have H:(if La=0 then (some (([Ka]:List Int))) else (if La=1 then (some (([Ka,Pc]:List Int))) else (some ([]:List Int))))=some r:=h;clear h
 by_cases c2:La=0
 ·rw [if_pos c2] at H;have Yt:(La == 0)=true:=beq_iff_eq.mpr c2;have ow:(La != 0)=false:=bne_eq_false_iff_eq.mpr c2;clear c2;obtain ⟨ze,xg⟩:∃ y_:List Int,y_=(([Ka]:List Int)):=⟨_,rfl⟩;replace H:(some ze)=some r:=by first|(rw [xg];with_reducible exact H)|(have Ud:=(Option.bind_some _ _).symm.trans H;rw [xg];with_reducible exact Ud)|(have Ud:=(Option.bind_some _ _).symm.trans H;with_reducible exact Ud)|with_reducible exact H|(rw [xg];exact H)|exact H
  have Fh:=aa.mk xg;clear xg;obtain rfl:=Option.some.inj H;go_enter Try.func75,Try.ntmps75;go_wp2_with (first|((with_reducible refine Bb (N:=1) rfl ?_);refine Ob ?hg (N:=1) ?hd (cs:=#[.slice xb Ma.length qb,.int .i64 La,.int .i64 Na,.int .i64 Ka,.int .i64 Pc]) (t:=83) ?hr ?_;(case hd=>rfl);(case hg=>rfl);(case hr=>first|(go_simp;done)|(go_simp;rfl));intro za hg w3 oc hb;have Cb:=aa.mk (Oa (by repeat (first|(with_reducible first|exact HB.out|apply oa|apply ia|apply qa)|exact HB.out)) hb);have Lb:=aa.mk (oc);have Pb:=aa.mk ((by rw [hg];exact (Ja (by repeat (first|(with_reducible first|exact HB.out|apply oa|apply ia|apply qa)|exact HB.out))):w.heap.size ≤ za));have Ec:=aa.mk ((by rw [hg];exact (Ja (by repeat (first|(with_reducible first|exact HB.out|apply oa|apply ia|apply qa)|exact HB.out))):w.heap.size ≤ za));clear HB;have HB:=Cb;have ta:=Lb;have He:=Pb;have Ua:=Ec;clear Cb Lb Pb Ec hb oc hg;have M7:w3.cell? ⟨za,0,none⟩=some (.slice xb Ma.length qb):=(ja ta.out 0).trans rfl;have L7:w3.cell? ⟨za,1,none⟩=some (.int .i64 La):=(ja ta.out 1).trans rfl;have K7:w3.cell? ⟨za,2,none⟩=some (.int .i64 Na):=(ja ta.out 2).trans rfl;have J7:w3.cell? ⟨za,3,none⟩=some (.int .i64 Ka):=(ja ta.out 3).trans rfl;have I7:w3.cell? ⟨za,4,none⟩=some (.int .i64 Pc):=(ja ta.out 4).trans rfl;have j7:=ga ta.out 0;have e7:=ga ta.out 1;have Z6:=ga ta.out 2;have Y6:=ga ta.out 3;have X6:=ga ta.out 4)|((with_reducible refine Bb (N:=9) rfl ?_);refine Kd.Bl (Kd.int .i64) _ 3 ?hg (N:=9) ?hd (xs:=([Ka]:List Int)) (inner:=[.int .i64 Ka]) (ok:=fun _=>True) (Oh:=fun _=>True) ?hr ?hp (fun _ hk=>hk) trivial (Below.refl _ _) (Nat.le_refl _) (by simp) ?_;(case hd=>rfl);(case hg=>rfl);(case hr=>first|(go_simp;done)|(go_simp;rfl));(case hp=>exact (Td.one (show Kd.M (Kd.int .i64) _ _ _ Ka [.int .i64 Ka] from rfl) (Td.none _ _)));intro Ji w5 yJ hb gl Ee;clear gl Ee;(first|rw [← Fh.out] at yJ|(simp only [Int.reduceToNat] at yJ;rw [← Fh.out] at yJ));have Cb:=aa.mk (Kd.xe yJ (Ja (by repeat (first|(with_reducible first|exact HB.out|apply oa|apply ia|apply qa|refine ua ?_ Ua.out)|exact HB.out))));have Lb:=aa.mk (Xa (g:=za) (o:=.cells #[.slice xb Ma.length qb,.int .i64 La,.int .i64 Na,.int .i64 Ka,.int .i64 Pc] 83 (0,0)) (by (with_reducible repeat (first|refine Aa ?_ _|refine Fa ?_|refine Ba ?_ _));exact ta.out) hb);have Pb:=aa.mk (Oa (by repeat (first|(with_reducible first|exact HB.out|apply oa|apply ia|apply qa|refine ua ?_ Ua.out)|exact HB.out)) hb);clear ta HB;have ee:=Cb;have ta:=Lb;have HB:=Pb;clear Cb Lb Pb hb yJ));go_ret;exact ⟨_,by first|rfl|(simp [Ra,Qa] <;> rfl)|(simp [*,Ra,Qa] <;> rfl),by (with_reducible repeat (first|apply Kd.Va|apply Kd.Wa|apply Kd.jb));exact ee.out,by repeat (first|(with_reducible first|exact HB.out|apply oa|apply ia|apply qa|refine ua ?_ Ua.out)|exact HB.out)⟩
 ·rw [if_neg c2] at H;have Yt:(La == 0)=false:=beq_eq_false_iff_ne.mpr c2;have ow:(La != 0)=true:=bne_iff_ne.mpr c2
  by_cases c7:La=1
  ·rw [if_pos c7] at H;have Xt:(La == 1)=true:=beq_iff_eq.mpr c7;have nD:(La != 1)=false:=bne_eq_false_iff_eq.mpr c7;clear c7;obtain ⟨ef,yh⟩:∃ y_:List Int,y_=(([Ka,Pc]:List Int)):=⟨_,rfl⟩;replace H:(some ef)=some r:=by first|(rw [yh];with_reducible exact H)|(have Ud:=(Option.bind_some _ _).symm.trans H;rw [yh];with_reducible exact Ud)|(have Ud:=(Option.bind_some _ _).symm.trans H;with_reducible exact Ud)|with_reducible exact H|(rw [yh];exact H)|exact H
   have Br:=aa.mk yh;clear yh;obtain rfl:=Option.some.inj H;go_enter Try.func75,Try.ntmps75;go_wp2_with (first|((with_reducible refine Bb (N:=1) rfl ?_);refine Ob ?hg (N:=1) ?hd (cs:=#[.slice xb Ma.length qb,.int .i64 La,.int .i64 Na,.int .i64 Ka,.int .i64 Pc]) (t:=83) ?hr ?_;(case hd=>rfl);(case hg=>rfl);(case hr=>first|(go_simp;done)|(go_simp;rfl));intro za hg w8 oc hb;have Cb:=aa.mk (Oa (by repeat (first|(with_reducible first|exact HB.out|apply oa|apply ia|apply qa)|exact HB.out)) hb);have Lb:=aa.mk (oc);have Pb:=aa.mk ((by rw [hg];exact (Ja (by repeat (first|(with_reducible first|exact HB.out|apply oa|apply ia|apply qa)|exact HB.out))):w.heap.size ≤ za));have Ec:=aa.mk ((by rw [hg];exact (Ja (by repeat (first|(with_reducible first|exact HB.out|apply oa|apply ia|apply qa)|exact HB.out))):w.heap.size ≤ za));clear HB;have HB:=Cb;have ta:=Lb;have He:=Pb;have Ua:=Ec;clear Cb Lb Pb Ec hb oc hg;have Ip:w8.cell? ⟨za,0,none⟩=some (.slice xb Ma.length qb):=(ja ta.out 0).trans rfl;have Hp:w8.cell? ⟨za,1,none⟩=some (.int .i64 La):=(ja ta.out 1).trans rfl;have Gp:w8.cell? ⟨za,2,none⟩=some (.int .i64 Na):=(ja ta.out 2).trans rfl;have Fp:w8.cell? ⟨za,3,none⟩=some (.int .i64 Ka):=(ja ta.out 3).trans rfl;have Ep:w8.cell? ⟨za,4,none⟩=some (.int .i64 Pc):=(ja ta.out 4).trans rfl;have Dp:=ga ta.out 0;have Cp:=ga ta.out 1;have Bp:=ga ta.out 2;have Ap:=ga ta.out 3;have yp:=ga ta.out 4)|((with_reducible refine Bb (N:=16) rfl ?_);refine Kd.Bl (Kd.int .i64) _ 3 ?hg (N:=16) ?hd (xs:=([Ka,Pc]:List Int)) (inner:=[.int .i64 Ka,.int .i64 Pc]) (ok:=fun _=>True) (Oh:=fun _=>True) ?hr ?hp (fun _ hk=>hk) trivial (Below.refl _ _) (Nat.le_refl _) (by simp) ?_;(case hd=>rfl);(case hg=>rfl);(case hr=>first|(go_simp;done)|(go_simp;rfl));(case hp=>exact (Td.one (show Kd.M (Kd.int .i64) _ _ _ Ka [.int .i64 Ka] from rfl) (Td.one (show Kd.M (Kd.int .i64) _ _ _ Pc [.int .i64 Pc] from rfl) (Td.none _ _))));intro QD Nq xp hb gl Ee;clear gl Ee;(first|rw [← Br.out] at xp|(simp only [Int.reduceToNat] at xp;rw [← Br.out] at xp));have Cb:=aa.mk (Kd.xe xp (Ja (by repeat (first|(with_reducible first|exact HB.out|apply oa|apply ia|apply qa|refine ua ?_ Ua.out)|exact HB.out))));have Lb:=aa.mk (Xa (g:=za) (o:=.cells #[.slice xb Ma.length qb,.int .i64 La,.int .i64 Na,.int .i64 Ka,.int .i64 Pc] 83 (0,0)) (by (with_reducible repeat (first|refine Aa ?_ _|refine Fa ?_|refine Ba ?_ _));exact ta.out) hb);have Pb:=aa.mk (Oa (by repeat (first|(with_reducible first|exact HB.out|apply oa|apply ia|apply qa|refine ua ?_ Ua.out)|exact HB.out)) hb);clear ta HB;have Mq:=Cb;have ta:=Lb;have HB:=Pb;clear Cb Lb Pb hb xp));go_ret;exact ⟨_,by first|rfl|(simp [Ra,Qa] <;> rfl)|(simp [*,Ra,Qa] <;> rfl),by (with_reducible repeat (first|apply Kd.Va|apply Kd.Wa|apply Kd.jb));exact Mq.out,by repeat (first|(with_reducible first|exact HB.out|apply oa|apply ia|apply qa|refine ua ?_ Ua.out)|exact HB.out)⟩
  ·rw [if_neg c7] at H;have Xt:(La == 1)=false:=beq_eq_false_iff_ne.mpr c7;have nD:(La != 1)=true:=bne_iff_ne.mpr c7;obtain rfl:=Option.some.inj H;go_enter Try.func75,Try.ntmps75;go_wp2_with (first|((with_reducible refine Bb (N:=1) rfl ?_);refine Ob ?hg (N:=1) ?hd (cs:=#[.slice xb Ma.length qb,.int .i64 La,.int .i64 Na,.int .i64 Ka,.int .i64 Pc]) (t:=83) ?hr ?_;(case hd=>rfl);(case hg=>rfl);(case hr=>first|(go_simp;done)|(go_simp;rfl));intro za hg DA oc hb;have Cb:=aa.mk (Oa (by repeat (first|(with_reducible first|exact HB.out|apply oa|apply ia|apply qa)|exact HB.out)) hb);have Lb:=aa.mk (oc);have Pb:=aa.mk ((by rw [hg];exact (Ja (by repeat (first|(with_reducible first|exact HB.out|apply oa|apply ia|apply qa)|exact HB.out))):w.heap.size ≤ za));have Ec:=aa.mk ((by rw [hg];exact (Ja (by repeat (first|(with_reducible first|exact HB.out|apply oa|apply ia|apply qa)|exact HB.out))):w.heap.size ≤ za));clear HB;have HB:=Cb;have ta:=Lb;have He:=Pb;have Ua:=Ec;clear Cb Lb Pb Ec hb oc hg;have Vt:DA.cell? ⟨za,0,none⟩=some (.slice xb Ma.length qb):=(ja ta.out 0).trans rfl;have Ut:DA.cell? ⟨za,1,none⟩=some (.int .i64 La):=(ja ta.out 1).trans rfl;have Tt:DA.cell? ⟨za,2,none⟩=some (.int .i64 Na):=(ja ta.out 2).trans rfl;have St:DA.cell? ⟨za,3,none⟩=some (.int .i64 Ka):=(ja ta.out 3).trans rfl;have Rt:DA.cell? ⟨za,4,none⟩=some (.int .i64 Pc):=(ja ta.out 4).trans rfl;have Lt:=ga ta.out 0;have Kt:=ga ta.out 1;have Jt:=ga ta.out 2;have Ht:=ga ta.out 3;have Gt:=ga ta.out 4));go_ret;exact ⟨_,by first|rfl|(simp [Ra,Qa] <;> rfl)|(simp [*,Ra,Qa] <;> rfl),by first|exact Kd.WA _ _ _ _ _|exact Kd.S3 _ _ _ _ _|exact Kd.D3 _ _ _ _ _|exact Kd.K3 _ _ _ _ _|exact Kd.F3 _ _ _ _ _,by repeat (first|(with_reducible first|exact HB.out|apply oa|apply ia|apply qa|refine ua ?_ Ua.out)|exact HB.out)⟩
def Tb.l0:Nat→List Int→Int→Int→Int→Option (Int)
 | 0,_,_,_,_=>none
 | k + 1,x0,x1,x7,x8=>if x8 < x7 then (if 0 ≤ x8 then (if x8 < (x0.length:Int) then (if x1=(rd x0 x8) then (some x8) else (Tb.l0 k x0 x1 x7 (wrap64 (x8 + 1)))) else (none)) else (none)) else (some (-1))
def Tb.f (k:Nat) (l0:List Int) (a1:Int):Option (Int):=Tb.l0 k l0 a1 (l0.length:Int) 0
theorem Tb.Gu:∀ k,(∀ y0 y1 y2 y3,jj (Tb.l0 k y0 y1 y2 y3) (Tb.l0 (k + 1) y0 y1 y2 y3))
 | 0=>fun _ _ _ _ r h=>by simp [Tb.l0] at h
 | k + 1=>by
  have nJ:=Tb.Gu k
  ·intro y0 y1 y2 y3;unfold Tb.l0
   repeat' first
   | (with_reducible exact nJ _ _ _ _)
   | (with_reducible exact jj.refl _)
   | (with_reducible exact jj.none _)
   | (with_reducible refine jj.ite ?_ ?_)
   | (with_reducible refine jj.bind ?_ (fun _=>?_))
   | exact nJ _ _ _ _
   | exact jj.none _
   | refine jj.ite ?_ ?_
   | refine jj.bind ?_ (fun _=>?_)
theorem Tb.mono:∀ a0 a1 k,jj (Tb.f k a0 a1) (Tb.f (k + 1) a0 a1):=by
 intro a0 a1 k;have nJ:=Tb.Gu k;unfold Tb.f
 repeat' first
   | (with_reducible exact nJ _ _ _ _)
   | (with_reducible exact jj.refl _)
   | (with_reducible exact jj.none _)
   | (with_reducible refine jj.ite ?_ ?_)
   | (with_reducible refine jj.bind ?_ (fun _=>?_))
   | exact nJ _ _ _ _
   | exact jj.none _
   | refine jj.ite ?_ ?_
   | refine jj.bind ?_ (fun _=>?_)
theorem Tb.calls (k:Nat) (A0:Option Addr) (c0:Nat) (l0:List Int) (a1:Int) (r:Int) (w:World) (Qj:Kd.C (Kd.int .i64) w A0 l0.length l0) (hc0:l0.length ≤ c0) (h:Tb.f k l0 a1=some r) :
  Calls Try.prog 110 #[.slice A0 l0.length c0,.int .i64 a1] w fun e w'=>e = .returned (.int .i64 r)∧Fc w w':=by
 have en:=aa.mk Qj;have kE:=aa.mk hc0;clear Qj hc0;have H:(Tb.l0 k l0 a1 (l0.length:Int) 0)=some r:=h;clear h;have H':=aa.mk H;clear H;go_enter Try.func110,Try.ntmps110;go_wp2
 go_loopg [8] k (fun kq v8 w'=>∃ (Ie:Int),v8 = .int .i64 Ie∧aa (Tb.l0 kq l0 a1 (l0.length:Int) Ie=some r)∧aa (kq ≤ k)∧Fc w w')
 case atStart=>exact ⟨(0),(by first|rfl|(simp;done)|(simp [*];done)),H',⟨Nat.le_refl _⟩,by repeat (first|exact Fc.refl _|apply Fc.step)⟩
 case round =>
  clear H'
  try clear c1
  try clear p2
  (try clear HA);(try clear Cf);obtain ⟨Ie,rfl,HA,Cf,⟨m1,rfl⟩⟩:=hrel;cases gk with
  | zero=>exact absurd HA.out (by simp [Tb.l0])
  | succ k1 =>
   have H:=HA.out;clear HA;simp only [Tb.l0] at H
   by_cases c3:Ie < (l0.length:Int)
   ·rw [if_pos c3] at H;have bh:decide (Ie < (l0.length:Int))=true:=decide_eq_true c3;clear c3
    by_cases c4:0 ≤ Ie
    ·rw [if_pos c4] at H;have Mk:decide (0 ≤ Ie)=true:=decide_eq_true c4;clear c4
     by_cases c5:Ie < (l0.length:Int)
     ·rw [if_pos c5] at H;have Sn:decide (Ie < (l0.length:Int))=true:=decide_eq_true c5;clear c5
      by_cases c6:a1=(rd l0 Ie)
      ·rw [if_pos c6] at H;have Ro:(a1 == (rd l0 Ie))=true:=beq_iff_eq.mpr c6;have iI:(a1 != (rd l0 Ie))=false:=bne_eq_false_iff_eq.mpr c6;clear c6;obtain rfl:=Option.some.inj H;have jf:0 ≤ (Ie:Int):=Pa;have gf:Ie < (l0.length:Int):=Pa;obtain ⟨Fe,Qi,Sd⟩:=Kd.Ce en.out Ie jf gf;cases Qi;replace jf:=eq_true jf;replace gf:=eq_true gf;go_wp2;go_ret;exact ⟨by first|rfl|(simp;done)|(simp [*];done),by repeat (first|exact Fc.refl _|apply Fc.step)⟩
      ·rw [if_neg c6] at H;have Ro:(a1 == (rd l0 Ie))=false:=beq_eq_false_iff_ne.mpr c6;have iI:(a1 != (rd l0 Ie))=true:=bne_iff_ne.mpr c6;have H':=aa.mk H;clear H;have jf:0 ≤ (Ie:Int):=Pa;have gf:Ie < (l0.length:Int):=Pa;obtain ⟨Fe,Qi,Sd⟩:=Kd.Ce en.out Ie jf gf;cases Qi;replace jf:=eq_true jf;replace gf:=eq_true gf;go_wp2
       go_roundg k1
       case measure=>have:=Cf.out;omega
       case rel=>exact ⟨(wrap64 (Ie + 1)),(by first|rfl|(simp;done)|(simp [*];done)),H',⟨by have:=Cf.out;omega⟩,by repeat (first|exact Fc.refl _|apply Fc.step)⟩
     ·rw [if_neg c5] at H;exact absurd H (by simp)
    ·rw [if_neg c4] at H;exact absurd H (by simp)
   ·rw [if_neg c3] at H;have bh:decide (Ie < (l0.length:Int))=false:=decide_eq_false c3;clear c3;obtain rfl:=Option.some.inj H;go_wp2;go_ret;exact ⟨by first|rfl|(simp;done)|(simp [*];done),by repeat (first|exact Fc.refl _|apply Fc.step)⟩
def tc.f (k:Nat) (l0:List Int) (a1:Int):Option (Bool):=(Tb.f k l0 a1).bind fun t101=>(some (decide (t101 ≥ 0)))
theorem tc.mono:∀ a0 a1 k,jj (tc.f k a0 a1) (tc.f (k + 1) a0 a1):=by
 intro a0 a1 k;unfold tc.f
 repeat' first
   | (with_reducible exact Tb.mono _ _ _)
   | (with_reducible exact jj.refl _)
   | (with_reducible exact jj.none _)
   | (with_reducible refine jj.ite ?_ ?_)
   | (with_reducible refine jj.bind ?_ (fun _=>?_))
   | exact Tb.mono _ _ _
   | exact jj.none _
   | refine jj.ite ?_ ?_
   | refine jj.bind ?_ (fun _=>?_)
theorem tc.calls (k:Nat) (A0:Option Addr) (c0:Nat) (l0:List Int) (a1:Int) (r:Bool) (w:World) (Qj:Kd.C (Kd.int .i64) w A0 l0.length l0) (hc0:l0.length ≤ c0) (h:tc.f k l0 a1=some r) :
  Calls Try.prog 83 #[.slice A0 l0.length c0,.int .i64 a1] w fun e w'=>e = .returned (.bool r)∧Fc w w':=by
 have en:=aa.mk Qj;have kE:=aa.mk hc0;clear Qj hc0;have H:((Tb.f k l0 a1).bind fun t101=>(some (decide (t101 ≥ 0))))=some r:=h;clear h;replace H:=Option.bind_eq_some_iff.mp H;obtain ⟨t101,GD,H⟩:=H;replace H:(some (decide (t101 ≥ 0)))=some r:=H;have A3:=aa.mk GD;clear GD;obtain rfl:=Option.some.inj H;go_enter Try.func83,Try.ntmps83;go_wp2_with (first|((with_reducible refine Ab (f:=110) rfl ?_);refine Uc (some 7) rfl rfl Try.func110 (by kernel_rfl) rfl #[.slice A0 l0.length c0,.int .i64 a1] rfl (by (try simp only [List.map_toArray,List.map_cons,List.map_nil]);first|done|rfl|(simp only [List.length_drop,List.length_take];rfl)) ?_;(with_reducible refine (Tb.calls k _ _ l0 a1 t101 _ ?jc ?ic A3.out).mono ?_);(case jc=>repeat (first|exact en.out|(with_reducible refine Kd.Jb ?_ _)|(with_reducible refine Kd.Gb ?_ _)|(with_reducible refine Kd.dc ?_)));(case ic=>exact kE.out);rintro e w' ⟨rfl,⟨nd,rfl⟩⟩;refine ⟨_,rfl,?_⟩));go_ret;exact ⟨by first|rfl|(simp;done)|(simp [*];done),by repeat (first|exact Fc.refl _|apply Fc.step)⟩
end Go.Proofs.Ytoomcmaifgkkfaa.P
end
section
namespace Go.Proofs.Ytoomcmaifgkkfaa.P
open Go.RowKit Go.Proofs.Ia.Zb Go.Proofs.Ia.Qd Go.Proofs.Ia.Me
set_option linter.unusedVariables false
set_option linter.unusedSimpArgs false
open Go.Shelf
def Gx:Go.Shelf.Ren:=⟨fun | 189=>112 | 125=>129 | 257=>128 | 128=>150 | 129=>151 | 294=>141 | 295=>142 | 296=>143 | 297=>144 | 298=>145 | 299=>146 | 216=>147 | 300=>148 | 301=>149 | 328=>155 | 329=>156 | 330=>157 | 331=>158 | 332=>159 | 215=>160 | 343=>162|n=>n,fun | 28=>22 | 3=>3 | 46=>130 | 0=>0 | 51=>159 | 53=>161 | 4=>4 | 183=>151 | 182=>150 | 131=>156 | 5=>5 | 9=>9 | 218=>163 | 222=>167 | 228=>170 | 229=>171|n=>n,fun|n=>n⟩
theorem vw:Go.Proofs.Lays.n189 Try.prog Gx:={
 mixed:=by kernel_rfl
 f125:=Try.func129.trans (congrArg some (by kernel_rfl))
 f128:=Try.func150.trans (congrArg some (by kernel_rfl))
 f129:=Try.func151.trans (congrArg some (by kernel_rfl))
 f189:=Try.func112.trans (congrArg some (by kernel_rfl))
 f215:=Try.func160.trans (congrArg some (by kernel_rfl))
 f216:=Try.func147.trans (congrArg some (by kernel_rfl))
 f257:=Try.func128.trans (congrArg some (by kernel_rfl))
 f294:=Try.func141.trans (congrArg some (by kernel_rfl))
 f295:=Try.func142.trans (congrArg some (by kernel_rfl))
 f296:=Try.func143.trans (congrArg some (by kernel_rfl))
 f297:=Try.func144.trans (congrArg some (by kernel_rfl))
 f298:=Try.func145.trans (congrArg some (by kernel_rfl))
 f299:=Try.func146.trans (congrArg some (by kernel_rfl))
 f300:=Try.func148.trans (congrArg some (by kernel_rfl))
 f301:=Try.func149.trans (congrArg some (by kernel_rfl))
 f328:=Try.func155.trans (congrArg some (by kernel_rfl))
 f329:=Try.func156.trans (congrArg some (by kernel_rfl))
 f330:=Try.func157.trans (congrArg some (by kernel_rfl))
 f331:=Try.func158.trans (congrArg some (by kernel_rfl))
 f332:=Try.func159.trans (congrArg some (by kernel_rfl))
 f343:=Try.func162.trans (congrArg some (by kernel_rfl))
 t0:=Try.underlying0
 a0:=Try.isAgg0
 z0:=Try.sizeOf0
 v0:=Try.zeroValue0
 t3:=Try.underlying3
 a3:=Try.isAgg3
 z3:=Try.sizeOf3
 v3:=Try.zeroValue3
 t4:=Try.underlying4
 a4:=Try.isAgg4
 z4:=Try.sizeOf4
 v4:=Try.zeroValue4
 t5:=Try.underlying5
 a5:=Try.isAgg5
 z5:=Try.sizeOf5
 v5:=Try.zeroValue5
 t9:=Try.underlying9
 a9:=Try.isAgg9
 z9:=Try.sizeOf9
 v9:=Try.zeroValue9
 t28:=Try.underlying22
 a28:=Try.isAgg22
 z28:=Try.sizeOf22
 v28:=Try.zeroValue22
 t46:=Try.underlying130
 a46:=Try.isAgg130
 z46:=Try.sizeOf130
 v46:=Try.zeroValue130
 t51:=Try.underlying159
 a51:=Try.isAgg159
 z51:=Try.sizeOf159
 v51:=Try.zeroValue159
 t53:=Try.underlying161
 a53:=Try.isAgg161
 z53:=Try.sizeOf161
 v53:=Try.zeroValue161
 t131:=Try.underlying156
 a131:=Try.isAgg156
 z131:=Try.sizeOf156
 v131:=Try.zeroValue156
 t182:=Try.underlying150
 a182:=Try.isAgg150
 z182:=Try.sizeOf150
 v182:=Try.zeroValue150
 t183:=Try.underlying151
 a183:=Try.isAgg151
 z183:=Try.sizeOf151
 v183:=Try.zeroValue151
 t218:=Try.underlying163
 a218:=Try.isAgg163
 z218:=Try.sizeOf163
 v218:=Try.zeroValue163
 t222:=Try.underlying167
 a222:=Try.isAgg167
 z222:=Try.sizeOf167
 v222:=Try.zeroValue167
 t228:=Try.underlying170
 a228:=Try.isAgg170
 z228:=Try.sizeOf170
 v228:=Try.zeroValue170
 t229:=Try.underlying171
 a229:=Try.isAgg171
 z229:=Try.sizeOf171
 v229:=Try.zeroValue171 }
open Go.Sort Go.RowKit in
theorem qu (blk off cap:Nat) (zs:List Int) (w:World) (hH:Holds (Value.int .i64) w blk off zs.toArray) (hblk:blk < w.heap.size) (hsz:zs.length < 4611686018427387904) :
  Calls Try.prog 112 #[.slice (some ⟨blk,off,none⟩) zs.length cap] w fun e w' =>
   e = .returned (.tuple #[])∧∃ n os,w' = grow (putRow (Value.int .i64) (Sort.ahead w n) blk off (zs.mergeSort fun x y=>decide (x ≤ y)).toArray) os:=Any.slices_Sort_int vw blk off cap zs w hH hblk hsz
def nw:Go.Shelf.Ren:=⟨fun | 20=>113|n=>n,fun | 22=>22 | 3=>3 | 4=>4 | 0=>0|n=>n,fun|n=>n⟩
theorem iu:Go.Proofs.Lays2.n20 Try.prog nw:={
 mixed:=by kernel_rfl
 f20:=Try.func113.trans (congrArg some (by kernel_rfl))
 t0:=Try.underlying0
 a0:=Try.isAgg0
 z0:=Try.sizeOf0
 v0:=Try.zeroValue0
 t3:=Try.underlying3
 a3:=Try.isAgg3
 z3:=Try.sizeOf3
 v3:=Try.zeroValue3
 t4:=Try.underlying4
 a4:=Try.isAgg4
 z4:=Try.sizeOf4
 v4:=Try.zeroValue4
 t22:=Try.underlying22
 a22:=Try.isAgg22
 z22:=Try.sizeOf22
 v22:=Try.zeroValue22
 i3:=by kernel_rfl }
open Go.RowKit Go.Lib Go.Sort in
theorem Ir (blk off cap:Nat) (zs:List Int) (w:World) (hH:Holds (Value.int .i64) w blk off zs.toArray) (hsz:zs.length ≤ 9223372036854775807) (hcap:zs.length ≤ cap) :
  Calls Try.prog 113 #[.slice (some ⟨blk,off,none⟩) zs.length cap] w fun e w'=>e = .returned (.slice (some ⟨blk,off,none⟩) (Lib.compact zs).length cap)∧∃ q,w' = putRow (Value.int .i64) (Sort.ahead w q) blk off (Lib.compact zs ++ List.replicate (zs.length - (Lib.compact zs).length) 0).toArray:=Any.slices_Compact_int iu blk off cap zs w hH hsz hcap
open Go.RowKit Go.Lib Go.Sort in
theorem zn (a:Option Addr) (cap:Nat) (w:World) :
  Calls Try.prog 113 #[.slice a 0 cap] w fun e w'=>e = .returned (.slice a 0 cap)∧w' = w:=Any.slices_Compact_int_empty iu a cap w
open Go.RowKit Go.Sort in
theorem zq (p:Option Addr) (cap:Nat) (w:World) :
  Calls Try.prog 112 #[.slice p 0 cap] w fun e w'=>e = .returned (.tuple #[])∧w' = w:=Any.slices_Sort_int_none vw p cap w
end Go.Proofs.Ytoomcmaifgkkfaa.P
end
section
namespace Go.Proofs.Ytoomcmaifgkkfaa.P
open Go.RowKit Go.Proofs.Ia.Zb Go.Proofs.Ia.Qd Go.Proofs.Ia.Me
set_option linter.unusedVariables false
set_option linter.unusedSimpArgs false
def gx (l:List Int):List Int:=Go.Lib.compact (l.mergeSort fun x y=>decide (x ≤ y))
def Ng.f (l0:List Int):Option (List Int):=if l0.length ≤ 4398046511104 then some (gx l0) else none
theorem NA (zs:List Int):(Go.Lib.compact zs).length ≤ zs.length:=by
 unfold Go.Lib.compact Go.Lib.compactUpTo;rw [List.length_map];have:=List.length_filter_le (Go.Lib.keeps zs.toArray) (List.range zs.length)
 rwa [List.length_range] at this
open Go.RowKit Go.Lib Go.Sort in
theorem kZ (B g n c:Nat) (P:Nat→Prop) (l0:List Int) (w:World) (hn:l0.length=n) (hgB:B ≤ g) (hP:P g) (hl:n ≤ 4398046511104) (hown:w.ownsRow B 3 1 (.slice (some ⟨g,0,none⟩) n c) n (Pq (Value.int .i64) l0)) :
  Calls Try.prog 86 #[.slice (some ⟨g,0,none⟩) n c] w fun e w'=>∃ Kp:Value,e = .returned Kp∧Kd.R (Kd.int .i64) 3 w' B P Kp (gx l0)∧w.grownBy w' (some g):=by
 obtain ⟨cur,hb,h1,h2,h3,h4⟩:∃ cur,w.heap[g]? = some (.cells cur 3 (0,0))∧n ≤ c∧c ≤ maxLen∧cur.size=c * 1∧cur.toList.take (n * 1)=Pq (Value.int .i64) l0:=by
  rcases hown.2 with ⟨h0,_⟩|⟨g',cap',cur,hv,_,hh,a1,a2,a3,a4⟩
  ·cases h0
  ·cases hv;exact ⟨cur,hh,a1,a2,a3,a4⟩
 subst hn;rw [Nat.mul_one] at h4;have HH:=aa.mk (holds_of_blockI (ss:=l0) hb (by rw [h4];rfl));have HG:=aa.mk (Array.getElem?_eq_some_iff.1 hb).1;have HB:=aa.mk hb;have H1:=aa.mk h1;have H2:=aa.mk h2;have H3:=aa.mk h3;have H4:=aa.mk h4;clear hown hb h1 h2 h3 h4;obtain ⟨s,hs⟩:∃ s:List Int,s=l0.mergeSort fun x y=>decide (x ≤ y):=⟨_,rfl⟩
 have T_:s.length=l0.length:=by rw [hs];exact List.length_mergeSort l0
 have HS:=aa.mk hs;have Y_:=aa.mk T_;clear hs T_;go_enter Try.func86,Try.ntmps86
 go_upto_region 2 with (go_at_call 112;(with_reducible refine (qu g 0 c l0 w HH.out HG.out (by omega)).mono ?_);rintro e w1 ⟨rfl,m,os,hw1⟩;have HW1:=aa.mk hw1;clear hw1)
 have wu:=aa.mk (show w1.heap[g]? = some (.cells (putCells (Value.int .i64) 0 s.toArray cur) 3 (0,0)) from by rw [HW1.out,← HS.out];exact heap_sortedI _ HB.out);have SM:=aa.mk (show w.grownBy w1 (some g) from by rw [HW1.out];exact grownBy_sortedI _);have HH1:=aa.mk (holds_of_blockI (ss:=s) wu.out (take_putCellsI cur s (by have:=H3.out;have:=H1.out;have:=Y_.out;omega)));have hcp:(Go.Lib.compact s).length ≤ s.length:=NA s;have HCP:=aa.mk hcp;clear hcp;have HL:=aa.mk hl;clear hl;have HCC:=aa.mk (Ir g 0 c s w1 HH1.out (by have:=HL.out;have:=Y_.out;omega) (by have:=H1.out;have:=Y_.out;omega));rw [Y_.out] at HCC;go_wp2_with (go_at_call 113;(refine HCC.out.mono ?_);rintro e w2 ⟨rfl,q,hw2⟩;have HW2:=aa.mk hw2;clear hw2);go_ret
 have hz:(Go.Lib.compact s ++ List.replicate (l0.length - (Go.Lib.compact s).length) 0).length=s.length:=by
  rw [List.length_append,List.length_replicate];have:=HCP.out;have:=Y_.out;omega
 refine ⟨_,rfl,?_,?_⟩
 ·have hr:=ownsRow_sortedI (w:=w1) (base:=B) (n:=q) (os:=#[]) (ss:=s) (ts:=Go.Lib.compact s ++ List.replicate (l0.length - (Go.Lib.compact s).length) 0) hz hgB wu.out (by rw [Y_.out];exact H1.out) H2.out (by simp [putCells,H3.out]);rw [grow_empty,← HW2.out] at hr
  have hR:Kd.R (Kd.int .i64) 3 w2 B P (.slice (some ⟨g,0,none⟩) s.length c) (Go.Lib.compact s ++ List.replicate (l0.length - (Go.Lib.compact s).length) 0):=Kd.CK (by rw [hz];exact hr) (fun k hk=>by
   have:g=k:=by simpa [Value.ownBlock] using hk
   subst this
   exact hP)
  have ht:=Kd.sI (m:=(Go.Lib.compact s).length) hR (by rw [hz];exact HCP.out);rw [List.take_left] at ht;unfold gx;rw [← HS.out];exact ht
 ·have h2:=grownBy_sortedI (w:=w1) (g:=g) (n:=q) (os:=#[]) (Go.Lib.compact s ++ List.replicate (l0.length - (Go.Lib.compact s).length) 0).toArray;rw [grow_empty,← HW2.out] at h2;exact SM.out.trans h2
theorem Ng.calls (ak:Nat→Prop) (Lf:Value) (l0:List Int) (r:List Int) (w0 w:World) (hB:Below w0.heap.size w0 w) (Bg:Kd.R (Kd.int .i64) 3 w w0.heap.size ak Lf l0) (h:Ng.f l0=some r) :
  Calls Try.prog 86 #[Lf] w fun e w'=>∃ Kp:Value,e = .returned (Kp)∧Kd.R (Kd.int .i64) 3 w' w0.heap.size (fun k_=>(ak k_ ∨ w.heap.size ≤ k_)) Kp r∧Below w0.heap.size w0 w'∧Kept w w' (fun k_=>ak k_):=by
 unfold Ng.f at h;have hl:l0.length ≤ 4398046511104:=Decidable.byContradiction fun hn=>by rw [if_neg hn] at h;cases h
 rw [if_pos hl] at h;obtain rfl:=Option.some.inj h;have ho:=Kd.Kx Bg;have hbase:=Kd.cg Bg;have hP:=Bg.1
 rcases ho.2 with ⟨rfl,h0⟩|⟨g,cap,cur,rfl,hg,_⟩
 ·obtain rfl:l0=[]:=List.eq_nil_of_length_eq_zero h0;clear ho Bg hbase hP h;have HB:=aa.mk hB;clear hB;go_enter Try.func86,Try.ntmps86
  go_upto_region 2 with (go_at_call 112;(with_reducible refine (zq none 0 w).mono ?_);rintro e w1 ⟨rfl,rfl⟩)
  go_wp2_with (go_at_call 113;(with_reducible refine (zn none 0 _).mono ?_);rintro e w2 ⟨rfl,rfl⟩);go_ret;exact ⟨_,rfl,by rw [show gx []=[] from by simp [gx,Go.Lib.compact,Go.Lib.compactUpTo]];exact Kd.WA _ _ _ _ _,HB.out,Kept.refl _ _⟩
 ·have hPg:=hP g rfl;refine (kZ w0.heap.size g l0.length cap (fun k_=>(ak k_ ∨ w.heap.size ≤ k_)) l0 w rfl hg (Or.inl hPg) hl ho).mono ?_;rintro e w' ⟨v,he,hr,hgw⟩;exact ⟨v,he,hr,Cu hB _ hB.size hgw (fun k hk=>by cases hk;exact hg),Kept.fh hgw (Kept.refl _ _) (fun k hk=>by cases hk;exact Or.inl hPg)⟩
attribute [local go_sem] Wi Ui jk fk Ch Bh Vi Ti
def Za.l0:Nat→List Int→Int→Int→Option (List Int)
 | 0,_,_,_=>none
 | k + 1,x0,x2,x3=>if x2 < x3 then (if 0 ≤ x3 then (if x3 < (x0.length:Int) then (if 0 ≤ x2 then (if x2 < (x0.length:Int) then (Za.l0 k ((x0.set (x2:Int).toNat (rd x0 x3)).set (x3:Int).toNat (rd x0 x2)) (wrap64 (x2 + 1)) (wrap64 (x3 - 1))) else (none)) else (none)) else (none)) else (none)) else (some x0)
def Za.f (k:Nat) (l0:List Int):Option (List Int):=Za.l0 k l0 0 (wrap64 ((l0.length:Int) - 1))
theorem Za.Gu:∀ k,(∀ y0 y1 y2,jj (Za.l0 k y0 y1 y2) (Za.l0 (k + 1) y0 y1 y2))
 | 0=>fun _ _ _ r h=>by simp [Za.l0] at h
 | k + 1=>by
  have nJ:=Za.Gu k
  ·intro y0 y1 y2;unfold Za.l0
   repeat' first
   | (with_reducible exact nJ _ _ _)
   | (with_reducible exact jj.refl _)
   | (with_reducible exact jj.none _)
   | (with_reducible refine jj.ite ?_ ?_)
   | (with_reducible refine jj.bind ?_ (fun _=>?_))
   | exact nJ _ _ _
   | exact jj.none _
   | refine jj.ite ?_ ?_
   | refine jj.bind ?_ (fun _=>?_)
theorem Za.mono:∀ a0 k,jj (Za.f k a0) (Za.f (k + 1) a0):=by
 intro a0 k;have nJ:=Za.Gu k;unfold Za.f
 repeat' first
   | (with_reducible exact nJ _ _ _)
   | (with_reducible exact jj.refl _)
   | (with_reducible exact jj.none _)
   | (with_reducible refine jj.ite ?_ ?_)
   | (with_reducible refine jj.bind ?_ (fun _=>?_))
   | exact nJ _ _ _
   | exact jj.none _
   | refine jj.ite ?_ ?_
   | refine jj.bind ?_ (fun _=>?_)
def Za.T3:Bool × List (List Nat × List Nat):=(true,[([],[]),([],[]),([],[]),([],[]),([],[]),([],[]),([4,5],[4,5]),([6],[6]),([],[]),([],[]),([8,9],[8,9]),([10],[10]),([0,1,0,1,4,5,6,7,11],[0,1]),([12,7,0,1,4,5,6,7,11],[7,12]),([2,3,0,1,2,3,4,5,6,7,8,9,10,11,12,13],[2,3]),([14,11,13,0,1,2,3,4,5,6,7,8,9,10,11,12,13],[11,14])])
def Za.B3:List Nat:=[0,0,0,0,0,0,48,112,0,0,768,1792,4083,8179,16383,32767]
theorem Za.sap:Bn .any (opsOf Try.f107 3)=Za.T3:=by kernel_rfl
theorem Za.paf:um Za.T3.2 Za.B3=true:=by kernel_rfl
theorem Za.calls (k:Nat) (ak:Nat→Prop) (Lf:Value) (l0:List Int) (r:List Int) (w0 w:World) (hB:Below w0.heap.size w0 w) (Bg:Kd.R (Kd.int .i64) 3 w w0.heap.size ak Lf l0) (h:Za.f k l0=some r) :
  Calls Try.prog 107 #[Lf] w fun e w'=>e = .returned (.tuple #[])∧Kd.R (Kd.int .i64) 3 w' w0.heap.size (fun k_=>(ak k_ ∨ w.heap.size ≤ k_)) Lf r∧Below w0.heap.size w0 w'∧Kept w w' (fun k_=>ak k_):=by
 have HO0:=aa.mk (show Kd.R (Kd.int .i64) 3 w w0.heap.size (fun k_=>(ak k_ ∨ w.heap.size ≤ k_)) Lf l0 from Kd.mc Bg (fun k_ hk=>(.inl hk)));have HK:=aa.mk (Kept.refl w (fun k_=>ak k_));have HW0:=aa.mk hB.size;have HB:=aa.mk hB;clear hB;have H:(Za.l0 k l0 0 (wrap64 ((l0.length:Int) - 1)))=some r:=h;clear h;have H':=aa.mk H;clear H;obtain ⟨Ao2,co2,eo2⟩:=Kd.xd HO0.out;subst eo2;go_enter Try.func107,Try.ntmps107;go_wp2
 go_loopg [2,3] k (fun kq v2 v3 w'=>∃ (ke:List Int) (Ho:Int) (Tc:Int),v2 = .int .i64 Ho∧v3 = .int .i64 Tc∧aa (Za.l0 kq ke Ho Tc=some r)∧aa (kq ≤ k)∧aa (Kd.R (Kd.int .i64) 3 w' w0.heap.size (fun k_=>(ak k_ ∨ w.heap.size ≤ k_)) (.slice Ao2 l0.length co2) ke)∧aa (Kept w w' (fun k_=>ak k_))∧aa (Below w0.heap.size w0 w'))
 case atStart=>exact ⟨(l0),(0),(wrap64 ((l0.length:Int) - 1)),(by first|rfl|(simp;done)|(simp [*];done)),(by first|rfl|(simp;done)|(simp [*];done)),H',⟨Nat.le_refl _⟩,⟨by (with_reducible repeat (first|apply Kd.Va|apply Kd.Wa|apply Kd.jb));exact HO0.out⟩,⟨by repeat (first|(with_reducible first|exact HK.out|apply Kept.alloc|apply Kept.drewN|apply Kept.drew)|exact HK.out)⟩,⟨by repeat (first|(with_reducible first|exact HB.out|apply oa|apply ia|apply qa)|exact HB.out)⟩⟩
 case round =>
  clear H'
  try clear c1
  try clear p2
  (try clear HA);(try clear Cf);(try clear yf);(try clear HK);(try clear HB);obtain ⟨ke,Ho,Tc,rfl,rfl,HA,Cf,yf,HK,HB⟩:=hrel;have BJ:=(Kd.Rb yf.out).1;rw [BJ] at yf;(try simp only [BJ]);cases gk with
  | zero=>exact absurd HA.out (by simp [Za.l0])
  | succ k1 =>
   have H:=HA.out;clear HA;simp only [Za.l0] at H
   by_cases c3:Ho < Tc
   ·rw [if_pos c3] at H;have bh:decide (Ho < Tc)=true:=decide_eq_true c3;clear c3
    by_cases c4:0 ≤ Tc
    ·rw [if_pos c4] at H;have Mk:decide (0 ≤ Tc)=true:=decide_eq_true c4;clear c4
     by_cases c5:Tc < (ke.length:Int)
     ·rw [if_pos c5] at H;have Sn:decide (Tc < (ke.length:Int))=true:=decide_eq_true c5;clear c5
      by_cases c6:0 ≤ Ho
      ·rw [if_pos c6] at H;have Ro:decide (0 ≤ Ho)=true:=decide_eq_true c6;clear c6
       by_cases c7:Ho < (ke.length:Int)
       ·rw [if_pos c7] at H;have Xt:decide (Ho < (ke.length:Int))=true:=decide_eq_true c7;clear c7;obtain ⟨Sg,Ou⟩:∃ y_:List Int,y_=(ke.set (Ho:Int).toNat (rd ke Tc)):=⟨_,rfl⟩;replace H:(Za.l0 k1 (Sg.set (Tc:Int).toNat (rd ke Ho)) (wrap64 (Ho + 1)) (wrap64 (Tc - 1)))=some r:=by first|(rw [Ou];with_reducible exact H)|(have Ud:=(Option.bind_some _ _).symm.trans H;rw [Ou];with_reducible exact Ud)|(have Ud:=(Option.bind_some _ _).symm.trans H;with_reducible exact Ud)|with_reducible exact H|(rw [Ou];exact H)|exact H
        have RU:=aa.mk Ou;clear Ou;obtain ⟨ng,Oo⟩:∃ y_:List Int,y_=(Sg.set (Tc:Int).toNat (rd ke Ho)):=⟨_,rfl⟩;replace H:(Za.l0 k1 ng (wrap64 (Ho + 1)) (wrap64 (Tc - 1)))=some r:=by first|(rw [Oo];with_reducible exact H)|(have Ud:=(Option.bind_some _ _).symm.trans H;rw [Oo];with_reducible exact Ud)|(have Ud:=(Option.bind_some _ _).symm.trans H;with_reducible exact Ud)|with_reducible exact H|(rw [Oo];exact H)|exact H
        have MK:=aa.mk Oo;clear Oo;have H':=aa.mk H;clear H
        try go_wp2
        have Cb:=aa.mk (Kd.jb yf.out);have Lb:=aa.mk (Kept.drew HK.out);have Pb:=aa.mk (qa HB.out);clear yf HK HB;have yf:=Cb;have HK:=Lb;have HB:=Pb;clear Cb Lb Pb;have jf:0 ≤ (Tc:Int):=Pa;have gf:Tc < (ke.length:Int):=Pa;obtain ⟨Fe,Qi,Sd⟩:=Kd.Ce (Kd.Rb yf.out).2.2 Tc jf gf;cases Qi;replace jf:=eq_true jf;replace gf:=eq_true gf;have Mi:0 ≤ (Ho:Int):=Pa;have Li:Ho < (ke.length:Int):=Pa;obtain ⟨Gf,Cs,qf⟩:=Kd.Ce (Kd.Rb yf.out).2.2 Ho Mi Li;obtain rfl:Fe=Gf:=(by injection Cs);replace Mi:=eq_true Mi;replace Li:=eq_true Li;have p8:0 ≤ (Ho:Int):=Pa;have q8:(Ho:Int) < ((ke.length:Int):Int):=Pa;obtain ⟨go8,co8,eo8,gb8,gl8,cl8,xV⟩:=Kd.gm yf.out (by omega);(first|cases eo8|(injection eo8 with Xj Uw Ww;(first|subst Xj|(injection Xj with Xj;subst Xj));subst Ww;clear Uw));have GB8:=aa.mk gb8;have GG8:=aa.mk xV;clear gb8 gl8 xV;have Q4:=aa.mk (show (ak go8 ∨ w.heap.size ≤ go8) from (yf.out.1 _ rfl));(first|simp only [add_plain] at Sd|skip);(first|simp only [add_plain] at qf|skip);obtain ⟨XZ,I1⟩:=Kd.Vh 0 yf.out (Ho:Int) p8 q8;replace p8:=eq_true p8;replace q8:=eq_true q8;have QM:=Kd.MU yf.out (Ho:Int) (rd ke Tc);rw [← RU.out] at QM;have BI:=aa.mk QM;clear QM;have p9:0 ≤ (Tc:Int):=Pa;have q9:(Tc:Int) < ((ke.length:Int):Int):=Pa;obtain ⟨MS,nT⟩:=Kd.Vh 0 BI.out (Tc:Int) p9 q9;replace p9:=eq_true p9;replace q9:=eq_true q9;have ED:=Kd.MU BI.out (Tc:Int) (rd ke Ho);rw [← MK.out] at ED;have fag:=aa.mk ED;clear ED;refine fl (n:=16) (S:=fun w'=>w'.cell? ⟨go8,(Tc).toNat,none⟩=some (.int .i64 (rd ke Tc))∧w'.cell? ⟨go8,(Ho).toNat,none⟩=some (.int .i64 (rd ke Ho))) (ds:=[13,15]) #[false,false,false,false,false,false,false,false,false,false,false,false,false,false,false,false] (by kernel_rfl) rfl rfl ⟨Sd,qf⟩ (fun hHeld=>?_);refine Si Za.sap Za.paf (fun mg eu=>?_);generalize wr.drew=Nq at yf HK HB GG8 BI fag I1 nT Sd qf XZ MS hHeld ⊢;refine od (i:=0) (N:=some 14) (v:=?_) (a':=?_) #[true,false,false,false,false,false,false,false,false,false,false,false,false,false,false,false] rfl rfl (Vc mg.out (by kernel_rfl)) (fun _ _ _ h=>h) (Or.inl ⟨by rfl,?_⟩) ?_ ?_;rotate_left
        ·intro w';go_simp;with_reducible rfl
        rotate_left
        ·simp only [Act.put,List.setIfInBounds_toArray,List.set_cons_zero,List.set_cons_succ,Vb,Wb]
         rfl
        refine od (i:=1) (N:=some 15) (v:=?_) (a':=?_) #[true,true,false,false,false,false,false,false,false,false,false,false,false,false,false,false] rfl rfl (Vc mg.out (by kernel_rfl)) (fun _ _ _ h=>h) (Or.inl ⟨by rfl,?_⟩) ?_ ?_;rotate_left
        ·intro w';go_simp;with_reducible rfl
        rotate_left
        ·simp only [Act.put,List.setIfInBounds_toArray,List.set_cons_zero,List.set_cons_succ,Vb,Wb]
         rfl
        refine od (i:=2) (N:=some 16) (v:=?_) (a':=?_) #[true,true,true,false,false,false,false,false,false,false,false,false,false,false,false,false] rfl rfl (Vc mg.out (by kernel_rfl)) (fun _ _ _ h=>h) (Or.inl ⟨by rfl,?_⟩) ?_ ?_;rotate_left
        ·intro w';go_simp;with_reducible rfl
        rotate_left
        ·simp only [Act.put,List.setIfInBounds_toArray,List.set_cons_zero,List.set_cons_succ,Vb,Wb]
         rfl
        refine od (i:=3) (N:=some 17) (v:=?_) (a':=?_) #[true,true,true,true,false,false,false,false,false,false,false,false,false,false,false,false] rfl rfl (Vc mg.out (by kernel_rfl)) (fun _ _ _ h=>h) (Or.inl ⟨by rfl,?_⟩) ?_ ?_;rotate_left
        ·intro w';go_simp;with_reducible rfl
        rotate_left
        ·simp only [Act.put,List.setIfInBounds_toArray,List.set_cons_zero,List.set_cons_succ,Vb,Wb]
         rfl
        refine od (i:=4) (N:=some 18) (v:=?_) (a':=?_) #[true,true,true,true,true,false,false,false,false,false,false,false,false,false,false,false] rfl rfl (Vc mg.out (by kernel_rfl)) (fun _ _ _ h=>h) (Or.inl ⟨by rfl,?_⟩) ?_ ?_;rotate_left
        ·intro w';go_simp;with_reducible rfl
        rotate_left
        ·simp only [Act.put,List.setIfInBounds_toArray,List.set_cons_zero,List.set_cons_succ,Vb,Wb]
         rfl
        refine od (i:=5) (N:=some 19) (v:=?_) (a':=?_) #[true,true,true,true,true,true,false,false,false,false,false,false,false,false,false,false] rfl rfl (Vc mg.out (by kernel_rfl)) (fun _ _ _ h=>h) (Or.inl ⟨by rfl,?_⟩) ?_ ?_;rotate_left
        ·intro w';go_simp;with_reducible rfl
        rotate_left
        ·simp only [Act.put,List.setIfInBounds_toArray,List.set_cons_zero,List.set_cons_succ,Vb,Wb]
         rfl
        refine od (i:=6) (N:=some 20) (v:=?_) (a':=?_) #[true,true,true,true,true,true,true,false,false,false,false,false,false,false,false,false] rfl rfl (Vc mg.out (by kernel_rfl)) (fun _ _ _ h=>h) (Or.inl ⟨by rfl,?_⟩) ?_ ?_;rotate_left
        ·intro w';go_simp;with_reducible rfl
        rotate_left
        ·simp only [Act.put,List.setIfInBounds_toArray,List.set_cons_zero,List.set_cons_succ,Vb,Wb]
         rfl
        refine od (i:=8) (N:=some 22) (v:=?_) (a':=?_) #[true,true,true,true,true,true,true,false,true,false,false,false,false,false,false,false] rfl rfl (Vc mg.out (by kernel_rfl)) (fun _ _ _ h=>h) (Or.inl ⟨by rfl,?_⟩) ?_ ?_;rotate_left
        ·intro w';go_simp;with_reducible rfl
        rotate_left
        ·simp only [Act.put,List.setIfInBounds_toArray,List.set_cons_zero,List.set_cons_succ,Vb,Wb]
         rfl
        refine od (i:=9) (N:=some 23) (v:=?_) (a':=?_) #[true,true,true,true,true,true,true,false,true,true,false,false,false,false,false,false] rfl rfl (Vc mg.out (by kernel_rfl)) (fun _ _ _ h=>h) (Or.inl ⟨by rfl,?_⟩) ?_ ?_;rotate_left
        ·intro w';go_simp;with_reducible rfl
        rotate_left
        ·simp only [Act.put,List.setIfInBounds_toArray,List.set_cons_zero,List.set_cons_succ,Vb,Wb]
         rfl
        refine od (i:=10) (N:=some 24) (v:=?_) (a':=?_) #[true,true,true,true,true,true,true,false,true,true,true,false,false,false,false,false] rfl rfl (Vc mg.out (by kernel_rfl)) (fun _ _ _ h=>h) (Or.inl ⟨by rfl,?_⟩) ?_ ?_;rotate_left
        ·intro w';go_simp;with_reducible rfl
        rotate_left
        ·simp only [Act.put,List.setIfInBounds_toArray,List.set_cons_zero,List.set_cons_succ,Vb,Wb]
         rfl
        refine Ih (i:=7) (N:=some 21) (v:=?_) (a':=?_) #[true,true,true,true,true,true,true,true,true,true,true,false,false,false,false,false] rfl rfl (zf mg.out eu.out (by kernel_rfl)) (fun _ _ _ h=>h) (Or.inl ⟨by rfl,?_⟩) hHeld ?_ ?_;rotate_left
        ·rintro w' ⟨s0,s1⟩;go_simp;with_reducible rfl
        rotate_left
        ·simp only [Act.put,List.setIfInBounds_toArray,List.set_cons_zero,List.set_cons_succ,Vb,Wb]
         rfl
        refine Ih (i:=11) (N:=some 25) (v:=?_) (a':=?_) #[true,true,true,true,true,true,true,true,true,true,true,true,false,false,false,false] rfl rfl (zf mg.out eu.out (by kernel_rfl)) (fun _ _ _ h=>h) (Or.inl ⟨by rfl,?_⟩) hHeld ?_ ?_;rotate_left
        ·rintro w' ⟨s0,s1⟩;go_simp;with_reducible rfl
        rotate_left
        ·simp only [Act.put,List.setIfInBounds_toArray,List.set_cons_zero,List.set_cons_succ,Vb,Wb]
         rfl
        refine od (i:=12) (N:=some 26) (v:=?_) (a':=?_) #[true,true,true,true,true,true,true,true,true,true,true,true,true,false,false,false] rfl rfl (Vc mg.out (by kernel_rfl)) (fun _ _ _ h=>h) (Or.inl ⟨by rfl,?_⟩) ?_ ?_;rotate_left
        ·intro w';go_simp;with_reducible rfl
        rotate_left
        ·simp only [Act.put,List.setIfInBounds_toArray,List.set_cons_zero,List.set_cons_succ,Vb,Wb]
         rfl
        refine BS (i:=13) (N:=none) #[true,true,true,true,true,true,true,true,true,true,true,true,true,true,false,false] rfl rfl (vp mg.out (by kernel_rfl)) (by decide) (fun K hK=>?_);refine ZR (w1:=?_) (by rfl) rfl ?_ ?_;rotate_left
        ·go_simp
         rfl
        refine hK.out _ _ ?_;clear hK K;refine od (i:=14) (N:=some 27) (v:=?_) (a':=?_) #[true,true,true,true,true,true,true,true,true,true,true,true,true,true,true,false] rfl rfl (Vc mg.out (by kernel_rfl)) (fun _ _ _ h=>h) (Or.inl ⟨by rfl,?_⟩) ?_ ?_;rotate_left
        ·intro w';go_simp;with_reducible rfl
        rotate_left
        ·simp only [Act.put,List.setIfInBounds_toArray,List.set_cons_zero,List.set_cons_succ,Vb,Wb]
         rfl
        refine BS (i:=15) (N:=none) #[true,true,true,true,true,true,true,true,true,true,true,true,true,true,true,true] rfl rfl (vp mg.out (by kernel_rfl)) (by decide) (fun K hK=>?_);refine ZR (w1:=?_) (by rfl) rfl ?_ ?_;rotate_left
        ·go_simp
         rfl
        refine hK.out _ _ ?_;clear hK K;refine Mp (Sl mg.out (by kernel_rfl)) ?_
        try go_wp2
        (try simp only [← BJ])
        go_roundg k1
        case measure=>have:=Cf.out;omega
        case rel=>exact ⟨(ng),(wrap64 (Ho + 1)),(wrap64 (Tc - 1)),(by first|rfl|(simp;done)|(simp [*];done)),(by first|rfl|(simp;done)|(simp [*];done)),H',⟨by have:=Cf.out;omega⟩,⟨by (try simp only [BJ]);(with_reducible repeat (first|apply Kd.Va|apply Kd.Wa|apply Kd.jb));exact fag.out⟩,⟨by repeat (first|(with_reducible first|exact HK.out|apply Kept.alloc|apply Kept.drewN|apply Kept.drew|refine Kept.setCell ?_ Q4.out _|refine Kept.setCell ?_ Q4.out _)|exact HK.out)⟩,⟨by repeat (first|(with_reducible first|exact HB.out|apply oa|apply ia|apply qa|refine ua ?_ GB8.out|refine ua ?_ GB8.out)|exact HB.out)⟩⟩
       ·rw [if_neg c7] at H;exact absurd H (by simp)
      ·rw [if_neg c6] at H;exact absurd H (by simp)
     ·rw [if_neg c5] at H;exact absurd H (by simp)
    ·rw [if_neg c4] at H;exact absurd H (by simp)
   ·rw [if_neg c3] at H;have bh:decide (Ho < Tc)=false:=decide_eq_false c3;clear c3;obtain rfl:=Option.some.inj H;go_wp2
    first|go_end0|((try simp only [Exit.inBlock,Exit.then]);refine bodyPost_ret (results_none rfl _ _ _) rfl ?_)
    exact ⟨by first|rfl|(simp [Ra,Qa] <;> rfl)|(simp [*,Ra,Qa] <;> rfl),(by first|exact (by (with_reducible repeat (first|apply Kd.Va|apply Kd.Wa|apply Kd.jb));exact yf.out)|(simp only [BJ];exact (by (with_reducible repeat (first|apply Kd.Va|apply Kd.Wa|apply Kd.jb));exact yf.out))),by repeat (first|(with_reducible first|exact HB.out|apply oa|apply ia|apply qa)|exact HB.out),by repeat (first|(with_reducible first|exact HK.out|apply Kept.alloc|apply Kept.drewN|apply Kept.drew)|exact HK.out)⟩
end Go.Proofs.Ytoomcmaifgkkfaa.P
end
