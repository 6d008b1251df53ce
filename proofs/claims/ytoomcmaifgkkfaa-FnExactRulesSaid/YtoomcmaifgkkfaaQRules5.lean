import Derived.Shelf.Abstract
import Derived.Outline
import Derived.RegionTactic
import Derived.Test.YtoomcmaifgkkfaaQRules1
import Derived.Test.YtoomcmaifgkkfaaQRules4
import Derived.Deep.QuietTactic
import Derived.BigQuiet
import Derived.Shelf.Small.Bits
import Derived.Shelf.Small.Wraps
import Derived.Shelf.Strconv.Itoa0
import Derived.Shelf.Sort.Plain
import Derived.Shelf.Slices.Turned
import Derived.Shelf.Slices.Reverse
import Derived.Ground.Names2Prog
import Derived.Shelf.Slices.CompactI
import Derived.Shelf.Slices.SearchI
import Derived.Shelf.Slices.Cells
import Derived.Shelf.Slices.In.SortNone
set_option maxHeartbeats 8000000
set_option maxRecDepth 100000
section
namespace Go.Proofs.Ytoomcmaifgkkfaa.P
open Go.RowKit Go.Proofs.Ia.Qb Go.Proofs.Ia.Od Go.Proofs.Ia.Re
set_option linter.unusedVariables false
set_option linter.unusedSimpArgs false
attribute [local go_sem high] OZ
def WH:List ByteArray:=[⟨#[61,61]⟩,⟨#[60]⟩,⟨#[38]⟩,⟨#[43]⟩,⟨#[45]⟩,⟨#[42]⟩]
def Qu (s:ByteArray):Bool:=WH.any fun y=>decide (s.toList=y.toList)
theorem KM (s:ByteArray):Rl.f 8 s=some (Qu s):=by
 unfold Rl.f Oc.f Ab.f Qu WH;simp only [Ab.l0,List.any_cons,List.any_nil]
 by_cases h0:s.toList=[61,61]
 ·simp [sg,h0]
 by_cases h1:s.toList=[60]
 ·simp [sg,h1,wrap64]
 by_cases h2:s.toList=[38]
 ·simp [sg,h2,wrap64]
 by_cases h3:s.toList=[43]
 ·simp [sg,h3,wrap64]
 by_cases h4:s.toList=[45]
 ·simp [sg,h4,wrap64]
 by_cases h5:s.toList=[42]
 ·simp [sg,h5,wrap64]
 simp [sg,h0,h1,h2,h3,h4,h5,wrap64]
theorem tI (s:ByteArray) (w:World):Calls Try.prog 139 #[.string s] w fun e w'=>e = .returned (.bool (Qu s))∧Below w.heap.size w w':=Rl.calls 8 s (Qu s) w (KM s)
def cl (slots s:Int):Bool:=decide (0 ≤ s) && decide (s < slots)
theorem uj (B:Nat) (slots s:Int) (W:World) (hb3:W.cell? ⟨B,3,none⟩=some (.int .i64 slots)):Calls Try.prog 138 #[.int .i64 s,.pointer (some ⟨B,0,none⟩)] W fun e w'=>e = .returned (.bool (cl slots s))∧W=w':=by
 unfold cl
 by_cases h:0 ≤ s
 all_goals
  go_enter Try.func138,Try.ntmps138;go_wp2;go_ret;exact ⟨by simp [*];try omega,rfl⟩
theorem RM (A0 A4:Option Addr) (c0 c4 n0 n4:Nat) (p1 p2 slots d a b c n:Int) (t:ByteArray) (w:World) (hn0:n0 ≤ 9223372036854775807) (JB:n4 ≤ 9223372036854775807) :
  Calls Try.prog 125 #[.agg #[.slice A0 n0 c0,.int .i64 p1,.int .i64 p2,.int .i64 slots,.slice A4 n4 c4],.agg #[.int .i64 0,.int .i64 d,.int .i64 a,.int .i64 b,.int .i64 c,.int .i64 n,.string t]] w fun e w'=>e = .returned (.bool (cl slots d && (a == 0 && (b == 0 && (c == 0 && t.toList.isEmpty)))))∧Below w.heap.size w w':=by
 obtain ⟨W1,mg⟩:∃ W1,W1=(w.alloc (.cells #[.slice A0 n0 c0,.int .i64 p1,.int .i64 p2,.int .i64 slots,.slice A4 n4 c4] 45 (0,0))).alloc (.cells #[.int .i64 0,.int .i64 d,.int .i64 a,.int .i64 b,.int .i64 c,.int .i64 n,.string t] 122 (0,0)):=⟨_,rfl⟩;have HW:=ga.mk mg;have HB:=ga.mk (show Below w.heap.size w W1 from by rw [mg];exact oa (oa (Below.refl _ _) _) _);have hz:W1.heap.size=w.heap.size + 2:=by rw [mg];simp
 have mR:W1.cell? ⟨w.heap.size,3,none⟩=some (.int .i64 slots):=by rw [mg];simp
 have hx0:W1.cell? ⟨w.heap.size + 1,0,none⟩=some (.int .i64 0):=by rw [mg];simp
 have hx1:W1.cell? ⟨w.heap.size + 1,1,none⟩=some (.int .i64 d):=by rw [mg];simp
 have hx2:W1.cell? ⟨w.heap.size + 1,2,none⟩=some (.int .i64 a):=by rw [mg];simp
 have oy:W1.cell? ⟨w.heap.size + 1,3,none⟩=some (.int .i64 b):=by rw [mg];simp
 have ax:W1.cell? ⟨w.heap.size + 1,4,none⟩=some (.int .i64 c):=by rw [mg];simp
 have rN:W1.cell? ⟨w.heap.size + 1,5,none⟩=some (.int .i64 n):=by rw [mg];simp
 have zC:W1.cell? ⟨w.heap.size + 1,6,none⟩=some (.string t):=by rw [mg];simp
 clear mg;go_enter Try.func125,Try.ntmps125;go_wp2_with (first|(go_at_call 94;(with_reducible refine (ak _ _ _ _).mono ?_);rintro e w1 ⟨rfl,⟨k1,rfl⟩⟩));rw [← HW.out];clear HW
 go_region
 all_goals go_wp2_with (first|(go_at_call 138;(refine (uj _ slots _ _ ?hc).mono ?_);(case hc=>first|(go_simp;done)|(go_simp;rfl));rintro e w1 ⟨rfl,rfl⟩))
 all_goals go_ret
 all_goals exact ⟨by (try clear aV JT uO br);simp [*],by repeat (first|exact HB.out|(refine Qa ?_ br.out)|apply ia|apply qa|apply oa|refine ua ?_ (by first|omega|(simp;done)|(simp;omega)))⟩
theorem QM (A0 A4:Option Addr) (c0 c4 n0 n4:Nat) (p1 p2 slots d a b c n:Int) (t:ByteArray) (w:World) (hn0:n0 ≤ 9223372036854775807) (JB:n4 ≤ 9223372036854775807) :
  Calls Try.prog 125 #[.agg #[.slice A0 n0 c0,.int .i64 p1,.int .i64 p2,.int .i64 slots,.slice A4 n4 c4],.agg #[.int .i64 1,.int .i64 d,.int .i64 a,.int .i64 b,.int .i64 c,.int .i64 n,.string t]] w fun e w'=>e = .returned (.bool (cl slots d && cl slots a && (b == 0 && (c == 0 && (n == 0 && t.toList.isEmpty)))))∧Below w.heap.size w w':=by
 obtain ⟨W1,mg⟩:∃ W1,W1=(w.alloc (.cells #[.slice A0 n0 c0,.int .i64 p1,.int .i64 p2,.int .i64 slots,.slice A4 n4 c4] 45 (0,0))).alloc (.cells #[.int .i64 1,.int .i64 d,.int .i64 a,.int .i64 b,.int .i64 c,.int .i64 n,.string t] 122 (0,0)):=⟨_,rfl⟩;have HW:=ga.mk mg;have HB:=ga.mk (show Below w.heap.size w W1 from by rw [mg];exact oa (oa (Below.refl _ _) _) _);have hz:W1.heap.size=w.heap.size + 2:=by rw [mg];simp
 have mR:W1.cell? ⟨w.heap.size,3,none⟩=some (.int .i64 slots):=by rw [mg];simp
 have hx0:W1.cell? ⟨w.heap.size + 1,0,none⟩=some (.int .i64 1):=by rw [mg];simp
 have hx1:W1.cell? ⟨w.heap.size + 1,1,none⟩=some (.int .i64 d):=by rw [mg];simp
 have hx2:W1.cell? ⟨w.heap.size + 1,2,none⟩=some (.int .i64 a):=by rw [mg];simp
 have oy:W1.cell? ⟨w.heap.size + 1,3,none⟩=some (.int .i64 b):=by rw [mg];simp
 have ax:W1.cell? ⟨w.heap.size + 1,4,none⟩=some (.int .i64 c):=by rw [mg];simp
 have rN:W1.cell? ⟨w.heap.size + 1,5,none⟩=some (.int .i64 n):=by rw [mg];simp
 have zC:W1.cell? ⟨w.heap.size + 1,6,none⟩=some (.string t):=by rw [mg];simp
 clear mg;go_enter Try.func125,Try.ntmps125;go_wp2_with (first|(go_at_call 94;(with_reducible refine (ak _ _ _ _).mono ?_);rintro e w1 ⟨rfl,⟨k1,rfl⟩⟩));rw [← HW.out];clear HW
 go_region
 all_goals go_wp2_with (first|(go_at_call 138;(refine (uj _ slots _ _ ?hc).mono ?_);(case hc=>first|(go_simp;done)|(go_simp;rfl));rintro e w1 ⟨rfl,rfl⟩))
 all_goals go_ret
 all_goals exact ⟨by (try clear aV JT uO br);simp [*],by repeat (first|exact HB.out|(refine Qa ?_ br.out)|apply ia|apply qa|apply oa|refine ua ?_ (by first|omega|(simp;done)|(simp;omega)))⟩
theorem PM (A0 A4:Option Addr) (c0 c4 n0 n4:Nat) (p1 p2 slots d a b c n:Int) (t:ByteArray) (w:World) (hn0:n0 ≤ 9223372036854775807) (JB:n4 ≤ 9223372036854775807) :
  Calls Try.prog 125 #[.agg #[.slice A0 n0 c0,.int .i64 p1,.int .i64 p2,.int .i64 slots,.slice A4 n4 c4],.agg #[.int .i64 2,.int .i64 d,.int .i64 a,.int .i64 b,.int .i64 c,.int .i64 n,.string t]] w fun e w'=>e = .returned (.bool (cl slots d && cl slots a && cl slots b && Qu t && (c == 0 && n == 0)))∧Below w.heap.size w w':=by
 obtain ⟨W1,mg⟩:∃ W1,W1=(w.alloc (.cells #[.slice A0 n0 c0,.int .i64 p1,.int .i64 p2,.int .i64 slots,.slice A4 n4 c4] 45 (0,0))).alloc (.cells #[.int .i64 2,.int .i64 d,.int .i64 a,.int .i64 b,.int .i64 c,.int .i64 n,.string t] 122 (0,0)):=⟨_,rfl⟩;have HW:=ga.mk mg;have HB:=ga.mk (show Below w.heap.size w W1 from by rw [mg];exact oa (oa (Below.refl _ _) _) _);have hz:W1.heap.size=w.heap.size + 2:=by rw [mg];simp
 have mR:W1.cell? ⟨w.heap.size,3,none⟩=some (.int .i64 slots):=by rw [mg];simp
 have hx0:W1.cell? ⟨w.heap.size + 1,0,none⟩=some (.int .i64 2):=by rw [mg];simp
 have hx1:W1.cell? ⟨w.heap.size + 1,1,none⟩=some (.int .i64 d):=by rw [mg];simp
 have hx2:W1.cell? ⟨w.heap.size + 1,2,none⟩=some (.int .i64 a):=by rw [mg];simp
 have oy:W1.cell? ⟨w.heap.size + 1,3,none⟩=some (.int .i64 b):=by rw [mg];simp
 have ax:W1.cell? ⟨w.heap.size + 1,4,none⟩=some (.int .i64 c):=by rw [mg];simp
 have rN:W1.cell? ⟨w.heap.size + 1,5,none⟩=some (.int .i64 n):=by rw [mg];simp
 have zC:W1.cell? ⟨w.heap.size + 1,6,none⟩=some (.string t):=by rw [mg];simp
 clear mg;go_enter Try.func125,Try.ntmps125;go_wp2_with (first|(go_at_call 94;(with_reducible refine (ak _ _ _ _).mono ?_);rintro e w1 ⟨rfl,⟨k1,rfl⟩⟩));rw [← HW.out];clear HW
 go_region
 all_goals go_wp2_with (first|(go_at_call 138;(refine (uj _ slots _ _ ?hc).mono ?_);(case hc=>first|(go_simp;done)|(go_simp;rfl));rintro e w1 ⟨rfl,rfl⟩)|(go_at_call 139;(with_reducible refine (tI _ _).mono ?_);rintro e w2 ⟨rfl,Jj⟩;have br:=ga.mk Jj;obtain ⟨aV,JT⟩:=eX Jj;have uO:=Jj.size;simp at uO;clear Jj))
 all_goals go_ret
 all_goals exact ⟨by (try clear aV JT uO br);simp [*],by repeat (first|exact HB.out|(refine Qa ?_ br.out)|apply ia|apply qa|apply oa|refine ua ?_ (by first|omega|(simp;done)|(simp;omega)))⟩
theorem OM (A0 A4:Option Addr) (c0 c4 n0 n4:Nat) (p1 p2 slots d a b c n:Int) (t:ByteArray) (w:World) (hn0:n0 ≤ 9223372036854775807) (JB:n4 ≤ 9223372036854775807) :
  Calls Try.prog 125 #[.agg #[.slice A0 n0 c0,.int .i64 p1,.int .i64 p2,.int .i64 slots,.slice A4 n4 c4],.agg #[.int .i64 3,.int .i64 d,.int .i64 a,.int .i64 b,.int .i64 c,.int .i64 n,.string t]] w fun e w'=>e = .returned (.bool (cl slots d && cl slots b && Ij n 0 ((n0:Int) - 1) && (cl slots a || a == -1) && (c == 0 && t.toList.isEmpty)))∧Below w.heap.size w w':=by
 obtain ⟨W1,mg⟩:∃ W1,W1=(w.alloc (.cells #[.slice A0 n0 c0,.int .i64 p1,.int .i64 p2,.int .i64 slots,.slice A4 n4 c4] 45 (0,0))).alloc (.cells #[.int .i64 3,.int .i64 d,.int .i64 a,.int .i64 b,.int .i64 c,.int .i64 n,.string t] 122 (0,0)):=⟨_,rfl⟩;have HW:=ga.mk mg;have HB:=ga.mk (show Below w.heap.size w W1 from by rw [mg];exact oa (oa (Below.refl _ _) _) _);have hz:W1.heap.size=w.heap.size + 2:=by rw [mg];simp
 have mR:W1.cell? ⟨w.heap.size,3,none⟩=some (.int .i64 slots):=by rw [mg];simp
 have hx0:W1.cell? ⟨w.heap.size + 1,0,none⟩=some (.int .i64 3):=by rw [mg];simp
 have hx1:W1.cell? ⟨w.heap.size + 1,1,none⟩=some (.int .i64 d):=by rw [mg];simp
 have hx2:W1.cell? ⟨w.heap.size + 1,2,none⟩=some (.int .i64 a):=by rw [mg];simp
 have oy:W1.cell? ⟨w.heap.size + 1,3,none⟩=some (.int .i64 b):=by rw [mg];simp
 have ax:W1.cell? ⟨w.heap.size + 1,4,none⟩=some (.int .i64 c):=by rw [mg];simp
 have rN:W1.cell? ⟨w.heap.size + 1,5,none⟩=some (.int .i64 n):=by rw [mg];simp
 have zC:W1.cell? ⟨w.heap.size + 1,6,none⟩=some (.string t):=by rw [mg];simp
 clear mg;go_enter Try.func125,Try.ntmps125;go_wp2_with (first|(go_at_call 94;(with_reducible refine (ak _ _ _ _).mono ?_);rintro e w1 ⟨rfl,⟨k1,rfl⟩⟩));rw [← HW.out];clear HW
 go_region
 all_goals go_wp2_with (first|(go_at_call 138;(refine (uj _ slots _ _ ?hc).mono ?_);(case hc=>first|(go_simp;done)|(go_simp;rfl));rintro e w1 ⟨rfl,rfl⟩))
 all_goals go_ret
 all_goals exact ⟨by (try clear aV JT uO br);simp [*],by repeat (first|exact HB.out|(refine Qa ?_ br.out)|apply ia|apply qa|apply oa|refine ua ?_ (by first|omega|(simp;done)|(simp;omega)))⟩
theorem NM (A0 A4:Option Addr) (c0 c4 n0 n4:Nat) (p1 p2 slots d a b c n:Int) (t:ByteArray) (w:World) (hn0:n0 ≤ 9223372036854775807) (JB:n4 ≤ 9223372036854775807) :
  Calls Try.prog 125 #[.agg #[.slice A0 n0 c0,.int .i64 p1,.int .i64 p2,.int .i64 slots,.slice A4 n4 c4],.agg #[.int .i64 4,.int .i64 d,.int .i64 a,.int .i64 b,.int .i64 c,.int .i64 n,.string t]] w fun e w'=>e = .returned (.bool (cl slots c && cl slots b && Ij n 0 ((n0:Int) - 1) && (cl slots a || a == -1) && (d == 0 && t.toList.isEmpty)))∧Below w.heap.size w w':=by
 obtain ⟨W1,mg⟩:∃ W1,W1=(w.alloc (.cells #[.slice A0 n0 c0,.int .i64 p1,.int .i64 p2,.int .i64 slots,.slice A4 n4 c4] 45 (0,0))).alloc (.cells #[.int .i64 4,.int .i64 d,.int .i64 a,.int .i64 b,.int .i64 c,.int .i64 n,.string t] 122 (0,0)):=⟨_,rfl⟩;have HW:=ga.mk mg;have HB:=ga.mk (show Below w.heap.size w W1 from by rw [mg];exact oa (oa (Below.refl _ _) _) _);have hz:W1.heap.size=w.heap.size + 2:=by rw [mg];simp
 have mR:W1.cell? ⟨w.heap.size,3,none⟩=some (.int .i64 slots):=by rw [mg];simp
 have hx0:W1.cell? ⟨w.heap.size + 1,0,none⟩=some (.int .i64 4):=by rw [mg];simp
 have hx1:W1.cell? ⟨w.heap.size + 1,1,none⟩=some (.int .i64 d):=by rw [mg];simp
 have hx2:W1.cell? ⟨w.heap.size + 1,2,none⟩=some (.int .i64 a):=by rw [mg];simp
 have oy:W1.cell? ⟨w.heap.size + 1,3,none⟩=some (.int .i64 b):=by rw [mg];simp
 have ax:W1.cell? ⟨w.heap.size + 1,4,none⟩=some (.int .i64 c):=by rw [mg];simp
 have rN:W1.cell? ⟨w.heap.size + 1,5,none⟩=some (.int .i64 n):=by rw [mg];simp
 have zC:W1.cell? ⟨w.heap.size + 1,6,none⟩=some (.string t):=by rw [mg];simp
 clear mg;go_enter Try.func125,Try.ntmps125;go_wp2_with (first|(go_at_call 94;(with_reducible refine (ak _ _ _ _).mono ?_);rintro e w1 ⟨rfl,⟨k1,rfl⟩⟩));rw [← HW.out];clear HW
 go_region
 all_goals go_wp2_with (first|(go_at_call 138;(refine (uj _ slots _ _ ?hc).mono ?_);(case hc=>first|(go_simp;done)|(go_simp;rfl));rintro e w1 ⟨rfl,rfl⟩))
 all_goals go_ret
 all_goals exact ⟨by (try clear aV JT uO br);simp [*],by repeat (first|exact HB.out|(refine Qa ?_ br.out)|apply ia|apply qa|apply oa|refine ua ?_ (by first|omega|(simp;done)|(simp;omega)))⟩
theorem MM (A0 A4:Option Addr) (c0 c4 n0 n4:Nat) (p1 p2 slots d a b c n:Int) (t:ByteArray) (w:World) (hn0:n0 ≤ 9223372036854775807) (JB:n4 ≤ 9223372036854775807) :
  Calls Try.prog 125 #[.agg #[.slice A0 n0 c0,.int .i64 p1,.int .i64 p2,.int .i64 slots,.slice A4 n4 c4],.agg #[.int .i64 5,.int .i64 d,.int .i64 a,.int .i64 b,.int .i64 c,.int .i64 n,.string t]] w fun e w'=>e = .returned (.bool (cl slots d && (a == 0 && (b == 0 && (c == 0 && (n == 0 && t.toList.isEmpty))))))∧Below w.heap.size w w':=by
 obtain ⟨W1,mg⟩:∃ W1,W1=(w.alloc (.cells #[.slice A0 n0 c0,.int .i64 p1,.int .i64 p2,.int .i64 slots,.slice A4 n4 c4] 45 (0,0))).alloc (.cells #[.int .i64 5,.int .i64 d,.int .i64 a,.int .i64 b,.int .i64 c,.int .i64 n,.string t] 122 (0,0)):=⟨_,rfl⟩;have HW:=ga.mk mg;have HB:=ga.mk (show Below w.heap.size w W1 from by rw [mg];exact oa (oa (Below.refl _ _) _) _);have hz:W1.heap.size=w.heap.size + 2:=by rw [mg];simp
 have mR:W1.cell? ⟨w.heap.size,3,none⟩=some (.int .i64 slots):=by rw [mg];simp
 have hx0:W1.cell? ⟨w.heap.size + 1,0,none⟩=some (.int .i64 5):=by rw [mg];simp
 have hx1:W1.cell? ⟨w.heap.size + 1,1,none⟩=some (.int .i64 d):=by rw [mg];simp
 have hx2:W1.cell? ⟨w.heap.size + 1,2,none⟩=some (.int .i64 a):=by rw [mg];simp
 have oy:W1.cell? ⟨w.heap.size + 1,3,none⟩=some (.int .i64 b):=by rw [mg];simp
 have ax:W1.cell? ⟨w.heap.size + 1,4,none⟩=some (.int .i64 c):=by rw [mg];simp
 have rN:W1.cell? ⟨w.heap.size + 1,5,none⟩=some (.int .i64 n):=by rw [mg];simp
 have zC:W1.cell? ⟨w.heap.size + 1,6,none⟩=some (.string t):=by rw [mg];simp
 clear mg;go_enter Try.func125,Try.ntmps125;go_wp2_with (first|(go_at_call 94;(with_reducible refine (ak _ _ _ _).mono ?_);rintro e w1 ⟨rfl,⟨k1,rfl⟩⟩));rw [← HW.out];clear HW
 go_region
 all_goals go_wp2_with (first|(go_at_call 138;(refine (uj _ slots _ _ ?hc).mono ?_);(case hc=>first|(go_simp;done)|(go_simp;rfl));rintro e w1 ⟨rfl,rfl⟩))
 all_goals go_ret
 all_goals exact ⟨by (try clear aV JT uO br);simp [*],by repeat (first|exact HB.out|(refine Qa ?_ br.out)|apply ia|apply qa|apply oa|refine ua ?_ (by first|omega|(simp;done)|(simp;omega)))⟩
theorem LM (A0 A4:Option Addr) (c0 c4 n0 n4:Nat) (p1 p2 slots d a b c n:Int) (t:ByteArray) (w:World) (hn0:n0 ≤ 9223372036854775807) (JB:n4 ≤ 9223372036854775807) :
  Calls Try.prog 125 #[.agg #[.slice A0 n0 c0,.int .i64 p1,.int .i64 p2,.int .i64 slots,.slice A4 n4 c4],.agg #[.int .i64 6,.int .i64 d,.int .i64 a,.int .i64 b,.int .i64 c,.int .i64 n,.string t]] w fun e w'=>e = .returned (.bool (cl slots a && (d == 0 && (b == 0 && (c == 0 && (n == 0 && t.toList.isEmpty))))))∧Below w.heap.size w w':=by
 obtain ⟨W1,mg⟩:∃ W1,W1=(w.alloc (.cells #[.slice A0 n0 c0,.int .i64 p1,.int .i64 p2,.int .i64 slots,.slice A4 n4 c4] 45 (0,0))).alloc (.cells #[.int .i64 6,.int .i64 d,.int .i64 a,.int .i64 b,.int .i64 c,.int .i64 n,.string t] 122 (0,0)):=⟨_,rfl⟩;have HW:=ga.mk mg;have HB:=ga.mk (show Below w.heap.size w W1 from by rw [mg];exact oa (oa (Below.refl _ _) _) _);have hz:W1.heap.size=w.heap.size + 2:=by rw [mg];simp
 have mR:W1.cell? ⟨w.heap.size,3,none⟩=some (.int .i64 slots):=by rw [mg];simp
 have hx0:W1.cell? ⟨w.heap.size + 1,0,none⟩=some (.int .i64 6):=by rw [mg];simp
 have hx1:W1.cell? ⟨w.heap.size + 1,1,none⟩=some (.int .i64 d):=by rw [mg];simp
 have hx2:W1.cell? ⟨w.heap.size + 1,2,none⟩=some (.int .i64 a):=by rw [mg];simp
 have oy:W1.cell? ⟨w.heap.size + 1,3,none⟩=some (.int .i64 b):=by rw [mg];simp
 have ax:W1.cell? ⟨w.heap.size + 1,4,none⟩=some (.int .i64 c):=by rw [mg];simp
 have rN:W1.cell? ⟨w.heap.size + 1,5,none⟩=some (.int .i64 n):=by rw [mg];simp
 have zC:W1.cell? ⟨w.heap.size + 1,6,none⟩=some (.string t):=by rw [mg];simp
 clear mg;go_enter Try.func125,Try.ntmps125;go_wp2_with (first|(go_at_call 94;(with_reducible refine (ak _ _ _ _).mono ?_);rintro e w1 ⟨rfl,⟨k1,rfl⟩⟩));rw [← HW.out];clear HW
 go_region
 all_goals go_wp2_with (first|(go_at_call 138;(refine (uj _ slots _ _ ?hc).mono ?_);(case hc=>first|(go_simp;done)|(go_simp;rfl));rintro e w1 ⟨rfl,rfl⟩))
 all_goals go_ret
 all_goals exact ⟨by (try clear aV JT uO br);simp [*],by repeat (first|exact HB.out|(refine Qa ?_ br.out)|apply ia|apply qa|apply oa|refine ua ?_ (by first|omega|(simp;done)|(simp;omega)))⟩
theorem uI (A0 A4:Option Addr) (c0 c4 n0 n4:Nat) (p1 p2 slots d a b c n:Int) (t:ByteArray) (w:World) (hn0:n0 ≤ 9223372036854775807) (JB:n4 ≤ 9223372036854775807) (o:Int) (h0:(o == 0)=false) (h1:(o == 1)=false) (h2:(o == 2)=false) (h3:(o == 3)=false) (h4:(o == 4)=false) (h5:(o == 5)=false) (h6:(o == 6)=false) :
  Calls Try.prog 125 #[.agg #[.slice A0 n0 c0,.int .i64 p1,.int .i64 p2,.int .i64 slots,.slice A4 n4 c4],.agg #[.int .i64 o,.int .i64 d,.int .i64 a,.int .i64 b,.int .i64 c,.int .i64 n,.string t]] w fun e w'=>e = .returned (.bool (false))∧Below w.heap.size w w':=by
 obtain ⟨W1,mg⟩:∃ W1,W1=(w.alloc (.cells #[.slice A0 n0 c0,.int .i64 p1,.int .i64 p2,.int .i64 slots,.slice A4 n4 c4] 45 (0,0))).alloc (.cells #[.int .i64 o,.int .i64 d,.int .i64 a,.int .i64 b,.int .i64 c,.int .i64 n,.string t] 122 (0,0)):=⟨_,rfl⟩;have HW:=ga.mk mg;have HB:=ga.mk (show Below w.heap.size w W1 from by rw [mg];exact oa (oa (Below.refl _ _) _) _);have hz:W1.heap.size=w.heap.size + 2:=by rw [mg];simp
 have mR:W1.cell? ⟨w.heap.size,3,none⟩=some (.int .i64 slots):=by rw [mg];simp
 have hx0:W1.cell? ⟨w.heap.size + 1,0,none⟩=some (.int .i64 o):=by rw [mg];simp
 have hx1:W1.cell? ⟨w.heap.size + 1,1,none⟩=some (.int .i64 d):=by rw [mg];simp
 have hx2:W1.cell? ⟨w.heap.size + 1,2,none⟩=some (.int .i64 a):=by rw [mg];simp
 have oy:W1.cell? ⟨w.heap.size + 1,3,none⟩=some (.int .i64 b):=by rw [mg];simp
 have ax:W1.cell? ⟨w.heap.size + 1,4,none⟩=some (.int .i64 c):=by rw [mg];simp
 have rN:W1.cell? ⟨w.heap.size + 1,5,none⟩=some (.int .i64 n):=by rw [mg];simp
 have zC:W1.cell? ⟨w.heap.size + 1,6,none⟩=some (.string t):=by rw [mg];simp
 clear mg;go_enter Try.func125,Try.ntmps125;go_wp2_with (first|(go_at_call 94;(with_reducible refine (ak _ _ _ _).mono ?_);rintro e w1 ⟨rfl,⟨k1,rfl⟩⟩));rw [← HW.out];clear HW
 go_region
 all_goals go_wp2_with (first|(go_at_call 138;(refine (uj _ slots _ _ ?hc).mono ?_);(case hc=>first|(go_simp;done)|(go_simp;rfl));rintro e w1 ⟨rfl,rfl⟩))
 all_goals go_ret
 all_goals exact ⟨by (try clear aV JT uO br);simp [*],by repeat (first|exact HB.out|(refine Qa ?_ br.out)|apply ia|apply qa|apply oa|refine ua ?_ (by first|omega|(simp;done)|(simp;omega)))⟩
def Jl (n0:Nat) (slots:Int) (o d a b c n:Int) (t:ByteArray):Bool :=
 if o=0 then cl slots d && (a == 0 && (b == 0 && (c == 0 && t.toList.isEmpty)))
 else if o=1 then cl slots d && cl slots a && (b == 0 && (c == 0 && (n == 0 && t.toList.isEmpty)))
 else if o=2 then cl slots d && cl slots a && cl slots b && Qu t && (c == 0 && n == 0)
 else if o=3 then cl slots d && cl slots b && Ij n 0 ((n0:Int) - 1) && (cl slots a || a == -1) && (c == 0 && t.toList.isEmpty)
 else if o=4 then cl slots c && cl slots b && Ij n 0 ((n0:Int) - 1) && (cl slots a || a == -1) && (d == 0 && t.toList.isEmpty)
 else if o=5 then cl slots d && (a == 0 && (b == 0 && (c == 0 && (n == 0 && t.toList.isEmpty))))
 else if o=6 then cl slots a && (d == 0 && (b == 0 && (c == 0 && (n == 0 && t.toList.isEmpty))))
 else false
theorem RF (A0 A4:Option Addr) (c0 c4 n0 n4:Nat) (p1 p2 slots:Int) (w:World) (hn0:n0 ≤ 9223372036854775807) (JB:n4 ≤ 9223372036854775807) (o d a b c n:Int) (t:ByteArray) :
  Calls Try.prog 125 #[.agg #[.slice A0 n0 c0,.int .i64 p1,.int .i64 p2,.int .i64 slots,.slice A4 n4 c4],.agg #[.int .i64 o,.int .i64 d,.int .i64 a,.int .i64 b,.int .i64 c,.int .i64 n,.string t]] w fun e w'=>e = .returned (.bool (Jl n0 slots o d a b c n t))∧Below w.heap.size w w':=by
 unfold Jl
 by_cases h0:o=0
 ·rw [if_pos h0,h0];exact RM A0 A4 c0 c4 n0 n4 p1 p2 slots d a b c n t w hn0 JB
 rw [if_neg h0]
 by_cases h1:o=1
 ·rw [if_pos h1,h1];exact QM A0 A4 c0 c4 n0 n4 p1 p2 slots d a b c n t w hn0 JB
 rw [if_neg h1]
 by_cases h2:o=2
 ·rw [if_pos h2,h2];exact PM A0 A4 c0 c4 n0 n4 p1 p2 slots d a b c n t w hn0 JB
 rw [if_neg h2]
 by_cases h3:o=3
 ·rw [if_pos h3,h3];exact OM A0 A4 c0 c4 n0 n4 p1 p2 slots d a b c n t w hn0 JB
 rw [if_neg h3]
 by_cases h4:o=4
 ·rw [if_pos h4,h4];exact NM A0 A4 c0 c4 n0 n4 p1 p2 slots d a b c n t w hn0 JB
 rw [if_neg h4]
 by_cases h5:o=5
 ·rw [if_pos h5,h5];exact MM A0 A4 c0 c4 n0 n4 p1 p2 slots d a b c n t w hn0 JB
 rw [if_neg h5]
 by_cases h6:o=6
 ·rw [if_pos h6,h6];exact LM A0 A4 c0 c4 n0 n4 p1 p2 slots d a b c n t w hn0 JB
 rw [if_neg h6];exact uI A0 A4 c0 c4 n0 n4 p1 p2 slots d a b c n t w hn0 JB o (beq_eq_false_iff_ne.mpr h0) (beq_eq_false_iff_ne.mpr h1) (beq_eq_false_iff_ne.mpr h2) (beq_eq_false_iff_ne.mpr h3) (beq_eq_false_iff_ne.mpr h4) (beq_eq_false_iff_ne.mpr h5) (beq_eq_false_iff_ne.mpr h6)
def Xn (n0:Nat) (slots:Int) (x:Vc):Bool:=Jl n0 slots x.f0 x.f1 x.f2 x.f3 x.f4 x.f5 x.f6
def Wj (n0:Nat) (slots:Int) (n4:Nat) (code:List Vc) (j a tg els:Int):Bool :=
 !(code.any fun x=>!Xn n0 slots x) && decide (0 ≤ slots) &&
  (if j=0 then Ij tg 0 ((n4:Int) - 1) && a == 0 && els == 0
   else if j=1 then Ij tg 0 ((n4:Int) - 1) && Ij els 0 ((n4:Int) - 1) && cl slots a
   else if j=2 then cl slots a && tg == 0 && els == 0
   else false)
theorem SM (B:Nat) (A0 A4:Option Addr) (c0 c4 n0 n4:Nat) (p1 p2 slots:Int) (hn0:n0 ≤ 9223372036854775807) (JB:n4 ≤ 9223372036854775807) (W:World) (x:Vc)
  (hb0:W.cell? ⟨B,0,none⟩=some (.slice A0 n0 c0)) (Qp:W.cell? ⟨B,1,none⟩=some (.int .i64 p1)) (Jj:W.cell? ⟨B,2,none⟩=some (.int .i64 p2)) (hb3:W.cell? ⟨B,3,none⟩=some (.int .i64 slots)) (hb4:W.cell? ⟨B,4,none⟩=some (.slice A4 n4 c4)) (hB:B < W.heap.size) :
  Calls Try.prog 124 #[.agg #[.int .i64 x.f0,.int .i64 x.f1,.int .i64 x.f2,.int .i64 x.f3,.int .i64 x.f4,.int .i64 x.f5,.string x.f6],.pointer (some ⟨B,0,none⟩)] W
   fun e w'=>e = .returned (.bool (!Xn n0 slots x))∧Below W.heap.size W w':=by
 have hne:B ≠ W.heap.size:=by omega
 unfold Xn;have HC:=ga.mk (fun W'=>RF A0 A4 c0 c4 n0 n4 p1 p2 slots W' hn0 JB x.f0 x.f1 x.f2 x.f3 x.f4 x.f5 x.f6);generalize Jl n0 slots x.f0 x.f1 x.f2 x.f3 x.f4 x.f5 x.f6=b at HC ⊢;go_enter Try.func124,Try.ntmps124;go_wp2_with (go_at_call 125;(with_reducible refine (HC.out _).mono ?_);rintro e w1 ⟨rfl,hb⟩;have HD:=ga.mk (Qa (oa (Below.refl _ _) _) hb);clear hb);go_ret;exact ⟨rfl,HD.out⟩
theorem SF (A0 A4 A5:Option Addr) (c0 c4 c5 n0 n4:Nat) (p1 p2 slots:Int) (l5:List Vc) (j a tg els:Int) (w:World) (hn0:n0 ≤ 9223372036854775807) (JB:n4 ≤ 9223372036854775807) (hr5:Kd.C Pf w A5 l5.length l5) (hc5:l5.length ≤ c5) :
  Calls Try.prog 104 #[.agg #[.slice A0 n0 c0,.int .i64 p1,.int .i64 p2,.int .i64 slots,.slice A4 n4 c4],.agg #[.slice A5 l5.length c5,.int .i64 j,.int .i64 a,.int .i64 tg,.int .i64 els]] w fun e w'=>e = .returned (.bool (Wj n0 slots n4 l5 j a tg els))∧Below w.heap.size w w':=by
 have eg:=enters_of Try.func124 (by kernel_rfl) rfl;have hm5:=hr5.2.1;obtain ⟨W1,mg⟩:∃ W1,W1=(w.alloc (.cells #[.slice A0 n0 c0,.int .i64 p1,.int .i64 p2,.int .i64 slots,.slice A4 n4 c4] 45 (0,0))).alloc (.cells #[.slice A5 l5.length c5,.int .i64 j,.int .i64 a,.int .i64 tg,.int .i64 els] 83 (0,0)):=⟨_,rfl⟩;have HW:=ga.mk mg;have hB1:Below w.heap.size w W1:=by rw [mg];exact oa (oa (Below.refl _ _) _) _
 have hz:W1.heap.size=w.heap.size + 2:=by rw [mg];simp
 have WM:W1.cell? ⟨w.heap.size,0,none⟩=some (.slice A0 n0 c0):=by rw [mg];simp
 have VA:W1.cell? ⟨w.heap.size,1,none⟩=some (.int .i64 p1):=by rw [mg];simp
 have hg2:W1.cell? ⟨w.heap.size,2,none⟩=some (.int .i64 p2):=by rw [mg];simp
 have JH:W1.cell? ⟨w.heap.size,3,none⟩=some (.int .i64 slots):=by rw [mg];simp
 have GH:W1.cell? ⟨w.heap.size,4,none⟩=some (.slice A4 n4 c4):=by rw [mg];simp
 have hx0:W1.cell? ⟨w.heap.size + 1,0,none⟩=some (.slice A5 l5.length c5):=by rw [mg];simp
 have hx1:W1.cell? ⟨w.heap.size + 1,1,none⟩=some (.int .i64 j):=by rw [mg];simp
 have hx2:W1.cell? ⟨w.heap.size + 1,2,none⟩=some (.int .i64 a):=by rw [mg];simp
 have oy:W1.cell? ⟨w.heap.size + 1,3,none⟩=some (.int .i64 tg):=by rw [mg];simp
 have ax:W1.cell? ⟨w.heap.size + 1,4,none⟩=some (.int .i64 els):=by rw [mg];simp
 have hr1:=Kd.Mb hr5 hB1;clear mg hr5
 have HF:=ga.mk (Ju 124 #[.pointer (some ⟨w.heap.size,0,none⟩)] (fun x=>!Xn n0 slots x) eg A5 c5 l5 W1 hr1 hc5
  (fun W2 x hb'=>SM w.heap.size A0 A4 c0 c4 n0 n4 p1 p2 slots hn0 JB W2 x ((hb'.cell (p:=⟨w.heap.size,0,none⟩) (by simp;omega)).trans WM) ((hb'.cell (p:=⟨w.heap.size,1,none⟩) (by simp;omega)).trans VA) ((hb'.cell (p:=⟨w.heap.size,2,none⟩) (by simp;omega)).trans hg2) ((hb'.cell (p:=⟨w.heap.size,3,none⟩) (by simp;omega)).trans JH) ((hb'.cell (p:=⟨w.heap.size,4,none⟩) (by simp;omega)).trans GH) (Nat.lt_of_lt_of_le (by omega) hb'.size)))
 have HB:=ga.mk hB1;clear hr1 hB1 eg;unfold Wj;cases hq:l5.any (fun x=>!Xn n0 slots x) with
 | true =>
  rw [hq] at HF;go_enter Try.func104,Try.ntmps104
  go_upto_region 1 with (fail)
  rw [← HW.out];clear HW;go_wp2_with (first|(go_at_call 123;(with_reducible refine HF.out.mono ?_);rintro e w2 ⟨rfl,Jj⟩;have br:=ga.mk Jj;clear Jj))
  all_goals
   go_ret;exact ⟨by simp,Qa HB.out br.out⟩
 | false =>
  rw [hq] at HF;cases ha0:decide (0 ≤ a)
  all_goals
   go_enter Try.func104,Try.ntmps104
   go_upto_region 1 with (fail)
   rw [← HW.out];clear HW
   go_upto_region 3 with (first|(go_at_call 123;(with_reducible refine HF.out.mono ?_);rintro e w2 ⟨rfl,Jj⟩;replace JH:=(Jj.cell (World.block_lt_of_cell? W1 _ JH)).trans JH;replace GH:=(Jj.cell (World.block_lt_of_cell? W1 _ GH)).trans GH;replace hx1:=(Jj.cell (World.block_lt_of_cell? W1 _ hx1)).trans hx1;replace hx2:=(Jj.cell (World.block_lt_of_cell? W1 _ hx2)).trans hx2;replace oy:=(Jj.cell (World.block_lt_of_cell? W1 _ oy)).trans oy;replace ax:=(Jj.cell (World.block_lt_of_cell? W1 _ ax)).trans ax;have br:=ga.mk (Qa HB.out Jj);clear Jj HB WM VA hg2 hx0))
   go_quiet ((go_at_call 94;exact Calls.quiet_of ((ak _ _ _ _).mono fun _ _ ⟨he,hm⟩=>⟨he,hm.out⟩)))
   go_wp2
   all_goals go_ret
   all_goals exact ⟨by first|(simp [cl, *];done)|(simp [cl, *];intros;omega)|(clear HF JH GH hx1 hx2 oy ax;simp_all [cl];done)|(clear HF JH GH hx1 hx2 oy ax;simp_all [cl];omega),by repeat (first|exact br.out|apply ia)⟩
def Bi.f (Oa:List Int) (La:Int) (Pa:Int) (Ja:Int) (Fa:List (zf)) (Mc:List (Vc)) (Ub:Int) (Nb:Int) (Ob:Int) (oc:Int):Option Bool:=some (Wj Oa.length Ja Fa.length Mc Ub Nb Ob oc)
theorem Bi.calls (xb:Option Addr) (qb:Nat) (Oa:List Int) (La:Int) (Pa:Int) (Ja:Int) (Pb:Option Addr) (Gb:Nat) (Fa:List (zf)) (Ff:Option Addr) (tf:Nat) (Mc:List (Vc)) (Ub:Int) (Nb:Int) (Ob:Int) (oc:Int) (r:Bool) (w:World) (xe:Kd.C (Kd.int .i64) w xb Oa.length Oa) (we:Oa.length ≤ qb) (Wf:Kd.C Bp w Pb Fa.length Fa) (Uf:Fa.length ≤ Gb) (Vt:Kd.C Pf w Ff Mc.length Mc) (Xt:Mc.length ≤ tf) (h:Bi.f Oa La Pa Ja Fa Mc Ub Nb Ob oc=some r) :
  Calls Try.prog 104 #[.agg #[.slice xb Oa.length qb,.int .i64 La,.int .i64 Pa,.int .i64 Ja,.slice Pb Fa.length Gb],.agg #[.slice Ff Mc.length tf,.int .i64 Ub,.int .i64 Nb,.int .i64 Ob,.int .i64 oc]] w fun e w'=>e = .returned (.bool r)∧Below w.heap.size w w':=by
 injection h with h
 subst h;exact SF xb Pb Ff qb Gb tf Oa.length Fa.length La Pa Ja Mc Ub Nb Ob oc w xe.2.1 Wf.2.1 Vt Xt
attribute [local go_sem] Wh Uh Fj Ej oh nh Vh Th
mutual
def Xb.j0:Nat→Bool→List Int→Int→Int→Int→List (zf)→Option (Bool)
 | 0,_,_,_,_,_,_=>none
 | k + 1,x29,Tc,Uc,Sc,Rc,Zb=>if x29=true then (some false) else (Xb.l0 k 0 Zb (Zb.length:Int) 0 Tc Uc Sc Rc Zb)
def Xb.l0:Nat→Int→List (zf)→Int→Int→List Int→Int→Int→Int→List (zf)→Option (Bool)
 | 0,_,_,_,_,_,_,_,_,_=>none
 | k + 1,x3,YV,x32,cR,Tc,Uc,Sc,Rc,Zb=>if cR < x32 then (if 0 ≤ cR then (if cR < (YV.length:Int) then ((Bi.f Tc Uc Sc Rc Zb ((Ta YV cR).f0) ((Ta YV cR).f1) ((Ta YV cR).f2) ((Ta YV cR).f3) ((Ta YV cR).f4)).bind fun t107=>(if t107=true then (Xb.l0 k (wrap64 (x3 + (((Ta YV cR).f0).length:Int))) YV x32 (wrap64 (cR + 1)) Tc Uc Sc Rc Zb) else (some false))) else (none)) else (none)) else (some (decide (x3 ≤ 1000)))
end
def Xb.f (k:Nat) (Oa:List Int) (La:Int) (Pa:Int) (Ja:Int) (Fa:List (zf)):Option (Bool):=(yg.f Oa La Pa ([]:List (Kx))).bind fun t102=>(if t102=true then ((Yg.f Ja Pa 1000).bind fun t103=>(if t103=true then ((Yg.f (Fa.length:Int) 1 300).bind fun t104=>(Xb.j0 k (!t104) Oa La Pa Ja Fa)) else (Xb.j0 k true Oa La Pa Ja Fa))) else (Xb.j0 k true Oa La Pa Ja Fa))
theorem Xb.calls (k:Nat) (xb:Option Addr) (qb:Nat) (Oa:List Int) (La:Int) (Pa:Int) (Ja:Int) (Pb:Option Addr) (Gb:Nat) (Fa:List (zf)) (r:Bool) (w:World) (xe:Kd.C (Kd.int .i64) w xb Oa.length Oa) (we:Oa.length ≤ qb) (Wf:Kd.C Bp w Pb Fa.length Fa) (Uf:Fa.length ≤ Gb) (h:Xb.f k Oa La Pa Ja Fa=some r) :
  Calls Try.prog 71 #[.agg #[.slice xb Oa.length qb,.int .i64 La,.int .i64 Pa,.int .i64 Ja,.slice Pb Fa.length Gb]] w fun e w'=>e = .returned (.bool r)∧Below w.heap.size w w':=by
 have mA:=Try.underlying45;have Baq:=Try.underlying100;have kA:=Try.underlying83;have Ue:=ga.mk xe;have af:=ga.mk we;clear xe we;have ng:=ga.mk Wf;have Xg:=ga.mk Uf;clear Wf Uf;have HB:=ga.mk (Below.refl w.heap.size w);have H:((yg.f Oa La Pa ([]:List (Kx))).bind fun t102=>(if t102=true then ((Yg.f Ja Pa 1000).bind fun t103=>(if t103=true then ((Yg.f (Fa.length:Int) 1 300).bind fun t104=>(Xb.j0 k (!t104) Oa La Pa Ja Fa)) else (Xb.j0 k true Oa La Pa Ja Fa))) else (Xb.j0 k true Oa La Pa Ja Fa)))=some r:=h;clear h;have D5:=ga.mk H;clear H;go_enter Try.func71,Try.ntmps71
 go_upto_region 1 with (first|((with_reducible refine Db (N:=1) rfl ?_);(try (refine Oi (by rfl) ?_;dsimp only));refine Jb ?hg (N:=1) ?hd (cs:=#[.slice xb Oa.length qb,.int .i64 La,.int .i64 Pa,.int .i64 Ja,.slice Pb Fa.length Gb]) (t:=45) ?hr ?_;(case hd=>rfl);(case hg=>rfl);(case hr=>first|(go_simp;done)|(go_simp;rfl));intro za hg w3 Wb hb;have Fb:=ga.mk (Qa (by repeat (first|(with_reducible first|exact HB.out|apply oa|apply ia|apply qa)|exact HB.out)) hb);have Lb:=ga.mk (Wb);have Vb:=ga.mk ((by rw [hg];exact (Ka (by repeat (first|(with_reducible first|exact HB.out|apply oa|apply ia|apply qa)|exact HB.out))):w.heap.size ≤ za));have Bc:=ga.mk ((by rw [hg];exact (Ka (by repeat (first|(with_reducible first|exact HB.out|apply oa|apply ia|apply qa)|exact HB.out))):w.heap.size ≤ za));clear HB;have HB:=Fb;have ta:=Lb;have ye:=Vb;have Sa:=Bc;clear Fb Lb Vb Bc hb Wb hg))
 (try simp only [Act.put,List.setIfInBounds_toArray,List.set_cons_zero,List.set_cons_succ])
 go_cut [29] (fun v29 wc=>∃ (kq:Nat) (CJ:Bool),v29 = .bool CJ∧ga (Xb.j0 kq CJ Oa La Pa Ja Fa=some r)∧ga (kq ≤ k)∧ga (wc.heap[za]? = some (.cells #[(.slice xb Oa.length qb),.int .i64 La,.int .i64 Pa,.int .i64 Ja,(.slice Pb Fa.length Gb)] 45 (0,0)))∧ga (Below w.heap.size w wc))
 case first =>
  have H:=D5.out;clear D5;replace H:=Option.bind_eq_some_iff.mp H;obtain ⟨t102,AH,H⟩:=H;replace H:(if t102=true then ((Yg.f Ja Pa 1000).bind fun t103=>(if t103=true then ((Yg.f (Fa.length:Int) 1 300).bind fun t104=>(Xb.j0 k (!t104) Oa La Pa Ja Fa)) else (Xb.j0 k true Oa La Pa Ja Fa))) else (Xb.j0 k true Oa La Pa Ja Fa))=some r:=H;have A4:=ga.mk AH;clear AH
  by_cases c5:t102=true
  ·subst c5;have H1:((Yg.f Ja Pa 1000).bind fun t103=>(if t103=true then ((Yg.f (Fa.length:Int) 1 300).bind fun t104=>(Xb.j0 k (!t104) Oa La Pa Ja Fa)) else (Xb.j0 k true Oa La Pa Ja Fa)))=some r:=by rw [if_pos rfl] at H;exact H
   clear H;have H:=H1;clear H1;replace H:=Option.bind_eq_some_iff.mp H;obtain ⟨t103,bY,H⟩:=H;replace H:(if t103=true then ((Yg.f (Fa.length:Int) 1 300).bind fun t104=>(Xb.j0 k (!t104) Oa La Pa Ja Fa)) else (Xb.j0 k true Oa La Pa Ja Fa))=some r:=H;have A6:=ga.mk bY;clear bY
   by_cases c7:t103=true
   ·subst c7;have H1:((Yg.f (Fa.length:Int) 1 300).bind fun t104=>(Xb.j0 k (!t104) Oa La Pa Ja Fa))=some r:=by rw [if_pos rfl] at H;exact H
    clear H;have H:=H1;clear H1;replace H:=Option.bind_eq_some_iff.mp H;obtain ⟨t104,UQ,H⟩:=H;replace H:(Xb.j0 k (!t104) Oa La Pa Ja Fa)=some r:=H;have A8:=ga.mk UQ;clear UQ;have H':=ga.mk H;clear H;have Em:w3.cell? ⟨za,0,none⟩=some (.slice xb Oa.length qb):=(ja ta.out 0).trans rfl;have Dm:w3.cell? ⟨za,1,none⟩=some (.int .i64 La):=(ja ta.out 1).trans rfl;have Cm:w3.cell? ⟨za,2,none⟩=some (.int .i64 Pa):=(ja ta.out 2).trans rfl;have Bm:w3.cell? ⟨za,3,none⟩=some (.int .i64 Ja):=(ja ta.out 3).trans rfl;have Am:w3.cell? ⟨za,4,none⟩=some (.slice Pb Fa.length Gb):=(ja ta.out 4).trans rfl;have zm:=aa ta.out 0;have ym:=aa ta.out 1;have xm:=aa ta.out 2;have wm:=aa ta.out 3;have vm:=aa ta.out 4;go_wp2_with (first|((with_reducible refine zb (f:=93) rfl ?_);refine Dc (some 13) rfl rfl Try.func93 (by kernel_rfl) rfl #[.agg #[.slice xb Oa.length qb,.int .i64 La,.int .i64 Pa,.slice none 0 0]] rfl (by (try simp only [List.map_toArray,List.map_cons,List.map_nil]);first|done|rfl|(simp only [List.length_drop,List.length_take];rfl)) ?_;(refine (yg.calls _ _ Oa La Pa _ _ ([]:List (Kx)) true _ ?yc ?uc ?Ad ?yd A4.out).mono ?_);(case yc=>repeat (first|exact (Kd.Mb Ue.out HB.out)|(with_reducible refine Kd.Sb ?_ _)|(with_reducible refine Kd.Rb ?_ _)|(with_reducible refine Kd.jc ?_)));(case uc=>exact af.out);(case Ad=>exact Kd.pM _ _);(case yd=>exact Nat.le_refl _);rintro e Qn ⟨rfl,hb⟩;refine ⟨_,rfl,?_⟩;have Fb:=ga.mk (Va (g:=za) (o:=.cells #[.slice xb Oa.length qb,.int .i64 La,.int .i64 Pa,.int .i64 Ja,.slice Pb Fa.length Gb] 45 (0,0)) (by (with_reducible repeat (first|refine Ca ?_ _|refine Ea ?_|refine Da ?_ _));exact ta.out) hb);have Lb:=ga.mk (Qa (by repeat (first|(with_reducible first|exact HB.out|apply oa|apply ia|apply qa|refine ua ?_ Sa.out)|exact HB.out)) hb);clear ta HB;have ta:=Fb;have HB:=Lb;clear Fb Lb;(try clear hb);(try clear Jj);(try clear hk);(try clear hi);have Bt:Qn.cell? ⟨za,0,none⟩=some (.slice xb Oa.length qb):=(ja ta.out 0).trans rfl;have yt:Qn.cell? ⟨za,1,none⟩=some (.int .i64 La):=(ja ta.out 1).trans rfl;have vt:Qn.cell? ⟨za,2,none⟩=some (.int .i64 Pa):=(ja ta.out 2).trans rfl;have qt:Qn.cell? ⟨za,3,none⟩=some (.int .i64 Ja):=(ja ta.out 3).trans rfl;have ot:Qn.cell? ⟨za,4,none⟩=some (.slice Pb Fa.length Gb):=(ja ta.out 4).trans rfl;have Ss:=aa ta.out 0;have Rs:=aa ta.out 1;have Qs:=aa ta.out 2;have Ns:=aa ta.out 3;have Ms:=aa ta.out 4)|(go_at_call 94;(with_reducible refine (Yg.calls Ja Pa 1000 true _ A6.out).mono ?_);rintro e w' ⟨rfl,⟨nd,rfl⟩⟩)|(go_at_call 94;(with_reducible refine (Yg.calls (Fa.length:Int) 1 300 t104 _ A8.out).mono ?_);rintro e w' ⟨rfl,⟨nd,rfl⟩⟩))
    go_meet
    case rel=>exact ⟨_,(!t104),(by first|rfl|(simp;done)|(simp [*];done)),H',⟨by first|omega|exact Nat.le_refl _⟩,⟨by (with_reducible repeat (first|refine Ca ?_ _|refine Ea ?_|refine Da ?_ _));exact ta.out⟩,⟨by repeat (first|(with_reducible first|exact HB.out|apply oa|apply ia|apply qa|refine ua ?_ Sa.out)|exact HB.out)⟩⟩
   ·replace c7:=Bool.eq_false_iff.mpr c7;subst c7;have H1:(Xb.j0 k true Oa La Pa Ja Fa)=some r:=by rw [if_neg (show ¬ (false=true) by decide)] at H;exact H
    clear H;have H:=H1;clear H1;have H':=ga.mk H;clear H;have Vo:w3.cell? ⟨za,0,none⟩=some (.slice xb Oa.length qb):=(ja ta.out 0).trans rfl;have Uo:w3.cell? ⟨za,1,none⟩=some (.int .i64 La):=(ja ta.out 1).trans rfl;have Ro:w3.cell? ⟨za,2,none⟩=some (.int .i64 Pa):=(ja ta.out 2).trans rfl;have Qo:w3.cell? ⟨za,3,none⟩=some (.int .i64 Ja):=(ja ta.out 3).trans rfl;have Po:w3.cell? ⟨za,4,none⟩=some (.slice Pb Fa.length Gb):=(ja ta.out 4).trans rfl;have Io:=aa ta.out 0;have Ho:=aa ta.out 1;have Fo:=aa ta.out 2;have Eo:=aa ta.out 3;have Co:=aa ta.out 4;go_wp2_with (first|((with_reducible refine zb (f:=93) rfl ?_);refine Dc (some 13) rfl rfl Try.func93 (by kernel_rfl) rfl #[.agg #[.slice xb Oa.length qb,.int .i64 La,.int .i64 Pa,.slice none 0 0]] rfl (by (try simp only [List.map_toArray,List.map_cons,List.map_nil]);first|done|rfl|(simp only [List.length_drop,List.length_take];rfl)) ?_;(refine (yg.calls _ _ Oa La Pa _ _ ([]:List (Kx)) true _ ?yc ?uc ?Ad ?yd A4.out).mono ?_);(case yc=>repeat (first|exact (Kd.Mb Ue.out HB.out)|(with_reducible refine Kd.Sb ?_ _)|(with_reducible refine Kd.Rb ?_ _)|(with_reducible refine Kd.jc ?_)));(case uc=>exact af.out);(case Ad=>exact Kd.pM _ _);(case yd=>exact Nat.le_refl _);rintro e vF ⟨rfl,hb⟩;refine ⟨_,rfl,?_⟩;have Fb:=ga.mk (Va (g:=za) (o:=.cells #[.slice xb Oa.length qb,.int .i64 La,.int .i64 Pa,.int .i64 Ja,.slice Pb Fa.length Gb] 45 (0,0)) (by (with_reducible repeat (first|refine Ca ?_ _|refine Ea ?_|refine Da ?_ _));exact ta.out) hb);have Lb:=ga.mk (Qa (by repeat (first|(with_reducible first|exact HB.out|apply oa|apply ia|apply qa|refine ua ?_ Sa.out)|exact HB.out)) hb);clear ta HB;have ta:=Fb;have HB:=Lb;clear Fb Lb;(try clear hb);(try clear Jj);(try clear hk);(try clear hi);have rq:vF.cell? ⟨za,0,none⟩=some (.slice xb Oa.length qb):=(ja ta.out 0).trans rfl;have qq:vF.cell? ⟨za,1,none⟩=some (.int .i64 La):=(ja ta.out 1).trans rfl;have pq:vF.cell? ⟨za,2,none⟩=some (.int .i64 Pa):=(ja ta.out 2).trans rfl;have oq:vF.cell? ⟨za,3,none⟩=some (.int .i64 Ja):=(ja ta.out 3).trans rfl;have mq:vF.cell? ⟨za,4,none⟩=some (.slice Pb Fa.length Gb):=(ja ta.out 4).trans rfl;have cq:=aa ta.out 0;have bq:=aa ta.out 1;have aq:=aa ta.out 2;have Zp:=aa ta.out 3;have Yp:=aa ta.out 4)|(go_at_call 94;(with_reducible refine (Yg.calls Ja Pa 1000 false _ A6.out).mono ?_);rintro e w' ⟨rfl,⟨nd,rfl⟩⟩))
    go_meet
    case rel=>exact ⟨_,(true),(by first|rfl|(simp;done)|(simp [*];done)),H',⟨by first|omega|exact Nat.le_refl _⟩,⟨by (with_reducible repeat (first|refine Ca ?_ _|refine Ea ?_|refine Da ?_ _));exact ta.out⟩,⟨by repeat (first|(with_reducible first|exact HB.out|apply oa|apply ia|apply qa|refine ua ?_ Sa.out)|exact HB.out)⟩⟩
  ·replace c5:=Bool.eq_false_iff.mpr c5;subst c5;have H1:(Xb.j0 k true Oa La Pa Ja Fa)=some r:=by rw [if_neg (show ¬ (false=true) by decide)] at H;exact H
   clear H;have H:=H1;clear H1;have H':=ga.mk H;clear H;have DE:w3.cell? ⟨za,0,none⟩=some (.slice xb Oa.length qb):=(ja ta.out 0).trans rfl;have CE:w3.cell? ⟨za,1,none⟩=some (.int .i64 La):=(ja ta.out 1).trans rfl;have AE:w3.cell? ⟨za,2,none⟩=some (.int .i64 Pa):=(ja ta.out 2).trans rfl;have zE:w3.cell? ⟨za,3,none⟩=some (.int .i64 Ja):=(ja ta.out 3).trans rfl;have yE:w3.cell? ⟨za,4,none⟩=some (.slice Pb Fa.length Gb):=(ja ta.out 4).trans rfl;have BD:=aa ta.out 0;have zD:=aa ta.out 1;have yD:=aa ta.out 2;have xD:=aa ta.out 3;have wD:=aa ta.out 4;go_wp2_with (first|((with_reducible refine zb (f:=93) rfl ?_);refine Dc (some 13) rfl rfl Try.func93 (by kernel_rfl) rfl #[.agg #[.slice xb Oa.length qb,.int .i64 La,.int .i64 Pa,.slice none 0 0]] rfl (by (try simp only [List.map_toArray,List.map_cons,List.map_nil]);first|done|rfl|(simp only [List.length_drop,List.length_take];rfl)) ?_;(refine (yg.calls _ _ Oa La Pa _ _ ([]:List (Kx)) false _ ?yc ?uc ?Ad ?yd A4.out).mono ?_);(case yc=>repeat (first|exact (Kd.Mb Ue.out HB.out)|(with_reducible refine Kd.Sb ?_ _)|(with_reducible refine Kd.Rb ?_ _)|(with_reducible refine Kd.jc ?_)));(case uc=>exact af.out);(case Ad=>exact Kd.pM _ _);(case yd=>exact Nat.le_refl _);rintro e wB ⟨rfl,hb⟩;refine ⟨_,rfl,?_⟩;have Fb:=ga.mk (Va (g:=za) (o:=.cells #[.slice xb Oa.length qb,.int .i64 La,.int .i64 Pa,.int .i64 Ja,.slice Pb Fa.length Gb] 45 (0,0)) (by (with_reducible repeat (first|refine Ca ?_ _|refine Ea ?_|refine Da ?_ _));exact ta.out) hb);have Lb:=ga.mk (Qa (by repeat (first|(with_reducible first|exact HB.out|apply oa|apply ia|apply qa|refine ua ?_ Sa.out)|exact HB.out)) hb);clear ta HB;have ta:=Fb;have HB:=Lb;clear Fb Lb;(try clear hb);(try clear Jj);(try clear hk);(try clear hi)))
   go_meet
   case rel=>exact ⟨_,(true),(by first|rfl|(simp;done)|(simp [*];done)),H',⟨by first|omega|exact Nat.le_refl _⟩,⟨by (with_reducible repeat (first|refine Ca ?_ _|refine Ea ?_|refine Da ?_ _));exact ta.out⟩,⟨by repeat (first|(with_reducible first|exact HB.out|apply oa|apply ia|apply qa|refine ua ?_ Sa.out)|exact HB.out)⟩⟩
 case rest =>
  clear D5
  try clear p2
  try clear c5
  try clear c7
  try clear c9
  try clear Bt
  try clear yt
  try clear vt
  try clear qt
  try clear ot
  try clear Vo
  try clear Uo
  try clear Ro
  try clear Qo
  try clear Po
  try clear rq
  try clear qq
  try clear pq
  try clear oq
  try clear mq
  try clear DE
  try clear CE
  try clear AE
  try clear zE
  try clear yE
  try clear Em
  try clear Dm
  try clear Cm
  try clear Bm
  try clear Am
  try clear Ss
  try clear Rs
  try clear Qs
  try clear Ns
  try clear Ms
  try clear Io
  try clear Ho
  try clear Fo
  try clear Eo
  try clear Co
  try clear cq
  try clear bq
  try clear aq
  try clear Zp
  try clear Yp
  try clear BD
  try clear zD
  try clear yD
  try clear xD
  try clear wD
  try clear zm
  try clear ym
  try clear xm
  try clear wm
  try clear vm
  obtain ⟨kq,CJ,rfl,HA,HJ1,ta,HB⟩:=hcut;cases kq with
  | zero=>exact absurd HA.out (by simp [Xb.j0])
  | succ kj1 =>
   have H:=HA.out;clear HA;simp only [Xb.j0] at H
   by_cases Ez:CJ=true
   ·subst Ez;have H1:(some false)=some r:=by rw [if_pos rfl] at H;exact H
    clear H;have H:=H1;clear H1;obtain rfl:=Option.some.inj H;go_wp2;go_ret;exact ⟨by first|rfl|(simp [Na,Ma] <;> rfl)|(simp [*,Na,Ma] <;> rfl),by repeat (first|(with_reducible first|exact HB.out|apply oa|apply ia|apply qa|refine ua ?_ Sa.out)|exact HB.out)⟩
   ·replace Ez:=Bool.eq_false_iff.mpr Ez;subst Ez;have H1:(Xb.l0 kj1 0 Fa (Fa.length:Int) 0 Oa La Pa Ja Fa)=some r:=by rw [if_neg (show ¬ (false=true) by decide)] at H;exact H
    clear H;have H:=H1;clear H1;have H':=ga.mk H;clear H;have nt:wc.cell? ⟨za,0,none⟩=some (.slice xb Oa.length qb):=(ja ta.out 0).trans rfl;have jt:wc.cell? ⟨za,1,none⟩=some (.int .i64 La):=(ja ta.out 1).trans rfl;have bt:wc.cell? ⟨za,2,none⟩=some (.int .i64 Pa):=(ja ta.out 2).trans rfl;have Zs:wc.cell? ⟨za,3,none⟩=some (.int .i64 Ja):=(ja ta.out 3).trans rfl;have Ys:wc.cell? ⟨za,4,none⟩=some (.slice Pb Fa.length Gb):=(ja ta.out 4).trans rfl;have Ls:=aa ta.out 0;have Ks:=aa ta.out 1;have Js:=aa ta.out 2;have Hs:=aa ta.out 3;have Gs:=aa ta.out 4;go_wp2
    go_loopg [3,33] kj1 (fun kq v3 v33 w'=>∃ (tj:Int) (Xd:Int),v3 = .int .i64 tj∧v33 = .int .i64 Xd∧ga (Xb.l0 kq tj Fa (Fa.length:Int) Xd Oa La Pa Ja Fa=some r)∧ga (kq ≤ kj1)∧ga (w'.heap[za]? = some (.cells #[(.slice xb Oa.length qb),.int .i64 La,.int .i64 Pa,.int .i64 Ja,(.slice Pb Fa.length Gb)] 45 (0,0)))∧ga (Below w.heap.size w w'))
    case atStart=>exact ⟨(0),(0),(by first|rfl|(simp;done)|(simp [*];done)),(by first|rfl|(simp;done)|(simp [*];done)),H',⟨Nat.le_refl _⟩,⟨by (with_reducible repeat (first|refine Ca ?_ _|refine Ea ?_|refine Da ?_ _));exact ta.out⟩,⟨by repeat (first|(with_reducible first|exact HB.out|apply oa|apply ia|apply qa|refine ua ?_ Sa.out)|exact HB.out)⟩⟩
    case round =>
     clear H'
     try clear c1
     try clear p2
     try clear c5
     try clear c7
     try clear c9
     try clear Ez
     try clear Bt
     try clear yt
     try clear vt
     try clear qt
     try clear ot
     try clear Vo
     try clear Uo
     try clear Ro
     try clear Qo
     try clear Po
     try clear rq
     try clear qq
     try clear pq
     try clear oq
     try clear mq
     try clear DE
     try clear CE
     try clear AE
     try clear zE
     try clear yE
     try clear nt
     try clear jt
     try clear bt
     try clear Zs
     try clear Ys
     try clear Em
     try clear Dm
     try clear Cm
     try clear Bm
     try clear Am
     try clear Ss
     try clear Rs
     try clear Qs
     try clear Ns
     try clear Ms
     try clear Io
     try clear Ho
     try clear Fo
     try clear Eo
     try clear Co
     try clear cq
     try clear bq
     try clear aq
     try clear Zp
     try clear Yp
     try clear BD
     try clear zD
     try clear yD
     try clear xD
     try clear wD
     try clear Ls
     try clear Ks
     try clear Js
     try clear Hs
     try clear Gs
     try clear zm
     try clear ym
     try clear xm
     try clear wm
     try clear vm
     try clear p2
     (try clear HA);(try clear Fm);(try clear ta);(try clear HB);obtain ⟨tj,Xd,rfl,rfl,HA,Fm,ta,HB⟩:=hrel;cases gk with
     | zero=>exact absurd HA.out (by simp [Xb.l0])
     | succ k2 =>
      have H:=HA.out;clear HA;simp only [Xb.l0] at H
      by_cases Mt:Xd < (Fa.length:Int)
      ·rw [if_pos Mt] at H;have FA:decide (Xd < (Fa.length:Int))=true:=decide_eq_true Mt;clear Mt
       by_cases bx:0 ≤ Xd
       ·rw [if_pos bx] at H;have lQ:decide (0 ≤ Xd)=true:=decide_eq_true bx;clear bx
        by_cases Yx:Xd < (Fa.length:Int)
        ·rw [if_pos Yx] at H;have fH:decide (Xd < (Fa.length:Int))=true:=decide_eq_true Yx;clear Yx;replace H:=Option.bind_eq_some_iff.mp H;obtain ⟨t107,VQ,H⟩:=H;replace H:(if t107=true then (Xb.l0 k2 (wrap64 (tj + (((Ta Fa Xd).f0).length:Int))) Fa (Fa.length:Int) (wrap64 (Xd + 1)) Oa La Pa Ja Fa) else (some false))=some r:=H;have dY:=ga.mk VQ;clear VQ
         by_cases Fx:t107=true
         ·subst Fx;have H1:(Xb.l0 k2 (wrap64 (tj + (((Ta Fa Xd).f0).length:Int))) Fa (Fa.length:Int) (wrap64 (Xd + 1)) Oa La Pa Ja Fa)=some r:=by rw [if_pos rfl] at H;exact H
          clear H;have H:=H1;clear H1;have H':=ga.mk H;clear H;have oI:0 ≤ (Xd:Int):=of_decide_eq_true (by first|(with_reducible assumption)|assumption);have iI:Xd < (Fa.length:Int):=of_decide_eq_true (by first|(with_reducible assumption)|assumption);obtain ⟨Lp,Dl,Bl,I0,ov,nv,jv,gv,cv,Sv,Wv⟩:=ek ng.out Xd oI iI;cases I0;replace ov:=Ra HB.out ov;replace nv:=Ra HB.out nv;replace jv:=Ra HB.out jv;replace gv:=Ra HB.out gv;replace cv:=Ra HB.out cv;have oF:=ga.mk Wv;have rF:=ga.mk Sv;clear Wv Sv;replace oI:=eq_true oI;replace iI:=eq_true iI;go_wp2_with (first|((with_reducible refine Db (N:=5) rfl ?_);(try (refine Oi (by rfl) ?_;dsimp only));refine Jb ?hg (N:=5) ?hd (cs:=#[.slice none 0 0,.int .i64 0,.int .i64 0,.int .i64 0,.int .i64 0]) (t:=83) ?hr ?_;(case hd=>rfl);(case hg=>rfl);(case hr=>first|(go_simp;done)|(go_simp;rfl));intro Oj hg iR Wb hb;have Fb:=ga.mk (Va (g:=za) (o:=.cells #[.slice xb Oa.length qb,.int .i64 La,.int .i64 Pa,.int .i64 Ja,.slice (some Lp) Fa.length Gb] 45 (0,0)) (by (with_reducible repeat (first|refine Ca ?_ _|refine Ea ?_|refine Da ?_ _));exact ta.out) hb);have Lb:=ga.mk (Qa (by repeat (first|(with_reducible first|exact HB.out|apply oa|apply ia|apply qa|refine ua ?_ Sa.out)|exact HB.out)) hb);have Vb:=ga.mk (Wb);have Bc:=ga.mk ((by rw [hg];exact (Ka (by repeat (first|(with_reducible first|exact HB.out|apply oa|apply ia|apply qa|refine ua ?_ Sa.out)|exact HB.out))):w.heap.size ≤ Oj));have Ge:=ga.mk ((by rw [hg];exact (Ka (by repeat (first|(with_reducible first|exact HB.out|apply oa|apply ia|apply qa|refine ua ?_ Sa.out)|exact HB.out))):w.heap.size ≤ Oj));have Zf:=ga.mk ((by rw [hg];exact Nat.ne_of_lt (Qc (g:=za) (o:=.cells #[.slice xb Oa.length qb,.int .i64 La,.int .i64 Pa,.int .i64 Ja,.slice (some Lp) Fa.length Gb] 45 (0,0)) (by (with_reducible repeat (first|refine Ca ?_ _|refine Ea ?_|refine Da ?_ _));exact ta.out)):za ≠ Oj));have Dh:=ga.mk ((by rw [hg];exact Nat.ne_of_gt (Qc (g:=za) (o:=.cells #[.slice xb Oa.length qb,.int .i64 La,.int .i64 Pa,.int .i64 Ja,.slice (some Lp) Fa.length Gb] 45 (0,0)) (by (with_reducible repeat (first|refine Ca ?_ _|refine Ea ?_|refine Da ?_ _));exact ta.out)):Oj ≠ za));clear ta HB;have ta:=Fb;have HB:=Lb;have ei:=Vb;have oad:=Bc;have Mr:=Ge;have qh:=Zf;have Mx:=Dh;clear Fb Lb Vb Bc Ge Zf Dh hb Wb hg;have R6:=Mx.out;have H6:=qh.out;have zw:iR.cell? ⟨Oj,0,none⟩=some (.slice none 0 0):=(ja ei.out 0).trans rfl;have yw:iR.cell? ⟨Oj,1,none⟩=some (.int .i64 0):=(ja ei.out 1).trans rfl;have xw:iR.cell? ⟨Oj,2,none⟩=some (.int .i64 0):=(ja ei.out 2).trans rfl;have vw:iR.cell? ⟨Oj,3,none⟩=some (.int .i64 0):=(ja ei.out 3).trans rfl;have uw:iR.cell? ⟨Oj,4,none⟩=some (.int .i64 0):=(ja ei.out 4).trans rfl;have cw:=aa ei.out 0;have bw:=aa ei.out 1;have Zv:=aa ei.out 2;have Yv:=aa ei.out 3;have Xv:=aa ei.out 4;have Bz:iR.cell? ⟨za,0,none⟩=some (.slice xb Oa.length qb):=(ja ta.out 0).trans rfl;have Az:iR.cell? ⟨za,1,none⟩=some (.int .i64 La):=(ja ta.out 1).trans rfl;have zz:iR.cell? ⟨za,2,none⟩=some (.int .i64 Pa):=(ja ta.out 2).trans rfl;have yz:iR.cell? ⟨za,3,none⟩=some (.int .i64 Ja):=(ja ta.out 3).trans rfl;have xz:iR.cell? ⟨za,4,none⟩=some (.slice (some Lp) Fa.length Gb):=(ja ta.out 4).trans rfl;have bz:=aa ta.out 0;have az:=aa ta.out 1;have Zy:=aa ta.out 2;have Yy:=aa ta.out 3;have Xy:=aa ta.out 4)|((with_reducible refine zb (f:=104) rfl ?_);refine Dc (some 44) rfl rfl Try.func104 (by kernel_rfl) rfl #[.agg #[.slice xb Oa.length qb,.int .i64 La,.int .i64 Pa,.int .i64 Ja,.slice (some Lp) Fa.length Gb],.agg #[.slice Dl ((Ta Fa Xd).f0).length Bl,.int .i64 ((Ta Fa Xd).f1),.int .i64 ((Ta Fa Xd).f2),.int .i64 ((Ta Fa Xd).f3),.int .i64 ((Ta Fa Xd).f4)]] rfl (by (try simp only [List.map_toArray,List.map_cons,List.map_nil]);first|done|rfl|(simp only [List.length_drop,List.length_take];rfl)) ?_;(with_reducible refine (Bi.calls _ _ Oa La Pa Ja _ _ Fa _ _ ((Ta Fa Xd).f0) ((Ta Fa Xd).f1) ((Ta Fa Xd).f2) ((Ta Fa Xd).f3) ((Ta Fa Xd).f4) true _ ?yc ?uc ?Ad ?yd ?Su ?Ru dY.out).mono ?_);(case yc=>exact Kd.Mb Ue.out (by repeat (first|(with_reducible first|exact HB.out|apply oa|apply ia|apply qa|refine ua ?_ Sa.out|refine ua ?_ Mr.out)|exact HB.out)));(case uc=>exact af.out);(case Ad=>exact Kd.Mb ng.out (by repeat (first|(with_reducible first|exact HB.out|apply oa|apply ia|apply qa|refine ua ?_ Sa.out|refine ua ?_ Mr.out)|exact HB.out)));(case yd=>exact Xg.out);(case Su=>exact Kd.Mb oF.out (by repeat (first|(with_reducible first|exact HB.out|apply oa|apply ia|apply qa|refine ua ?_ Sa.out|refine ua ?_ Mr.out)|exact HB.out)));(case Ru=>exact rF.out);rintro e DH ⟨rfl,hb⟩;refine ⟨_,rfl,?_⟩;have Fb:=ga.mk (Va (g:=za) (o:=.cells #[.slice xb Oa.length qb,.int .i64 La,.int .i64 Pa,.int .i64 Ja,.slice (some Lp) Fa.length Gb] 45 (0,0)) (by (with_reducible repeat (first|refine Ca ?_ _|refine Ea ?_|refine Da ?_ _));refine We ?_ qh.out _;(with_reducible repeat (first|refine Ca ?_ _|refine Ea ?_|refine Da ?_ _));refine We ?_ qh.out _;(with_reducible repeat (first|refine Ca ?_ _|refine Ea ?_|refine Da ?_ _));refine We ?_ qh.out _;(with_reducible repeat (first|refine Ca ?_ _|refine Ea ?_|refine Da ?_ _));refine We ?_ qh.out _;(with_reducible repeat (first|refine Ca ?_ _|refine Ea ?_|refine Da ?_ _));refine We ?_ qh.out _;(with_reducible repeat (first|refine Ca ?_ _|refine Ea ?_|refine Da ?_ _));exact ta.out) hb);have Lb:=ga.mk (Va (g:=Oj) (o:=.cells #[.slice Dl ((Ta Fa Xd).f0).length Bl,.int .i64 ((Ta Fa Xd).f1),.int .i64 ((Ta Fa Xd).f2),.int .i64 ((Ta Fa Xd).f3),.int .i64 ((Ta Fa Xd).f4)] 83 (0,0)) (by (with_reducible repeat (first|refine Ca ?_ _|refine Ea ?_|refine Da ?_ _));refine uf (cs:=#[.slice Dl ((Ta Fa Xd).f0).length Bl,.int .i64 ((Ta Fa Xd).f1),.int .i64 ((Ta Fa Xd).f2),.int .i64 ((Ta Fa Xd).f3),.int .i64 0]) ?_ 4 _ rfl;(with_reducible repeat (first|refine Ca ?_ _|refine Ea ?_|refine Da ?_ _));refine uf (cs:=#[.slice Dl ((Ta Fa Xd).f0).length Bl,.int .i64 ((Ta Fa Xd).f1),.int .i64 ((Ta Fa Xd).f2),.int .i64 0,.int .i64 0]) ?_ 3 _ rfl;(with_reducible repeat (first|refine Ca ?_ _|refine Ea ?_|refine Da ?_ _));refine uf (cs:=#[.slice Dl ((Ta Fa Xd).f0).length Bl,.int .i64 ((Ta Fa Xd).f1),.int .i64 0,.int .i64 0,.int .i64 0]) ?_ 2 _ rfl;(with_reducible repeat (first|refine Ca ?_ _|refine Ea ?_|refine Da ?_ _));refine uf (cs:=#[.slice Dl ((Ta Fa Xd).f0).length Bl,.int .i64 0,.int .i64 0,.int .i64 0,.int .i64 0]) ?_ 1 _ rfl;(with_reducible repeat (first|refine Ca ?_ _|refine Ea ?_|refine Da ?_ _));refine uf (cs:=#[.slice none 0 0,.int .i64 0,.int .i64 0,.int .i64 0,.int .i64 0]) ?_ 0 _ rfl;(with_reducible repeat (first|refine Ca ?_ _|refine Ea ?_|refine Da ?_ _));exact ei.out) hb);have Vb:=ga.mk (Qa (by repeat (first|(with_reducible first|exact HB.out|apply oa|apply ia|apply qa|refine ua ?_ Sa.out|refine ua ?_ Mr.out)|exact HB.out)) hb);clear ta ei HB;have ta:=Fb;have ei:=Lb;have HB:=Vb;clear Fb Lb Vb;(try clear hb);(try clear Jj);(try clear hk);(try clear hi)))
          go_roundg k2
          case measure=>have:=HJ1.out;have:=Fm.out;omega
          case rel=>exact ⟨(wrap64 (tj + (((Ta Fa Xd).f0).length:Int))),(wrap64 (Xd + 1)),(by first|rfl|(simp;done)|(simp [*];done)),(by first|rfl|(simp;done)|(simp [*];done)),H',⟨by have:=HJ1.out;have:=Fm.out;omega⟩,⟨by (with_reducible repeat (first|refine Ca ?_ _|refine Ea ?_|refine Da ?_ _));exact ta.out⟩,⟨by repeat (first|(with_reducible first|exact HB.out|apply oa|apply ia|apply qa|refine ua ?_ Sa.out|refine ua ?_ Mr.out)|exact HB.out)⟩⟩
         ·replace Fx:=Bool.eq_false_iff.mpr Fx;subst Fx;have H1:(some false)=some r:=by rw [if_neg (show ¬ (false=true) by decide)] at H;exact H
          clear H;have H:=H1;clear H1;obtain rfl:=Option.some.inj H;have oI:0 ≤ (Xd:Int):=of_decide_eq_true (by first|(with_reducible assumption)|assumption);have iI:Xd < (Fa.length:Int):=of_decide_eq_true (by first|(with_reducible assumption)|assumption);obtain ⟨Lp,Dl,Bl,I0,ov,nv,jv,gv,cv,Sv,Wv⟩:=ek ng.out Xd oI iI;cases I0;replace ov:=Ra HB.out ov;replace nv:=Ra HB.out nv;replace jv:=Ra HB.out jv;replace gv:=Ra HB.out gv;replace cv:=Ra HB.out cv;have oF:=ga.mk Wv;have rF:=ga.mk Sv;clear Wv Sv;replace oI:=eq_true oI;replace iI:=eq_true iI;go_wp2_with (first|((with_reducible refine Db (N:=5) rfl ?_);(try (refine Oi (by rfl) ?_;dsimp only));refine Jb ?hg (N:=5) ?hd (cs:=#[.slice none 0 0,.int .i64 0,.int .i64 0,.int .i64 0,.int .i64 0]) (t:=83) ?hr ?_;(case hd=>rfl);(case hg=>rfl);(case hr=>first|(go_simp;done)|(go_simp;rfl));intro Oj hg CH Wb hb;have Fb:=ga.mk (Va (g:=za) (o:=.cells #[.slice xb Oa.length qb,.int .i64 La,.int .i64 Pa,.int .i64 Ja,.slice (some Lp) Fa.length Gb] 45 (0,0)) (by (with_reducible repeat (first|refine Ca ?_ _|refine Ea ?_|refine Da ?_ _));exact ta.out) hb);have Lb:=ga.mk (Qa (by repeat (first|(with_reducible first|exact HB.out|apply oa|apply ia|apply qa|refine ua ?_ Sa.out)|exact HB.out)) hb);have Vb:=ga.mk (Wb);have Bc:=ga.mk ((by rw [hg];exact (Ka (by repeat (first|(with_reducible first|exact HB.out|apply oa|apply ia|apply qa|refine ua ?_ Sa.out)|exact HB.out))):w.heap.size ≤ Oj));have Ge:=ga.mk ((by rw [hg];exact (Ka (by repeat (first|(with_reducible first|exact HB.out|apply oa|apply ia|apply qa|refine ua ?_ Sa.out)|exact HB.out))):w.heap.size ≤ Oj));have Zf:=ga.mk ((by rw [hg];exact Nat.ne_of_lt (Qc (g:=za) (o:=.cells #[.slice xb Oa.length qb,.int .i64 La,.int .i64 Pa,.int .i64 Ja,.slice (some Lp) Fa.length Gb] 45 (0,0)) (by (with_reducible repeat (first|refine Ca ?_ _|refine Ea ?_|refine Da ?_ _));exact ta.out)):za ≠ Oj));have Dh:=ga.mk ((by rw [hg];exact Nat.ne_of_gt (Qc (g:=za) (o:=.cells #[.slice xb Oa.length qb,.int .i64 La,.int .i64 Pa,.int .i64 Ja,.slice (some Lp) Fa.length Gb] 45 (0,0)) (by (with_reducible repeat (first|refine Ca ?_ _|refine Ea ?_|refine Da ?_ _));exact ta.out)):Oj ≠ za));clear ta HB;have ta:=Fb;have HB:=Lb;have ei:=Vb;have oad:=Bc;have Mr:=Ge;have qh:=Zf;have Mx:=Dh;clear Fb Lb Vb Bc Ge Zf Dh hb Wb hg;have Qar:=Mx.out;have gar:=qh.out;have oz:CH.cell? ⟨Oj,0,none⟩=some (.slice none 0 0):=(ja ei.out 0).trans rfl;have mz:CH.cell? ⟨Oj,1,none⟩=some (.int .i64 0):=(ja ei.out 1).trans rfl;have kz:CH.cell? ⟨Oj,2,none⟩=some (.int .i64 0):=(ja ei.out 2).trans rfl;have jz:CH.cell? ⟨Oj,3,none⟩=some (.int .i64 0):=(ja ei.out 3).trans rfl;have iz:CH.cell? ⟨Oj,4,none⟩=some (.int .i64 0):=(ja ei.out 4).trans rfl;have Ry:=aa ei.out 0;have Qy:=aa ei.out 1;have Py:=aa ei.out 2;have Oy:=aa ei.out 3;have Ny:=aa ei.out 4;have lE:CH.cell? ⟨za,0,none⟩=some (.slice xb Oa.length qb):=(ja ta.out 0).trans rfl;have kE:CH.cell? ⟨za,1,none⟩=some (.int .i64 La):=(ja ta.out 1).trans rfl;have jE:CH.cell? ⟨za,2,none⟩=some (.int .i64 Pa):=(ja ta.out 2).trans rfl;have iE:CH.cell? ⟨za,3,none⟩=some (.int .i64 Ja):=(ja ta.out 3).trans rfl;have gE:CH.cell? ⟨za,4,none⟩=some (.slice (some Lp) Fa.length Gb):=(ja ta.out 4).trans rfl;have kD:=aa ta.out 0;have jD:=aa ta.out 1;have iD:=aa ta.out 2;have gD:=aa ta.out 3;have fD:=aa ta.out 4)|((with_reducible refine zb (f:=104) rfl ?_);refine Dc (some 44) rfl rfl Try.func104 (by kernel_rfl) rfl #[.agg #[.slice xb Oa.length qb,.int .i64 La,.int .i64 Pa,.int .i64 Ja,.slice (some Lp) Fa.length Gb],.agg #[.slice Dl ((Ta Fa Xd).f0).length Bl,.int .i64 ((Ta Fa Xd).f1),.int .i64 ((Ta Fa Xd).f2),.int .i64 ((Ta Fa Xd).f3),.int .i64 ((Ta Fa Xd).f4)]] rfl (by (try simp only [List.map_toArray,List.map_cons,List.map_nil]);first|done|rfl|(simp only [List.length_drop,List.length_take];rfl)) ?_;(with_reducible refine (Bi.calls _ _ Oa La Pa Ja _ _ Fa _ _ ((Ta Fa Xd).f0) ((Ta Fa Xd).f1) ((Ta Fa Xd).f2) ((Ta Fa Xd).f3) ((Ta Fa Xd).f4) false _ ?yc ?uc ?Ad ?yd ?Su ?Ru dY.out).mono ?_);(case yc=>exact Kd.Mb Ue.out (by repeat (first|(with_reducible first|exact HB.out|apply oa|apply ia|apply qa|refine ua ?_ Sa.out|refine ua ?_ Mr.out)|exact HB.out)));(case uc=>exact af.out);(case Ad=>exact Kd.Mb ng.out (by repeat (first|(with_reducible first|exact HB.out|apply oa|apply ia|apply qa|refine ua ?_ Sa.out|refine ua ?_ Mr.out)|exact HB.out)));(case yd=>exact Xg.out);(case Su=>exact Kd.Mb oF.out (by repeat (first|(with_reducible first|exact HB.out|apply oa|apply ia|apply qa|refine ua ?_ Sa.out|refine ua ?_ Mr.out)|exact HB.out)));(case Ru=>exact rF.out);rintro e pN ⟨rfl,hb⟩;refine ⟨_,rfl,?_⟩;have Fb:=ga.mk (Va (g:=za) (o:=.cells #[.slice xb Oa.length qb,.int .i64 La,.int .i64 Pa,.int .i64 Ja,.slice (some Lp) Fa.length Gb] 45 (0,0)) (by (with_reducible repeat (first|refine Ca ?_ _|refine Ea ?_|refine Da ?_ _));refine We ?_ qh.out _;(with_reducible repeat (first|refine Ca ?_ _|refine Ea ?_|refine Da ?_ _));refine We ?_ qh.out _;(with_reducible repeat (first|refine Ca ?_ _|refine Ea ?_|refine Da ?_ _));refine We ?_ qh.out _;(with_reducible repeat (first|refine Ca ?_ _|refine Ea ?_|refine Da ?_ _));refine We ?_ qh.out _;(with_reducible repeat (first|refine Ca ?_ _|refine Ea ?_|refine Da ?_ _));refine We ?_ qh.out _;(with_reducible repeat (first|refine Ca ?_ _|refine Ea ?_|refine Da ?_ _));exact ta.out) hb);have Lb:=ga.mk (Va (g:=Oj) (o:=.cells #[.slice Dl ((Ta Fa Xd).f0).length Bl,.int .i64 ((Ta Fa Xd).f1),.int .i64 ((Ta Fa Xd).f2),.int .i64 ((Ta Fa Xd).f3),.int .i64 ((Ta Fa Xd).f4)] 83 (0,0)) (by (with_reducible repeat (first|refine Ca ?_ _|refine Ea ?_|refine Da ?_ _));refine uf (cs:=#[.slice Dl ((Ta Fa Xd).f0).length Bl,.int .i64 ((Ta Fa Xd).f1),.int .i64 ((Ta Fa Xd).f2),.int .i64 ((Ta Fa Xd).f3),.int .i64 0]) ?_ 4 _ rfl;(with_reducible repeat (first|refine Ca ?_ _|refine Ea ?_|refine Da ?_ _));refine uf (cs:=#[.slice Dl ((Ta Fa Xd).f0).length Bl,.int .i64 ((Ta Fa Xd).f1),.int .i64 ((Ta Fa Xd).f2),.int .i64 0,.int .i64 0]) ?_ 3 _ rfl;(with_reducible repeat (first|refine Ca ?_ _|refine Ea ?_|refine Da ?_ _));refine uf (cs:=#[.slice Dl ((Ta Fa Xd).f0).length Bl,.int .i64 ((Ta Fa Xd).f1),.int .i64 0,.int .i64 0,.int .i64 0]) ?_ 2 _ rfl;(with_reducible repeat (first|refine Ca ?_ _|refine Ea ?_|refine Da ?_ _));refine uf (cs:=#[.slice Dl ((Ta Fa Xd).f0).length Bl,.int .i64 0,.int .i64 0,.int .i64 0,.int .i64 0]) ?_ 1 _ rfl;(with_reducible repeat (first|refine Ca ?_ _|refine Ea ?_|refine Da ?_ _));refine uf (cs:=#[.slice none 0 0,.int .i64 0,.int .i64 0,.int .i64 0,.int .i64 0]) ?_ 0 _ rfl;(with_reducible repeat (first|refine Ca ?_ _|refine Ea ?_|refine Da ?_ _));exact ei.out) hb);have Vb:=ga.mk (Qa (by repeat (first|(with_reducible first|exact HB.out|apply oa|apply ia|apply qa|refine ua ?_ Sa.out|refine ua ?_ Mr.out)|exact HB.out)) hb);clear ta ei HB;have ta:=Fb;have ei:=Lb;have HB:=Vb;clear Fb Lb Vb;(try clear hb);(try clear Jj);(try clear hk);(try clear hi)));go_ret;exact ⟨by first|rfl|(simp [Na,Ma] <;> rfl)|(simp [*,Na,Ma] <;> rfl),by repeat (first|(with_reducible first|exact HB.out|apply oa|apply ia|apply qa|refine ua ?_ Sa.out|refine ua ?_ Mr.out)|exact HB.out)⟩
        ·rw [if_neg Yx] at H;exact absurd H (by simp)
       ·rw [if_neg bx] at H;exact absurd H (by simp)
      ·rw [if_neg Mt] at H;have FA:decide (Xd < (Fa.length:Int))=false:=decide_eq_false Mt;clear Mt;obtain rfl:=Option.some.inj H;go_wp2;go_ret;exact ⟨by first|rfl|(simp [Na,Ma] <;> rfl)|(simp [*,Na,Ma] <;> rfl),by repeat (first|(with_reducible first|exact HB.out|apply oa|apply ia|apply qa|refine ua ?_ Sa.out)|exact HB.out)⟩
def jg.f (Oa:List (Vc)) (La:Int) (Pa:Int) (Ja:Int) (nc:Int):Option (List Int):=if La=0 then (some (([Ja]:List Int))) else (if La=1 then (some (([Ja,nc]:List Int))) else (some ([]:List Int)))
theorem jg.calls (xb:Option Addr) (qb:Nat) (Oa:List (Vc)) (La:Int) (Pa:Int) (Ja:Int) (nc:Int) (r:List Int) (w:World) (xe:Kd.C Pf w xb Oa.length Oa) (we:Oa.length ≤ qb) (h:jg.f Oa La Pa Ja nc=some r) :
  Calls Try.prog 75 #[.agg #[.slice xb Oa.length qb,.int .i64 La,.int .i64 Pa,.int .i64 Ja,.int .i64 nc]] w fun e w'=>∃ vn:Value,e = .returned (vn)∧Kd.R (Kd.int .i64) 3 w' w.heap.size (fun _=>True) vn r∧Below w.heap.size w w':=by
 have kA:=Try.underlying83;have Ue:=ga.mk xe;have af:=ga.mk we;clear xe we;have HB:=ga.mk (Below.refl w.heap.size w);have H:(if La=0 then (some (([Ja]:List Int))) else (if La=1 then (some (([Ja,nc]:List Int))) else (some ([]:List Int))))=some r:=h;clear h
 by_cases c2:La=0
 ·rw [if_pos c2] at H;have Bq:(La == 0)=true:=beq_iff_eq.mpr c2;have Lt:(La != 0)=false:=bne_eq_false_iff_eq.mpr c2;clear c2;obtain ⟨Yd,Rf⟩:∃ y_:List Int,y_=(([Ja]:List Int)):=⟨_,rfl⟩;replace H:(some Yd)=some r:=by first|(rw [Rf];with_reducible exact H)|(have Md:=(Option.bind_some _ _).symm.trans H;rw [Rf];with_reducible exact Md)|(have Md:=(Option.bind_some _ _).symm.trans H;with_reducible exact Md)|with_reducible exact H|(rw [Rf];exact H)|exact H
  have ki:=ga.mk Rf;clear Rf;obtain rfl:=Option.some.inj H;go_enter Try.func75,Try.ntmps75;go_wp2_with (first|((with_reducible refine Db (N:=1) rfl ?_);refine Jb ?hg (N:=1) ?hd (cs:=#[.slice xb Oa.length qb,.int .i64 La,.int .i64 Pa,.int .i64 Ja,.int .i64 nc]) (t:=83) ?hr ?_;(case hd=>rfl);(case hg=>rfl);(case hr=>first|(go_simp;done)|(go_simp;rfl));intro za hg w3 Wb hb;have Fb:=ga.mk (Qa (by repeat (first|(with_reducible first|exact HB.out|apply oa|apply ia|apply qa)|exact HB.out)) hb);have Lb:=ga.mk (Wb);have Vb:=ga.mk ((by rw [hg];exact (Ka (by repeat (first|(with_reducible first|exact HB.out|apply oa|apply ia|apply qa)|exact HB.out))):w.heap.size ≤ za));have Bc:=ga.mk ((by rw [hg];exact (Ka (by repeat (first|(with_reducible first|exact HB.out|apply oa|apply ia|apply qa)|exact HB.out))):w.heap.size ≤ za));clear HB;have HB:=Fb;have ta:=Lb;have ye:=Vb;have Sa:=Bc;clear Fb Lb Vb Bc hb Wb hg;have EZ:w3.cell? ⟨za,0,none⟩=some (.slice xb Oa.length qb):=(ja ta.out 0).trans rfl;have DZ:w3.cell? ⟨za,1,none⟩=some (.int .i64 La):=(ja ta.out 1).trans rfl;have CZ:w3.cell? ⟨za,2,none⟩=some (.int .i64 Pa):=(ja ta.out 2).trans rfl;have BZ:w3.cell? ⟨za,3,none⟩=some (.int .i64 Ja):=(ja ta.out 3).trans rfl;have AZ:w3.cell? ⟨za,4,none⟩=some (.int .i64 nc):=(ja ta.out 4).trans rfl;have nZ:=aa ta.out 0;have mZ:=aa ta.out 1;have lZ:=aa ta.out 2;have kZ:=aa ta.out 3;have jZ:=aa ta.out 4)|((with_reducible refine Db (N:=9) rfl ?_);refine Kd.vl (Kd.int .i64) _ 3 ?hg (N:=9) ?hd (xs:=([Ja]:List Int)) (inner:=[.int .i64 Ja]) (ok:=fun _=>True) (Gh:=fun _=>True) ?hr ?hp (fun _ hk=>hk) trivial (Below.refl _ _) (Nat.le_refl _) (by simp) ?_;(case hd=>rfl);(case hg=>rfl);(case hr=>first|(go_simp;done)|(go_simp;rfl));(case hp=>exact (Ld.one (show Kd.M (Kd.int .i64) _ _ _ Ja [.int .i64 Ja] from rfl) (Ld.none _ _)));intro Sh w5 iG hb um Df;clear um Df;(first|rw [← ki.out] at iG|(simp only [Int.reduceToNat] at iG;rw [← ki.out] at iG));have Fb:=ga.mk (Kd.Qe iG (Ka (by repeat (first|(with_reducible first|exact HB.out|apply oa|apply ia|apply qa|refine ua ?_ Sa.out)|exact HB.out))));have Lb:=ga.mk (Va (g:=za) (o:=.cells #[.slice xb Oa.length qb,.int .i64 La,.int .i64 Pa,.int .i64 Ja,.int .i64 nc] 83 (0,0)) (by (with_reducible repeat (first|refine Ca ?_ _|refine Ea ?_|refine Da ?_ _));exact ta.out) hb);have Vb:=ga.mk (Qa (by repeat (first|(with_reducible first|exact HB.out|apply oa|apply ia|apply qa|refine ua ?_ Sa.out)|exact HB.out)) hb);clear ta HB;have Ze:=Fb;have ta:=Lb;have HB:=Vb;clear Fb Lb Vb hb iG));go_ret;exact ⟨_,by first|rfl|(simp [Na,Ma] <;> rfl)|(simp [*,Na,Ma] <;> rfl),by (with_reducible repeat (first|apply Kd.Xa|apply Kd.Wa|apply Kd.yb));exact Ze.out,by repeat (first|(with_reducible first|exact HB.out|apply oa|apply ia|apply qa|refine ua ?_ Sa.out)|exact HB.out)⟩
 ·rw [if_neg c2] at H;have Bq:(La == 0)=false:=beq_eq_false_iff_ne.mpr c2;have Lt:(La != 0)=true:=bne_iff_ne.mpr c2
  by_cases c7:La=1
  ·rw [if_pos c7] at H;have Aq:(La == 1)=true:=beq_iff_eq.mpr c7;have BA:(La != 1)=false:=bne_eq_false_iff_eq.mpr c7;clear c7;obtain ⟨Ce,Ng⟩:∃ y_:List Int,y_=(([Ja,nc]:List Int)):=⟨_,rfl⟩;replace H:(some Ce)=some r:=by first|(rw [Ng];with_reducible exact H)|(have Md:=(Option.bind_some _ _).symm.trans H;rw [Ng];with_reducible exact Md)|(have Md:=(Option.bind_some _ _).symm.trans H;with_reducible exact Md)|with_reducible exact H|(rw [Ng];exact H)|exact H
   have bp:=ga.mk Ng;clear Ng;obtain rfl:=Option.some.inj H;go_enter Try.func75,Try.ntmps75;go_wp2_with (first|((with_reducible refine Db (N:=1) rfl ?_);refine Jb ?hg (N:=1) ?hd (cs:=#[.slice xb Oa.length qb,.int .i64 La,.int .i64 Pa,.int .i64 Ja,.int .i64 nc]) (t:=83) ?hr ?_;(case hd=>rfl);(case hg=>rfl);(case hr=>first|(go_simp;done)|(go_simp;rfl));intro za hg w8 Wb hb;have Fb:=ga.mk (Qa (by repeat (first|(with_reducible first|exact HB.out|apply oa|apply ia|apply qa)|exact HB.out)) hb);have Lb:=ga.mk (Wb);have Vb:=ga.mk ((by rw [hg];exact (Ka (by repeat (first|(with_reducible first|exact HB.out|apply oa|apply ia|apply qa)|exact HB.out))):w.heap.size ≤ za));have Bc:=ga.mk ((by rw [hg];exact (Ka (by repeat (first|(with_reducible first|exact HB.out|apply oa|apply ia|apply qa)|exact HB.out))):w.heap.size ≤ za));clear HB;have HB:=Fb;have ta:=Lb;have ye:=Vb;have Sa:=Bc;clear Fb Lb Vb Bc hb Wb hg;have Em:w8.cell? ⟨za,0,none⟩=some (.slice xb Oa.length qb):=(ja ta.out 0).trans rfl;have Dm:w8.cell? ⟨za,1,none⟩=some (.int .i64 La):=(ja ta.out 1).trans rfl;have Cm:w8.cell? ⟨za,2,none⟩=some (.int .i64 Pa):=(ja ta.out 2).trans rfl;have Bm:w8.cell? ⟨za,3,none⟩=some (.int .i64 Ja):=(ja ta.out 3).trans rfl;have Am:w8.cell? ⟨za,4,none⟩=some (.int .i64 nc):=(ja ta.out 4).trans rfl;have zm:=aa ta.out 0;have ym:=aa ta.out 1;have xm:=aa ta.out 2;have wm:=aa ta.out 3;have vm:=aa ta.out 4)|((with_reducible refine Db (N:=16) rfl ?_);refine Kd.vl (Kd.int .i64) _ 3 ?hg (N:=16) ?hd (xs:=([Ja,nc]:List Int)) (inner:=[.int .i64 Ja,.int .i64 nc]) (ok:=fun _=>True) (Gh:=fun _=>True) ?hr ?hp (fun _ hk=>hk) trivial (Below.refl _ _) (Nat.le_refl _) (by simp) ?_;(case hd=>rfl);(case hg=>rfl);(case hr=>first|(go_simp;done)|(go_simp;rfl));(case hp=>exact (Ld.one (show Kd.M (Kd.int .i64) _ _ _ Ja [.int .i64 Ja] from rfl) (Ld.one (show Kd.M (Kd.int .i64) _ _ _ nc [.int .i64 nc] from rfl) (Ld.none _ _))));intro dB Qn Uq hb um Df;clear um Df;(first|rw [← bp.out] at Uq|(simp only [Int.reduceToNat] at Uq;rw [← bp.out] at Uq));have Fb:=ga.mk (Kd.Qe Uq (Ka (by repeat (first|(with_reducible first|exact HB.out|apply oa|apply ia|apply qa|refine ua ?_ Sa.out)|exact HB.out))));have Lb:=ga.mk (Va (g:=za) (o:=.cells #[.slice xb Oa.length qb,.int .i64 La,.int .i64 Pa,.int .i64 Ja,.int .i64 nc] 83 (0,0)) (by (with_reducible repeat (first|refine Ca ?_ _|refine Ea ?_|refine Da ?_ _));exact ta.out) hb);have Vb:=ga.mk (Qa (by repeat (first|(with_reducible first|exact HB.out|apply oa|apply ia|apply qa|refine ua ?_ Sa.out)|exact HB.out)) hb);clear ta HB;have Pn:=Fb;have ta:=Lb;have HB:=Vb;clear Fb Lb Vb hb Uq));go_ret;exact ⟨_,by first|rfl|(simp [Na,Ma] <;> rfl)|(simp [*,Na,Ma] <;> rfl),by (with_reducible repeat (first|apply Kd.Xa|apply Kd.Wa|apply Kd.yb));exact Pn.out,by repeat (first|(with_reducible first|exact HB.out|apply oa|apply ia|apply qa|refine ua ?_ Sa.out)|exact HB.out)⟩
  ·rw [if_neg c7] at H;have Aq:(La == 1)=false:=beq_eq_false_iff_ne.mpr c7;have BA:(La != 1)=true:=bne_iff_ne.mpr c7;obtain rfl:=Option.some.inj H;go_enter Try.func75,Try.ntmps75;go_wp2_with (first|((with_reducible refine Db (N:=1) rfl ?_);refine Jb ?hg (N:=1) ?hd (cs:=#[.slice xb Oa.length qb,.int .i64 La,.int .i64 Pa,.int .i64 Ja,.int .i64 nc]) (t:=83) ?hr ?_;(case hd=>rfl);(case hg=>rfl);(case hr=>first|(go_simp;done)|(go_simp;rfl));intro za hg dx Wb hb;have Fb:=ga.mk (Qa (by repeat (first|(with_reducible first|exact HB.out|apply oa|apply ia|apply qa)|exact HB.out)) hb);have Lb:=ga.mk (Wb);have Vb:=ga.mk ((by rw [hg];exact (Ka (by repeat (first|(with_reducible first|exact HB.out|apply oa|apply ia|apply qa)|exact HB.out))):w.heap.size ≤ za));have Bc:=ga.mk ((by rw [hg];exact (Ka (by repeat (first|(with_reducible first|exact HB.out|apply oa|apply ia|apply qa)|exact HB.out))):w.heap.size ≤ za));clear HB;have HB:=Fb;have ta:=Lb;have ye:=Vb;have Sa:=Bc;clear Fb Lb Vb Bc hb Wb hg;have xq:dx.cell? ⟨za,0,none⟩=some (.slice xb Oa.length qb):=(ja ta.out 0).trans rfl;have wq:dx.cell? ⟨za,1,none⟩=some (.int .i64 La):=(ja ta.out 1).trans rfl;have vq:dx.cell? ⟨za,2,none⟩=some (.int .i64 Pa):=(ja ta.out 2).trans rfl;have uq:dx.cell? ⟨za,3,none⟩=some (.int .i64 Ja):=(ja ta.out 3).trans rfl;have sq:dx.cell? ⟨za,4,none⟩=some (.int .i64 nc):=(ja ta.out 4).trans rfl;have lq:=aa ta.out 0;have jq:=aa ta.out 1;have iq:=aa ta.out 2;have gq:=aa ta.out 3;have fq:=aa ta.out 4));go_ret;exact ⟨_,by first|rfl|(simp [Na,Ma] <;> rfl)|(simp [*,Na,Ma] <;> rfl),by first|exact Kd.cy _ _ _ _ _|exact Kd.uX _ _ _ _ _|exact Kd.gX _ _ _ _ _|exact Kd.nX _ _ _ _ _|exact Kd.jX _ _ _ _ _,by repeat (first|(with_reducible first|exact HB.out|apply oa|apply ia|apply qa|refine ua ?_ Sa.out)|exact HB.out)⟩
def Ya.l0:Nat→List Int→Int→Int→Option (List Int)
 | 0,_,_,_=>none
 | k + 1,x0,x2,x3=>if x2 < x3 then (if 0 ≤ x3 then (if x3 < (x0.length:Int) then (if 0 ≤ x2 then (if x2 < (x0.length:Int) then (Ya.l0 k ((x0.set (x2:Int).toNat (rd x0 x3)).set (x3:Int).toNat (rd x0 x2)) (wrap64 (x2 + 1)) (wrap64 (x3 - 1))) else (none)) else (none)) else (none)) else (none)) else (some x0)
def Ya.f (k:Nat) (l0:List Int):Option (List Int):=Ya.l0 k l0 0 (wrap64 ((l0.length:Int) - 1))
theorem Ya.tr:∀ k,(∀ y0 y1 y2,di (Ya.l0 k y0 y1 y2) (Ya.l0 (k + 1) y0 y1 y2))
 | 0=>fun _ _ _ r h=>by simp [Ya.l0] at h
 | k + 1=>by
  have VF:=Ya.tr k
  ·intro y0 y1 y2;unfold Ya.l0
   repeat' first
   | (with_reducible exact VF _ _ _)
   | (with_reducible exact di.refl _)
   | (with_reducible exact di.none _)
   | (with_reducible refine di.ite ?_ ?_)
   | (with_reducible refine di.bind ?_ (fun _=>?_))
   | exact VF _ _ _
   | exact di.none _
   | refine di.ite ?_ ?_
   | refine di.bind ?_ (fun _=>?_)
theorem Ya.mono:∀ a0 k,di (Ya.f k a0) (Ya.f (k + 1) a0):=by
 intro a0 k;have VF:=Ya.tr k;unfold Ya.f
 repeat' first
   | (with_reducible exact VF _ _ _)
   | (with_reducible exact di.refl _)
   | (with_reducible exact di.none _)
   | (with_reducible refine di.ite ?_ ?_)
   | (with_reducible refine di.bind ?_ (fun _=>?_))
   | exact VF _ _ _
   | exact di.none _
   | refine di.ite ?_ ?_
   | refine di.bind ?_ (fun _=>?_)
def Ya.T3:Bool × List (List Nat × List Nat):=(true,[([],[]),([],[]),([],[]),([],[]),([],[]),([],[]),([4,5],[4,5]),([6],[6]),([],[]),([],[]),([8,9],[8,9]),([10],[10]),([0,1,0,1,4,5,6,7,11],[0,1]),([12,7,0,1,4,5,6,7,11],[7,12]),([2,3,0,1,2,3,4,5,6,7,8,9,10,11,12,13],[2,3]),([14,11,13,0,1,2,3,4,5,6,7,8,9,10,11,12,13],[11,14])])
def Ya.B3:List Nat:=[0,0,0,0,0,0,48,112,0,0,768,1792,4083,8179,16383,32767]
theorem Ya.Hal:yl .any (opsOf Try.f107 3)=Ya.T3:=by kernel_rfl
theorem Ya.Bab:vk Ya.T3.2 Ya.B3=true:=by kernel_rfl
theorem Ya.calls (k:Nat) (Bj:Nat→Prop) (Nf:Value) (l0:List Int) (r:List Int) (w0 w:World) (hB:Below w0.heap.size w0 w) (Zi:Kd.R (Kd.int .i64) 3 w w0.heap.size Bj Nf l0) (h:Ya.f k l0=some r) :
  Calls Try.prog 107 #[Nf] w fun e w'=>e = .returned (.tuple #[])∧Kd.R (Kd.int .i64) 3 w' w0.heap.size (fun k_=>(Bj k_ ∨ w.heap.size ≤ k_)) Nf r∧Below w0.heap.size w0 w'∧Kept w w' (fun k_=>Bj k_):=by
 have o5:=ga.mk (show Kd.R (Kd.int .i64) 3 w w0.heap.size (fun k_=>(Bj k_ ∨ w.heap.size ≤ k_)) Nf l0 from Kd.Jc Zi (fun k_ hk=>(.inl hk)));have HK:=ga.mk (Kept.refl w (fun k_=>Bj k_));have HW0:=ga.mk hB.size;have HB:=ga.mk hB;clear hB;have H:(Ya.l0 k l0 0 (wrap64 ((l0.length:Int) - 1)))=some r:=h;clear h;have H':=ga.mk H;clear H;obtain ⟨Ao2,co2,eo2⟩:=Kd.Jd o5.out;subst eo2;go_enter Try.func107,Try.ntmps107;go_wp2
 go_loopg [2,3] k (fun kq v2 v3 w'=>∃ (Td:List Int) (Nl:Int) (Fc:Int),v2 = .int .i64 Nl∧v3 = .int .i64 Fc∧ga (Ya.l0 kq Td Nl Fc=some r)∧ga (kq ≤ k)∧ga (Kd.R (Kd.int .i64) 3 w' w0.heap.size (fun k_=>(Bj k_ ∨ w.heap.size ≤ k_)) (.slice Ao2 l0.length co2) Td)∧ga (Kept w w' (fun k_=>Bj k_))∧ga (Below w0.heap.size w0 w'))
 case atStart=>exact ⟨(l0),(0),(wrap64 ((l0.length:Int) - 1)),(by first|rfl|(simp;done)|(simp [*];done)),(by first|rfl|(simp;done)|(simp [*];done)),H',⟨Nat.le_refl _⟩,⟨by (with_reducible repeat (first|apply Kd.Xa|apply Kd.Wa|apply Kd.yb));exact o5.out⟩,⟨by repeat (first|(with_reducible first|exact HK.out|apply Kept.alloc|apply Kept.drewN|apply Kept.drew)|exact HK.out)⟩,⟨by repeat (first|(with_reducible first|exact HB.out|apply oa|apply ia|apply qa)|exact HB.out)⟩⟩
 case round =>
  clear H'
  try clear c1
  try clear p2
  (try clear HA);(try clear Gf);(try clear Pe);(try clear HK);(try clear HB);obtain ⟨Td,Nl,Fc,rfl,rfl,HA,Gf,Pe,HK,HB⟩:=hrel;have lG:=(Kd.Tb Pe.out).1;rw [lG] at Pe;(try simp only [lG]);cases gk with
  | zero=>exact absurd HA.out (by simp [Ya.l0])
  | succ k1 =>
   have H:=HA.out;clear HA;simp only [Ya.l0] at H
   by_cases c3:Nl < Fc
   ·rw [if_pos c3] at H;have Cg:decide (Nl < Fc)=true:=decide_eq_true c3;clear c3
    by_cases c4:0 ≤ Fc
    ·rw [if_pos c4] at H;have Aj:decide (0 ≤ Fc)=true:=decide_eq_true c4;clear c4
     by_cases c5:Fc < (Td.length:Int)
     ·rw [if_pos c5] at H;have Al:decide (Fc < (Td.length:Int))=true:=decide_eq_true c5;clear c5
      by_cases c6:0 ≤ Nl
      ·rw [if_pos c6] at H;have Yl:decide (0 ≤ Nl)=true:=decide_eq_true c6;clear c6
       by_cases c7:Nl < (Td.length:Int)
       ·rw [if_pos c7] at H;have Aq:decide (Nl < (Td.length:Int))=true:=decide_eq_true c7;clear c7;obtain ⟨ug,Er⟩:∃ y_:List Int,y_=(Td.set (Nl:Int).toNat (rd Td Fc)):=⟨_,rfl⟩;replace H:(Ya.l0 k1 (ug.set (Fc:Int).toNat (rd Td Nl)) (wrap64 (Nl + 1)) (wrap64 (Fc - 1)))=some r:=by first|(rw [Er];with_reducible exact H)|(have Md:=(Option.bind_some _ _).symm.trans H;rw [Er];with_reducible exact Md)|(have Md:=(Option.bind_some _ _).symm.trans H;with_reducible exact Md)|with_reducible exact H|(rw [Er];exact H)|exact H
        have GQ:=ga.mk Er;clear Er;obtain ⟨Lf,Vl⟩:∃ y_:List Int,y_=(ug.set (Fc:Int).toNat (rd Td Nl)):=⟨_,rfl⟩;replace H:(Ya.l0 k1 Lf (wrap64 (Nl + 1)) (wrap64 (Fc - 1)))=some r:=by first|(rw [Vl];with_reducible exact H)|(have Md:=(Option.bind_some _ _).symm.trans H;rw [Vl];with_reducible exact Md)|(have Md:=(Option.bind_some _ _).symm.trans H;with_reducible exact Md)|with_reducible exact H|(rw [Vl];exact H)|exact H
        have tH:=ga.mk Vl;clear Vl;have H':=ga.mk H;clear H
        try go_wp2
        have Fb:=ga.mk (Kd.yb Pe.out);have Lb:=ga.mk (Kept.drew HK.out);have Vb:=ga.mk (qa HB.out);clear Pe HK HB;have Pe:=Fb;have HK:=Lb;have HB:=Vb;clear Fb Lb Vb;have Ee:0 ≤ (Fc:Int):=of_decide_eq_true (by first|(with_reducible assumption)|assumption);have De:Fc < (Td.length:Int):=of_decide_eq_true (by first|(with_reducible assumption)|assumption);obtain ⟨je,Ih,xd⟩:=Kd.Ef (Kd.Tb Pe.out).2.2 Fc Ee De;cases Ih;replace Ee:=eq_true Ee;replace De:=eq_true De;have Fh:0 ≤ (Nl:Int):=of_decide_eq_true (by first|(with_reducible assumption)|assumption);have Eh:Nl < (Td.length:Int):=of_decide_eq_true (by first|(with_reducible assumption)|assumption);obtain ⟨Ye,Dp,Ke⟩:=Kd.Ef (Kd.Tb Pe.out).2.2 Nl Fh Eh;obtain rfl:je=Ye:=(by injection Dp);replace Fh:=eq_true Fh;replace Eh:=eq_true Eh;have p8:0 ≤ (Nl:Int):=of_decide_eq_true (by first|(with_reducible assumption)|assumption);have q8:(Nl:Int) < ((Td.length:Int):Int):=of_decide_eq_true (by first|(with_reducible assumption)|assumption);obtain ⟨go8,co8,eo8,gb8,gl8,cl8,nR⟩:=Kd.jk Pe.out (by omega);(first|cases eo8|(injection eo8 with Uj sy uy;(first|subst Uj|(injection Uj with Uj;subst Uj));subst uy;clear sy));have GB8:=ga.mk gb8;have GG8:=ga.mk nR;clear gb8 gl8 nR;have QX:=ga.mk (show (Bj go8 ∨ w.heap.size ≤ go8) from (Pe.out.1 _ rfl));(first|simp only [add_plain] at xd|skip);(first|simp only [add_plain] at Ke|skip);obtain ⟨gW,FW⟩:=Kd.gh 0 Pe.out (Nl:Int) p8 q8;replace p8:=eq_true p8;replace q8:=eq_true q8;have vJ:=Kd.zQ Pe.out (Nl:Int) (rd Td Fc);rw [← GQ.out] at vJ;have pF:=ga.mk vJ;clear vJ;have p9:0 ≤ (Fc:Int):=of_decide_eq_true (by first|(with_reducible assumption)|assumption);have q9:(Fc:Int) < ((Td.length:Int):Int):=of_decide_eq_true (by first|(with_reducible assumption)|assumption);obtain ⟨vO,eP⟩:=Kd.gh 0 pF.out (Fc:Int) p9 q9;replace p9:=eq_true p9;replace q9:=eq_true q9;have OA:=Kd.zQ pF.out (Fc:Int) (rd Td Nl);rw [← tH.out] at OA;have Aac:=ga.mk OA;clear OA;refine xk (n:=16) (S:=fun w'=>w'.cell? ⟨go8,(Fc).toNat,none⟩=some (.int .i64 (rd Td Fc))∧w'.cell? ⟨go8,(Nl).toNat,none⟩=some (.int .i64 (rd Td Nl))) (ds:=[13,15]) #[false,false,false,false,false,false,false,false,false,false,false,false,false,false,false,false] (by kernel_rfl) rfl rfl ⟨xd,Ke⟩ (fun hHeld=>?_);refine Kh Ya.Hal Ya.Bab (fun Kf Hq=>?_);generalize wr.drew=Qn at Pe HK HB GG8 pF Aac FW eP xd Ke gW vO hHeld ⊢;refine od (i:=0) (N:=some 14) (v:=?_) (a':=?_) #[true,false,false,false,false,false,false,false,false,false,false,false,false,false,false,false] rfl rfl (Cc Kf.out (by kernel_rfl)) (fun _ _ _ h=>h) (Or.inl ⟨by rfl,?_⟩) ?_ ?_;rotate_left
        ·intro w';go_simp;with_reducible rfl
        rotate_left
        ·simp only [Act.put,List.setIfInBounds_toArray,List.set_cons_zero,List.set_cons_succ,dc,ec]
         rfl
        refine od (i:=1) (N:=some 15) (v:=?_) (a':=?_) #[true,true,false,false,false,false,false,false,false,false,false,false,false,false,false,false] rfl rfl (Cc Kf.out (by kernel_rfl)) (fun _ _ _ h=>h) (Or.inl ⟨by rfl,?_⟩) ?_ ?_;rotate_left
        ·intro w';go_simp;with_reducible rfl
        rotate_left
        ·simp only [Act.put,List.setIfInBounds_toArray,List.set_cons_zero,List.set_cons_succ,dc,ec]
         rfl
        refine od (i:=2) (N:=some 16) (v:=?_) (a':=?_) #[true,true,true,false,false,false,false,false,false,false,false,false,false,false,false,false] rfl rfl (Cc Kf.out (by kernel_rfl)) (fun _ _ _ h=>h) (Or.inl ⟨by rfl,?_⟩) ?_ ?_;rotate_left
        ·intro w';go_simp;with_reducible rfl
        rotate_left
        ·simp only [Act.put,List.setIfInBounds_toArray,List.set_cons_zero,List.set_cons_succ,dc,ec]
         rfl
        refine od (i:=3) (N:=some 17) (v:=?_) (a':=?_) #[true,true,true,true,false,false,false,false,false,false,false,false,false,false,false,false] rfl rfl (Cc Kf.out (by kernel_rfl)) (fun _ _ _ h=>h) (Or.inl ⟨by rfl,?_⟩) ?_ ?_;rotate_left
        ·intro w';go_simp;with_reducible rfl
        rotate_left
        ·simp only [Act.put,List.setIfInBounds_toArray,List.set_cons_zero,List.set_cons_succ,dc,ec]
         rfl
        refine od (i:=4) (N:=some 18) (v:=?_) (a':=?_) #[true,true,true,true,true,false,false,false,false,false,false,false,false,false,false,false] rfl rfl (Cc Kf.out (by kernel_rfl)) (fun _ _ _ h=>h) (Or.inl ⟨by rfl,?_⟩) ?_ ?_;rotate_left
        ·intro w';go_simp;with_reducible rfl
        rotate_left
        ·simp only [Act.put,List.setIfInBounds_toArray,List.set_cons_zero,List.set_cons_succ,dc,ec]
         rfl
        refine od (i:=5) (N:=some 19) (v:=?_) (a':=?_) #[true,true,true,true,true,true,false,false,false,false,false,false,false,false,false,false] rfl rfl (Cc Kf.out (by kernel_rfl)) (fun _ _ _ h=>h) (Or.inl ⟨by rfl,?_⟩) ?_ ?_;rotate_left
        ·intro w';go_simp;with_reducible rfl
        rotate_left
        ·simp only [Act.put,List.setIfInBounds_toArray,List.set_cons_zero,List.set_cons_succ,dc,ec]
         rfl
        refine od (i:=6) (N:=some 20) (v:=?_) (a':=?_) #[true,true,true,true,true,true,true,false,false,false,false,false,false,false,false,false] rfl rfl (Cc Kf.out (by kernel_rfl)) (fun _ _ _ h=>h) (Or.inl ⟨by rfl,?_⟩) ?_ ?_;rotate_left
        ·intro w';go_simp;with_reducible rfl
        rotate_left
        ·simp only [Act.put,List.setIfInBounds_toArray,List.set_cons_zero,List.set_cons_succ,dc,ec]
         rfl
        refine od (i:=8) (N:=some 22) (v:=?_) (a':=?_) #[true,true,true,true,true,true,true,false,true,false,false,false,false,false,false,false] rfl rfl (Cc Kf.out (by kernel_rfl)) (fun _ _ _ h=>h) (Or.inl ⟨by rfl,?_⟩) ?_ ?_;rotate_left
        ·intro w';go_simp;with_reducible rfl
        rotate_left
        ·simp only [Act.put,List.setIfInBounds_toArray,List.set_cons_zero,List.set_cons_succ,dc,ec]
         rfl
        refine od (i:=9) (N:=some 23) (v:=?_) (a':=?_) #[true,true,true,true,true,true,true,false,true,true,false,false,false,false,false,false] rfl rfl (Cc Kf.out (by kernel_rfl)) (fun _ _ _ h=>h) (Or.inl ⟨by rfl,?_⟩) ?_ ?_;rotate_left
        ·intro w';go_simp;with_reducible rfl
        rotate_left
        ·simp only [Act.put,List.setIfInBounds_toArray,List.set_cons_zero,List.set_cons_succ,dc,ec]
         rfl
        refine od (i:=10) (N:=some 24) (v:=?_) (a':=?_) #[true,true,true,true,true,true,true,false,true,true,true,false,false,false,false,false] rfl rfl (Cc Kf.out (by kernel_rfl)) (fun _ _ _ h=>h) (Or.inl ⟨by rfl,?_⟩) ?_ ?_;rotate_left
        ·intro w';go_simp;with_reducible rfl
        rotate_left
        ·simp only [Act.put,List.setIfInBounds_toArray,List.set_cons_zero,List.set_cons_succ,dc,ec]
         rfl
        refine Ug (i:=7) (N:=some 21) (v:=?_) (a':=?_) #[true,true,true,true,true,true,true,true,true,true,true,false,false,false,false,false] rfl rfl (Te Kf.out Hq.out (by kernel_rfl)) (fun _ _ _ h=>h) (Or.inl ⟨by rfl,?_⟩) hHeld ?_ ?_;rotate_left
        ·rintro w' ⟨s0,s1⟩;go_simp;with_reducible rfl
        rotate_left
        ·simp only [Act.put,List.setIfInBounds_toArray,List.set_cons_zero,List.set_cons_succ,dc,ec]
         rfl
        refine Ug (i:=11) (N:=some 25) (v:=?_) (a':=?_) #[true,true,true,true,true,true,true,true,true,true,true,true,false,false,false,false] rfl rfl (Te Kf.out Hq.out (by kernel_rfl)) (fun _ _ _ h=>h) (Or.inl ⟨by rfl,?_⟩) hHeld ?_ ?_;rotate_left
        ·rintro w' ⟨s0,s1⟩;go_simp;with_reducible rfl
        rotate_left
        ·simp only [Act.put,List.setIfInBounds_toArray,List.set_cons_zero,List.set_cons_succ,dc,ec]
         rfl
        refine od (i:=12) (N:=some 26) (v:=?_) (a':=?_) #[true,true,true,true,true,true,true,true,true,true,true,true,true,false,false,false] rfl rfl (Cc Kf.out (by kernel_rfl)) (fun _ _ _ h=>h) (Or.inl ⟨by rfl,?_⟩) ?_ ?_;rotate_left
        ·intro w';go_simp;with_reducible rfl
        rotate_left
        ·simp only [Act.put,List.setIfInBounds_toArray,List.set_cons_zero,List.set_cons_succ,dc,ec]
         rfl
        refine mO (i:=13) (N:=none) #[true,true,true,true,true,true,true,true,true,true,true,true,true,true,false,false] rfl rfl (qm Kf.out (by kernel_rfl)) (by decide) (fun K hK=>?_);refine MN (w1:=?_) (by rfl) rfl ?_ ?_;rotate_left
        ·go_simp
         rfl
        refine hK.out _ _ ?_;clear hK K;refine od (i:=14) (N:=some 27) (v:=?_) (a':=?_) #[true,true,true,true,true,true,true,true,true,true,true,true,true,true,true,false] rfl rfl (Cc Kf.out (by kernel_rfl)) (fun _ _ _ h=>h) (Or.inl ⟨by rfl,?_⟩) ?_ ?_;rotate_left
        ·intro w';go_simp;with_reducible rfl
        rotate_left
        ·simp only [Act.put,List.setIfInBounds_toArray,List.set_cons_zero,List.set_cons_succ,dc,ec]
         rfl
        refine mO (i:=15) (N:=none) #[true,true,true,true,true,true,true,true,true,true,true,true,true,true,true,true] rfl rfl (qm Kf.out (by kernel_rfl)) (by decide) (fun K hK=>?_);refine MN (w1:=?_) (by rfl) rfl ?_ ?_;rotate_left
        ·go_simp
         rfl
        refine hK.out _ _ ?_;clear hK K;refine Wo (Vj Kf.out (by kernel_rfl)) ?_
        try go_wp2
        (try simp only [← lG])
        go_roundg k1
        case measure=>have:=Gf.out;omega
        case rel=>exact ⟨(Lf),(wrap64 (Nl + 1)),(wrap64 (Fc - 1)),(by first|rfl|(simp;done)|(simp [*];done)),(by first|rfl|(simp;done)|(simp [*];done)),H',⟨by have:=Gf.out;omega⟩,⟨by (try simp only [lG]);(with_reducible repeat (first|apply Kd.Xa|apply Kd.Wa|apply Kd.yb));exact Aac.out⟩,⟨by repeat (first|(with_reducible first|exact HK.out|apply Kept.alloc|apply Kept.drewN|apply Kept.drew|refine Kept.setCell ?_ QX.out _|refine Kept.setCell ?_ QX.out _)|exact HK.out)⟩,⟨by repeat (first|(with_reducible first|exact HB.out|apply oa|apply ia|apply qa|refine ua ?_ GB8.out|refine ua ?_ GB8.out)|exact HB.out)⟩⟩
       ·rw [if_neg c7] at H;exact absurd H (by simp)
      ·rw [if_neg c6] at H;exact absurd H (by simp)
     ·rw [if_neg c5] at H;exact absurd H (by simp)
    ·rw [if_neg c4] at H;exact absurd H (by simp)
   ·rw [if_neg c3] at H;have Cg:decide (Nl < Fc)=false:=decide_eq_false c3;clear c3;obtain rfl:=Option.some.inj H;go_wp2
    first|go_end0|((try simp only [Exit.inBlock,Exit.then]);refine bodyPost_ret (results_none rfl _ _ _) rfl ?_)
    exact ⟨by first|rfl|(simp [Na,Ma] <;> rfl)|(simp [*,Na,Ma] <;> rfl),(by first|exact (by (with_reducible repeat (first|apply Kd.Xa|apply Kd.Wa|apply Kd.yb));exact Pe.out)|(simp only [lG];exact (by (with_reducible repeat (first|apply Kd.Xa|apply Kd.Wa|apply Kd.yb));exact Pe.out))),by repeat (first|(with_reducible first|exact HB.out|apply oa|apply ia|apply qa)|exact HB.out),by repeat (first|(with_reducible first|exact HK.out|apply Kept.alloc|apply Kept.drewN|apply Kept.drew)|exact HK.out)⟩
def Zc.l0:Nat→List Bool→List Int→List Int→List Int→Int→Int→Int→List (zf)→Option (List Int)
 | 0,_,_,_,_,_,_,_,_=>none
 | k + 1,x3,x4,x5,Tc,Uc,Sc,Rc,Zb=>if (x5.length:Int) > 0 then (if 0 ≤ (wrap64 ((x5.length:Int) - 1)) then (if (wrap64 ((x5.length:Int) - 1)) < (x5.length:Int) then (if (wrap64 ((x5.length:Int) - 1)) ≤ (x5.length:Int) then ((some (x5.take ((wrap64 ((x5.length:Int) - 1)):Int).toNat:List Int)).bind fun Rh=>(if 0 ≤ (rd x5 (wrap64 ((x5.length:Int) - 1))) then (if (rd x5 (wrap64 ((x5.length:Int) - 1))) < (x3.length:Int) then (if sg false x3 (rd x5 (wrap64 ((x5.length:Int) - 1)))=true then (Zc.l0 k x3 x4 Rh Tc Uc Sc Rc Zb) else (if x4.length < 17592186044416 then (if (rd x5 (wrap64 ((x5.length:Int) - 1))) < (Zb.length:Int) then ((jg.f ((Ta Zb (rd x5 (wrap64 ((x5.length:Int) - 1)))).f0) ((Ta Zb (rd x5 (wrap64 ((x5.length:Int) - 1)))).f1) ((Ta Zb (rd x5 (wrap64 ((x5.length:Int) - 1)))).f2) ((Ta Zb (rd x5 (wrap64 ((x5.length:Int) - 1)))).f3) ((Ta Zb (rd x5 (wrap64 ((x5.length:Int) - 1)))).f4)).bind fun t121=>((Ya.f k t121).bind fun t124=>(if Rh.length + t124.length < 17592186044416 then (Zc.l0 k (x3.set ((rd x5 (wrap64 ((x5.length:Int) - 1))):Int).toNat true) (x4 ++ [rd x5 (wrap64 ((x5.length:Int) - 1))]) (Rh ++ t124) Tc Uc Sc Rc Zb) else (none)))) else (none)) else (none))) else (none)) else (none))) else (none)) else (none)) else (none)) else (some x4)
def Zc.f (k:Nat) (Oa:List Int) (La:Int) (Pa:Int) (Ja:Int) (Fa:List (zf)):Option (List Int):=if 0 ≤ (Fa.length:Int) then (if ((Fa.length:Int):Int).toNat ≤ 281474976710656 then (Zc.l0 k (List.replicate ((Fa.length:Int):Int).toNat false) (([]:List Int)) (([0]:List Int)) Oa La Pa Ja Fa) else (none)) else (none)
theorem Zc.calls (k:Nat) (xb:Option Addr) (qb:Nat) (Oa:List Int) (La:Int) (Pa:Int) (Ja:Int) (Pb:Option Addr) (Gb:Nat) (Fa:List (zf)) (r:List Int) (w:World) (xe:Kd.C (Kd.int .i64) w xb Oa.length Oa) (we:Oa.length ≤ qb) (Wf:Kd.C Bp w Pb Fa.length Fa) (Uf:Fa.length ≤ Gb) (h:Zc.f k Oa La Pa Ja Fa=some r) :
  Calls Try.prog 78 #[.agg #[.slice xb Oa.length qb,.int .i64 La,.int .i64 Pa,.int .i64 Ja,.slice Pb Fa.length Gb]] w fun e w'=>∃ vn:Value,e = .returned (vn)∧Kd.R (Kd.int .i64) 3 w' w.heap.size (fun _=>True) vn r∧Below w.heap.size w w':=by
 have mA:=Try.underlying45;have kA:=Try.underlying83;have Ue:=ga.mk xe;have af:=ga.mk we;clear xe we;have ng:=ga.mk Wf;have Xg:=ga.mk Uf;clear Wf Uf;have HB:=ga.mk (Below.refl w.heap.size w);have H:(if 0 ≤ (Fa.length:Int) then (if ((Fa.length:Int):Int).toNat ≤ 281474976710656 then (Zc.l0 k (List.replicate ((Fa.length:Int):Int).toNat false) (([]:List Int)) (([0]:List Int)) Oa La Pa Ja Fa) else (none)) else (none))=some r:=h;clear h
 by_cases c2:0 ≤ (Fa.length:Int)
 ·rw [if_pos c2] at H;have Bq:=eq_true c2;have Lt:decide (0 ≤ (Fa.length:Int))=true:=decide_eq_true c2;clear c2
  by_cases c3:((Fa.length:Int):Int).toNat ≤ 281474976710656
  ·rw [if_pos c3] at H;have Cg:=eq_true c3;have Zl:decide (((Fa.length:Int):Int).toNat ≤ 281474976710656)=true:=decide_eq_true c3;clear c3;obtain ⟨Yd,Rf⟩:∃ y_:List Bool,y_=(List.replicate ((Fa.length:Int):Int).toNat false):=⟨_,rfl⟩;replace H:(Zc.l0 k Yd (([]:List Int)) (([0]:List Int)) Oa La Pa Ja Fa)=some r:=by first|(rw [Rf];with_reducible exact H)|(have Md:=(Option.bind_some _ _).symm.trans H;rw [Rf];with_reducible exact Md)|(have Md:=(Option.bind_some _ _).symm.trans H;with_reducible exact Md)|with_reducible exact H|(rw [Rf];exact H)|exact H
   have ki:=ga.mk Rf;clear Rf;obtain ⟨Ce,Ng⟩:∃ y_:List Int,y_=(([]:List Int)):=⟨_,rfl⟩;replace H:(Zc.l0 k Yd Ce (([0]:List Int)) Oa La Pa Ja Fa)=some r:=by first|(rw [Ng];with_reducible exact H)|(have Md:=(Option.bind_some _ _).symm.trans H;rw [Ng];with_reducible exact Md)|(have Md:=(Option.bind_some _ _).symm.trans H;with_reducible exact Md)|with_reducible exact H|(rw [Ng];exact H)|exact H
   have bp:=ga.mk Ng;clear Ng;obtain ⟨Mz,yj⟩:∃ y_:List Int,y_=(([0]:List Int)):=⟨_,rfl⟩;replace H:(Zc.l0 k Yd Ce Mz Oa La Pa Ja Fa)=some r:=by first|(rw [yj];with_reducible exact H)|(have Md:=(Option.bind_some _ _).symm.trans H;rw [yj];with_reducible exact Md)|(have Md:=(Option.bind_some _ _).symm.trans H;with_reducible exact Md)|with_reducible exact H|(rw [yj];exact H)|exact H
   have Zt:=ga.mk yj;clear yj;have H':=ga.mk H;clear H;go_enter Try.func78,Try.ntmps78;go_wp2_with (first|((with_reducible refine Db (N:=1) rfl ?_);refine Jb ?hg (N:=1) ?hd (cs:=#[.slice xb Oa.length qb,.int .i64 La,.int .i64 Pa,.int .i64 Ja,.slice Pb Fa.length Gb]) (t:=45) ?hr ?_;(case hd=>rfl);(case hg=>rfl);(case hr=>first|(go_simp;done)|(go_simp;rfl));intro za hg w4 Wb hb;have Fb:=ga.mk (Qa (by repeat (first|(with_reducible first|exact HB.out|apply oa|apply ia|apply qa)|exact HB.out)) hb);have Lb:=ga.mk (Wb);have Vb:=ga.mk ((by rw [hg];exact (Ka (by repeat (first|(with_reducible first|exact HB.out|apply oa|apply ia|apply qa)|exact HB.out))):w.heap.size ≤ za));have Bc:=ga.mk ((by rw [hg];exact (Ka (by repeat (first|(with_reducible first|exact HB.out|apply oa|apply ia|apply qa)|exact HB.out))):w.heap.size ≤ za));clear HB;have HB:=Fb;have ta:=Lb;have ye:=Vb;have Sa:=Bc;clear Fb Lb Vb Bc hb Wb hg;have sP:w4.cell? ⟨za,0,none⟩=some (.slice xb Oa.length qb):=(ja ta.out 0).trans rfl;have rP:w4.cell? ⟨za,1,none⟩=some (.int .i64 La):=(ja ta.out 1).trans rfl;have qP:w4.cell? ⟨za,2,none⟩=some (.int .i64 Pa):=(ja ta.out 2).trans rfl;have pP:w4.cell? ⟨za,3,none⟩=some (.int .i64 Ja):=(ja ta.out 3).trans rfl;have oP:w4.cell? ⟨za,4,none⟩=some (.slice Pb Fa.length Gb):=(ja ta.out 4).trans rfl;have dP:=aa ta.out 0;have cP:=aa ta.out 1;have bP:=aa ta.out 2;have ZO:=aa ta.out 3;have YO:=aa ta.out 4)|((with_reducible refine Db (N:=11) rfl ?_);refine Kd.Lu Kd.bool _ 4 rfl (N:=11) rfl 73 _ _ rfl (Fa.length:Int) rfl rfl Try.underlying73 (.bool false) 1 NJ rfl (by decide) (by omega) false (ok:=fun _=>True) (Gh:=fun _=>True) rfl (fun _ hk=>hk) trivial (of_decide_eq_true (by first|(with_reducible assumption)|assumption)) (Nat.le_trans (Nat.mul_le_mul_right _ (of_decide_eq_true (by first|(with_reducible assumption)|assumption):(Fa.length:Int).toNat ≤ 281474976710656)) (by omega)) (Below.refl _ _) (Nat.le_refl _) ?_;intro Sh w6 PO hb um Df;clear um Df;(first|rw [← ki.out] at PO|(simp only [Int.reduceToNat] at PO;rw [← ki.out] at PO));have Fb:=ga.mk (Kd.Qe PO (Ka (by repeat (first|(with_reducible first|exact HB.out|apply oa|apply ia|apply qa|refine ua ?_ Sa.out)|exact HB.out))));have Lb:=ga.mk (Va (g:=za) (o:=.cells #[.slice xb Oa.length qb,.int .i64 La,.int .i64 Pa,.int .i64 Ja,.slice Pb Fa.length Gb] 45 (0,0)) (by (with_reducible repeat (first|refine Ca ?_ _|refine Ea ?_|refine Da ?_ _));exact ta.out) hb);have Vb:=ga.mk (Qa (by repeat (first|(with_reducible first|exact HB.out|apply oa|apply ia|apply qa|refine ua ?_ Sa.out)|exact HB.out)) hb);clear ta HB;have Ze:=Fb;have ta:=Lb;have HB:=Vb;clear Fb Lb Vb hb PO)|((with_reducible refine Db (N:=12) rfl ?_);refine Kd.vl (Kd.int .i64) _ 3 ?hg (N:=12) ?hd (xs:=([]:List Int)) (inner:=[]) (ok:=fun _=>True) (Gh:=fun _=>True) ?hr ?hp (fun _ hk=>hk) trivial (Below.refl _ _) (Nat.le_refl _) (by simp) ?_;(case hd=>rfl);(case hg=>rfl);(case hr=>first|(go_simp;done)|(go_simp;rfl));(case hp=>exact (Ld.none _ _));intro dB w8 MO hb um Df;clear um Df;(first|rw [← bp.out] at MO|(simp only [Int.reduceToNat] at MO;rw [← bp.out] at MO));have Fb:=ga.mk (Kd.Xf (by (with_reducible repeat (first|apply Kd.Xa|apply Kd.Wa|apply Kd.yb));exact Ze.out) hb);have Lb:=ga.mk (Kd.Qe MO (Ka (by repeat (first|(with_reducible first|exact HB.out|apply oa|apply ia|apply qa|refine ua ?_ Sa.out)|exact HB.out))));have Vb:=ga.mk (Va (g:=za) (o:=.cells #[.slice xb Oa.length qb,.int .i64 La,.int .i64 Pa,.int .i64 Ja,.slice Pb Fa.length Gb] 45 (0,0)) (by (with_reducible repeat (first|refine Ca ?_ _|refine Ea ?_|refine Da ?_ _));exact ta.out) hb);have Bc:=ga.mk (Qa (by repeat (first|(with_reducible first|exact HB.out|apply oa|apply ia|apply qa|refine ua ?_ Sa.out)|exact HB.out)) hb);clear Ze ta HB;have Ze:=Fb;have Pn:=Lb;have ta:=Vb;have HB:=Bc;clear Fb Lb Vb Bc hb MO)|((with_reducible refine Db (N:=13) rfl ?_);refine Kd.vl (Kd.int .i64) _ 3 ?hg (N:=13) ?hd (xs:=([0]:List Int)) (inner:=[.int .i64 0]) (ok:=fun _=>True) (Gh:=fun _=>True) ?hr ?hp (fun _ hk=>hk) trivial (Below.refl _ _) (Nat.le_refl _) (by simp) ?_;(case hd=>rfl);(case hg=>rfl);(case hr=>first|(go_simp;done)|(go_simp;rfl));(case hp=>exact (Ld.one (show Kd.M (Kd.int .i64) _ _ _ 0 [.int .i64 0] from rfl) (Ld.none _ _)));intro v109 Qn Uq hb um Df;clear um Df;(first|rw [← Zt.out] at Uq|(simp only [Int.reduceToNat] at Uq;rw [← Zt.out] at Uq));have Fb:=ga.mk (Kd.Xf (by (with_reducible repeat (first|apply Kd.Xa|apply Kd.Wa|apply Kd.yb));exact Ze.out) hb);have Lb:=ga.mk (Kd.Wi (by (with_reducible repeat (first|apply Kd.Xa|apply Kd.Wa|apply Kd.yb));exact Pn.out) (Kd.xh Uq) hb);have Vb:=ga.mk (Kd.Qe (Kd.Xk Uq (Kd.Mn (by (with_reducible repeat (first|apply Kd.Xa|apply Kd.Wa|apply Kd.yb));exact Pn.out))) (Ka (by repeat (first|(with_reducible first|exact HB.out|apply oa|apply ia|apply qa|refine ua ?_ Sa.out)|exact HB.out))));have Bc:=ga.mk (Va (g:=za) (o:=.cells #[.slice xb Oa.length qb,.int .i64 La,.int .i64 Pa,.int .i64 Ja,.slice Pb Fa.length Gb] 45 (0,0)) (by (with_reducible repeat (first|refine Ca ?_ _|refine Ea ?_|refine Da ?_ _));exact ta.out) hb);have Ge:=ga.mk (Qa (by repeat (first|(with_reducible first|exact HB.out|apply oa|apply ia|apply qa|refine ua ?_ Sa.out)|exact HB.out)) hb);clear Ze Pn ta HB;have Ze:=Fb;have Pn:=Lb;have Pq:=Vb;have ta:=Bc;have HB:=Ge;clear Fb Lb Vb Bc Ge hb Uq))
   go_loopg [4,5] k (fun kq v4 v5 w'=>∃ (Fc:List Bool) (Yb:List Int) (Aa:List Int),ga (Zc.l0 kq Fc Yb Aa Oa La Pa Ja Fa=some r)∧ga (kq ≤ k)∧ga (Kd.R Kd.bool 4 w' w.heap.size (fun _=>True) Sh Fc)∧ga (Kd.R (Kd.int .i64) 3 w' w.heap.size (fun k_=>some k_ ≠ (v5:Value).ownBlock) v4 Yb)∧ga (Kd.R (Kd.int .i64) 3 w' w.heap.size (fun k_=>some k_ ≠ (v4:Value).ownBlock) v5 Aa)∧ga (w'.heap[za]? = some (.cells #[(.slice xb Oa.length qb),.int .i64 La,.int .i64 Pa,.int .i64 Ja,(.slice Pb Fa.length Gb)] 45 (0,0)))∧ga (Below w.heap.size w w'))
   case atStart=>exact ⟨(Yd),(Ce),(Mz),H',⟨Nat.le_refl _⟩,⟨by (with_reducible repeat (first|apply Kd.Xa|apply Kd.Wa|apply Kd.yb));exact Ze.out⟩,⟨by (with_reducible repeat (first|apply Kd.Xa|apply Kd.Wa|apply Kd.yb));exact Kd.Jc Pn.out (fun _ hk=>hk.2)⟩,⟨by (with_reducible repeat (first|apply Kd.Xa|apply Kd.Wa|apply Kd.yb));exact Kd.Jc Pq.out (fun _ hk=>hk.2)⟩,⟨by (with_reducible repeat (first|refine Ca ?_ _|refine Ea ?_|refine Da ?_ _));exact ta.out⟩,⟨by repeat (first|(with_reducible first|exact HB.out|apply oa|apply ia|apply qa|refine ua ?_ Sa.out)|exact HB.out)⟩⟩
   case round =>
    clear H'
    try clear c2
    try clear Bq
    try clear Lt
    try clear p2
    try clear c3
    try clear Cg
    try clear Zl
    try clear c7
    try clear sP
    try clear rP
    try clear qP
    try clear pP
    try clear oP
    try clear dP
    try clear cP
    try clear bP
    try clear ZO
    try clear YO
    (try clear HA);(try clear Gf);(try clear Lc);(try clear jd);(try clear Lg);(try clear ta);(try clear HB);obtain ⟨Fc,Yb,Aa,HA,Gf,Lc,jd,Lg,ta,HB⟩:=hrel;cases gk with
    | zero=>exact absurd HA.out (by simp [Zc.l0])
    | succ k1 =>
     have H:=HA.out;clear HA;simp only [Zc.l0] at H
     by_cases Zq:(Aa.length:Int) > 0
     ·rw [if_pos Zq] at H;have Zx:decide (0 < (Aa.length:Int))=true:=decide_eq_true Zq;have uab:decide (0 < Aa.length)=true:=decide_eq_true (by omega);clear Zq;obtain ⟨Ud,fK⟩:∃ j_:Int,(wrap64 ((Aa.length:Int) - 1))=j_:=⟨_,rfl⟩;replace H:(if 0 ≤ (Ud) then (if (Ud) < (Aa.length:Int) then (if (Ud) ≤ (Aa.length:Int) then ((some (Aa.take ((Ud):Int).toNat:List Int)).bind fun Rh=>(if 0 ≤ (rd Aa (Ud)) then (if (rd Aa (Ud)) < (Fc.length:Int) then (if sg false Fc (rd Aa (Ud))=true then (Zc.l0 k1 Fc Yb Rh Oa La Pa Ja Fa) else (if Yb.length < 17592186044416 then (if (rd Aa (Ud)) < (Fa.length:Int) then ((jg.f ((Ta Fa (rd Aa (Ud))).f0) ((Ta Fa (rd Aa (Ud))).f1) ((Ta Fa (rd Aa (Ud))).f2) ((Ta Fa (rd Aa (Ud))).f3) ((Ta Fa (rd Aa (Ud))).f4)).bind fun t121=>((Ya.f k1 t121).bind fun t124=>(if Rh.length + t124.length < 17592186044416 then (Zc.l0 k1 (Fc.set ((rd Aa (Ud)):Int).toNat true) (Yb ++ [rd Aa (Ud)]) (Rh ++ t124) Oa La Pa Ja Fa) else (none)))) else (none)) else (none))) else (none)) else (none))) else (none)) else (none)) else (none))=some r:=by first|(rw [fK] at H;exact H)|(simp only [fK] at H ⊢;exact H)
      have jan:(IntKind.i64.wrap ((Aa.length:Int) - 1))=Ud:=(dc _).trans fK
      by_cases yy:0 ≤ (Ud)
      ·rw [if_pos yy] at H;have SB:decide (0 ≤ (Ud))=true:=decide_eq_true yy;clear yy
       by_cases vN:(Ud) < (Aa.length:Int)
       ·rw [if_pos vN] at H;have cX:decide ((Ud) < (Aa.length:Int))=true:=decide_eq_true vN;clear vN
        by_cases xy:(Ud) ≤ (Aa.length:Int)
        ·rw [if_pos xy] at H;have VL:=eq_true xy;have Cat:decide ((Ud) ≤ (Aa.length:Int))=true:=decide_eq_true xy;clear xy;obtain ⟨Rh,Tl⟩:∃ y_:List Int,y_=(Aa.take ((Ud):Int).toNat):=⟨_,rfl⟩;replace H:(if 0 ≤ (rd Aa (Ud)) then (if (rd Aa (Ud)) < (Fc.length:Int) then (if sg false Fc (rd Aa (Ud))=true then (Zc.l0 k1 Fc Yb Rh Oa La Pa Ja Fa) else (if Yb.length < 17592186044416 then (if (rd Aa (Ud)) < (Fa.length:Int) then ((jg.f ((Ta Fa (rd Aa (Ud))).f0) ((Ta Fa (rd Aa (Ud))).f1) ((Ta Fa (rd Aa (Ud))).f2) ((Ta Fa (rd Aa (Ud))).f3) ((Ta Fa (rd Aa (Ud))).f4)).bind fun t121=>((Ya.f k1 t121).bind fun t124=>(if Rh.length + t124.length < 17592186044416 then (Zc.l0 k1 (Fc.set ((rd Aa (Ud)):Int).toNat true) (Yb ++ [rd Aa (Ud)]) (Rh ++ t124) Oa La Pa Ja Fa) else (none)))) else (none)) else (none))) else (none)) else (none))=some r:=by first|(rw [Tl];with_reducible exact H)|(have Md:=(Option.bind_some _ _).symm.trans H;rw [Tl];with_reducible exact Md)|(have Md:=(Option.bind_some _ _).symm.trans H;with_reducible exact Md)|with_reducible exact H|(rw [Tl];exact H)|exact H
         have dy:=ga.mk Tl;clear Tl
         by_cases Ez:0 ≤ (rd Aa (Ud))
         ·rw [if_pos Ez] at H;have Sw:decide (0 ≤ (rd Aa (Ud)))=true:=decide_eq_true Ez;clear Ez
          by_cases Kr:(rd Aa (Ud)) < (Fc.length:Int)
          ·rw [if_pos Kr] at H;have Gn:decide ((rd Aa (Ud)) < (Fc.length:Int))=true:=decide_eq_true Kr;clear Kr;obtain ⟨zab,EP⟩:∃ b_:Bool,b_=(sg false Fc (rd Aa (Ud))):=⟨_,rfl⟩;replace H:(if zab=true then (Zc.l0 k1 Fc Yb Rh Oa La Pa Ja Fa) else (if Yb.length < 17592186044416 then (if (rd Aa (Ud)) < (Fa.length:Int) then ((jg.f ((Ta Fa (rd Aa (Ud))).f0) ((Ta Fa (rd Aa (Ud))).f1) ((Ta Fa (rd Aa (Ud))).f2) ((Ta Fa (rd Aa (Ud))).f3) ((Ta Fa (rd Aa (Ud))).f4)).bind fun t121=>((Ya.f k1 t121).bind fun t124=>(if Rh.length + t124.length < 17592186044416 then (Zc.l0 k1 (Fc.set ((rd Aa (Ud)):Int).toNat true) (Yb ++ [rd Aa (Ud)]) (Rh ++ t124) Oa La Pa Ja Fa) else (none)))) else (none)) else (none)))=some r:=by rw [← EP] at H;exact H
           have sX:=ga.mk EP;clear EP
           by_cases bx:zab=true
           ·subst bx;have H1:(Zc.l0 k1 Fc Yb Rh Oa La Pa Ja Fa)=some r:=by rw [if_pos rfl] at H;exact H
            clear H;have H:=H1;clear H1;have H':=ga.mk H;clear H;obtain ⟨Taw,Hao,uao⟩:=Kd.Jd Lg.out;subst uao;have mI:0 ≤ ((Ud):Int):=of_decide_eq_true (by first|(with_reducible assumption)|assumption);have fI:(Ud) < (Aa.length:Int):=of_decide_eq_true (by first|(with_reducible assumption)|assumption);obtain ⟨VB,C0,dS⟩:=Kd.Ef (Kd.Tb Lg.out).2.2 (Ud) mI fI;cases C0;replace mI:=eq_true mI;replace fI:=eq_true fI;have DR:((Ud):Int) ≤ ((Aa.length:Int):Int):=of_decide_eq_true (by first|(with_reducible assumption)|assumption);obtain ⟨cam,mG,_,ZJ,_⟩:=info_parts info3;have EI:=ZP (P:=Try.prog) 22 3 .i64 Try.underlying22 mG (some VB) Aa.length Hao (Ud) (of_decide_eq_true (by first|(with_reducible assumption)|assumption)) DR (Kd.Tb Lg.out).2.1;have jB:=Kd.iF (m:=((Ud):Int).toNat) Lg.out (by omega);have UM:Rh.length=((Ud):Int).toNat:=(by rw [dy.out,List.length_take];omega);rw [← dy.out] at jB;rw [← UM] at jB EI;clear UM mG ZJ Lg;have sk:=ga.mk jB;clear jB;replace DR:=eq_true DR;obtain ⟨Saw,Kav,tao⟩:=Kd.Jd Lc.out;subst tao;have ju:0 ≤ ((rd Aa (Ud)):Int):=of_decide_eq_true (by first|(with_reducible assumption)|assumption);have fu:(rd Aa (Ud)) < (Fc.length:Int):=of_decide_eq_true (by first|(with_reducible assumption)|assumption);obtain ⟨kH,VI,Wr⟩:=Kd.Xj (Kd.Tb Lc.out).2.2 (rd Aa (Ud)) ju fu;(try rw [← sX.out] at Wr);cases VI;replace ju:=eq_true ju;replace fu:=eq_true fu;go_wp2
            go_roundg k1
            case measure=>have:=Gf.out;omega
            case rel=>exact ⟨(Fc),(Yb),(Rh),H',⟨by have:=Gf.out;omega⟩,⟨by (with_reducible repeat (first|apply Kd.Xa|apply Kd.Wa|apply Kd.yb));exact Lc.out⟩,⟨by (with_reducible repeat (first|apply Kd.Xa|apply Kd.Wa|apply Kd.yb));exact jd.out⟩,⟨by (with_reducible repeat (first|apply Kd.Xa|apply Kd.Wa|apply Kd.yb));exact sk.out⟩,⟨by (with_reducible repeat (first|refine Ca ?_ _|refine Ea ?_|refine Da ?_ _));exact ta.out⟩,⟨by repeat (first|(with_reducible first|exact HB.out|apply oa|apply ia|apply qa|refine ua ?_ Sa.out)|exact HB.out)⟩⟩
           ·replace bx:=Bool.eq_false_iff.mpr bx;subst bx;have H1:(if Yb.length < 17592186044416 then (if (rd Aa (Ud)) < (Fa.length:Int) then ((jg.f ((Ta Fa (rd Aa (Ud))).f0) ((Ta Fa (rd Aa (Ud))).f1) ((Ta Fa (rd Aa (Ud))).f2) ((Ta Fa (rd Aa (Ud))).f3) ((Ta Fa (rd Aa (Ud))).f4)).bind fun t121=>((Ya.f k1 t121).bind fun t124=>(if Rh.length + t124.length < 17592186044416 then (Zc.l0 k1 (Fc.set ((rd Aa (Ud)):Int).toNat true) (Yb ++ [rd Aa (Ud)]) (Rh ++ t124) Oa La Pa Ja Fa) else (none)))) else (none)) else (none))=some r:=by rw [if_neg (show ¬ (false=true) by decide)] at H;exact H
            clear H;have H:=H1;clear H1;obtain ⟨NH,bG⟩:∃ y_:List Bool,y_=(Fc.set ((rd Aa (Ud)):Int).toNat true):=⟨_,rfl⟩;replace H:(if Yb.length < 17592186044416 then (if (rd Aa (Ud)) < (Fa.length:Int) then ((jg.f ((Ta Fa (rd Aa (Ud))).f0) ((Ta Fa (rd Aa (Ud))).f1) ((Ta Fa (rd Aa (Ud))).f2) ((Ta Fa (rd Aa (Ud))).f3) ((Ta Fa (rd Aa (Ud))).f4)).bind fun t121=>((Ya.f k1 t121).bind fun t124=>(if Rh.length + t124.length < 17592186044416 then (Zc.l0 k1 NH (Yb ++ [rd Aa (Ud)]) (Rh ++ t124) Oa La Pa Ja Fa) else (none)))) else (none)) else (none))=some r:=by first|(rw [bG];with_reducible exact H)|(have Md:=(Option.bind_some _ _).symm.trans H;rw [bG];with_reducible exact Md)|(have Md:=(Option.bind_some _ _).symm.trans H;with_reducible exact Md)|with_reducible exact H|(rw [bG];exact H)|exact H
            have Wab:=ga.mk bG;clear bG
            by_cases uN:Yb.length < 17592186044416
            ·rw [if_pos uN] at H;have eac:=ga.mk uN;clear uN;obtain ⟨Kz,Sl⟩:∃ y_:List Int,y_=(Yb ++ [rd Aa (Ud)]):=⟨_,rfl⟩;replace H:(if (rd Aa (Ud)) < (Fa.length:Int) then ((jg.f ((Ta Fa (rd Aa (Ud))).f0) ((Ta Fa (rd Aa (Ud))).f1) ((Ta Fa (rd Aa (Ud))).f2) ((Ta Fa (rd Aa (Ud))).f3) ((Ta Fa (rd Aa (Ud))).f4)).bind fun t121=>((Ya.f k1 t121).bind fun t124=>(if Rh.length + t124.length < 17592186044416 then (Zc.l0 k1 NH Kz (Rh ++ t124) Oa La Pa Ja Fa) else (none)))) else (none))=some r:=by first|(rw [Sl];with_reducible exact H)|(have Md:=(Option.bind_some _ _).symm.trans H;rw [Sl];with_reducible exact Md)|(have Md:=(Option.bind_some _ _).symm.trans H;with_reducible exact Md)|with_reducible exact H|(rw [Sl];exact H)|exact H
             have YB:=ga.mk Sl;clear Sl
             by_cases Z4:(rd Aa (Ud)) < (Fa.length:Int)
             ·rw [if_pos Z4] at H;have Bat:decide ((rd Aa (Ud)) < (Fa.length:Int))=true:=decide_eq_true Z4;clear Z4;replace H:=Option.bind_eq_some_iff.mp H;obtain ⟨t121,zad,H⟩:=H;replace H:((Ya.f k1 t121).bind fun t124=>(if Rh.length + t124.length < 17592186044416 then (Zc.l0 k1 NH Kz (Rh ++ t124) Oa La Pa Ja Fa) else (none)))=some r:=H;have P4:=ga.mk zad;clear zad;replace H:=Option.bind_eq_some_iff.mp H;obtain ⟨t124,yad,H⟩:=H;replace H:(if Rh.length + t124.length < 17592186044416 then (Zc.l0 k1 NH Kz (Rh ++ t124) Oa La Pa Ja Fa) else (none))=some r:=H;have A28:=ga.mk yad;clear yad
              by_cases Dz:Rh.length + t124.length < 17592186044416
              ·rw [if_pos Dz] at H;have dac:=ga.mk Dz;clear Dz;obtain ⟨qM,vr⟩:∃ y_:List Int,y_=(Rh ++ t124):=⟨_,rfl⟩;replace H:(Zc.l0 k1 NH Kz qM Oa La Pa Ja Fa)=some r:=by first|(rw [vr];with_reducible exact H)|(have Md:=(Option.bind_some _ _).symm.trans H;rw [vr];with_reducible exact Md)|(have Md:=(Option.bind_some _ _).symm.trans H;with_reducible exact Md)|with_reducible exact H|(rw [vr];exact H)|exact H
               have DQ:=ga.mk vr;clear vr;have H':=ga.mk H;clear H;obtain ⟨Naw,nV,qao⟩:=Kd.Jd Lg.out;subst qao;have mI:0 ≤ ((Ud):Int):=of_decide_eq_true (by first|(with_reducible assumption)|assumption);have fI:(Ud) < (Aa.length:Int):=of_decide_eq_true (by first|(with_reducible assumption)|assumption);obtain ⟨VB,C0,dS⟩:=Kd.Ef (Kd.Tb Lg.out).2.2 (Ud) mI fI;cases C0;replace mI:=eq_true mI;replace fI:=eq_true fI;have q31:((Ud):Int) ≤ ((Aa.length:Int):Int):=of_decide_eq_true (by first|(with_reducible assumption)|assumption);obtain ⟨Wau,tW,_,Z5,_⟩:=info_parts info3;have FZ:=ZP (P:=Try.prog) 22 3 .i64 Try.underlying22 tW (some VB) Aa.length nV (Ud) (of_decide_eq_true (by first|(with_reducible assumption)|assumption)) q31 (Kd.Tb Lg.out).2.1;have gS:=Kd.iF (m:=((Ud):Int).toNat) Lg.out (by omega);have W5:Rh.length=((Ud):Int).toNat:=(by rw [dy.out,List.length_take];omega);rw [← dy.out] at gS;rw [← W5] at gS FZ;clear W5 tW Z5 Lg;have sk:=ga.mk gS;clear gS;replace q31:=eq_true q31;obtain ⟨Maw,S0,pao⟩:=Kd.Jd Lc.out;subst pao;have ju:0 ≤ ((rd Aa (Ud)):Int):=of_decide_eq_true (by first|(with_reducible assumption)|assumption);have fu:(rd Aa (Ud)) < (Fc.length:Int):=of_decide_eq_true (by first|(with_reducible assumption)|assumption);obtain ⟨kH,VI,Wr⟩:=Kd.Xj (Kd.Tb Lc.out).2.2 (rd Aa (Ud)) ju fu;(try rw [← sX.out] at Wr);cases VI;replace ju:=eq_true ju;replace fu:=eq_true fu;have p24:0 ≤ ((rd Aa (Ud)):Int):=of_decide_eq_true (by first|(with_reducible assumption)|assumption);have q24:((rd Aa (Ud)):Int) < ((Fc.length:Int):Int):=of_decide_eq_true (by first|(with_reducible assumption)|assumption);obtain ⟨IP,bQ,gV,Baa,aao,Qav,Yac⟩:=Kd.jk Lc.out (by omega);(first|cases gV|(injection gV with Uj sy uy;(first|subst Uj|(injection Uj with Uj;subst Uj));subst uy;clear sy));have rap:=ga.mk Baa;have zaw:=ga.mk Yac;clear Baa aao Yac;(first|simp only [add_plain] at Wr|skip);obtain ⟨iam,yan⟩:=Kd.gh false Lc.out ((rd Aa (Ud)):Int) p24 q24;replace p24:=eq_true p24;replace q24:=eq_true q24;have S3:=Kd.Cl Lc.out ((rd Aa (Ud)):Int) true;go_wp2_with (first|((with_reducible refine Xe (t:=4) (p:=34) rfl ?_);refine Ae (t:=4) (p:=34) (v:=?tal) (w1:=(wr.setCell ⟨IP,((rd Aa (Ud)):Int).toNat,none⟩ (.bool true))) ?hg ?ho ?hn ?hr ?_;(case ho=>rfl);(case hg=>rfl);(case hn=>rfl);(case hr=>first|(go_simp;done)|(go_simp;rfl));intro DJ hw;have hg:wr.grownBy DJ (some IP):=(by rw [hw];exact S3.2);have Tk:Kd.R Kd.bool 4 DJ w.heap.size (fun _=>True) (.slice (some ⟨IP,0,none⟩) Fc.length S0) NH:=(by rw [hw,Wab.out];exact S3.1);clear S3;have Fb:=ga.mk (Tk);have Lb:=ga.mk (Kd.Zj (v:=(.slice (some ⟨IP,0,none⟩) Fc.length S0)) (by (with_reducible repeat (first|apply Kd.Xa|apply Kd.Wa|apply Kd.yb));exact jd.out) (Kd.Yj Lc.out) (by decide) hg);have Vb:=ga.mk (Kd.Zj (v:=(.slice (some ⟨IP,0,none⟩) Fc.length S0)) (by (with_reducible repeat (first|apply Kd.Xa|apply Kd.Wa|apply Kd.yb));exact sk.out) (Kd.Yj Lc.out) (by decide) hg);have Bc:=ga.mk (wg (g:=za) (o:=.cells #[.slice xb Oa.length qb,.int .i64 La,.int .i64 Pa,.int .i64 Ja,.slice Pb Fa.length Gb] 45 (0,0)) (by (with_reducible repeat (first|refine Ca ?_ _|refine Ea ?_|refine Da ?_ _));exact ta.out) hg (Kd.Nt Lc.out ta.out (by decide)));have Ge:=ga.mk ((by rw [hw];exact ua (HB.out) rap.out:Below w.heap.size w DJ));clear Lc jd sk ta HB;have Lc:=Fb;have jd:=Lb;have sk:=Vb;have ta:=Bc;have HB:=Ge;clear Fb Lb Vb Bc Ge hg hw Tk)|((with_reducible refine fh (b:=.append) (xs:=#[.tmp 35,.tmp 37]) rfl ?_);at_builtin;refine Kd.Lr (Kd.int .i64) (w0:=w) w.heap.size rfl (.tmp 35) (.tmp 37) 22 3 (.int .i64 0) 8 rfl Try.underlying22 info3 rfl (by decide) (by omega) u4 Yb (rd Aa (Ud)) [.int .i64 (rd Aa (Ud))] (fun k_=>some k_ ≠ (.slice (some VB) Rh.length nV:Value).ownBlock) (fun _=>False) rfl rfl ?aP (fun _ hk=>hk.elim) ?aF ?aO ?aB ?aS ?aL ?_;(case aP=>exact rfl);(case aB=>exact (by repeat (first|(with_reducible first|exact HB.out|apply oa|apply ia|apply qa|refine ua ?_ Sa.out)|exact HB.out)));(case aF=>exact (fun k_ hk=>Kd.fresh' (Kd.Mn (by (with_reducible repeat (first|apply Kd.Xa|apply Kd.Wa|apply Kd.yb));exact sk.out)) k_ hk));(case aO=>exact (by (with_reducible repeat (first|apply Kd.Xa|apply Kd.Wa|apply Kd.yb));exact jd.out));(case aS=>exact (Ka (by repeat (first|(with_reducible first|exact HB.out|apply oa|apply ia|apply qa|refine ua ?_ Sa.out)|exact HB.out))));(case aL=>have:=eac.out;omega);intro kC iY ho hb hg hat;rw [← YB.out] at ho;have Fb:=ga.mk (Kd.Zj (by (with_reducible repeat (first|apply Kd.Xa|apply Kd.Wa|apply Kd.yb));exact Lc.out) (Kd.Yj (by (with_reducible repeat (first|apply Kd.Xa|apply Kd.Wa|apply Kd.yb));exact jd.out)) (by decide) hg);have Lb:=ga.mk (Kd.yh (ok:=(fun _=>True)) (by (with_reducible repeat (first|apply Kd.Xa|apply Kd.Wa|apply Kd.yb));exact Kd.Jc sk.out (fun _ hk=>⟨trivial,hk⟩)) hg hat);have Vb:=ga.mk (wg (g:=za) (o:=.cells #[.slice xb Oa.length qb,.int .i64 La,.int .i64 Pa,.int .i64 Ja,.slice Pb Fa.length Gb] 45 (0,0)) (by (with_reducible repeat (first|refine Ca ?_ _|refine Ea ?_|refine Da ?_ _));exact ta.out) hg (Kd.Nt jd.out ta.out (by decide)));have Bc:=ga.mk (hb);have Ge:=ga.mk (ho);clear Lc sk ta HB jd;have Lc:=Fb;have sk:=Lb;have ta:=Vb;have HB:=Bc;have Km:=Ge;clear Fb Lb Vb Bc Ge ho hb hg hat;have fE:iY.cell? ⟨za,0,none⟩=some (.slice xb Oa.length qb):=(ja ta.out 0).trans rfl;have eE:iY.cell? ⟨za,1,none⟩=some (.int .i64 La):=(ja ta.out 1).trans rfl;have cE:iY.cell? ⟨za,2,none⟩=some (.int .i64 Pa):=(ja ta.out 2).trans rfl;have bE:iY.cell? ⟨za,3,none⟩=some (.int .i64 Ja):=(ja ta.out 3).trans rfl;have aE:iY.cell? ⟨za,4,none⟩=some (.slice Pb Fa.length Gb):=(ja ta.out 4).trans rfl;have eD:=aa ta.out 0;have dD:=aa ta.out 1;have cD:=aa ta.out 2;have bD:=aa ta.out 3;have aD:=aa ta.out 4;have iu:0 ≤ ((rd Aa (Ud)):Int):=of_decide_eq_true (by first|(with_reducible assumption)|assumption);have eu:(rd Aa (Ud)) < (Fa.length:Int):=of_decide_eq_true (by first|(with_reducible assumption)|assumption);obtain ⟨Im,Q4,I1,UI,Kl,RJ,QJ,PJ,OJ,aK,gK⟩:=ek ng.out (rd Aa (Ud)) iu eu;cases UI;replace Kl:=Ra HB.out Kl;replace RJ:=Ra HB.out RJ;replace QJ:=Ra HB.out QJ;replace PJ:=Ra HB.out PJ;replace OJ:=Ra HB.out OJ;have JV:=ga.mk gK;have QV:=ga.mk aK;clear gK aK;replace iu:=eq_true iu;replace eu:=eq_true eu)|((with_reducible refine zb (f:=75) rfl ?_);refine Dc (some 44) rfl rfl Try.func75 (by kernel_rfl) rfl #[.agg #[.slice Q4 ((Ta Fa (rd Aa (Ud))).f0).length I1,.int .i64 ((Ta Fa (rd Aa (Ud))).f1),.int .i64 ((Ta Fa (rd Aa (Ud))).f2),.int .i64 ((Ta Fa (rd Aa (Ud))).f3),.int .i64 ((Ta Fa (rd Aa (Ud))).f4)]] rfl (by (try simp only [List.map_toArray,List.map_cons,List.map_nil]);first|done|(simp only [fK];rfl)|rfl|(simp only [List.length_drop,List.length_take];rfl)) ?_;(with_reducible refine (jg.calls _ _ ((Ta Fa (rd Aa (Ud))).f0) ((Ta Fa (rd Aa (Ud))).f1) ((Ta Fa (rd Aa (Ud))).f2) ((Ta Fa (rd Aa (Ud))).f3) ((Ta Fa (rd Aa (Ud))).f4) t121 _ ?yc ?uc P4.out).mono ?_);(case yc=>repeat (first|exact (Kd.Mb JV.out HB.out)|(with_reducible refine Kd.Sb ?_ _)|(with_reducible refine Kd.Rb ?_ _)|(with_reducible refine Kd.jc ?_)));(case uc=>exact QV.out);rintro e hY ⟨Nau,rfl,Zi,hb⟩;refine ⟨_,rfl,?_⟩;have Fb:=ga.mk (Kd.Xf (by (with_reducible repeat (first|apply Kd.Xa|apply Kd.Wa|apply Kd.yb));exact Lc.out) hb);have Lb:=ga.mk (Kd.Wi (by (with_reducible repeat (first|apply Kd.Xa|apply Kd.Wa|apply Kd.yb));exact sk.out) (Kd.xh Zi) hb);have Vb:=ga.mk (Kd.Wi (by (with_reducible repeat (first|apply Kd.Xa|apply Kd.Wa|apply Kd.yb));exact Km.out) (Kd.xh Zi) hb);have Bc:=ga.mk (Kd.Qe (Kd.Xk (Kd.Xk Zi (Kd.Mn (by (with_reducible repeat (first|apply Kd.Xa|apply Kd.Wa|apply Kd.yb));exact sk.out))) (Kd.Mn (by (with_reducible repeat (first|apply Kd.Xa|apply Kd.Wa|apply Kd.yb));exact Km.out))) (Ka (by repeat (first|(with_reducible first|exact HB.out|apply oa|apply ia|apply qa|refine ua ?_ Sa.out)|exact HB.out))));have Ge:=ga.mk (Va (g:=za) (o:=.cells #[.slice xb Oa.length qb,.int .i64 La,.int .i64 Pa,.int .i64 Ja,.slice (some Im) Fa.length Gb] 45 (0,0)) (by (with_reducible repeat (first|refine Ca ?_ _|refine Ea ?_|refine Da ?_ _));exact ta.out) hb);have Zf:=ga.mk (Qa (by repeat (first|(with_reducible first|exact HB.out|apply oa|apply ia|apply qa|refine ua ?_ Sa.out)|exact HB.out)) hb);clear Lc sk Km ta HB;have Lc:=Fb;have sk:=Lb;have Km:=Vb;have gp:=Bc;have ta:=Ge;have HB:=Zf;clear Fb Lb Vb Bc Ge Zf;(try clear hb);(try clear Jj);(try clear hk);(try clear hi);(try clear Zi);obtain ⟨zH,ZG,SZ⟩:=Kd.Jd gp.out;subst SZ)|((with_reducible refine zb (f:=107) rfl ?_);refine Dc (some 46) rfl rfl Try.func107 (by kernel_rfl) rfl #[.slice zH t121.length ZG] rfl (by (try simp only [List.map_toArray,List.map_cons,List.map_nil]);first|done|rfl|(simp only [List.length_drop,List.length_take];rfl)) ?_;(with_reducible refine (Ya.calls k1 (fun k_=>some k_=(.slice zH t121.length ZG:Value).ownBlock) (.slice zH t121.length ZG) t121 t124 w _ ?yc ?uc A28.out).mono ?_);(case yc=>repeat (first|(with_reducible first|exact HB.out|apply oa|apply ia|apply qa|refine ua ?_ Sa.out)|exact HB.out));(case uc=>exact Kd.Fq rfl gp.out);rintro e w39 ⟨rfl,hy0,hb,hkp⟩;refine ⟨_,rfl,?_⟩;have Fb:=ga.mk (Kd.Jc (Cn:=fun k_=>True) (Kd.Hz ((Kd.Nn Lc.out (Kd.Yj gp.out) (by decide))) hkp (fun k_ Tv hs_=>(Tv.2) hs_)) (fun k_ Tv=>trivial));have Lb:=ga.mk (Kd.Jc (Cn:=fun k_=>some k_ ≠ (kC:Value).ownBlock∧some k_ ≠ (.slice zH t121.length ZG:Value).ownBlock) (Kd.Hz (sk.out) hkp (fun k_ Tv hs_=>(Tv.2) hs_)) (fun k_ Tv=>⟨Tv.1.1.2,Tv.1.2⟩));have Vb:=ga.mk (Nh (by (with_reducible repeat (first|refine Ca ?_ _|refine Ea ?_|refine Da ?_ _));exact ta.out) hkp (fun hs_=>(fun e_=>(Kd.Nt gp.out ta.out (by decide)) e_) hs_));have Bc:=ga.mk (Kd.Jc (Cn:=fun k_=>some k_ ≠ (.slice (some VB) Rh.length nV:Value).ownBlock∧some k_ ≠ (.slice zH t121.length ZG:Value).ownBlock) (Kd.Hz (Km.out) hkp (fun k_ Tv hs_=>(Tv.2) hs_)) (fun k_ Tv=>⟨Tv.1.1,Tv.1.2⟩));have Ge:=ga.mk (Kd.yQ rfl hy0 (fun k_ e_=>gp.out.1 k_ e_));have Zf:=ga.mk (hb);clear Lc sk ta Km gp HB;have Lc:=Fb;have sk:=Lb;have ta:=Vb;have Km:=Bc;have gp:=Ge;have HB:=Zf;clear Fb Lb Vb Bc Ge Zf;(try clear hb);(try clear hkp);(try clear hy0))|((with_reducible refine fh (b:=.append) (xs:=#[.tmp 47,.tmp 48]) rfl ?_);at_builtin;refine Kd.Yt (Kd.int .i64) (w0:=w) w.heap.size rfl (.tmp 47) (.tmp 48) 22 3 (.int .i64 0) 8 rfl Try.underlying22 info3 rfl (by decide) (by omega) (.slice (some VB) Rh.length nV) Rh t124 _ _ _ (fun k_=>some k_ ≠ (kC:Value).ownBlock∧some k_ ≠ (.slice zH t121.length ZG:Value).ownBlock) (fun _=>False) rfl rfl ?aO ?aR (fun _ _ h=>h) (fun _ h=>h.elim) ?aF ?aB ?aS ?aL ?_;(case aR=>rw [show t121.length=t124.length from (Kd.Tb gp.out).1];repeat (first|exact (Kd.Tb gp.out).2.2|(with_reducible refine Kd.Sb ?_ _)|(with_reducible refine Kd.Rb ?_ _)|(with_reducible refine Kd.jc ?_)));(case aB=>exact (by repeat (first|(with_reducible first|exact HB.out|apply oa|apply ia|apply qa|refine ua ?_ Sa.out)|exact HB.out)));(case aF=>exact (fun k_ hk=>⟨Kd.fresh' (Kd.Mn (by (with_reducible repeat (first|apply Kd.Xa|apply Kd.Wa|apply Kd.yb));exact Km.out)) k_ hk,Kd.fresh' (Kd.Mn (by (with_reducible repeat (first|apply Kd.Xa|apply Kd.Wa|apply Kd.yb));exact gp.out)) k_ hk⟩));(case aO=>exact (by (with_reducible repeat (first|apply Kd.Xa|apply Kd.Wa|apply Kd.yb));exact sk.out));(case aS=>exact (Ka (by repeat (first|(with_reducible first|exact HB.out|apply oa|apply ia|apply qa|refine ua ?_ Sa.out)|exact HB.out))));(case aL=>have:=dac.out;have kav:=(Kd.Tb gp.out).1;omega);intro Mau w40 ho hb hg hat;rw [← DQ.out] at ho;have Fb:=ga.mk (Kd.Zj (by (with_reducible repeat (first|apply Kd.Xa|apply Kd.Wa|apply Kd.yb));exact Lc.out) (Kd.Yj (by (with_reducible repeat (first|apply Kd.Xa|apply Kd.Wa|apply Kd.yb));exact sk.out)) (by decide) hg);have Lb:=ga.mk (wg (g:=za) (o:=.cells #[.slice xb Oa.length qb,.int .i64 La,.int .i64 Pa,.int .i64 Ja,.slice (some Im) Fa.length Gb] 45 (0,0)) (by (with_reducible repeat (first|refine Ca ?_ _|refine Ea ?_|refine Da ?_ _));exact ta.out) hg (Kd.Nt sk.out ta.out (by decide)));have Vb:=ga.mk (Kd.yh (ok:=(fun k_=>some k_ ≠ (.slice zH t121.length ZG:Value).ownBlock)) (by (with_reducible repeat (first|apply Kd.Xa|apply Kd.Wa|apply Kd.yb));exact Kd.Jc Km.out (fun _ hk=>⟨hk.2,hk.1⟩)) hg hat);have Bc:=ga.mk (Kd.yh (ok:=(fun k_=>some k_ ≠ (kC:Value).ownBlock)) (by (with_reducible repeat (first|apply Kd.Xa|apply Kd.Wa|apply Kd.yb));exact Kd.Jc gp.out (fun _ hk=>⟨hk.2,hk.1.2⟩)) hg hat);have Ge:=ga.mk (hb);have Zf:=ga.mk (ho);clear Lc ta Km gp HB sk;have Lc:=Fb;have ta:=Lb;have Km:=Vb;have gp:=Bc;have HB:=Ge;have Hac:=Zf;clear Fb Lb Vb Bc Ge Zf ho hb hg hat))
               go_roundg k1
               case measure=>have:=Gf.out;omega
               case rel=>exact ⟨(NH),(Kz),(qM),H',⟨by have:=Gf.out;omega⟩,⟨by (with_reducible repeat (first|apply Kd.Xa|apply Kd.Wa|apply Kd.yb));exact Lc.out⟩,⟨by (with_reducible repeat (first|apply Kd.Xa|apply Kd.Wa|apply Kd.yb));exact Kd.Jc Km.out (fun _ hk=>hk.2)⟩,⟨by (with_reducible repeat (first|apply Kd.Xa|apply Kd.Wa|apply Kd.yb));exact Kd.Jc Hac.out (fun _ hk=>hk.1)⟩,⟨by (with_reducible repeat (first|refine Ca ?_ _|refine Ea ?_|refine Da ?_ _));exact ta.out⟩,⟨by repeat (first|(with_reducible first|exact HB.out|apply oa|apply ia|apply qa|refine ua ?_ Sa.out)|exact HB.out)⟩⟩
              ·rw [if_neg Dz] at H;exact absurd H (by simp)
             ·rw [if_neg Z4] at H;exact absurd H (by simp)
            ·rw [if_neg uN] at H;exact absurd H (by simp)
          ·rw [if_neg Kr] at H;exact absurd H (by simp)
         ·rw [if_neg Ez] at H;exact absurd H (by simp)
        ·rw [if_neg xy] at H;exact absurd H (by simp)
       ·rw [if_neg vN] at H;exact absurd H (by simp)
      ·rw [if_neg yy] at H;exact absurd H (by simp)
     ·rw [if_neg Zq] at H;have Zx:decide (0 < (Aa.length:Int))=false:=decide_eq_false Zq;have uab:decide (0 < Aa.length)=false:=decide_eq_false (by omega);clear Zq;obtain rfl:=Option.some.inj H;obtain ⟨tap,Eao,QZ⟩:=Kd.Jd Lg.out;subst QZ;go_wp2;go_ret;exact ⟨_,by first|rfl|(simp [Na,Ma] <;> rfl)|(simp [*,Na,Ma] <;> rfl),by (with_reducible repeat (first|apply Kd.Xa|apply Kd.Wa|apply Kd.yb));exact Kd.Jc jd.out (fun _ hk=>trivial),by repeat (first|(with_reducible first|exact HB.out|apply oa|apply ia|apply qa|refine ua ?_ Sa.out)|exact HB.out)⟩
  ·rw [if_neg c3] at H;exact absurd H (by simp)
 ·rw [if_neg c2] at H;exact absurd H (by simp)
theorem dM {α:Type} (d:Kd α) (e:Nat) (w:World) (base:Nat) (h:base ≤ w.heap.size):d.R e (w.alloc (.cells #[] e (0,0))) base (fun _=>True) (.slice (some ⟨w.heap.size,0,none⟩) 0 0) []:=by
 refine ⟨fun _ _=>trivial,[],?_,⟨by simp,fun i p hp=>by simp at hp⟩⟩;have h2:=World.ownsRow_lit (base:=base) (e:=e) (size:=d.sz) w #[] 0 h (by simp [maxLen]) (by simp)
 simpa using h2
theorem pY {α:Type} {d:Kd α} {e B:Nat} {ok:Nat→Prop} {W w':World} {v:Value} {xs:List α} (h:d.R e w' W.heap.size ok v xs) (hB:B ≤ W.heap.size):d.R e w' B (fun k=>W.heap.size ≤ k∧k < w'.heap.size) v xs :=
 Kd.Qe (Kd.Jc (Kd.Oh h) (fun _ hk=>⟨hk.2.1,hk.2.2.1⟩)) hB
theorem TH {α:Type} {d:Kd α} {e B:Nat} {ok:Nat→Prop} {W w':World} {v:Value} {xs:List α} (h:Kd.S d e w' W.heap.size ok v xs) (hB:B ≤ W.heap.size):Kd.S d e w' B (fun k=>W.heap.size ≤ k∧k < w'.heap.size) v xs :=
 Kd.Zo (Kd.Bg (Kd.Et h) (fun _ hk=>⟨hk.2.1,hk.2.2.1⟩)) hB
theorem Oab {e:Nat} (w:World) (base:Nat) (n:Int) (h:base ≤ w.heap.size):Kd.R (Kd.int .i64) e (w.alloc (.cells #[.int .i64 n] e (0,0))) base (fun _=>True) (.slice (some ⟨w.heap.size,0,none⟩) 1 1) [n]:=by
 refine ⟨fun _ _=>trivial,[.int .i64 n],?_,⟨rfl,fun i p hp=>?_⟩⟩
 ·have h2:=World.ownsRow_lit (base:=base) (e:=e) (size:=1) w #[.int .i64 n] 1 h (by simp [maxLen]) (by simp);exact h2
 ·cases i with
  | zero =>
   simp at hp;subst hp
   rfl
  | succ i=>simp at hp
end Go.Proofs.Ytoomcmaifgkkfaa.P
end
section
namespace Go.Proofs.Ytoomcmaifgkkfaa.P
open Go.RowKit Go.Proofs.Ia.Qb Go.Proofs.Ia.Od Go.Proofs.Ia.Re
set_option linter.unusedVariables false
set_option linter.unusedSimpArgs false
open Go.Shelf
def Tu:Go.Shelf.Ren:=⟨fun | 189=>112 | 125=>129 | 257=>128 | 128=>150 | 129=>151 | 294=>141 | 295=>142 | 296=>143 | 297=>144 | 298=>145 | 299=>146 | 216=>147 | 300=>148 | 301=>149 | 328=>155 | 329=>156 | 330=>157 | 331=>158 | 332=>159 | 215=>160 | 343=>162|n=>n,fun | 28=>22 | 3=>3 | 46=>130 | 0=>0 | 51=>159 | 53=>161 | 4=>4 | 183=>151 | 182=>150 | 131=>156 | 5=>5 | 9=>9 | 218=>163 | 222=>167 | 228=>170 | 229=>171|n=>n,fun|n=>n⟩
theorem St:Go.Proofs.Lays.n189 Try.prog Tu:={
 mixed:=by kernel_rfl
 f125:=Try.func129.trans (congrArg some (by kernel_rfl))
 f128:=Try.func150.trans (congrArg some (by kernel_rfl))
 f129:=Try.func151.trans (congrArg some (by kernel_rfl))
 f189:=Try.func112.trans (congrArg some (by kernel_rfl))
 f215:=Try.func160.trans (congrArg some (by kernel_rfl))
 f216:=Try.func147.trans (congrArg some (by kernel_rfl))
 f257:=Try.func128.trans (congrArg some (by kernel_rfl))
 f294:=Try.func141.trans (congrArg some (by kernel_rfl))
 f295:=Try.func142.trans (congrArg some (by kernel_rfl))
 f296:=Try.func143.trans (congrArg some (by kernel_rfl))
 f297:=Try.func144.trans (congrArg some (by kernel_rfl))
 f298:=Try.func145.trans (congrArg some (by kernel_rfl))
 f299:=Try.func146.trans (congrArg some (by kernel_rfl))
 f300:=Try.func148.trans (congrArg some (by kernel_rfl))
 f301:=Try.func149.trans (congrArg some (by kernel_rfl))
 f328:=Try.func155.trans (congrArg some (by kernel_rfl))
 f329:=Try.func156.trans (congrArg some (by kernel_rfl))
 f330:=Try.func157.trans (congrArg some (by kernel_rfl))
 f331:=Try.func158.trans (congrArg some (by kernel_rfl))
 f332:=Try.func159.trans (congrArg some (by kernel_rfl))
 f343:=Try.func162.trans (congrArg some (by kernel_rfl))
 t0:=Try.underlying0
 a0:=Try.isAgg0
 z0:=Try.sizeOf0
 v0:=Try.zeroValue0
 t3:=Try.underlying3
 a3:=Try.isAgg3
 z3:=Try.sizeOf3
 v3:=Try.zeroValue3
 t4:=Try.underlying4
 a4:=Try.isAgg4
 z4:=Try.sizeOf4
 v4:=Try.zeroValue4
 t5:=Try.underlying5
 a5:=Try.isAgg5
 z5:=Try.sizeOf5
 v5:=Try.zeroValue5
 t9:=Try.underlying9
 a9:=Try.isAgg9
 z9:=Try.sizeOf9
 v9:=Try.zeroValue9
 t28:=Try.underlying22
 a28:=Try.isAgg22
 z28:=Try.sizeOf22
 v28:=Try.zeroValue22
 t46:=Try.underlying130
 a46:=Try.isAgg130
 z46:=Try.sizeOf130
 v46:=Try.zeroValue130
 t51:=Try.underlying159
 a51:=Try.isAgg159
 z51:=Try.sizeOf159
 v51:=Try.zeroValue159
 t53:=Try.underlying161
 a53:=Try.isAgg161
 z53:=Try.sizeOf161
 v53:=Try.zeroValue161
 t131:=Try.underlying156
 a131:=Try.isAgg156
 z131:=Try.sizeOf156
 v131:=Try.zeroValue156
 t182:=Try.underlying150
 a182:=Try.isAgg150
 z182:=Try.sizeOf150
 v182:=Try.zeroValue150
 t183:=Try.underlying151
 a183:=Try.isAgg151
 z183:=Try.sizeOf151
 v183:=Try.zeroValue151
 t218:=Try.underlying163
 a218:=Try.isAgg163
 z218:=Try.sizeOf163
 v218:=Try.zeroValue163
 t222:=Try.underlying167
 a222:=Try.isAgg167
 z222:=Try.sizeOf167
 v222:=Try.zeroValue167
 t228:=Try.underlying170
 a228:=Try.isAgg170
 z228:=Try.sizeOf170
 v228:=Try.zeroValue170
 t229:=Try.underlying171
 a229:=Try.isAgg171
 z229:=Try.sizeOf171
 v229:=Try.zeroValue171 }
open Go.Sort Go.RowKit in
theorem Sq (blk off cap:Nat) (zs:List Int) (w:World) (hH:Holds (Value.int .i64) w blk off zs.toArray) (hblk:blk < w.heap.size) (hsz:zs.length < 4611686018427387904) :
  Calls Try.prog 112 #[.slice (some ⟨blk,off,none⟩) zs.length cap] w fun e w' =>
   e = .returned (.tuple #[])∧∃ n os,w' = grow (putRow (Value.int .i64) (Sort.ahead w n) blk off (zs.mergeSort fun x y=>decide (x ≤ y)).toArray) os:=Any.slices_Sort_int St blk off cap zs w hH hblk hsz
def Gt:Go.Shelf.Ren:=⟨fun | 20=>113|n=>n,fun | 22=>22 | 3=>3 | 4=>4 | 0=>0|n=>n,fun|n=>n⟩
theorem Mq:Go.Proofs.Lays2.n20 Try.prog Gt:={
 mixed:=by kernel_rfl
 f20:=Try.func113.trans (congrArg some (by kernel_rfl))
 t0:=Try.underlying0
 a0:=Try.isAgg0
 z0:=Try.sizeOf0
 v0:=Try.zeroValue0
 t3:=Try.underlying3
 a3:=Try.isAgg3
 z3:=Try.sizeOf3
 v3:=Try.zeroValue3
 t4:=Try.underlying4
 a4:=Try.isAgg4
 z4:=Try.sizeOf4
 v4:=Try.zeroValue4
 t22:=Try.underlying22
 a22:=Try.isAgg22
 z22:=Try.sizeOf22
 v22:=Try.zeroValue22
 i3:=by kernel_rfl }
open Go.RowKit Go.Lib Go.Sort in
theorem qp (blk off cap:Nat) (zs:List Int) (w:World) (hH:Holds (Value.int .i64) w blk off zs.toArray) (hsz:zs.length ≤ 9223372036854775807) (hcap:zs.length ≤ cap) :
  Calls Try.prog 113 #[.slice (some ⟨blk,off,none⟩) zs.length cap] w fun e w'=>e = .returned (.slice (some ⟨blk,off,none⟩) (Lib.compact zs).length cap)∧∃ q,w' = putRow (Value.int .i64) (Sort.ahead w q) blk off (Lib.compact zs ++ List.replicate (zs.length - (Lib.compact zs).length) 0).toArray:=Any.slices_Compact_int Mq blk off cap zs w hH hsz hcap
open Go.RowKit Go.Lib Go.Sort in
theorem xl (a:Option Addr) (cap:Nat) (w:World) :
  Calls Try.prog 113 #[.slice a 0 cap] w fun e w'=>e = .returned (.slice a 0 cap)∧w' = w:=Any.slices_Compact_int_empty Mq a cap w
open Go.RowKit Go.Sort in
theorem zn (p:Option Addr) (cap:Nat) (w:World) :
  Calls Try.prog 112 #[.slice p 0 cap] w fun e w'=>e = .returned (.tuple #[])∧w' = w:=Any.slices_Sort_int_none St p cap w
end Go.Proofs.Ytoomcmaifgkkfaa.P
end
