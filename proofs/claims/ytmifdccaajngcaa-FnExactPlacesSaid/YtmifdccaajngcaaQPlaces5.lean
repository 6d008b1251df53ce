import Derived.Shelf.Abstract
import Derived.Outline
import Derived.RegionTactic
import Derived.Test.YtmifdccaajngcaaQPlaces1
import Derived.Test.YtmifdccaajngcaaQPlaces4
import Derived.Deep.QuietTactic
import Derived.BigQuiet
set_option maxHeartbeats 8000000
set_option maxRecDepth 100000
section
namespace Go.Proofs.Ytmifdccaajngcaa.P
open Go.RowKit Go.Proofs.Sa.Ec Go.Proofs.Sa.Bf Go.Proofs.Sa.Yg
set_option linter.unusedVariables false
set_option linter.unusedSimpArgs false
attribute [local go_sem high] E1
def PE:List ByteArray:=[⟨#[61,61]⟩,⟨#[60]⟩,⟨#[38]⟩,⟨#[43]⟩,⟨#[45]⟩,⟨#[42]⟩]
def zu (s:ByteArray):Bool:=PE.any fun y=>decide (s.toList=y.toList)
theorem OJ (s:ByteArray):Ji.f 8 s=some (zu s):=by
 unfold Ji.f Zc.f Fb.f zu PE
 simp only [Fb.l0,List.any_cons,List.any_nil]
 by_cases h0:s.toList=[61,61]
 ·simp [xl,h0]
 by_cases h1:s.toList=[60]
 ·simp [xl,h1,wrap64]
 by_cases h2:s.toList=[38]
 ·simp [xl,h2,wrap64]
 by_cases h3:s.toList=[43]
 ·simp [xl,h3,wrap64]
 by_cases h4:s.toList=[45]
 ·simp [xl,h4,wrap64]
 by_cases h5:s.toList=[42]
 ·simp [xl,h5,wrap64]
 simp [xl,h0,h1,h2,h3,h4,h5,wrap64]
theorem bF (s:ByteArray) (w:World):Calls Try.prog 136 #[.string s] w fun e w'=>e = .returned (.bool (zu s))∧Below w.heap.size w w':=Ji.calls 8 s (zu s) w (OJ s)
def Tj (slots s:Int):Bool:=decide (0 ≤ s) && decide (s < slots)
theorem Wj (B:Nat) (slots s:Int) (W:World) (qD:W.cell? ⟨B,3,none⟩=some (.int .i64 slots)):Calls Try.prog 135 #[.int .i64 s,.pointer (some ⟨B,0,none⟩)] W fun e w'=>e = .returned (.bool (Tj slots s))∧W=w':=by
 unfold Tj
 by_cases h:0 ≤ s
 all_goals
  go_enter Try.func135,Try.ntmps135
  go_wp2
  go_ret
  exact ⟨by simp [*];try omega,rfl⟩
theorem VJ (A0 A4:Option Addr) (c0 c4 n0 n4:Nat) (p1 p2 slots d a b c n:Int) (t:ByteArray) (w:World) (hn0:n0 ≤ 9223372036854775807) (AA:n4 ≤ 9223372036854775807) :
  Calls Try.prog 118 #[.agg #[.slice A0 n0 c0,.int .i64 p1,.int .i64 p2,.int .i64 slots,.slice A4 n4 c4],.agg #[.int .i64 0,.int .i64 d,.int .i64 a,.int .i64 b,.int .i64 c,.int .i64 n,.string t]] w fun e w'=>e = .returned (.bool (Tj slots d && (a == 0 && (b == 0 && (c == 0 && t.toList.isEmpty)))))∧Below w.heap.size w w':=by
 obtain ⟨W1,hW1⟩:∃ W1,W1=(w.alloc (.cells #[.slice A0 n0 c0,.int .i64 p1,.int .i64 p2,.int .i64 slots,.slice A4 n4 c4] 30 (0,0))).alloc (.cells #[.int .i64 0,.int .i64 d,.int .i64 a,.int .i64 b,.int .i64 c,.int .i64 n,.string t] 70 (0,0)):=⟨_,rfl⟩
 have HW:=ja.mk hW1
 have HB:=ja.mk (show Below w.heap.size w W1 from by rw [hW1];exact qa (qa (Below.refl _ _) _) _)
 have hz:W1.heap.size=w.heap.size + 2:=by rw [hW1];simp
 have PT:W1.cell? ⟨w.heap.size,3,none⟩=some (.int .i64 slots):=by rw [hW1];simp
 have hx0:W1.cell? ⟨w.heap.size + 1,0,none⟩=some (.int .i64 0):=by rw [hW1];simp
 have hx1:W1.cell? ⟨w.heap.size + 1,1,none⟩=some (.int .i64 d):=by rw [hW1];simp
 have Ek:W1.cell? ⟨w.heap.size + 1,2,none⟩=some (.int .i64 a):=by rw [hW1];simp
 have jk:W1.cell? ⟨w.heap.size + 1,3,none⟩=some (.int .i64 b):=by rw [hW1];simp
 have Dk:W1.cell? ⟨w.heap.size + 1,4,none⟩=some (.int .i64 c):=by rw [hW1];simp
 have Um:W1.cell? ⟨w.heap.size + 1,5,none⟩=some (.int .i64 n):=by rw [hW1];simp
 have zm:W1.cell? ⟨w.heap.size + 1,6,none⟩=some (.string t):=by rw [hW1];simp
 clear hW1
 go_enter Try.func118,Try.ntmps118
 go_wp2_with (first|(go_at_call 58;(with_reducible refine (rj _ _ _ _).mono ?_);rintro e w1 ⟨rfl,⟨k1,rfl⟩⟩))
 rw [← HW.out]
 clear HW
 go_region
 all_goals go_wp2_with (first|(go_at_call 135;(refine (Wj _ slots _ _ ?hc).mono ?_);(case hc=>first|(go_simp;done)|(go_simp;rfl));rintro e w1 ⟨rfl,rfl⟩))
 all_goals go_ret
 all_goals exact ⟨by (try clear ZP OO UK gq);simp [*],by repeat (first|exact HB.out|(refine Na ?_ gq.out)|apply ia|apply ua|apply qa|refine Aa ?_ (by first|omega|(simp;done)|(simp;omega)))⟩
theorem UJ (A0 A4:Option Addr) (c0 c4 n0 n4:Nat) (p1 p2 slots d a b c n:Int) (t:ByteArray) (w:World) (hn0:n0 ≤ 9223372036854775807) (AA:n4 ≤ 9223372036854775807) :
  Calls Try.prog 118 #[.agg #[.slice A0 n0 c0,.int .i64 p1,.int .i64 p2,.int .i64 slots,.slice A4 n4 c4],.agg #[.int .i64 1,.int .i64 d,.int .i64 a,.int .i64 b,.int .i64 c,.int .i64 n,.string t]] w fun e w'=>e = .returned (.bool (Tj slots d && Tj slots a && (b == 0 && (c == 0 && (n == 0 && t.toList.isEmpty)))))∧Below w.heap.size w w':=by
 obtain ⟨W1,hW1⟩:∃ W1,W1=(w.alloc (.cells #[.slice A0 n0 c0,.int .i64 p1,.int .i64 p2,.int .i64 slots,.slice A4 n4 c4] 30 (0,0))).alloc (.cells #[.int .i64 1,.int .i64 d,.int .i64 a,.int .i64 b,.int .i64 c,.int .i64 n,.string t] 70 (0,0)):=⟨_,rfl⟩
 have HW:=ja.mk hW1
 have HB:=ja.mk (show Below w.heap.size w W1 from by rw [hW1];exact qa (qa (Below.refl _ _) _) _)
 have hz:W1.heap.size=w.heap.size + 2:=by rw [hW1];simp
 have PT:W1.cell? ⟨w.heap.size,3,none⟩=some (.int .i64 slots):=by rw [hW1];simp
 have hx0:W1.cell? ⟨w.heap.size + 1,0,none⟩=some (.int .i64 1):=by rw [hW1];simp
 have hx1:W1.cell? ⟨w.heap.size + 1,1,none⟩=some (.int .i64 d):=by rw [hW1];simp
 have Ek:W1.cell? ⟨w.heap.size + 1,2,none⟩=some (.int .i64 a):=by rw [hW1];simp
 have jk:W1.cell? ⟨w.heap.size + 1,3,none⟩=some (.int .i64 b):=by rw [hW1];simp
 have Dk:W1.cell? ⟨w.heap.size + 1,4,none⟩=some (.int .i64 c):=by rw [hW1];simp
 have Um:W1.cell? ⟨w.heap.size + 1,5,none⟩=some (.int .i64 n):=by rw [hW1];simp
 have zm:W1.cell? ⟨w.heap.size + 1,6,none⟩=some (.string t):=by rw [hW1];simp
 clear hW1
 go_enter Try.func118,Try.ntmps118
 go_wp2_with (first|(go_at_call 58;(with_reducible refine (rj _ _ _ _).mono ?_);rintro e w1 ⟨rfl,⟨k1,rfl⟩⟩))
 rw [← HW.out]
 clear HW
 go_region
 all_goals go_wp2_with (first|(go_at_call 135;(refine (Wj _ slots _ _ ?hc).mono ?_);(case hc=>first|(go_simp;done)|(go_simp;rfl));rintro e w1 ⟨rfl,rfl⟩))
 all_goals go_ret
 all_goals exact ⟨by (try clear ZP OO UK gq);simp [*],by repeat (first|exact HB.out|(refine Na ?_ gq.out)|apply ia|apply ua|apply qa|refine Aa ?_ (by first|omega|(simp;done)|(simp;omega)))⟩
theorem TJ (A0 A4:Option Addr) (c0 c4 n0 n4:Nat) (p1 p2 slots d a b c n:Int) (t:ByteArray) (w:World) (hn0:n0 ≤ 9223372036854775807) (AA:n4 ≤ 9223372036854775807) :
  Calls Try.prog 118 #[.agg #[.slice A0 n0 c0,.int .i64 p1,.int .i64 p2,.int .i64 slots,.slice A4 n4 c4],.agg #[.int .i64 2,.int .i64 d,.int .i64 a,.int .i64 b,.int .i64 c,.int .i64 n,.string t]] w fun e w'=>e = .returned (.bool (Tj slots d && Tj slots a && Tj slots b && zu t && (c == 0 && n == 0)))∧Below w.heap.size w w':=by
 obtain ⟨W1,hW1⟩:∃ W1,W1=(w.alloc (.cells #[.slice A0 n0 c0,.int .i64 p1,.int .i64 p2,.int .i64 slots,.slice A4 n4 c4] 30 (0,0))).alloc (.cells #[.int .i64 2,.int .i64 d,.int .i64 a,.int .i64 b,.int .i64 c,.int .i64 n,.string t] 70 (0,0)):=⟨_,rfl⟩
 have HW:=ja.mk hW1
 have HB:=ja.mk (show Below w.heap.size w W1 from by rw [hW1];exact qa (qa (Below.refl _ _) _) _)
 have hz:W1.heap.size=w.heap.size + 2:=by rw [hW1];simp
 have PT:W1.cell? ⟨w.heap.size,3,none⟩=some (.int .i64 slots):=by rw [hW1];simp
 have hx0:W1.cell? ⟨w.heap.size + 1,0,none⟩=some (.int .i64 2):=by rw [hW1];simp
 have hx1:W1.cell? ⟨w.heap.size + 1,1,none⟩=some (.int .i64 d):=by rw [hW1];simp
 have Ek:W1.cell? ⟨w.heap.size + 1,2,none⟩=some (.int .i64 a):=by rw [hW1];simp
 have jk:W1.cell? ⟨w.heap.size + 1,3,none⟩=some (.int .i64 b):=by rw [hW1];simp
 have Dk:W1.cell? ⟨w.heap.size + 1,4,none⟩=some (.int .i64 c):=by rw [hW1];simp
 have Um:W1.cell? ⟨w.heap.size + 1,5,none⟩=some (.int .i64 n):=by rw [hW1];simp
 have zm:W1.cell? ⟨w.heap.size + 1,6,none⟩=some (.string t):=by rw [hW1];simp
 clear hW1
 go_enter Try.func118,Try.ntmps118
 go_wp2_with (first|(go_at_call 58;(with_reducible refine (rj _ _ _ _).mono ?_);rintro e w1 ⟨rfl,⟨k1,rfl⟩⟩))
 rw [← HW.out]
 clear HW
 go_region
 all_goals go_wp2_with (first|(go_at_call 135;(refine (Wj _ slots _ _ ?hc).mono ?_);(case hc=>first|(go_simp;done)|(go_simp;rfl));rintro e w1 ⟨rfl,rfl⟩)|(go_at_call 136;(with_reducible refine (bF _ _).mono ?_);rintro e w2 ⟨rfl,hb2⟩;have gq:=ja.mk hb2;obtain ⟨ZP,OO⟩:=BR hb2;have UK:=hb2.size;simp at UK;clear hb2))
 all_goals go_ret
 all_goals exact ⟨by (try clear ZP OO UK gq);simp [*],by repeat (first|exact HB.out|(refine Na ?_ gq.out)|apply ia|apply ua|apply qa|refine Aa ?_ (by first|omega|(simp;done)|(simp;omega)))⟩
theorem SJ (A0 A4:Option Addr) (c0 c4 n0 n4:Nat) (p1 p2 slots d a b c n:Int) (t:ByteArray) (w:World) (hn0:n0 ≤ 9223372036854775807) (AA:n4 ≤ 9223372036854775807) :
  Calls Try.prog 118 #[.agg #[.slice A0 n0 c0,.int .i64 p1,.int .i64 p2,.int .i64 slots,.slice A4 n4 c4],.agg #[.int .i64 3,.int .i64 d,.int .i64 a,.int .i64 b,.int .i64 c,.int .i64 n,.string t]] w fun e w'=>e = .returned (.bool (Tj slots d && Tj slots b && fk n 0 ((n0:Int) - 1) && (Tj slots a || a == -1) && (c == 0 && t.toList.isEmpty)))∧Below w.heap.size w w':=by
 obtain ⟨W1,hW1⟩:∃ W1,W1=(w.alloc (.cells #[.slice A0 n0 c0,.int .i64 p1,.int .i64 p2,.int .i64 slots,.slice A4 n4 c4] 30 (0,0))).alloc (.cells #[.int .i64 3,.int .i64 d,.int .i64 a,.int .i64 b,.int .i64 c,.int .i64 n,.string t] 70 (0,0)):=⟨_,rfl⟩
 have HW:=ja.mk hW1
 have HB:=ja.mk (show Below w.heap.size w W1 from by rw [hW1];exact qa (qa (Below.refl _ _) _) _)
 have hz:W1.heap.size=w.heap.size + 2:=by rw [hW1];simp
 have PT:W1.cell? ⟨w.heap.size,3,none⟩=some (.int .i64 slots):=by rw [hW1];simp
 have hx0:W1.cell? ⟨w.heap.size + 1,0,none⟩=some (.int .i64 3):=by rw [hW1];simp
 have hx1:W1.cell? ⟨w.heap.size + 1,1,none⟩=some (.int .i64 d):=by rw [hW1];simp
 have Ek:W1.cell? ⟨w.heap.size + 1,2,none⟩=some (.int .i64 a):=by rw [hW1];simp
 have jk:W1.cell? ⟨w.heap.size + 1,3,none⟩=some (.int .i64 b):=by rw [hW1];simp
 have Dk:W1.cell? ⟨w.heap.size + 1,4,none⟩=some (.int .i64 c):=by rw [hW1];simp
 have Um:W1.cell? ⟨w.heap.size + 1,5,none⟩=some (.int .i64 n):=by rw [hW1];simp
 have zm:W1.cell? ⟨w.heap.size + 1,6,none⟩=some (.string t):=by rw [hW1];simp
 clear hW1
 go_enter Try.func118,Try.ntmps118
 go_wp2_with (first|(go_at_call 58;(with_reducible refine (rj _ _ _ _).mono ?_);rintro e w1 ⟨rfl,⟨k1,rfl⟩⟩))
 rw [← HW.out]
 clear HW
 go_region
 all_goals go_wp2_with (first|(go_at_call 135;(refine (Wj _ slots _ _ ?hc).mono ?_);(case hc=>first|(go_simp;done)|(go_simp;rfl));rintro e w1 ⟨rfl,rfl⟩))
 all_goals go_ret
 all_goals exact ⟨by (try clear ZP OO UK gq);simp [*],by repeat (first|exact HB.out|(refine Na ?_ gq.out)|apply ia|apply ua|apply qa|refine Aa ?_ (by first|omega|(simp;done)|(simp;omega)))⟩
theorem RJ (A0 A4:Option Addr) (c0 c4 n0 n4:Nat) (p1 p2 slots d a b c n:Int) (t:ByteArray) (w:World) (hn0:n0 ≤ 9223372036854775807) (AA:n4 ≤ 9223372036854775807) :
  Calls Try.prog 118 #[.agg #[.slice A0 n0 c0,.int .i64 p1,.int .i64 p2,.int .i64 slots,.slice A4 n4 c4],.agg #[.int .i64 4,.int .i64 d,.int .i64 a,.int .i64 b,.int .i64 c,.int .i64 n,.string t]] w fun e w'=>e = .returned (.bool (Tj slots c && Tj slots b && fk n 0 ((n0:Int) - 1) && (Tj slots a || a == -1) && (d == 0 && t.toList.isEmpty)))∧Below w.heap.size w w':=by
 obtain ⟨W1,hW1⟩:∃ W1,W1=(w.alloc (.cells #[.slice A0 n0 c0,.int .i64 p1,.int .i64 p2,.int .i64 slots,.slice A4 n4 c4] 30 (0,0))).alloc (.cells #[.int .i64 4,.int .i64 d,.int .i64 a,.int .i64 b,.int .i64 c,.int .i64 n,.string t] 70 (0,0)):=⟨_,rfl⟩
 have HW:=ja.mk hW1
 have HB:=ja.mk (show Below w.heap.size w W1 from by rw [hW1];exact qa (qa (Below.refl _ _) _) _)
 have hz:W1.heap.size=w.heap.size + 2:=by rw [hW1];simp
 have PT:W1.cell? ⟨w.heap.size,3,none⟩=some (.int .i64 slots):=by rw [hW1];simp
 have hx0:W1.cell? ⟨w.heap.size + 1,0,none⟩=some (.int .i64 4):=by rw [hW1];simp
 have hx1:W1.cell? ⟨w.heap.size + 1,1,none⟩=some (.int .i64 d):=by rw [hW1];simp
 have Ek:W1.cell? ⟨w.heap.size + 1,2,none⟩=some (.int .i64 a):=by rw [hW1];simp
 have jk:W1.cell? ⟨w.heap.size + 1,3,none⟩=some (.int .i64 b):=by rw [hW1];simp
 have Dk:W1.cell? ⟨w.heap.size + 1,4,none⟩=some (.int .i64 c):=by rw [hW1];simp
 have Um:W1.cell? ⟨w.heap.size + 1,5,none⟩=some (.int .i64 n):=by rw [hW1];simp
 have zm:W1.cell? ⟨w.heap.size + 1,6,none⟩=some (.string t):=by rw [hW1];simp
 clear hW1
 go_enter Try.func118,Try.ntmps118
 go_wp2_with (first|(go_at_call 58;(with_reducible refine (rj _ _ _ _).mono ?_);rintro e w1 ⟨rfl,⟨k1,rfl⟩⟩))
 rw [← HW.out]
 clear HW
 go_region
 all_goals go_wp2_with (first|(go_at_call 135;(refine (Wj _ slots _ _ ?hc).mono ?_);(case hc=>first|(go_simp;done)|(go_simp;rfl));rintro e w1 ⟨rfl,rfl⟩))
 all_goals go_ret
 all_goals exact ⟨by (try clear ZP OO UK gq);simp [*],by repeat (first|exact HB.out|(refine Na ?_ gq.out)|apply ia|apply ua|apply qa|refine Aa ?_ (by first|omega|(simp;done)|(simp;omega)))⟩
theorem QJ (A0 A4:Option Addr) (c0 c4 n0 n4:Nat) (p1 p2 slots d a b c n:Int) (t:ByteArray) (w:World) (hn0:n0 ≤ 9223372036854775807) (AA:n4 ≤ 9223372036854775807) :
  Calls Try.prog 118 #[.agg #[.slice A0 n0 c0,.int .i64 p1,.int .i64 p2,.int .i64 slots,.slice A4 n4 c4],.agg #[.int .i64 5,.int .i64 d,.int .i64 a,.int .i64 b,.int .i64 c,.int .i64 n,.string t]] w fun e w'=>e = .returned (.bool (Tj slots d && (a == 0 && (b == 0 && (c == 0 && (n == 0 && t.toList.isEmpty))))))∧Below w.heap.size w w':=by
 obtain ⟨W1,hW1⟩:∃ W1,W1=(w.alloc (.cells #[.slice A0 n0 c0,.int .i64 p1,.int .i64 p2,.int .i64 slots,.slice A4 n4 c4] 30 (0,0))).alloc (.cells #[.int .i64 5,.int .i64 d,.int .i64 a,.int .i64 b,.int .i64 c,.int .i64 n,.string t] 70 (0,0)):=⟨_,rfl⟩
 have HW:=ja.mk hW1
 have HB:=ja.mk (show Below w.heap.size w W1 from by rw [hW1];exact qa (qa (Below.refl _ _) _) _)
 have hz:W1.heap.size=w.heap.size + 2:=by rw [hW1];simp
 have PT:W1.cell? ⟨w.heap.size,3,none⟩=some (.int .i64 slots):=by rw [hW1];simp
 have hx0:W1.cell? ⟨w.heap.size + 1,0,none⟩=some (.int .i64 5):=by rw [hW1];simp
 have hx1:W1.cell? ⟨w.heap.size + 1,1,none⟩=some (.int .i64 d):=by rw [hW1];simp
 have Ek:W1.cell? ⟨w.heap.size + 1,2,none⟩=some (.int .i64 a):=by rw [hW1];simp
 have jk:W1.cell? ⟨w.heap.size + 1,3,none⟩=some (.int .i64 b):=by rw [hW1];simp
 have Dk:W1.cell? ⟨w.heap.size + 1,4,none⟩=some (.int .i64 c):=by rw [hW1];simp
 have Um:W1.cell? ⟨w.heap.size + 1,5,none⟩=some (.int .i64 n):=by rw [hW1];simp
 have zm:W1.cell? ⟨w.heap.size + 1,6,none⟩=some (.string t):=by rw [hW1];simp
 clear hW1
 go_enter Try.func118,Try.ntmps118
 go_wp2_with (first|(go_at_call 58;(with_reducible refine (rj _ _ _ _).mono ?_);rintro e w1 ⟨rfl,⟨k1,rfl⟩⟩))
 rw [← HW.out]
 clear HW
 go_region
 all_goals go_wp2_with (first|(go_at_call 135;(refine (Wj _ slots _ _ ?hc).mono ?_);(case hc=>first|(go_simp;done)|(go_simp;rfl));rintro e w1 ⟨rfl,rfl⟩))
 all_goals go_ret
 all_goals exact ⟨by (try clear ZP OO UK gq);simp [*],by repeat (first|exact HB.out|(refine Na ?_ gq.out)|apply ia|apply ua|apply qa|refine Aa ?_ (by first|omega|(simp;done)|(simp;omega)))⟩
theorem PJ (A0 A4:Option Addr) (c0 c4 n0 n4:Nat) (p1 p2 slots d a b c n:Int) (t:ByteArray) (w:World) (hn0:n0 ≤ 9223372036854775807) (AA:n4 ≤ 9223372036854775807) :
  Calls Try.prog 118 #[.agg #[.slice A0 n0 c0,.int .i64 p1,.int .i64 p2,.int .i64 slots,.slice A4 n4 c4],.agg #[.int .i64 6,.int .i64 d,.int .i64 a,.int .i64 b,.int .i64 c,.int .i64 n,.string t]] w fun e w'=>e = .returned (.bool (Tj slots a && (d == 0 && (b == 0 && (c == 0 && (n == 0 && t.toList.isEmpty))))))∧Below w.heap.size w w':=by
 obtain ⟨W1,hW1⟩:∃ W1,W1=(w.alloc (.cells #[.slice A0 n0 c0,.int .i64 p1,.int .i64 p2,.int .i64 slots,.slice A4 n4 c4] 30 (0,0))).alloc (.cells #[.int .i64 6,.int .i64 d,.int .i64 a,.int .i64 b,.int .i64 c,.int .i64 n,.string t] 70 (0,0)):=⟨_,rfl⟩
 have HW:=ja.mk hW1
 have HB:=ja.mk (show Below w.heap.size w W1 from by rw [hW1];exact qa (qa (Below.refl _ _) _) _)
 have hz:W1.heap.size=w.heap.size + 2:=by rw [hW1];simp
 have PT:W1.cell? ⟨w.heap.size,3,none⟩=some (.int .i64 slots):=by rw [hW1];simp
 have hx0:W1.cell? ⟨w.heap.size + 1,0,none⟩=some (.int .i64 6):=by rw [hW1];simp
 have hx1:W1.cell? ⟨w.heap.size + 1,1,none⟩=some (.int .i64 d):=by rw [hW1];simp
 have Ek:W1.cell? ⟨w.heap.size + 1,2,none⟩=some (.int .i64 a):=by rw [hW1];simp
 have jk:W1.cell? ⟨w.heap.size + 1,3,none⟩=some (.int .i64 b):=by rw [hW1];simp
 have Dk:W1.cell? ⟨w.heap.size + 1,4,none⟩=some (.int .i64 c):=by rw [hW1];simp
 have Um:W1.cell? ⟨w.heap.size + 1,5,none⟩=some (.int .i64 n):=by rw [hW1];simp
 have zm:W1.cell? ⟨w.heap.size + 1,6,none⟩=some (.string t):=by rw [hW1];simp
 clear hW1
 go_enter Try.func118,Try.ntmps118
 go_wp2_with (first|(go_at_call 58;(with_reducible refine (rj _ _ _ _).mono ?_);rintro e w1 ⟨rfl,⟨k1,rfl⟩⟩))
 rw [← HW.out]
 clear HW
 go_region
 all_goals go_wp2_with (first|(go_at_call 135;(refine (Wj _ slots _ _ ?hc).mono ?_);(case hc=>first|(go_simp;done)|(go_simp;rfl));rintro e w1 ⟨rfl,rfl⟩))
 all_goals go_ret
 all_goals exact ⟨by (try clear ZP OO UK gq);simp [*],by repeat (first|exact HB.out|(refine Na ?_ gq.out)|apply ia|apply ua|apply qa|refine Aa ?_ (by first|omega|(simp;done)|(simp;omega)))⟩
theorem cF (A0 A4:Option Addr) (c0 c4 n0 n4:Nat) (p1 p2 slots d a b c n:Int) (t:ByteArray) (w:World) (hn0:n0 ≤ 9223372036854775807) (AA:n4 ≤ 9223372036854775807) (o:Int) (h0:(o == 0)=false) (h1:(o == 1)=false) (h2:(o == 2)=false) (h3:(o == 3)=false) (h4:(o == 4)=false) (h5:(o == 5)=false) (h6:(o == 6)=false) :
  Calls Try.prog 118 #[.agg #[.slice A0 n0 c0,.int .i64 p1,.int .i64 p2,.int .i64 slots,.slice A4 n4 c4],.agg #[.int .i64 o,.int .i64 d,.int .i64 a,.int .i64 b,.int .i64 c,.int .i64 n,.string t]] w fun e w'=>e = .returned (.bool (false))∧Below w.heap.size w w':=by
 obtain ⟨W1,hW1⟩:∃ W1,W1=(w.alloc (.cells #[.slice A0 n0 c0,.int .i64 p1,.int .i64 p2,.int .i64 slots,.slice A4 n4 c4] 30 (0,0))).alloc (.cells #[.int .i64 o,.int .i64 d,.int .i64 a,.int .i64 b,.int .i64 c,.int .i64 n,.string t] 70 (0,0)):=⟨_,rfl⟩
 have HW:=ja.mk hW1
 have HB:=ja.mk (show Below w.heap.size w W1 from by rw [hW1];exact qa (qa (Below.refl _ _) _) _)
 have hz:W1.heap.size=w.heap.size + 2:=by rw [hW1];simp
 have PT:W1.cell? ⟨w.heap.size,3,none⟩=some (.int .i64 slots):=by rw [hW1];simp
 have hx0:W1.cell? ⟨w.heap.size + 1,0,none⟩=some (.int .i64 o):=by rw [hW1];simp
 have hx1:W1.cell? ⟨w.heap.size + 1,1,none⟩=some (.int .i64 d):=by rw [hW1];simp
 have Ek:W1.cell? ⟨w.heap.size + 1,2,none⟩=some (.int .i64 a):=by rw [hW1];simp
 have jk:W1.cell? ⟨w.heap.size + 1,3,none⟩=some (.int .i64 b):=by rw [hW1];simp
 have Dk:W1.cell? ⟨w.heap.size + 1,4,none⟩=some (.int .i64 c):=by rw [hW1];simp
 have Um:W1.cell? ⟨w.heap.size + 1,5,none⟩=some (.int .i64 n):=by rw [hW1];simp
 have zm:W1.cell? ⟨w.heap.size + 1,6,none⟩=some (.string t):=by rw [hW1];simp
 clear hW1
 go_enter Try.func118,Try.ntmps118
 go_wp2_with (first|(go_at_call 58;(with_reducible refine (rj _ _ _ _).mono ?_);rintro e w1 ⟨rfl,⟨k1,rfl⟩⟩))
 rw [← HW.out]
 clear HW
 go_region
 all_goals go_wp2_with (first|(go_at_call 135;(refine (Wj _ slots _ _ ?hc).mono ?_);(case hc=>first|(go_simp;done)|(go_simp;rfl));rintro e w1 ⟨rfl,rfl⟩))
 all_goals go_ret
 all_goals exact ⟨by (try clear ZP OO UK gq);simp [*],by repeat (first|exact HB.out|(refine Na ?_ gq.out)|apply ia|apply ua|apply qa|refine Aa ?_ (by first|omega|(simp;done)|(simp;omega)))⟩
def ek (n0:Nat) (slots:Int) (o d a b c n:Int) (t:ByteArray):Bool :=
 if o=0 then Tj slots d && (a == 0 && (b == 0 && (c == 0 && t.toList.isEmpty)))
 else if o=1 then Tj slots d && Tj slots a && (b == 0 && (c == 0 && (n == 0 && t.toList.isEmpty)))
 else if o=2 then Tj slots d && Tj slots a && Tj slots b && zu t && (c == 0 && n == 0)
 else if o=3 then Tj slots d && Tj slots b && fk n 0 ((n0:Int) - 1) && (Tj slots a || a == -1) && (c == 0 && t.toList.isEmpty)
 else if o=4 then Tj slots c && Tj slots b && fk n 0 ((n0:Int) - 1) && (Tj slots a || a == -1) && (d == 0 && t.toList.isEmpty)
 else if o=5 then Tj slots d && (a == 0 && (b == 0 && (c == 0 && (n == 0 && t.toList.isEmpty))))
 else if o=6 then Tj slots a && (d == 0 && (b == 0 && (c == 0 && (n == 0 && t.toList.isEmpty))))
 else false
theorem ID (A0 A4:Option Addr) (c0 c4 n0 n4:Nat) (p1 p2 slots:Int) (w:World) (hn0:n0 ≤ 9223372036854775807) (AA:n4 ≤ 9223372036854775807) (o d a b c n:Int) (t:ByteArray) :
  Calls Try.prog 118 #[.agg #[.slice A0 n0 c0,.int .i64 p1,.int .i64 p2,.int .i64 slots,.slice A4 n4 c4],.agg #[.int .i64 o,.int .i64 d,.int .i64 a,.int .i64 b,.int .i64 c,.int .i64 n,.string t]] w fun e w'=>e = .returned (.bool (ek n0 slots o d a b c n t))∧Below w.heap.size w w':=by
 unfold ek
 by_cases h0:o=0
 ·rw [if_pos h0,h0]
  exact VJ A0 A4 c0 c4 n0 n4 p1 p2 slots d a b c n t w hn0 AA
 rw [if_neg h0]
 by_cases h1:o=1
 ·rw [if_pos h1,h1]
  exact UJ A0 A4 c0 c4 n0 n4 p1 p2 slots d a b c n t w hn0 AA
 rw [if_neg h1]
 by_cases h2:o=2
 ·rw [if_pos h2,h2]
  exact TJ A0 A4 c0 c4 n0 n4 p1 p2 slots d a b c n t w hn0 AA
 rw [if_neg h2]
 by_cases h3:o=3
 ·rw [if_pos h3,h3]
  exact SJ A0 A4 c0 c4 n0 n4 p1 p2 slots d a b c n t w hn0 AA
 rw [if_neg h3]
 by_cases h4:o=4
 ·rw [if_pos h4,h4]
  exact RJ A0 A4 c0 c4 n0 n4 p1 p2 slots d a b c n t w hn0 AA
 rw [if_neg h4]
 by_cases h5:o=5
 ·rw [if_pos h5,h5]
  exact QJ A0 A4 c0 c4 n0 n4 p1 p2 slots d a b c n t w hn0 AA
 rw [if_neg h5]
 by_cases h6:o=6
 ·rw [if_pos h6,h6]
  exact PJ A0 A4 c0 c4 n0 n4 p1 p2 slots d a b c n t w hn0 AA
 rw [if_neg h6]
 exact cF A0 A4 c0 c4 n0 n4 p1 p2 slots d a b c n t w hn0 AA o (beq_eq_false_iff_ne.mpr h0) (beq_eq_false_iff_ne.mpr h1) (beq_eq_false_iff_ne.mpr h2) (beq_eq_false_iff_ne.mpr h3) (beq_eq_false_iff_ne.mpr h4) (beq_eq_false_iff_ne.mpr h5) (beq_eq_false_iff_ne.mpr h6)
def Ui (n0:Nat) (slots:Int) (x:yf):Bool:=ek n0 slots x.f0 x.f1 x.f2 x.f3 x.f4 x.f5 x.f6
def ql (n0:Nat) (slots:Int) (n4:Nat) (code:List yf) (j a tg els:Int):Bool :=
 !(code.any fun x=>!Ui n0 slots x) && decide (0 ≤ slots) &&
  (if j=0 then fk tg 0 ((n4:Int) - 1) && a == 0 && els == 0
   else if j=1 then fk tg 0 ((n4:Int) - 1) && fk els 0 ((n4:Int) - 1) && Tj slots a
   else if j=2 then Tj slots a && tg == 0 && els == 0
   else false)
theorem WJ (B:Nat) (A0 A4:Option Addr) (c0 c4 n0 n4:Nat) (p1 p2 slots:Int) (hn0:n0 ≤ 9223372036854775807) (AA:n4 ≤ 9223372036854775807) (W:World) (x:yf)
  (hb0:W.cell? ⟨B,0,none⟩=some (.slice A0 n0 c0)) (hb1:W.cell? ⟨B,1,none⟩=some (.int .i64 p1)) (hb2:W.cell? ⟨B,2,none⟩=some (.int .i64 p2)) (qD:W.cell? ⟨B,3,none⟩=some (.int .i64 slots)) (mV:W.cell? ⟨B,4,none⟩=some (.slice A4 n4 c4)) (hB:B < W.heap.size) :
  Calls Try.prog 117 #[.agg #[.int .i64 x.f0,.int .i64 x.f1,.int .i64 x.f2,.int .i64 x.f3,.int .i64 x.f4,.int .i64 x.f5,.string x.f6],.pointer (some ⟨B,0,none⟩)] W
   fun e w'=>e = .returned (.bool (!Ui n0 slots x))∧Below W.heap.size W w':=by
 have hne:B ≠ W.heap.size:=by omega
 unfold Ui
 have HC:=ja.mk (fun W'=>ID A0 A4 c0 c4 n0 n4 p1 p2 slots W' hn0 AA x.f0 x.f1 x.f2 x.f3 x.f4 x.f5 x.f6)
 generalize ek n0 slots x.f0 x.f1 x.f2 x.f3 x.f4 x.f5 x.f6=b at HC ⊢
 go_enter Try.func117,Try.ntmps117
 go_wp2_with (go_at_call 118;(with_reducible refine (HC.out _).mono ?_);rintro e w1 ⟨rfl,hb⟩;have HD:=ja.mk (Na (qa (Below.refl _ _) _) hb);clear hb)
 go_ret
 exact ⟨rfl,HD.out⟩
theorem JD (A0 A4 A5:Option Addr) (c0 c4 c5 n0 n4:Nat) (p1 p2 slots:Int) (l5:List yf) (j a tg els:Int) (w:World) (hn0:n0 ≤ 9223372036854775807) (AA:n4 ≤ 9223372036854775807) (hr5:Kd.C Uj w A5 l5.length l5) (OT:l5.length ≤ c5) :
  Calls Try.prog 90 #[.agg #[.slice A0 n0 c0,.int .i64 p1,.int .i64 p2,.int .i64 slots,.slice A4 n4 c4],.agg #[.slice A5 l5.length c5,.int .i64 j,.int .i64 a,.int .i64 tg,.int .i64 els]] w fun e w'=>e = .returned (.bool (ql n0 slots n4 l5 j a tg els))∧Below w.heap.size w w':=by
 have eg:=enters_of Try.func117 (by kernel_rfl) rfl
 have jV:=hr5.2.1
 obtain ⟨W1,hW1⟩:∃ W1,W1=(w.alloc (.cells #[.slice A0 n0 c0,.int .i64 p1,.int .i64 p2,.int .i64 slots,.slice A4 n4 c4] 30 (0,0))).alloc (.cells #[.slice A5 l5.length c5,.int .i64 j,.int .i64 a,.int .i64 tg,.int .i64 els] 68 (0,0)):=⟨_,rfl⟩
 have HW:=ja.mk hW1
 have hB1:Below w.heap.size w W1:=by rw [hW1];exact qa (qa (Below.refl _ _) _) _
 have hz:W1.heap.size=w.heap.size + 2:=by rw [hW1];simp
 have pL:W1.cell? ⟨w.heap.size,0,none⟩=some (.slice A0 n0 c0):=by rw [hW1];simp
 have BA:W1.cell? ⟨w.heap.size,1,none⟩=some (.int .i64 p1):=by rw [hW1];simp
 have AE:W1.cell? ⟨w.heap.size,2,none⟩=some (.int .i64 p2):=by rw [hW1];simp
 have zE:W1.cell? ⟨w.heap.size,3,none⟩=some (.int .i64 slots):=by rw [hW1];simp
 have gF:W1.cell? ⟨w.heap.size,4,none⟩=some (.slice A4 n4 c4):=by rw [hW1];simp
 have hx0:W1.cell? ⟨w.heap.size + 1,0,none⟩=some (.slice A5 l5.length c5):=by rw [hW1];simp
 have hx1:W1.cell? ⟨w.heap.size + 1,1,none⟩=some (.int .i64 j):=by rw [hW1];simp
 have Ek:W1.cell? ⟨w.heap.size + 1,2,none⟩=some (.int .i64 a):=by rw [hW1];simp
 have jk:W1.cell? ⟨w.heap.size + 1,3,none⟩=some (.int .i64 tg):=by rw [hW1];simp
 have Dk:W1.cell? ⟨w.heap.size + 1,4,none⟩=some (.int .i64 els):=by rw [hW1];simp
 have Mn:=Kd.Mb hr5 hB1
 clear hW1 hr5
 have HF:=ja.mk (ou 117 #[.pointer (some ⟨w.heap.size,0,none⟩)] (fun x=>!Ui n0 slots x) eg A5 c5 l5 W1 Mn OT
  (fun W2 x hb'=>WJ w.heap.size A0 A4 c0 c4 n0 n4 p1 p2 slots hn0 AA W2 x ((hb'.cell (p:=⟨w.heap.size,0,none⟩) (by simp;omega)).trans pL) ((hb'.cell (p:=⟨w.heap.size,1,none⟩) (by simp;omega)).trans BA) ((hb'.cell (p:=⟨w.heap.size,2,none⟩) (by simp;omega)).trans AE) ((hb'.cell (p:=⟨w.heap.size,3,none⟩) (by simp;omega)).trans zE) ((hb'.cell (p:=⟨w.heap.size,4,none⟩) (by simp;omega)).trans gF) (Nat.lt_of_lt_of_le (by omega) hb'.size)))
 have HB:=ja.mk hB1
 clear Mn hB1 eg
 unfold ql
 cases hq:l5.any (fun x=>!Ui n0 slots x) with
 | true =>
  rw [hq] at HF
  go_enter Try.func90,Try.ntmps90
  go_upto_region 1 with (fail)
  rw [← HW.out]
  clear HW
  go_wp2_with (first|(go_at_call 116;(with_reducible refine HF.out.mono ?_);rintro e w2 ⟨rfl,hb2⟩;have gq:=ja.mk hb2;clear hb2))
  all_goals
   go_ret
   exact ⟨by simp,Na HB.out gq.out⟩
 | false =>
  rw [hq] at HF
  cases ha0:decide (0 ≤ a)
  all_goals
   go_enter Try.func90,Try.ntmps90
   go_upto_region 1 with (fail)
   rw [← HW.out]
   clear HW
   go_upto_region 3 with (first|(go_at_call 116;(with_reducible refine HF.out.mono ?_);rintro e w2 ⟨rfl,hb2⟩;replace zE:=(hb2.cell (World.block_lt_of_cell? W1 _ zE)).trans zE;replace gF:=(hb2.cell (World.block_lt_of_cell? W1 _ gF)).trans gF;replace hx1:=(hb2.cell (World.block_lt_of_cell? W1 _ hx1)).trans hx1;replace Ek:=(hb2.cell (World.block_lt_of_cell? W1 _ Ek)).trans Ek;replace jk:=(hb2.cell (World.block_lt_of_cell? W1 _ jk)).trans jk;replace Dk:=(hb2.cell (World.block_lt_of_cell? W1 _ Dk)).trans Dk;have gq:=ja.mk (Na HB.out hb2);clear hb2 HB pL BA AE hx0))
   go_quiet ((go_at_call 58;exact Calls.quiet_of ((rj _ _ _ _).mono fun _ _ ⟨he,hm⟩=>⟨he,hm.out⟩)))
   go_wp2
   all_goals go_ret
   all_goals exact ⟨by first|(simp [Tj, *];done)|(simp [Tj, *];intros;omega)|(clear HF zE gF hx1 Ek jk Dk;simp_all [Tj];done)|(clear HF zE gF hx1 Ek jk Dk;simp_all [Tj];omega),by repeat (first|exact gq.out|apply ia)⟩
def sj.f (Ta:List Int) (Pa:Int) (Oa:Int) (Ma:Int) (Ra:List (Dh)) (Nd:List (yf)) (Lb:Int) (Rb:Int) (Sb:Int) (Uc:Int):Option Bool:=some (ql Ta.length Ma Ra.length Nd Lb Rb Sb Uc)
theorem sj.calls (Eb:Option Addr) (Db:Nat) (Ta:List Int) (Pa:Int) (Oa:Int) (Ma:Int) (yc:Option Addr) (Zb:Nat) (Ra:List (Dh)) (kg:Option Addr) (Tf:Nat) (Nd:List (yf)) (Lb:Int) (Rb:Int) (Sb:Int) (Uc:Int) (r:Bool) (w:World) (Kf:Kd.C (Kd.int .i64) w Eb Ta.length Ta) (Gf:Ta.length ≤ Db) (Bg:Kd.C Tp w yc Ra.length Ra) (Jg:Ra.length ≤ Zb) (eu:Kd.C Uj w kg Nd.length Nd) (fu:Nd.length ≤ Tf) (h:sj.f Ta Pa Oa Ma Ra Nd Lb Rb Sb Uc=some r) :
  Calls Try.prog 90 #[.agg #[.slice Eb Ta.length Db,.int .i64 Pa,.int .i64 Oa,.int .i64 Ma,.slice yc Ra.length Zb],.agg #[.slice kg Nd.length Tf,.int .i64 Lb,.int .i64 Rb,.int .i64 Sb,.int .i64 Uc]] w fun e w'=>e = .returned (.bool r)∧Below w.heap.size w w':=by
 injection h with h
 subst h
 exact JD Eb yc kg Db Zb Tf Ta.length Ra.length Pa Oa Ma Nd Lb Rb Sb Uc w Kf.2.1 Bg.2.1 eu fu
attribute [local go_sem] Jk Gk ym xm Gj Fj Ik Fk
mutual
def Ab.j0:Nat→Bool→List Int→Int→Int→Int→List (Dh)→Option (Bool)
 | 0,_,_,_,_,_,_=>none
 | k + 1,x29,x102000,x102001,x102002,x102003,x102004=>if x29=true then (some false) else (Ab.l0 k 0 x102004 (x102004.length:Int) 0 x102000 x102001 x102002 x102003 x102004)
def Ab.l0:Nat→Int→List (Dh)→Int→Int→List Int→Int→Int→Int→List (Dh)→Option (Bool)
 | 0,_,_,_,_,_,_,_,_,_=>none
 | k + 1,x3,x31,x32,x33,x102000,x102001,x102002,x102003,x102004=>if x33 < x32 then (if 0 ≤ x33 then (if x33 < (x31.length:Int) then ((sj.f x102000 x102001 x102002 x102003 x102004 ((Ua x31 x33).f0) ((Ua x31 x33).f1) ((Ua x31 x33).f2) ((Ua x31 x33).f3) ((Ua x31 x33).f4)).bind fun t107=>(if t107=true then (Ab.l0 k (wrap64 (x3 + (((Ua x31 x33).f0).length:Int))) x31 x32 (wrap64 (x33 + 1)) x102000 x102001 x102002 x102003 x102004) else (some false))) else (none)) else (none)) else (some (decide (x3 ≤ 1000)))
end
def Ab.f (k:Nat) (Ta:List Int) (Pa:Int) (Oa:Int) (Ma:Int) (Ra:List (Dh)):Option (Bool):=(jh.f Ta Pa Oa ([]:List (Lw))).bind fun t102=>(if t102=true then ((Pg.f Ma Oa 1000).bind fun t103=>(if t103=true then ((Pg.f (Ra.length:Int) 1 300).bind fun t104=>(Ab.j0 k (!t104) Ta Pa Oa Ma Ra)) else (Ab.j0 k true Ta Pa Oa Ma Ra))) else (Ab.j0 k true Ta Pa Oa Ma Ra))
theorem Ab.Qd:∀ k,(∀ y0 y1 y2 y3 y4 y5,Nb (Ab.j0 k y0 y1 y2 y3 y4 y5) (Ab.j0 (k + 1) y0 y1 y2 y3 y4 y5))∧(∀ y0 y1 y2 y3 y4 y5 y6 y7 y8,Nb (Ab.l0 k y0 y1 y2 y3 y4 y5 y6 y7 y8) (Ab.l0 (k + 1) y0 y1 y2 y3 y4 y5 y6 y7 y8))
 | 0=>⟨fun _ _ _ _ _ _ r h=>by simp [Ab.j0] at h,fun _ _ _ _ _ _ _ _ _ r h=>by simp [Ab.l0] at h⟩
 | k + 1=>by
  obtain ⟨Ff,ih1⟩:=Ab.Qd k
  refine ⟨?_,?_⟩
  ·intro y0 y1 y2 y3 y4 y5
   unfold Ab.j0
   repeat' first
   | (with_reducible exact Ff _ _ _ _ _ _)
   | (with_reducible exact ih1 _ _ _ _ _ _ _ _ _)
   | (with_reducible exact Nb.refl _)
   | (with_reducible exact Nb.none _)
   | (with_reducible refine Nb.ite ?_ ?_)
   | (with_reducible refine Nb.bind ?_ (fun _=>?_))
   | exact Ff _ _ _ _ _ _
   | exact ih1 _ _ _ _ _ _ _ _ _
   | exact Nb.none _
   | refine Nb.ite ?_ ?_
   | refine Nb.bind ?_ (fun _=>?_)
  ·intro y0 y1 y2 y3 y4 y5 y6 y7 y8
   unfold Ab.l0
   repeat' first
   | (with_reducible exact Ff _ _ _ _ _ _)
   | (with_reducible exact ih1 _ _ _ _ _ _ _ _ _)
   | (with_reducible exact Nb.refl _)
   | (with_reducible exact Nb.none _)
   | (with_reducible refine Nb.ite ?_ ?_)
   | (with_reducible refine Nb.bind ?_ (fun _=>?_))
   | exact Ff _ _ _ _ _ _
   | exact ih1 _ _ _ _ _ _ _ _ _
   | exact Nb.none _
   | refine Nb.ite ?_ ?_
   | refine Nb.bind ?_ (fun _=>?_)
theorem Ab.mono:∀ a0 a1 a2 a3 a4 k,Nb (Ab.f k a0 a1 a2 a3 a4) (Ab.f (k + 1) a0 a1 a2 a3 a4):=by
 intro a0 a1 a2 a3 a4 k
 obtain ⟨Ff,ih1⟩:=Ab.Qd k
 unfold Ab.f
 repeat' first
   | (with_reducible exact Ff _ _ _ _ _ _)
   | (with_reducible exact ih1 _ _ _ _ _ _ _ _ _)
   | (with_reducible exact Nb.refl _)
   | (with_reducible exact Nb.none _)
   | (with_reducible refine Nb.ite ?_ ?_)
   | (with_reducible refine Nb.bind ?_ (fun _=>?_))
   | exact Ff _ _ _ _ _ _
   | exact ih1 _ _ _ _ _ _ _ _ _
   | exact Nb.none _
   | refine Nb.ite ?_ ?_
   | refine Nb.bind ?_ (fun _=>?_)
theorem Ab.calls (k:Nat) (Eb:Option Addr) (Db:Nat) (Ta:List Int) (Pa:Int) (Oa:Int) (Ma:Int) (yc:Option Addr) (Zb:Nat) (Ra:List (Dh)) (r:Bool) (w:World) (Kf:Kd.C (Kd.int .i64) w Eb Ta.length Ta) (Gf:Ta.length ≤ Db) (Bg:Kd.C Tp w yc Ra.length Ra) (Jg:Ra.length ≤ Zb) (h:Ab.f k Ta Pa Oa Ma Ra=some r) :
  Calls Try.prog 57 #[.agg #[.slice Eb Ta.length Db,.int .i64 Pa,.int .i64 Oa,.int .i64 Ma,.slice yc Ra.length Zb]] w fun e w'=>e = .returned (.bool r)∧Below w.heap.size w w':=by
 have vB:=Try.underlying30
 have Cag:=Try.underlying124
 have XJ:=Try.underlying68
 have Uf:=ja.mk Kf
 have ig:=ja.mk Gf
 clear Kf Gf
 have Zg:=ja.mk Bg
 have Li:=ja.mk Jg
 clear Bg Jg
 have HB:=ja.mk (Below.refl w.heap.size w)
 have H:((jh.f Ta Pa Oa ([]:List (Lw))).bind fun t102=>(if t102=true then ((Pg.f Ma Oa 1000).bind fun t103=>(if t103=true then ((Pg.f (Ra.length:Int) 1 300).bind fun t104=>(Ab.j0 k (!t104) Ta Pa Oa Ma Ra)) else (Ab.j0 k true Ta Pa Oa Ma Ra))) else (Ab.j0 k true Ta Pa Oa Ma Ra)))=some r:=h
 clear h
 have uV:=ja.mk H
 clear H
 go_enter Try.func57,Try.ntmps57
 go_upto_region 1 with (first|((with_reducible refine Pb (N:=1) rfl ?_);(try (refine Wg (by rfl) ?_;dsimp only));refine Kb ?hg (N:=1) ?hd (cs:=#[.slice Eb Ta.length Db,.int .i64 Pa,.int .i64 Oa,.int .i64 Ma,.slice yc Ra.length Zb]) (t:=30) ?hr ?_;(case hd=>rfl);(case hg=>rfl);(case hr=>first|(go_simp;done)|(go_simp;rfl));intro Da hg w3 Yb hb;have Qb:=ja.mk (Na (by repeat (first|(with_reducible first|exact HB.out|apply qa|apply ia|apply ua)|exact HB.out)) hb);have uc:=ja.mk (Yb);have Qc:=ja.mk ((by rw [hg];exact (Qa (by repeat (first|(with_reducible first|exact HB.out|apply qa|apply ia|apply ua)|exact HB.out))):w.heap.size ≤ Da));have Td:=ja.mk ((by rw [hg];exact (Qa (by repeat (first|(with_reducible first|exact HB.out|apply qa|apply ia|apply ua)|exact HB.out))):w.heap.size ≤ Da));clear HB;have HB:=Qb;have za:=uc;have Vf:=Qc;have Wa:=Td;clear Qb uc Qc Td hb Yb hg))
 (try simp only [Act.put,List.setIfInBounds_toArray,List.set_cons_zero,List.set_cons_succ])
 go_cut [29] (fun v29 wc=>∃ (kq:Nat) (vG:Bool),v29 = .bool vG∧ja (Ab.j0 kq vG Ta Pa Oa Ma Ra=some r)∧ja (kq ≤ k)∧ja (wc.heap[Da]? = some (.cells #[(.slice Eb Ta.length Db),.int .i64 Pa,.int .i64 Oa,.int .i64 Ma,(.slice yc Ra.length Zb)] 30 (0,0)))∧ja (Below w.heap.size w wc))
 case first =>
  have H:=uV.out
  clear uV
  replace H:=Option.bind_eq_some_iff.mp H
  obtain ⟨t102,N4,H⟩:=H
  replace H:(if t102=true then ((Pg.f Ma Oa 1000).bind fun t103=>(if t103=true then ((Pg.f (Ra.length:Int) 1 300).bind fun t104=>(Ab.j0 k (!t104) Ta Pa Oa Ma Ra)) else (Ab.j0 k true Ta Pa Oa Ma Ra))) else (Ab.j0 k true Ta Pa Oa Ma Ra))=some r:=H
  have A4:=ja.mk N4
  clear N4
  by_cases c5:t102=true
  ·subst c5
   have H1:((Pg.f Ma Oa 1000).bind fun t103=>(if t103=true then ((Pg.f (Ra.length:Int) 1 300).bind fun t104=>(Ab.j0 k (!t104) Ta Pa Oa Ma Ra)) else (Ab.j0 k true Ta Pa Oa Ma Ra)))=some r:=by rw [if_pos rfl] at H;exact H
   clear H
   have H:=H1
   clear H1
   replace H:=Option.bind_eq_some_iff.mp H
   obtain ⟨t103,jS,H⟩:=H
   replace H:(if t103=true then ((Pg.f (Ra.length:Int) 1 300).bind fun t104=>(Ab.j0 k (!t104) Ta Pa Oa Ma Ra)) else (Ab.j0 k true Ta Pa Oa Ma Ra))=some r:=H
   have A6:=ja.mk jS
   clear jS
   by_cases c7:t103=true
   ·subst c7
    have H1:((Pg.f (Ra.length:Int) 1 300).bind fun t104=>(Ab.j0 k (!t104) Ta Pa Oa Ma Ra))=some r:=by rw [if_pos rfl] at H;exact H
    clear H
    have H:=H1
    clear H1
    replace H:=Option.bind_eq_some_iff.mp H
    obtain ⟨t104,NM,H⟩:=H
    replace H:(Ab.j0 k (!t104) Ta Pa Oa Ma Ra)=some r:=H
    have A8:=ja.mk NM
    clear NM
    have H':=ja.mk H
    clear H
    have Ko:w3.cell? ⟨Da,0,none⟩=some (.slice Eb Ta.length Db):=(ga za.out 0).trans rfl
    have Jo:w3.cell? ⟨Da,1,none⟩=some (.int .i64 Pa):=(ga za.out 1).trans rfl
    have Io:w3.cell? ⟨Da,2,none⟩=some (.int .i64 Oa):=(ga za.out 2).trans rfl
    have Ho:w3.cell? ⟨Da,3,none⟩=some (.int .i64 Ma):=(ga za.out 3).trans rfl
    have Fo:w3.cell? ⟨Da,4,none⟩=some (.slice yc Ra.length Zb):=(ga za.out 4).trans rfl
    have Eo:=aa za.out 0
    have Co:=aa za.out 1
    have Bo:=aa za.out 2
    have Ao:=aa za.out 3
    have zo:=aa za.out 4
    go_wp2_with (first|((with_reducible refine xb (f:=89) rfl ?_);refine qd (some 13) rfl rfl Try.func89 (by kernel_rfl) rfl #[.agg #[.slice Eb Ta.length Db,.int .i64 Pa,.int .i64 Oa,.slice none 0 0]] rfl (by (try simp only [List.map_toArray,List.map_cons,List.map_nil]);first|done|rfl|(simp only [List.length_drop,List.length_take];rfl)) ?_;(refine (jh.calls _ _ Ta Pa Oa _ _ ([]:List (Lw)) true _ ?side1 ?side2 ?side3 ?side4 A4.out).mono ?_);(case side1=>repeat (first|exact (Kd.Mb Uf.out HB.out)|(with_reducible refine Kd.Lc ?_ _)|(with_reducible refine Kd.Jc ?_ _)|(with_reducible refine Kd.Ed ?_)));(case side2=>exact ig.out);(case side3=>exact Kd.zJ _ _);(case side4=>exact Nat.le_refl _);rintro e jq ⟨rfl,hb⟩;refine ⟨_,rfl,?_⟩;have Qb:=ja.mk (Ya (g:=Da) (o:=.cells #[.slice Eb Ta.length Db,.int .i64 Pa,.int .i64 Oa,.int .i64 Ma,.slice yc Ra.length Zb] 30 (0,0)) (by (with_reducible repeat (first|refine Ga ?_ _|refine Ia ?_|refine Fa ?_ _));exact za.out) hb);have uc:=ja.mk (Na (by repeat (first|(with_reducible first|exact HB.out|apply qa|apply ia|apply ua|refine Aa ?_ Wa.out)|exact HB.out)) hb);clear za HB;have za:=Qb;have HB:=uc;clear Qb uc;(try clear hb);(try clear hb2);(try clear hk);(try clear hi);have cl:jq.cell? ⟨Da,0,none⟩=some (.slice Eb Ta.length Db):=(ga za.out 0).trans rfl;have Zk:jq.cell? ⟨Da,1,none⟩=some (.int .i64 Pa):=(ga za.out 1).trans rfl;have Sr:jq.cell? ⟨Da,2,none⟩=some (.int .i64 Oa):=(ga za.out 2).trans rfl;have Qr:jq.cell? ⟨Da,3,none⟩=some (.int .i64 Ma):=(ga za.out 3).trans rfl;have Nt:jq.cell? ⟨Da,4,none⟩=some (.slice yc Ra.length Zb):=(ga za.out 4).trans rfl;have Vk:=aa za.out 0;have Uk:=aa za.out 1;have er:=aa za.out 2;have dr:=aa za.out 3;have Et:=aa za.out 4)|(go_at_call 58;(with_reducible refine (Pg.calls Ma Oa 1000 true _ A6.out).mono ?_);rintro e w' ⟨rfl,⟨nd,rfl⟩⟩)|(go_at_call 58;(with_reducible refine (Pg.calls (Ra.length:Int) 1 300 t104 _ A8.out).mono ?_);rintro e w' ⟨rfl,⟨nd,rfl⟩⟩))
    go_meet
    case rel=>exact ⟨_,(!t104),(by first|rfl|(simp;done)|(simp [*];done)),H',⟨by first|omega|exact Nat.le_refl _⟩,⟨by (with_reducible repeat (first|refine Ga ?_ _|refine Ia ?_|refine Fa ?_ _));exact za.out⟩,⟨by repeat (first|(with_reducible first|exact HB.out|apply qa|apply ia|apply ua|refine Aa ?_ Wa.out)|exact HB.out)⟩⟩
   ·replace c7:=Bool.eq_false_iff.mpr c7
    subst c7
    have H1:(Ab.j0 k true Ta Pa Oa Ma Ra)=some r:=by rw [if_neg (show ¬ (false=true) by decide)] at H;exact H
    clear H
    have H:=H1
    clear H1
    have H':=ja.mk H
    clear H
    have Pr:w3.cell? ⟨Da,0,none⟩=some (.slice Eb Ta.length Db):=(ga za.out 0).trans rfl
    have Nr:w3.cell? ⟨Da,1,none⟩=some (.int .i64 Pa):=(ga za.out 1).trans rfl
    have Mr:w3.cell? ⟨Da,2,none⟩=some (.int .i64 Oa):=(ga za.out 2).trans rfl
    have Lr:w3.cell? ⟨Da,3,none⟩=some (.int .i64 Ma):=(ga za.out 3).trans rfl
    have Kr:w3.cell? ⟨Da,4,none⟩=some (.slice yc Ra.length Zb):=(ga za.out 4).trans rfl
    have cr:=aa za.out 0
    have br:=aa za.out 1
    have Zq:=aa za.out 2
    have Yq:=aa za.out 3
    have Xq:=aa za.out 4
    go_wp2_with (first|((with_reducible refine xb (f:=89) rfl ?_);refine qd (some 13) rfl rfl Try.func89 (by kernel_rfl) rfl #[.agg #[.slice Eb Ta.length Db,.int .i64 Pa,.int .i64 Oa,.slice none 0 0]] rfl (by (try simp only [List.map_toArray,List.map_cons,List.map_nil]);first|done|rfl|(simp only [List.length_drop,List.length_take];rfl)) ?_;(refine (jh.calls _ _ Ta Pa Oa _ _ ([]:List (Lw)) true _ ?side1 ?side2 ?side3 ?side4 A4.out).mono ?_);(case side1=>repeat (first|exact (Kd.Mb Uf.out HB.out)|(with_reducible refine Kd.Lc ?_ _)|(with_reducible refine Kd.Jc ?_ _)|(with_reducible refine Kd.Ed ?_)));(case side2=>exact ig.out);(case side3=>exact Kd.zJ _ _);(case side4=>exact Nat.le_refl _);rintro e mo ⟨rfl,hb⟩;refine ⟨_,rfl,?_⟩;have Qb:=ja.mk (Ya (g:=Da) (o:=.cells #[.slice Eb Ta.length Db,.int .i64 Pa,.int .i64 Oa,.int .i64 Ma,.slice yc Ra.length Zb] 30 (0,0)) (by (with_reducible repeat (first|refine Ga ?_ _|refine Ia ?_|refine Fa ?_ _));exact za.out) hb);have uc:=ja.mk (Na (by repeat (first|(with_reducible first|exact HB.out|apply qa|apply ia|apply ua|refine Aa ?_ Wa.out)|exact HB.out)) hb);clear za HB;have za:=Qb;have HB:=uc;clear Qb uc;(try clear hb);(try clear hb2);(try clear hk);(try clear hi);have Lp:mo.cell? ⟨Da,0,none⟩=some (.slice Eb Ta.length Db):=(ga za.out 0).trans rfl;have Kp:mo.cell? ⟨Da,1,none⟩=some (.int .i64 Pa):=(ga za.out 1).trans rfl;have Jp:mo.cell? ⟨Da,2,none⟩=some (.int .i64 Oa):=(ga za.out 2).trans rfl;have Ip:mo.cell? ⟨Da,3,none⟩=some (.int .i64 Ma):=(ga za.out 3).trans rfl;have Hp:mo.cell? ⟨Da,4,none⟩=some (.slice yc Ra.length Zb):=(ga za.out 4).trans rfl;have Dp:=aa za.out 0;have Cp:=aa za.out 1;have Bp:=aa za.out 2;have Ap:=aa za.out 3;have zp:=aa za.out 4)|(go_at_call 58;(with_reducible refine (Pg.calls Ma Oa 1000 false _ A6.out).mono ?_);rintro e w' ⟨rfl,⟨nd,rfl⟩⟩))
    go_meet
    case rel=>exact ⟨_,(true),(by first|rfl|(simp;done)|(simp [*];done)),H',⟨by first|omega|exact Nat.le_refl _⟩,⟨by (with_reducible repeat (first|refine Ga ?_ _|refine Ia ?_|refine Fa ?_ _));exact za.out⟩,⟨by repeat (first|(with_reducible first|exact HB.out|apply qa|apply ia|apply ua|refine Aa ?_ Wa.out)|exact HB.out)⟩⟩
  ·replace c5:=Bool.eq_false_iff.mpr c5
   subst c5
   have H1:(Ab.j0 k true Ta Pa Oa Ma Ra)=some r:=by rw [if_neg (show ¬ (false=true) by decide)] at H;exact H
   clear H
   have H:=H1
   clear H1
   have H':=ja.mk H
   clear H
   have Uv:w3.cell? ⟨Da,0,none⟩=some (.slice Eb Ta.length Db):=(ga za.out 0).trans rfl
   have Tv:w3.cell? ⟨Da,1,none⟩=some (.int .i64 Pa):=(ga za.out 1).trans rfl
   have Sv:w3.cell? ⟨Da,2,none⟩=some (.int .i64 Oa):=(ga za.out 2).trans rfl
   have Rv:w3.cell? ⟨Da,3,none⟩=some (.int .i64 Ma):=(ga za.out 3).trans rfl
   have Hy:w3.cell? ⟨Da,4,none⟩=some (.slice yc Ra.length Zb):=(ga za.out 4).trans rfl
   have qv:=aa za.out 0
   have jv:=aa za.out 1
   have cv:=aa za.out 2
   have av:=aa za.out 3
   have ay:=aa za.out 4
   go_wp2_with (first|((with_reducible refine xb (f:=89) rfl ?_);refine qd (some 13) rfl rfl Try.func89 (by kernel_rfl) rfl #[.agg #[.slice Eb Ta.length Db,.int .i64 Pa,.int .i64 Oa,.slice none 0 0]] rfl (by (try simp only [List.map_toArray,List.map_cons,List.map_nil]);first|done|rfl|(simp only [List.length_drop,List.length_take];rfl)) ?_;(refine (jh.calls _ _ Ta Pa Oa _ _ ([]:List (Lw)) false _ ?side1 ?side2 ?side3 ?side4 A4.out).mono ?_);(case side1=>repeat (first|exact (Kd.Mb Uf.out HB.out)|(with_reducible refine Kd.Lc ?_ _)|(with_reducible refine Kd.Jc ?_ _)|(with_reducible refine Kd.Ed ?_)));(case side2=>exact ig.out);(case side3=>exact Kd.zJ _ _);(case side4=>exact Nat.le_refl _);rintro e Xz ⟨rfl,hb⟩;refine ⟨_,rfl,?_⟩;have Qb:=ja.mk (Ya (g:=Da) (o:=.cells #[.slice Eb Ta.length Db,.int .i64 Pa,.int .i64 Oa,.int .i64 Ma,.slice yc Ra.length Zb] 30 (0,0)) (by (with_reducible repeat (first|refine Ga ?_ _|refine Ia ?_|refine Fa ?_ _));exact za.out) hb);have uc:=ja.mk (Na (by repeat (first|(with_reducible first|exact HB.out|apply qa|apply ia|apply ua|refine Aa ?_ Wa.out)|exact HB.out)) hb);clear za HB;have za:=Qb;have HB:=uc;clear Qb uc;(try clear hb);(try clear hb2);(try clear hk);(try clear hi)))
   go_meet
   case rel=>exact ⟨_,(true),(by first|rfl|(simp;done)|(simp [*];done)),H',⟨by first|omega|exact Nat.le_refl _⟩,⟨by (with_reducible repeat (first|refine Ga ?_ _|refine Ia ?_|refine Fa ?_ _));exact za.out⟩,⟨by repeat (first|(with_reducible first|exact HB.out|apply qa|apply ia|apply ua|refine Aa ?_ Wa.out)|exact HB.out)⟩⟩
 case rest =>
  clear uV
  try clear p2
  try clear c5
  try clear c7
  try clear c8
  try clear cl
  try clear Zk
  try clear Sr
  try clear Qr
  try clear Nt
  try clear Pr
  try clear Nr
  try clear Mr
  try clear Lr
  try clear Kr
  try clear Lp
  try clear Kp
  try clear Jp
  try clear Ip
  try clear Hp
  try clear Uv
  try clear Tv
  try clear Sv
  try clear Rv
  try clear Hy
  try clear Ko
  try clear Jo
  try clear Io
  try clear Ho
  try clear Fo
  try clear Vk
  try clear Uk
  try clear er
  try clear dr
  try clear Et
  try clear cr
  try clear br
  try clear Zq
  try clear Yq
  try clear Xq
  try clear Dp
  try clear Cp
  try clear Bp
  try clear Ap
  try clear zp
  try clear qv
  try clear jv
  try clear cv
  try clear av
  try clear ay
  try clear Eo
  try clear Co
  try clear Bo
  try clear Ao
  try clear zo
  obtain ⟨kq,vG,rfl,HA,HJ1,za,HB⟩:=hcut
  cases kq with
  | zero=>exact absurd HA.out (by simp [Ab.j0])
  | succ kj1 =>
   have H:=HA.out
   clear HA
   simp only [Ab.j0] at H
   by_cases c17:vG=true
   ·subst c17
    have H1:(some false)=some r:=by rw [if_pos rfl] at H;exact H
    clear H
    have H:=H1
    clear H1
    obtain rfl:=Option.some.inj H
    go_wp2
    go_ret
    exact ⟨by first|rfl|(simp [La,Ka] <;> rfl)|(simp [*,La,Ka] <;> rfl),by repeat (first|(with_reducible first|exact HB.out|apply qa|apply ia|apply ua|refine Aa ?_ Wa.out)|exact HB.out)⟩
   ·replace c17:=Bool.eq_false_iff.mpr c17
    subst c17
    have H1:(Ab.l0 kj1 0 Ra (Ra.length:Int) 0 Ta Pa Oa Ma Ra)=some r:=by rw [if_neg (show ¬ (false=true) by decide)] at H;exact H
    clear H
    have H:=H1
    clear H1
    have H':=ja.mk H
    clear H
    have Jr:wc.cell? ⟨Da,0,none⟩=some (.slice Eb Ta.length Db):=(ga za.out 0).trans rfl
    have Ir:wc.cell? ⟨Da,1,none⟩=some (.int .i64 Pa):=(ga za.out 1).trans rfl
    have Hr:wc.cell? ⟨Da,2,none⟩=some (.int .i64 Oa):=(ga za.out 2).trans rfl
    have Gr:wc.cell? ⟨Da,3,none⟩=some (.int .i64 Ma):=(ga za.out 3).trans rfl
    have Er:wc.cell? ⟨Da,4,none⟩=some (.slice yc Ra.length Zb):=(ga za.out 4).trans rfl
    have Wq:=aa za.out 0
    have Vq:=aa za.out 1
    have Uq:=aa za.out 2
    have Sq:=aa za.out 3
    have Rq:=aa za.out 4
    go_wp2
    go_loopg [3,33] kj1 (fun kq v3 v33 w'=>∃ (BJ:Int) (Xe:Int),v3 = .int .i64 BJ∧v33 = .int .i64 Xe∧ja (Ab.l0 kq BJ Ra (Ra.length:Int) Xe Ta Pa Oa Ma Ra=some r)∧ja (kq ≤ kj1)∧ja (w'.heap[Da]? = some (.cells #[(.slice Eb Ta.length Db),.int .i64 Pa,.int .i64 Oa,.int .i64 Ma,(.slice yc Ra.length Zb)] 30 (0,0)))∧ja (Below w.heap.size w w'))
    case atStart=>exact ⟨(0),(0),(by first|rfl|(simp;done)|(simp [*];done)),(by first|rfl|(simp;done)|(simp [*];done)),H',⟨Nat.le_refl _⟩,⟨by (with_reducible repeat (first|refine Ga ?_ _|refine Ia ?_|refine Fa ?_ _));exact za.out⟩,⟨by repeat (first|(with_reducible first|exact HB.out|apply qa|apply ia|apply ua|refine Aa ?_ Wa.out)|exact HB.out)⟩⟩
    case round =>
     clear H'
     try clear c1
     try clear p2
     try clear c5
     try clear c7
     try clear c8
     try clear c17
     try clear cl
     try clear Zk
     try clear Sr
     try clear Qr
     try clear Nt
     try clear Pr
     try clear Nr
     try clear Mr
     try clear Lr
     try clear Kr
     try clear Lp
     try clear Kp
     try clear Jp
     try clear Ip
     try clear Hp
     try clear Uv
     try clear Tv
     try clear Sv
     try clear Rv
     try clear Hy
     try clear Jr
     try clear Ir
     try clear Hr
     try clear Gr
     try clear Er
     try clear Ko
     try clear Jo
     try clear Io
     try clear Ho
     try clear Fo
     try clear Vk
     try clear Uk
     try clear er
     try clear dr
     try clear Et
     try clear cr
     try clear br
     try clear Zq
     try clear Yq
     try clear Xq
     try clear Dp
     try clear Cp
     try clear Bp
     try clear Ap
     try clear zp
     try clear qv
     try clear jv
     try clear cv
     try clear av
     try clear ay
     try clear Wq
     try clear Vq
     try clear Uq
     try clear Sq
     try clear Rq
     try clear Eo
     try clear Co
     try clear Bo
     try clear Ao
     try clear zo
     try clear p2
     (try clear HA)
     (try clear IM)
     (try clear za)
     (try clear HB)
     obtain ⟨BJ,Xe,rfl,rfl,HA,IM,za,HB⟩:=hrel
     cases gk with
     | zero=>exact absurd HA.out (by simp [Ab.l0])
     | succ k2 =>
      have H:=HA.out
      clear HA
      simp only [Ab.l0] at H
      by_cases c19:Xe < (Ra.length:Int)
      ·rw [if_pos c19] at H
       have jM:decide (Xe < (Ra.length:Int))=true:=decide_eq_true c19
       clear c19
       by_cases c20:0 ≤ Xe
       ·rw [if_pos c20] at H
        have Qai:decide (0 ≤ Xe)=true:=decide_eq_true c20
        clear c20
        by_cases c21:Xe < (Ra.length:Int)
        ·rw [if_pos c21] at H
         have yR:decide (Xe < (Ra.length:Int))=true:=decide_eq_true c21
         clear c21
         replace H:=Option.bind_eq_some_iff.mp H
         obtain ⟨t107,S4,H⟩:=H
         replace H:(if t107=true then (Ab.l0 k2 (wrap64 (BJ + (((Ua Ra Xe).f0).length:Int))) Ra (Ra.length:Int) (wrap64 (Xe + 1)) Ta Pa Oa Ma Ra) else (some false))=some r:=H
         have A22:=ja.mk S4
         clear S4
         by_cases c23:t107=true
         ·subst c23
          have H1:(Ab.l0 k2 (wrap64 (BJ + (((Ua Ra Xe).f0).length:Int))) Ra (Ra.length:Int) (wrap64 (Xe + 1)) Ta Pa Oa Ma Ra)=some r:=by rw [if_pos rfl] at H;exact H
          clear H
          have H:=H1
          clear H1
          have H':=ja.mk H
          clear H
          have Zh:0 ≤ (Xe:Int):=of_decide_eq_true (by first|(with_reducible assumption)|assumption)
          have Yh:Xe < (Ra.length:Int):=of_decide_eq_true (by first|(with_reducible assumption)|assumption)
          obtain ⟨Wh,Cj,yj,Lo,ze,He,Ge,Fe,Ee,wh,xh⟩:=Zf Zg.out Xe Zh Yh
          cases Lo
          replace ze:=(HB.out.cell (World.block_lt_of_cell? w _ ze)).trans ze
          replace He:=(HB.out.cell (World.block_lt_of_cell? w _ He)).trans He
          replace Ge:=(HB.out.cell (World.block_lt_of_cell? w _ Ge)).trans Ge
          replace Fe:=(HB.out.cell (World.block_lt_of_cell? w _ Fe)).trans Fe
          replace Ee:=(HB.out.cell (World.block_lt_of_cell? w _ Ee)).trans Ee
          have Fm:=ja.mk xh
          have fo:=ja.mk wh
          clear xh wh
          replace Zh:=eq_true Zh
          replace Yh:=eq_true Yh
          go_wp2_with (first|((with_reducible refine Pb (N:=5) rfl ?_);(try (refine Wg (by rfl) ?_;dsimp only));refine Kb ?hg (N:=5) ?hd (cs:=#[.slice none 0 0,.int .i64 0,.int .i64 0,.int .i64 0,.int .i64 0]) (t:=68) ?hr ?_;(case hd=>rfl);(case hg=>rfl);(case hr=>first|(go_simp;done)|(go_simp;rfl));intro Kk hg WM Yb hb;have Qb:=ja.mk (Ya (g:=Da) (o:=.cells #[.slice Eb Ta.length Db,.int .i64 Pa,.int .i64 Oa,.int .i64 Ma,.slice (some Wh) Ra.length Zb] 30 (0,0)) (by (with_reducible repeat (first|refine Ga ?_ _|refine Ia ?_|refine Fa ?_ _));exact za.out) hb);have uc:=ja.mk (Na (by repeat (first|(with_reducible first|exact HB.out|apply qa|apply ia|apply ua|refine Aa ?_ Wa.out)|exact HB.out)) hb);have Qc:=ja.mk (Yb);have Td:=ja.mk ((by rw [hg];exact (Qa (by repeat (first|(with_reducible first|exact HB.out|apply qa|apply ia|apply ua|refine Aa ?_ Wa.out)|exact HB.out))):w.heap.size ≤ Kk));have dh:=ja.mk ((by rw [hg];exact (Qa (by repeat (first|(with_reducible first|exact HB.out|apply qa|apply ia|apply ua|refine Aa ?_ Wa.out)|exact HB.out))):w.heap.size ≤ Kk));have Eh:=ja.mk ((by rw [hg];exact Nat.ne_of_lt (Pc (g:=Da) (o:=.cells #[.slice Eb Ta.length Db,.int .i64 Pa,.int .i64 Oa,.int .i64 Ma,.slice (some Wh) Ra.length Zb] 30 (0,0)) (by (with_reducible repeat (first|refine Ga ?_ _|refine Ia ?_|refine Fa ?_ _));exact za.out)):Da ≠ Kk));have Kh:=ja.mk ((by rw [hg];exact Nat.ne_of_gt (Pc (g:=Da) (o:=.cells #[.slice Eb Ta.length Db,.int .i64 Pa,.int .i64 Oa,.int .i64 Ma,.slice (some Wh) Ra.length Zb] 30 (0,0)) (by (with_reducible repeat (first|refine Ga ?_ _|refine Ia ?_|refine Fa ?_ _));exact za.out)):Kk ≠ Da));clear za HB;have za:=Qb;have HB:=uc;have nj:=Qc;have J4:=Td;have Vs:=dh;have di:=Eh;have Nw:=Kh;clear Qb uc Qc Td dh Eh Kh hb Yb hg;have OW:=Nw.out;have wW:=di.out;have Lt:WM.cell? ⟨Kk,0,none⟩=some (.slice none 0 0):=(ga nj.out 0).trans rfl;have Kt:WM.cell? ⟨Kk,1,none⟩=some (.int .i64 0):=(ga nj.out 1).trans rfl;have Jt:WM.cell? ⟨Kk,2,none⟩=some (.int .i64 0):=(ga nj.out 2).trans rfl;have Ht:WM.cell? ⟨Kk,3,none⟩=some (.int .i64 0):=(ga nj.out 3).trans rfl;have Gv:WM.cell? ⟨Kk,4,none⟩=some (.int .i64 0):=(ga nj.out 4).trans rfl;have Ct:=aa nj.out 0;have Bt:=aa nj.out 1;have yt:=aa nj.out 2;have qt:=aa nj.out 3;have Pu:=aa nj.out 4;have Fy:WM.cell? ⟨Da,0,none⟩=some (.slice Eb Ta.length Db):=(ga za.out 0).trans rfl;have Ey:WM.cell? ⟨Da,1,none⟩=some (.int .i64 Pa):=(ga za.out 1).trans rfl;have Dy:WM.cell? ⟨Da,2,none⟩=some (.int .i64 Oa):=(ga za.out 2).trans rfl;have Cy:WM.cell? ⟨Da,3,none⟩=some (.int .i64 Ma):=(ga za.out 3).trans rfl;have Ay:WM.cell? ⟨Da,4,none⟩=some (.slice (some Wh) Ra.length Zb):=(ga za.out 4).trans rfl;have Yx:=aa za.out 0;have Xx:=aa za.out 1;have Wx:=aa za.out 2;have Vx:=aa za.out 3;have Ux:=aa za.out 4)|((with_reducible refine xb (f:=90) rfl ?_);refine qd (some 44) rfl rfl Try.func90 (by kernel_rfl) rfl #[.agg #[.slice Eb Ta.length Db,.int .i64 Pa,.int .i64 Oa,.int .i64 Ma,.slice (some Wh) Ra.length Zb],.agg #[.slice Cj ((Ua Ra Xe).f0).length yj,.int .i64 ((Ua Ra Xe).f1),.int .i64 ((Ua Ra Xe).f2),.int .i64 ((Ua Ra Xe).f3),.int .i64 ((Ua Ra Xe).f4)]] rfl (by (try simp only [List.map_toArray,List.map_cons,List.map_nil]);first|done|rfl|(simp only [List.length_drop,List.length_take];rfl)) ?_;(with_reducible refine (sj.calls _ _ Ta Pa Oa Ma _ _ Ra _ _ ((Ua Ra Xe).f0) ((Ua Ra Xe).f1) ((Ua Ra Xe).f2) ((Ua Ra Xe).f3) ((Ua Ra Xe).f4) true _ ?side1 ?side2 ?side3 ?side4 ?side5 ?side6 A22.out).mono ?_);(case side1=>exact Kd.Mb Uf.out (by repeat (first|(with_reducible first|exact HB.out|apply qa|apply ia|apply ua|refine Aa ?_ Wa.out|refine Aa ?_ Vs.out)|exact HB.out)));(case side2=>exact ig.out);(case side3=>exact Kd.Mb Zg.out (by repeat (first|(with_reducible first|exact HB.out|apply qa|apply ia|apply ua|refine Aa ?_ Wa.out|refine Aa ?_ Vs.out)|exact HB.out)));(case side4=>exact Li.out);(case side5=>exact Kd.Mb Fm.out (by repeat (first|(with_reducible first|exact HB.out|apply qa|apply ia|apply ua|refine Aa ?_ Wa.out|refine Aa ?_ Vs.out)|exact HB.out)));(case side6=>exact fo.out);rintro e xx ⟨rfl,hb⟩;refine ⟨_,rfl,?_⟩;have Qb:=ja.mk (Ya (g:=Da) (o:=.cells #[.slice Eb Ta.length Db,.int .i64 Pa,.int .i64 Oa,.int .i64 Ma,.slice (some Wh) Ra.length Zb] 30 (0,0)) (by (with_reducible repeat (first|refine Ga ?_ _|refine Ia ?_|refine Fa ?_ _));refine Tc ?_ di.out _;(with_reducible repeat (first|refine Ga ?_ _|refine Ia ?_|refine Fa ?_ _));refine Tc ?_ di.out _;(with_reducible repeat (first|refine Ga ?_ _|refine Ia ?_|refine Fa ?_ _));refine Tc ?_ di.out _;(with_reducible repeat (first|refine Ga ?_ _|refine Ia ?_|refine Fa ?_ _));refine Tc ?_ di.out _;(with_reducible repeat (first|refine Ga ?_ _|refine Ia ?_|refine Fa ?_ _));refine Tc ?_ di.out _;(with_reducible repeat (first|refine Ga ?_ _|refine Ia ?_|refine Fa ?_ _));exact za.out) hb);have uc:=ja.mk (Ya (g:=Kk) (o:=.cells #[.slice Cj ((Ua Ra Xe).f0).length yj,.int .i64 ((Ua Ra Xe).f1),.int .i64 ((Ua Ra Xe).f2),.int .i64 ((Ua Ra Xe).f3),.int .i64 ((Ua Ra Xe).f4)] 68 (0,0)) (by (with_reducible repeat (first|refine Ga ?_ _|refine Ia ?_|refine Fa ?_ _));refine zb (cs:=#[.slice Cj ((Ua Ra Xe).f0).length yj,.int .i64 ((Ua Ra Xe).f1),.int .i64 ((Ua Ra Xe).f2),.int .i64 ((Ua Ra Xe).f3),.int .i64 0]) ?_ 4 _ rfl;(with_reducible repeat (first|refine Ga ?_ _|refine Ia ?_|refine Fa ?_ _));refine zb (cs:=#[.slice Cj ((Ua Ra Xe).f0).length yj,.int .i64 ((Ua Ra Xe).f1),.int .i64 ((Ua Ra Xe).f2),.int .i64 0,.int .i64 0]) ?_ 3 _ rfl;(with_reducible repeat (first|refine Ga ?_ _|refine Ia ?_|refine Fa ?_ _));refine zb (cs:=#[.slice Cj ((Ua Ra Xe).f0).length yj,.int .i64 ((Ua Ra Xe).f1),.int .i64 0,.int .i64 0,.int .i64 0]) ?_ 2 _ rfl;(with_reducible repeat (first|refine Ga ?_ _|refine Ia ?_|refine Fa ?_ _));refine zb (cs:=#[.slice Cj ((Ua Ra Xe).f0).length yj,.int .i64 0,.int .i64 0,.int .i64 0,.int .i64 0]) ?_ 1 _ rfl;(with_reducible repeat (first|refine Ga ?_ _|refine Ia ?_|refine Fa ?_ _));refine zb (cs:=#[.slice none 0 0,.int .i64 0,.int .i64 0,.int .i64 0,.int .i64 0]) ?_ 0 _ rfl;(with_reducible repeat (first|refine Ga ?_ _|refine Ia ?_|refine Fa ?_ _));exact nj.out) hb);have Qc:=ja.mk (Na (by repeat (first|(with_reducible first|exact HB.out|apply qa|apply ia|apply ua|refine Aa ?_ Wa.out|refine Aa ?_ Vs.out)|exact HB.out)) hb);clear za nj HB;have za:=Qb;have nj:=uc;have HB:=Qc;clear Qb uc Qc;(try clear hb);(try clear hb2);(try clear hk);(try clear hi)))
          go_roundg k2
          case measure=>have:=HJ1.out;have:=IM.out;omega
          case rel=>exact ⟨(wrap64 (BJ + (((Ua Ra Xe).f0).length:Int))),(wrap64 (Xe + 1)),(by first|rfl|(simp;done)|(simp [*];done)),(by first|rfl|(simp;done)|(simp [*];done)),H',⟨by have:=HJ1.out;have:=IM.out;omega⟩,⟨by (with_reducible repeat (first|refine Ga ?_ _|refine Ia ?_|refine Fa ?_ _));exact za.out⟩,⟨by repeat (first|(with_reducible first|exact HB.out|apply qa|apply ia|apply ua|refine Aa ?_ Wa.out|refine Aa ?_ Vs.out)|exact HB.out)⟩⟩
         ·replace c23:=Bool.eq_false_iff.mpr c23
          subst c23
          have H1:(some false)=some r:=by rw [if_neg (show ¬ (false=true) by decide)] at H;exact H
          clear H
          have H:=H1
          clear H1
          obtain rfl:=Option.some.inj H
          have Zh:0 ≤ (Xe:Int):=of_decide_eq_true (by first|(with_reducible assumption)|assumption)
          have Yh:Xe < (Ra.length:Int):=of_decide_eq_true (by first|(with_reducible assumption)|assumption)
          obtain ⟨Wh,Cj,yj,Lo,ze,He,Ge,Fe,Ee,wh,xh⟩:=Zf Zg.out Xe Zh Yh
          cases Lo
          replace ze:=(HB.out.cell (World.block_lt_of_cell? w _ ze)).trans ze
          replace He:=(HB.out.cell (World.block_lt_of_cell? w _ He)).trans He
          replace Ge:=(HB.out.cell (World.block_lt_of_cell? w _ Ge)).trans Ge
          replace Fe:=(HB.out.cell (World.block_lt_of_cell? w _ Fe)).trans Fe
          replace Ee:=(HB.out.cell (World.block_lt_of_cell? w _ Ee)).trans Ee
          have Fm:=ja.mk xh
          have fo:=ja.mk wh
          clear xh wh
          replace Zh:=eq_true Zh
          replace Yh:=eq_true Yh
          go_wp2_with (first|((with_reducible refine Pb (N:=5) rfl ?_);(try (refine Wg (by rfl) ?_;dsimp only));refine Kb ?hg (N:=5) ?hd (cs:=#[.slice none 0 0,.int .i64 0,.int .i64 0,.int .i64 0,.int .i64 0]) (t:=68) ?hr ?_;(case hd=>rfl);(case hg=>rfl);(case hr=>first|(go_simp;done)|(go_simp;rfl));intro Kk hg sK Yb hb;have Qb:=ja.mk (Ya (g:=Da) (o:=.cells #[.slice Eb Ta.length Db,.int .i64 Pa,.int .i64 Oa,.int .i64 Ma,.slice (some Wh) Ra.length Zb] 30 (0,0)) (by (with_reducible repeat (first|refine Ga ?_ _|refine Ia ?_|refine Fa ?_ _));exact za.out) hb);have uc:=ja.mk (Na (by repeat (first|(with_reducible first|exact HB.out|apply qa|apply ia|apply ua|refine Aa ?_ Wa.out)|exact HB.out)) hb);have Qc:=ja.mk (Yb);have Td:=ja.mk ((by rw [hg];exact (Qa (by repeat (first|(with_reducible first|exact HB.out|apply qa|apply ia|apply ua|refine Aa ?_ Wa.out)|exact HB.out))):w.heap.size ≤ Kk));have dh:=ja.mk ((by rw [hg];exact (Qa (by repeat (first|(with_reducible first|exact HB.out|apply qa|apply ia|apply ua|refine Aa ?_ Wa.out)|exact HB.out))):w.heap.size ≤ Kk));have Eh:=ja.mk ((by rw [hg];exact Nat.ne_of_lt (Pc (g:=Da) (o:=.cells #[.slice Eb Ta.length Db,.int .i64 Pa,.int .i64 Oa,.int .i64 Ma,.slice (some Wh) Ra.length Zb] 30 (0,0)) (by (with_reducible repeat (first|refine Ga ?_ _|refine Ia ?_|refine Fa ?_ _));exact za.out)):Da ≠ Kk));have Kh:=ja.mk ((by rw [hg];exact Nat.ne_of_gt (Pc (g:=Da) (o:=.cells #[.slice Eb Ta.length Db,.int .i64 Pa,.int .i64 Oa,.int .i64 Ma,.slice (some Wh) Ra.length Zb] 30 (0,0)) (by (with_reducible repeat (first|refine Ga ?_ _|refine Ia ?_|refine Fa ?_ _));exact za.out)):Kk ≠ Da));clear za HB;have za:=Qb;have HB:=uc;have nj:=Qc;have J4:=Td;have Vs:=dh;have di:=Eh;have Nw:=Kh;clear Qb uc Qc Td dh Eh Kh hb Yb hg;have Yah:=Nw.out;have lah:=di.out;have zy:sK.cell? ⟨Kk,0,none⟩=some (.slice none 0 0):=(ga nj.out 0).trans rfl;have yy:sK.cell? ⟨Kk,1,none⟩=some (.int .i64 0):=(ga nj.out 1).trans rfl;have xy:sK.cell? ⟨Kk,2,none⟩=some (.int .i64 0):=(ga nj.out 2).trans rfl;have uy:sK.cell? ⟨Kk,3,none⟩=some (.int .i64 0):=(ga nj.out 3).trans rfl;have CC:sK.cell? ⟨Kk,4,none⟩=some (.int .i64 0):=(ga nj.out 4).trans rfl;have Tx:=aa nj.out 0;have Sx:=aa nj.out 1;have Rx:=aa nj.out 2;have Qx:=aa nj.out 3;have PB:=aa nj.out 4;have BC:sK.cell? ⟨Da,0,none⟩=some (.slice Eb Ta.length Db):=(ga za.out 0).trans rfl;have zC:sK.cell? ⟨Da,1,none⟩=some (.int .i64 Pa):=(ga za.out 1).trans rfl;have yC:sK.cell? ⟨Da,2,none⟩=some (.int .i64 Oa):=(ga za.out 2).trans rfl;have xC:sK.cell? ⟨Da,3,none⟩=some (.int .i64 Ma):=(ga za.out 3).trans rfl;have wC:sK.cell? ⟨Da,4,none⟩=some (.slice (some Wh) Ra.length Zb):=(ga za.out 4).trans rfl;have OB:=aa za.out 0;have NB:=aa za.out 1;have MB:=aa za.out 2;have LB:=aa za.out 3;have JB:=aa za.out 4)|((with_reducible refine xb (f:=90) rfl ?_);refine qd (some 44) rfl rfl Try.func90 (by kernel_rfl) rfl #[.agg #[.slice Eb Ta.length Db,.int .i64 Pa,.int .i64 Oa,.int .i64 Ma,.slice (some Wh) Ra.length Zb],.agg #[.slice Cj ((Ua Ra Xe).f0).length yj,.int .i64 ((Ua Ra Xe).f1),.int .i64 ((Ua Ra Xe).f2),.int .i64 ((Ua Ra Xe).f3),.int .i64 ((Ua Ra Xe).f4)]] rfl (by (try simp only [List.map_toArray,List.map_cons,List.map_nil]);first|done|rfl|(simp only [List.length_drop,List.length_take];rfl)) ?_;(with_reducible refine (sj.calls _ _ Ta Pa Oa Ma _ _ Ra _ _ ((Ua Ra Xe).f0) ((Ua Ra Xe).f1) ((Ua Ra Xe).f2) ((Ua Ra Xe).f3) ((Ua Ra Xe).f4) false _ ?side1 ?side2 ?side3 ?side4 ?side5 ?side6 A22.out).mono ?_);(case side1=>exact Kd.Mb Uf.out (by repeat (first|(with_reducible first|exact HB.out|apply qa|apply ia|apply ua|refine Aa ?_ Wa.out|refine Aa ?_ Vs.out)|exact HB.out)));(case side2=>exact ig.out);(case side3=>exact Kd.Mb Zg.out (by repeat (first|(with_reducible first|exact HB.out|apply qa|apply ia|apply ua|refine Aa ?_ Wa.out|refine Aa ?_ Vs.out)|exact HB.out)));(case side4=>exact Li.out);(case side5=>exact Kd.Mb Fm.out (by repeat (first|(with_reducible first|exact HB.out|apply qa|apply ia|apply ua|refine Aa ?_ Wa.out|refine Aa ?_ Vs.out)|exact HB.out)));(case side6=>exact fo.out);rintro e nK ⟨rfl,hb⟩;refine ⟨_,rfl,?_⟩;have Qb:=ja.mk (Ya (g:=Da) (o:=.cells #[.slice Eb Ta.length Db,.int .i64 Pa,.int .i64 Oa,.int .i64 Ma,.slice (some Wh) Ra.length Zb] 30 (0,0)) (by (with_reducible repeat (first|refine Ga ?_ _|refine Ia ?_|refine Fa ?_ _));refine Tc ?_ di.out _;(with_reducible repeat (first|refine Ga ?_ _|refine Ia ?_|refine Fa ?_ _));refine Tc ?_ di.out _;(with_reducible repeat (first|refine Ga ?_ _|refine Ia ?_|refine Fa ?_ _));refine Tc ?_ di.out _;(with_reducible repeat (first|refine Ga ?_ _|refine Ia ?_|refine Fa ?_ _));refine Tc ?_ di.out _;(with_reducible repeat (first|refine Ga ?_ _|refine Ia ?_|refine Fa ?_ _));refine Tc ?_ di.out _;(with_reducible repeat (first|refine Ga ?_ _|refine Ia ?_|refine Fa ?_ _));exact za.out) hb);have uc:=ja.mk (Ya (g:=Kk) (o:=.cells #[.slice Cj ((Ua Ra Xe).f0).length yj,.int .i64 ((Ua Ra Xe).f1),.int .i64 ((Ua Ra Xe).f2),.int .i64 ((Ua Ra Xe).f3),.int .i64 ((Ua Ra Xe).f4)] 68 (0,0)) (by (with_reducible repeat (first|refine Ga ?_ _|refine Ia ?_|refine Fa ?_ _));refine zb (cs:=#[.slice Cj ((Ua Ra Xe).f0).length yj,.int .i64 ((Ua Ra Xe).f1),.int .i64 ((Ua Ra Xe).f2),.int .i64 ((Ua Ra Xe).f3),.int .i64 0]) ?_ 4 _ rfl;(with_reducible repeat (first|refine Ga ?_ _|refine Ia ?_|refine Fa ?_ _));refine zb (cs:=#[.slice Cj ((Ua Ra Xe).f0).length yj,.int .i64 ((Ua Ra Xe).f1),.int .i64 ((Ua Ra Xe).f2),.int .i64 0,.int .i64 0]) ?_ 3 _ rfl;(with_reducible repeat (first|refine Ga ?_ _|refine Ia ?_|refine Fa ?_ _));refine zb (cs:=#[.slice Cj ((Ua Ra Xe).f0).length yj,.int .i64 ((Ua Ra Xe).f1),.int .i64 0,.int .i64 0,.int .i64 0]) ?_ 2 _ rfl;(with_reducible repeat (first|refine Ga ?_ _|refine Ia ?_|refine Fa ?_ _));refine zb (cs:=#[.slice Cj ((Ua Ra Xe).f0).length yj,.int .i64 0,.int .i64 0,.int .i64 0,.int .i64 0]) ?_ 1 _ rfl;(with_reducible repeat (first|refine Ga ?_ _|refine Ia ?_|refine Fa ?_ _));refine zb (cs:=#[.slice none 0 0,.int .i64 0,.int .i64 0,.int .i64 0,.int .i64 0]) ?_ 0 _ rfl;(with_reducible repeat (first|refine Ga ?_ _|refine Ia ?_|refine Fa ?_ _));exact nj.out) hb);have Qc:=ja.mk (Na (by repeat (first|(with_reducible first|exact HB.out|apply qa|apply ia|apply ua|refine Aa ?_ Wa.out|refine Aa ?_ Vs.out)|exact HB.out)) hb);clear za nj HB;have za:=Qb;have nj:=uc;have HB:=Qc;clear Qb uc Qc;(try clear hb);(try clear hb2);(try clear hk);(try clear hi)))
          go_ret
          exact ⟨by first|rfl|(simp [La,Ka] <;> rfl)|(simp [*,La,Ka] <;> rfl),by repeat (first|(with_reducible first|exact HB.out|apply qa|apply ia|apply ua|refine Aa ?_ Wa.out|refine Aa ?_ Vs.out)|exact HB.out)⟩
        ·rw [if_neg c21] at H
         exact absurd H (by simp)
       ·rw [if_neg c20] at H
        exact absurd H (by simp)
      ·rw [if_neg c19] at H
       have jM:decide (Xe < (Ra.length:Int))=false:=decide_eq_false c19
       clear c19
       obtain rfl:=Option.some.inj H
       go_wp2
       go_ret
       exact ⟨by first|rfl|(simp [La,Ka] <;> rfl)|(simp [*,La,Ka] <;> rfl),by repeat (first|(with_reducible first|exact HB.out|apply qa|apply ia|apply ua|refine Aa ?_ Wa.out)|exact HB.out)⟩
def Fq.f (Yc:Int) (Pa:Int) (Oa:Int) (Ma:Int) (Vc:Int) (ke:Int) (Le:ByteArray):Option (Int):=if Yc=4 then (some (-1)) else (if Yc=6 then (some (-1)) else (some Pa))
theorem Fq.calls (Yc:Int) (Pa:Int) (Oa:Int) (Ma:Int) (Vc:Int) (ke:Int) (Le:ByteArray) (r:Int) (w:World) (h:Fq.f Yc Pa Oa Ma Vc ke Le=some r) :
  Calls Try.prog 91 #[.agg #[.int .i64 Yc,.int .i64 Pa,.int .i64 Oa,.int .i64 Ma,.int .i64 Vc,.int .i64 ke,.string Le]] w fun e w'=>e = .returned (.int .i64 r)∧Below w.heap.size w w':=by
 have MD:=Try.underlying70
 have HB:=ja.mk (Below.refl w.heap.size w)
 have H:(if Yc=4 then (some (-1)) else (if Yc=6 then (some (-1)) else (some Pa)))=some r:=h
 clear h
 by_cases c2:Yc=4
 ·rw [if_pos c2] at H
  have nA:(Yc == 4)=true:=beq_iff_eq.mpr c2
  have XF:(Yc != 4)=false:=bne_eq_false_iff_eq.mpr c2
  clear c2
  obtain rfl:=Option.some.inj H
  go_enter Try.func91,Try.ntmps91
  go_wp2_with (first|((with_reducible refine Pb (N:=1) rfl ?_);refine Kb ?hg (N:=1) ?hd (cs:=#[.int .i64 Yc,.int .i64 Pa,.int .i64 Oa,.int .i64 Ma,.int .i64 Vc,.int .i64 ke,.string Le]) (t:=70) ?hr ?_;(case hd=>rfl);(case hg=>rfl);(case hr=>first|(go_simp;done)|(go_simp;rfl));intro Da hg w3 Yb hb;have Qb:=ja.mk (Na (by repeat (first|(with_reducible first|exact HB.out|apply qa|apply ia|apply ua)|exact HB.out)) hb);have uc:=ja.mk (Yb);have Qc:=ja.mk ((by rw [hg];exact (Qa (by repeat (first|(with_reducible first|exact HB.out|apply qa|apply ia|apply ua)|exact HB.out))):w.heap.size ≤ Da));have Td:=ja.mk ((by rw [hg];exact (Qa (by repeat (first|(with_reducible first|exact HB.out|apply qa|apply ia|apply ua)|exact HB.out))):w.heap.size ≤ Da));clear HB;have HB:=Qb;have za:=uc;have Vf:=Qc;have Wa:=Td;clear Qb uc Qc Td hb Yb hg;have iaf:w3.cell? ⟨Da,0,none⟩=some (.int .i64 Yc):=(ga za.out 0).trans rfl;have haf:w3.cell? ⟨Da,1,none⟩=some (.int .i64 Pa):=(ga za.out 1).trans rfl;have gaf:w3.cell? ⟨Da,2,none⟩=some (.int .i64 Oa):=(ga za.out 2).trans rfl;have faf:w3.cell? ⟨Da,3,none⟩=some (.int .i64 Ma):=(ga za.out 3).trans rfl;have eaf:w3.cell? ⟨Da,4,none⟩=some (.int .i64 Vc):=(ga za.out 4).trans rfl;have daf:w3.cell? ⟨Da,5,none⟩=some (.int .i64 ke):=(ga za.out 5).trans rfl;have caf:w3.cell? ⟨Da,6,none⟩=some (.string Le):=(ga za.out 6).trans rfl;have Sae:=aa za.out 0;have Rae:=aa za.out 1;have Qae:=aa za.out 2;have Pae:=aa za.out 3;have Oae:=aa za.out 4;have Nae:=aa za.out 5;have Mae:=aa za.out 6))
  go_ret
  exact ⟨by first|rfl|(simp [La,Ka] <;> rfl)|(simp [*,La,Ka] <;> rfl),by repeat (first|(with_reducible first|exact HB.out|apply qa|apply ia|apply ua|refine Aa ?_ Wa.out)|exact HB.out)⟩
 ·rw [if_neg c2] at H
  have nA:(Yc == 4)=false:=beq_eq_false_iff_ne.mpr c2
  have XF:(Yc != 4)=true:=bne_iff_ne.mpr c2
  by_cases c5:Yc=6
  ·rw [if_pos c5] at H
   have Ok:(Yc == 6)=true:=beq_iff_eq.mpr c5
   have Yp:(Yc != 6)=false:=bne_eq_false_iff_eq.mpr c5
   clear c5
   obtain rfl:=Option.some.inj H
   go_enter Try.func91,Try.ntmps91
   go_wp2_with (first|((with_reducible refine Pb (N:=1) rfl ?_);refine Kb ?hg (N:=1) ?hd (cs:=#[.int .i64 Yc,.int .i64 Pa,.int .i64 Oa,.int .i64 Ma,.int .i64 Vc,.int .i64 ke,.string Le]) (t:=70) ?hr ?_;(case hd=>rfl);(case hg=>rfl);(case hr=>first|(go_simp;done)|(go_simp;rfl));intro Da hg w6 Yb hb;have Qb:=ja.mk (Na (by repeat (first|(with_reducible first|exact HB.out|apply qa|apply ia|apply ua)|exact HB.out)) hb);have uc:=ja.mk (Yb);have Qc:=ja.mk ((by rw [hg];exact (Qa (by repeat (first|(with_reducible first|exact HB.out|apply qa|apply ia|apply ua)|exact HB.out))):w.heap.size ≤ Da));have Td:=ja.mk ((by rw [hg];exact (Qa (by repeat (first|(with_reducible first|exact HB.out|apply qa|apply ia|apply ua)|exact HB.out))):w.heap.size ≤ Da));clear HB;have HB:=Qb;have za:=uc;have Vf:=Qc;have Wa:=Td;clear Qb uc Qc Td hb Yb hg;have tr:w6.cell? ⟨Da,0,none⟩=some (.int .i64 Yc):=(ga za.out 0).trans rfl;have sr:w6.cell? ⟨Da,1,none⟩=some (.int .i64 Pa):=(ga za.out 1).trans rfl;have nr:w6.cell? ⟨Da,2,none⟩=some (.int .i64 Oa):=(ga za.out 2).trans rfl;have kr:w6.cell? ⟨Da,3,none⟩=some (.int .i64 Ma):=(ga za.out 3).trans rfl;have jr:w6.cell? ⟨Da,4,none⟩=some (.int .i64 Vc):=(ga za.out 4).trans rfl;have EL:w6.cell? ⟨Da,5,none⟩=some (.int .i64 ke):=(ga za.out 5).trans rfl;have DL:w6.cell? ⟨Da,6,none⟩=some (.string Le):=(ga za.out 6).trans rfl;have Kq:=aa za.out 0;have Jq:=aa za.out 1;have Iq:=aa za.out 2;have Hq:=aa za.out 3;have Gq:=aa za.out 4;have rL:=aa za.out 5;have qL:=aa za.out 6))
   go_ret
   exact ⟨by first|rfl|(simp [La,Ka] <;> rfl)|(simp [*,La,Ka] <;> rfl),by repeat (first|(with_reducible first|exact HB.out|apply qa|apply ia|apply ua|refine Aa ?_ Wa.out)|exact HB.out)⟩
  ·rw [if_neg c5] at H
   have Ok:(Yc == 6)=false:=beq_eq_false_iff_ne.mpr c5
   have Yp:(Yc != 6)=true:=bne_iff_ne.mpr c5
   obtain rfl:=Option.some.inj H
   go_enter Try.func91,Try.ntmps91
   go_wp2_with (first|((with_reducible refine Pb (N:=1) rfl ?_);refine Kb ?hg (N:=1) ?hd (cs:=#[.int .i64 Yc,.int .i64 Pa,.int .i64 Oa,.int .i64 Ma,.int .i64 Vc,.int .i64 ke,.string Le]) (t:=70) ?hr ?_;(case hd=>rfl);(case hg=>rfl);(case hr=>first|(go_simp;done)|(go_simp;rfl));intro Da hg w8 Yb hb;have Qb:=ja.mk (Na (by repeat (first|(with_reducible first|exact HB.out|apply qa|apply ia|apply ua)|exact HB.out)) hb);have uc:=ja.mk (Yb);have Qc:=ja.mk ((by rw [hg];exact (Qa (by repeat (first|(with_reducible first|exact HB.out|apply qa|apply ia|apply ua)|exact HB.out))):w.heap.size ≤ Da));have Td:=ja.mk ((by rw [hg];exact (Qa (by repeat (first|(with_reducible first|exact HB.out|apply qa|apply ia|apply ua)|exact HB.out))):w.heap.size ≤ Da));clear HB;have HB:=Qb;have za:=uc;have Vf:=Qc;have Wa:=Td;clear Qb uc Qc Td hb Yb hg;have Ko:w8.cell? ⟨Da,0,none⟩=some (.int .i64 Yc):=(ga za.out 0).trans rfl;have Jo:w8.cell? ⟨Da,1,none⟩=some (.int .i64 Pa):=(ga za.out 1).trans rfl;have Io:w8.cell? ⟨Da,2,none⟩=some (.int .i64 Oa):=(ga za.out 2).trans rfl;have Ho:w8.cell? ⟨Da,3,none⟩=some (.int .i64 Ma):=(ga za.out 3).trans rfl;have Fo:w8.cell? ⟨Da,4,none⟩=some (.int .i64 Vc):=(ga za.out 4).trans rfl;have DT:w8.cell? ⟨Da,5,none⟩=some (.int .i64 ke):=(ga za.out 5).trans rfl;have CT:w8.cell? ⟨Da,6,none⟩=some (.string Le):=(ga za.out 6).trans rfl;have Eo:=aa za.out 0;have Co:=aa za.out 1;have Bo:=aa za.out 2;have Ao:=aa za.out 3;have zo:=aa za.out 4;have mT:=aa za.out 5;have lT:=aa za.out 6))
   go_ret
   exact ⟨by first|rfl|(simp [La,Ka] <;> rfl)|(simp [*,La,Ka] <;> rfl),by repeat (first|(with_reducible first|exact HB.out|apply qa|apply ia|apply ua|refine Aa ?_ Wa.out)|exact HB.out)⟩
def pq.f (a0:ByteArray) (a1:Int) (a2:Int):Option (Int):=if a0.toList=([43]:List UInt8) then (some (wrap64 (a1 + a2))) else (if a0.toList=([45]:List UInt8) then (some (wrap64 (a1 - a2))) else (if a0.toList=([42]:List UInt8) then (some (wrap64 (a1 * a2))) else (if a0.toList=([38]:List UInt8) then (some (Go.bits .and .i64 a1 a2)) else (if a0.toList=([61,61]:List UInt8) then (if a1=a2 then (some 1) else (some 0)) else (if a0.toList=([60]:List UInt8) then (if a1 < a2 then (some 1) else (some 0)) else (some 0))))))
theorem pq.calls (a0:ByteArray) (a1:Int) (a2:Int) (r:Int) (w:World) (h:pq.f a0 a1 a2=some r) :
  Calls Try.prog 119 #[.string a0,.int .i64 a1,.int .i64 a2] w fun e w'=>e = .returned (.int .i64 r)∧jc w w':=by
 have H:(if a0.toList=([43]:List UInt8) then (some (wrap64 (a1 + a2))) else (if a0.toList=([45]:List UInt8) then (some (wrap64 (a1 - a2))) else (if a0.toList=([42]:List UInt8) then (some (wrap64 (a1 * a2))) else (if a0.toList=([38]:List UInt8) then (some (Go.bits .and .i64 a1 a2)) else (if a0.toList=([61,61]:List UInt8) then (if a1=a2 then (some 1) else (some 0)) else (if a0.toList=([60]:List UInt8) then (if a1 < a2 then (some 1) else (some 0)) else (some 0)))))))=some r:=h
 clear h
 by_cases c4:a0.toList=([43]:List UInt8)
 ·rw [if_pos c4] at H
  have si:(a0.toList == ([43]:List UInt8))=true:=beq_iff_eq.mpr c4
  have lE:(a0.toList != ([43]:List UInt8))=false:=bne_eq_false_iff_eq.mpr c4
  clear c4
  obtain rfl:=Option.some.inj H
  go_enter Try.func119,Try.ntmps119
  go_wp2
  go_ret
  exact ⟨by first|rfl|(simp;done)|(simp [*];done),by repeat (first|exact jc.refl _|apply jc.step)⟩
 ·rw [if_neg c4] at H
  have si:(a0.toList == ([43]:List UInt8))=false:=beq_eq_false_iff_ne.mpr c4
  have lE:(a0.toList != ([43]:List UInt8))=true:=bne_iff_ne.mpr c4
  by_cases c5:a0.toList=([45]:List UInt8)
  ·rw [if_pos c5] at H
   have Ok:(a0.toList == ([45]:List UInt8))=true:=beq_iff_eq.mpr c5
   have Yp:(a0.toList != ([45]:List UInt8))=false:=bne_eq_false_iff_eq.mpr c5
   clear c5
   obtain rfl:=Option.some.inj H
   go_enter Try.func119,Try.ntmps119
   go_wp2
   go_ret
   exact ⟨by first|rfl|(simp;done)|(simp [*];done),by repeat (first|exact jc.refl _|apply jc.step)⟩
  ·rw [if_neg c5] at H
   have Ok:(a0.toList == ([45]:List UInt8))=false:=beq_eq_false_iff_ne.mpr c5
   have Yp:(a0.toList != ([45]:List UInt8))=true:=bne_iff_ne.mpr c5
   by_cases c6:a0.toList=([42]:List UInt8)
   ·rw [if_pos c6] at H
    have El:(a0.toList == ([42]:List UInt8))=true:=beq_iff_eq.mpr c6
    have Ts:(a0.toList != ([42]:List UInt8))=false:=bne_eq_false_iff_eq.mpr c6
    clear c6
    obtain rfl:=Option.some.inj H
    go_enter Try.func119,Try.ntmps119
    go_wp2
    go_ret
    exact ⟨by first|rfl|(simp;done)|(simp [*];done),by repeat (first|exact jc.refl _|apply jc.step)⟩
   ·rw [if_neg c6] at H
    have El:(a0.toList == ([42]:List UInt8))=false:=beq_eq_false_iff_ne.mpr c6
    have Ts:(a0.toList != ([42]:List UInt8))=true:=bne_iff_ne.mpr c6
    by_cases c7:a0.toList=([38]:List UInt8)
    ·rw [if_pos c7] at H
     have Uo:(a0.toList == ([38]:List UInt8))=true:=beq_iff_eq.mpr c7
     have qu:(a0.toList != ([38]:List UInt8))=false:=bne_eq_false_iff_eq.mpr c7
     clear c7
     obtain rfl:=Option.some.inj H
     go_enter Try.func119,Try.ntmps119
     go_wp2
     go_ret
     exact ⟨by first|rfl|(simp;done)|(simp [*];done),by repeat (first|exact jc.refl _|apply jc.step)⟩
    ·rw [if_neg c7] at H
     have Uo:(a0.toList == ([38]:List UInt8))=false:=beq_eq_false_iff_ne.mpr c7
     have qu:(a0.toList != ([38]:List UInt8))=true:=bne_iff_ne.mpr c7
     by_cases c8:a0.toList=([61,61]:List UInt8)
     ·rw [if_pos c8] at H
      have Yl:(a0.toList == ([61,61]:List UInt8))=true:=beq_iff_eq.mpr c8
      have sq:(a0.toList != ([61,61]:List UInt8))=false:=bne_eq_false_iff_eq.mpr c8
      clear c8
      by_cases c9:a1=a2
      ·rw [if_pos c9] at H
       have Az:(a1 == a2)=true:=beq_iff_eq.mpr c9
       have YC:(a1 != a2)=false:=bne_eq_false_iff_eq.mpr c9
       clear c9
       obtain rfl:=Option.some.inj H
       go_enter Try.func119,Try.ntmps119
       go_wp2
       go_ret
       exact ⟨by first|rfl|(simp;done)|(simp [*];done),by repeat (first|exact jc.refl _|apply jc.step)⟩
      ·rw [if_neg c9] at H
       have Az:(a1 == a2)=false:=beq_eq_false_iff_ne.mpr c9
       have YC:(a1 != a2)=true:=bne_iff_ne.mpr c9
       obtain rfl:=Option.some.inj H
       go_enter Try.func119,Try.ntmps119
       go_wp2
       go_ret
       exact ⟨by first|rfl|(simp;done)|(simp [*];done),by repeat (first|exact jc.refl _|apply jc.step)⟩
     ·rw [if_neg c8] at H
      have Yl:(a0.toList == ([61,61]:List UInt8))=false:=beq_eq_false_iff_ne.mpr c8
      have sq:(a0.toList != ([61,61]:List UInt8))=true:=bne_iff_ne.mpr c8
      by_cases aq:a0.toList=([60]:List UInt8)
      ·rw [if_pos aq] at H
       have mw:(a0.toList == ([60]:List UInt8))=true:=beq_iff_eq.mpr aq
       have Ez:(a0.toList != ([60]:List UInt8))=false:=bne_eq_false_iff_eq.mpr aq
       clear aq
       by_cases c11:a1 < a2
       ·rw [if_pos c11] at H
        have GA:decide (a1 < a2)=true:=decide_eq_true c11
        clear c11
        obtain rfl:=Option.some.inj H
        go_enter Try.func119,Try.ntmps119
        go_wp2
        go_ret
        exact ⟨by first|rfl|(simp;done)|(simp [*];done),by repeat (first|exact jc.refl _|apply jc.step)⟩
       ·rw [if_neg c11] at H
        have GA:decide (a1 < a2)=false:=decide_eq_false c11
        clear c11
        obtain rfl:=Option.some.inj H
        go_enter Try.func119,Try.ntmps119
        go_wp2
        go_ret
        exact ⟨by first|rfl|(simp;done)|(simp [*];done),by repeat (first|exact jc.refl _|apply jc.step)⟩
      ·rw [if_neg aq] at H
       have mw:(a0.toList == ([60]:List UInt8))=false:=beq_eq_false_iff_ne.mpr aq
       have Ez:(a0.toList != ([60]:List UInt8))=true:=bne_iff_ne.mpr aq
       obtain rfl:=Option.some.inj H
       go_enter Try.func119,Try.ntmps119
       go_wp2
       go_ret
       exact ⟨by first|rfl|(simp;done)|(simp [*];done),by repeat (first|exact jc.refl _|apply jc.step)⟩
def KV (W:World) (B kb:Nat) (v:Value) (xs:List mm) (nx:Int):Prop:=B ≤ kb∧W.heap[kb]? = some (.cells #[v,.int .i64 nx] 74 (0,0))∧Kd.R CN 79 W B (fun _=>True) v xs
def KS (W:World) (B kb:Nat) (xs:List mm) (nx:Int):Prop:=∃ v,KV W B kb v xs nx
theorem KV.below {W W':World} {B kb:Nat} {v:Value} {xs:List mm} {nx:Int} (h:KV W B kb v xs nx) (hb:Below W.heap.size W W'):KV W' B kb v xs nx:=⟨h.1,Ya h.2.1 hb,Kd.Ue h.2.2 hb⟩
section
variable {W W':World} {B kb:Nat} {xs:List mm} {nx:Int}
theorem KS.below (h:KS W B kb xs nx) (hb:Below W.heap.size W W'):KS W' B kb xs nx:=by
 obtain ⟨v,h⟩:=h
 exact ⟨v,h.below hb⟩
theorem KS.alloc (h:KS W B kb xs nx) (o:Obj):KS (W.alloc o) B kb xs nx:=h.below (qa (Below.refl _ _) o)
theorem KS.drew (h:KS W B kb xs nx):KS W.drew B kb xs nx:=h.below (Oo (Below.refl _ _))
theorem KS.drewN (h:KS W B kb xs nx) (n:Nat):KS (W.drewN n) B kb xs nx:=h.below (ia (Below.refl _ _) n)
theorem KS.kept {S:Nat→Prop} (h:KS W B kb xs nx) (hk:Kept W W' S) (hS:∀ k,S k→∃ cells t,W.heap[k]? = some (.cells cells t (0,0))∧t ≠ 74∧t ≠ 79):KS W' B kb xs nx:=by
 obtain ⟨v,h0,h1,h2⟩:=h
 refine ⟨v,h0,Yf h1 hk ?_,Kd.Hg (Kd.dm (Kd.zj h2) hk ?_) (fun _ _=>trivial)⟩
 ·intro hs
  obtain ⟨cells,t,hc,ht,_⟩:=hS kb hs
  rw [h1] at hc
  injection hc with hc
  injection hc with _ hc
  exact ht hc.symm
 ·rintro k ⟨_,_,_,q,hq,cells',hc'⟩ hs
  obtain ⟨cells,t,hc,_,ht⟩:=hS k hs
  rw [hc'] at hc
  injection hc with hc
  injection hc with _ hc
  have:q=79:=by simpa [CN,Kd.JG,Kd.pair,Kd.int,Kd.scalar] using hq
  exact ht (hc.symm.trans this)
end
def idents (n:Nat):List mm:=(List.range n).map fun (j:Nat)=>(⟨(j:Int),0⟩:mm)
theorem Lh (n:Nat):(idents n).length=n:=by simp [idents]
theorem Xw (n j:Nat) (h:j < n):(idents n).take (j + 1)=(idents n).take j ++ [⟨(j:Int),0⟩]:=by
 rw [List.take_succ_eq_append_getElem (by rw [Lh];exact h)]
 simp [idents]
theorem vo (A0 A4:Option Addr) (c0 c4 n0 n4:Nat) (p1 p2:Int) (n:Nat) (hn:n ≤ 1000) (w:World) :
  Calls Try.prog 59 #[.agg #[.slice A0 n0 c0,.int .i64 p1,.int .i64 p2,.int .i64 n,.slice A4 n4 c4]] w fun e w'=>∃ kb,e = .returned (.pointer (some ⟨kb,0,none⟩))∧KS w' w.heap.size kb (idents n) n∧Below w.heap.size w w':=by
 go_enter Try.func59,Try.ntmps59
 go_wp2
 have HS:=ja.mk (show KS ((w.alloc (.cells #[.slice A0 n0 c0,.int .i64 p1,.int .i64 p2,.int .i64 n,.slice A4 n4 c4] 30 (0,0))).alloc (.cells #[.slice none 0 0,.int .i64 n] 74 (0,0))) w.heap.size (w.heap.size + 1) ((idents n).take 0) n from ⟨_,by omega,by have:=Me (w.alloc (.cells #[.slice A0 n0 c0,.int .i64 p1,.int .i64 p2,.int .i64 n,.slice A4 n4 c4] 30 (0,0))) (.cells #[.slice none 0 0,.int .i64 n] 74 (0,0));simpa using this,Kd.nw _ _ _ _ _⟩)
 have HB:=ja.mk (qa (qa (Below.refl w.heap.size w) (.cells #[.slice A0 n0 c0,.int .i64 p1,.int .i64 p2,.int .i64 n,.slice A4 n4 c4] 30 (0,0))) (.cells #[.slice none 0 0,.int .i64 n] 74 (0,0)))
 go_loopg [11] n (fun gg v11 wr=>∃ j:Nat,j ≤ n∧n - j ≤ gg∧v11 = .int .i64 j∧ja (KS wr w.heap.size (w.heap.size + 1) ((idents n).take j) n)∧ja (Below w.heap.size w wr))
 case atStart=>exact ⟨0,Nat.zero_le _,by omega,rfl,HS,HB⟩
 case round =>
  clear HS HB
  (try clear HS)
  (try clear HB)
  obtain ⟨j,hj,hg,rfl,HS,HB⟩:=hrel
  by_cases hlt:j < n
  ·have wB:decide ((j:Int) < (n:Int))=true:=decide_eq_true (by omega)
   obtain ⟨v,h0,h1,h2⟩:=HS.out
   have HR:=ja.mk h2
   have H1:=ja.mk h1
   have hc0:=(ga h1 0).trans rfl
   have hf0:=aa h1 0
   clear h1 h2
   obtain ⟨y,hy⟩:∃ y_:List mm,y_=(idents n).take (j + 1):=⟨_,rfl⟩
   have Ny:=ja.mk hy
   clear hy
   go_wp2_with (first|(at_builtin;refine Kd.Us CN (w0:=wr) w.heap.size rfl (.tmp 18) (.tmp 21) 72 79 (.agg #[(.int .i64 0),(.int .i64 0)]) 16 rfl Try.underlying72 NS rfl (by decide) (by omega) v ((idents n).take j) (⟨(j:Int),0⟩:mm) [.int .i64 (j:Int),.int .i64 0] (fun _=>True) (fun _=>False) rfl rfl ?aP (fun _ hk=>hk.elim) (fun _ _=>trivial) HR.out (Below.refl _ _) HB.out.size ?aL ?_;(case aP=>exact FG _ _ _ (⟨(j:Int),0⟩:mm));(case aL=>rw [List.length_take,Lh];omega);intro v1 w1 ho hb hgr hat;rw [← Xw n j hlt,← Ny.out] at ho;have lG:=ja.mk ho;have H11:=ja.mk (Jw H1.out hgr (Kd.oE HR.out H1.out (by decide)));have Oz:=ja.mk (HB.out.grown hgr HB.out.size (fun k e=>by obtain ⟨inner,hi⟩:=Kd.ju HR.out;exact Ks hi k e));obtain ⟨A1,c1,rfl⟩:=Kd.Mf ho;have XI:=(ga H11.out 0).trans rfl;have hf1:=aa H11.out 0;clear ho hb hgr hat))
   go_roundg (n - (j + 1))
   case measure=>omega
   case rel =>
    refine ⟨j + 1,by omega,by omega,by go_num,⟨?_⟩,⟨Oz.out.setCell (by simp) _⟩⟩
    rw [← Ny.out]
    exact ⟨_,by omega,aD H11.out 0 _,Kd.Hg (Kd.Qk (p:=⟨w.heap.size + 1,0,none⟩) (Kd.Np lG.out H11.out (by decide)) (fun _ hk=>hk.2) _) (fun _ _=>trivial)⟩
  ·have wB:decide ((j:Int) < (n:Int))=false:=decide_eq_false (by omega)
   obtain rfl:j=n:=by omega
   go_wp2
   go_ret
   exact ⟨_,rfl,by have:=HS.out;rw [List.take_of_length_le (by rw [Lh];omega)] at this;exact this,HB.out⟩
end Go.Proofs.Ytmifdccaajngcaa.P
end
section
namespace Go.Proofs.Ytmifdccaajngcaa.P
open Go.RowKit Go.Proofs.Sa.Ec Go.Proofs.Sa.Bf Go.Proofs.Sa.Yg
set_option linter.unusedVariables false
set_option linter.unusedSimpArgs false
def aG (t:ByteArray) (a b:Int):Int:=(pq.f t a b).getD 0
theorem mE (t:ByteArray) (a b:Int):pq.f t a b=some (aG t a b):=by
 unfold aG pq.f
 repeat' split
 all_goals rfl
theorem Zl (t:ByteArray) (a b:Int) (w:World):Calls Try.prog 119 #[.string t,.int .i64 a,.int .i64 b] w fun e w'=>e = .returned (.int .i64 (aG t a b))∧jc w w':=pq.calls t a b _ w (mE t a b)
def Bx (t:ByteArray) (a b:mm):Option mm :=
 if a.f0 = -1∧b.f0 = -1 then some ⟨-1,aG t a.f1 b.f1⟩
 else if t.toList=[43]∧a.f0 = -1 then some ⟨b.f0,wrap64 (a.f1 + b.f1)⟩
 else if t.toList=[43]∧b.f0 = -1 then some ⟨a.f0,wrap64 (a.f1 + b.f1)⟩
 else if t.toList=[45]∧b.f0 = -1 then some ⟨a.f0,wrap64 (a.f1 - b.f1)⟩
 else if t.toList=[45]∧a.f0=b.f0 then some ⟨-1,wrap64 (a.f1 - b.f1)⟩
 else none
def wo (xs:List mm) (nx:Int) (x:yf):mm × Int :=
 if x.f0=0 then (⟨-1,x.f5⟩,nx)
 else if x.f0=1 then (jb xs x.f2,nx)
 else if x.f0=2 then
  match Bx x.f6 (jb xs x.f2) (jb xs x.f3) with
  | some s=>(s,nx)
  | none=>(⟨nx,0⟩,nx + 1)
 else (⟨nx,0⟩,nx + 1)
section
variable {W:World} {B kb:Nat} {v:Value} {xs:List mm} {nx:Int}
theorem jN (hk:KV W B kb v xs nx) (d a b c n:Int) (t:ByteArray) :
  Calls Try.prog 92 #[.pointer (some ⟨kb,0,none⟩),.agg #[.int .i64 0,.int .i64 d,.int .i64 a,.int .i64 b,.int .i64 c,.int .i64 n,.string t]] W fun e w'=>e = .returned (.agg #[.int .i64 (-1),.int .i64 n])∧Below W.heap.size W w':=by
 obtain ⟨hB,h2,h3⟩:=hk
 have bN:=ja.mk h2
 have hlt:=Pc h2
 obtain ⟨W1,hW1⟩:∃ W1,W1=(W.alloc (.cells #[.int .i64 0,.int .i64 d,.int .i64 a,.int .i64 b,.int .i64 c,.int .i64 n,.string t] 70 (0,0))).alloc (.cells #[.int .i64 0,.int .i64 0] 79 (0,0)):=⟨_,rfl⟩
 have HW:=ja.mk hW1
 have Bl:Below W.heap.size W W1:=by rw [hW1];exact qa (qa (Below.refl _ _) _) _
 have hz:W1.heap.size=W.heap.size + 2:=by rw [hW1];simp
 have Ig:=ja.mk (Ya h2 Bl)
 have oD:=(ga Ig.out 0).trans rfl
 have hk1:=(ga Ig.out 1).trans rfl
 have TW:=aa Ig.out 1
 have iq:W1.heap[W.heap.size + 1]? = some (.cells #[.int .i64 0,.int .i64 0] 79 (0,0)):=by rw [hW1];have:=Me (W.alloc (.cells #[.int .i64 0,.int .i64 d,.int .i64 a,.int .i64 b,.int .i64 c,.int .i64 n,.string t] 70 (0,0))) (.cells #[.int .i64 0,.int .i64 0] 79 (0,0));simpa using this
 have Bi:W1.heap[W.heap.size]? = some (.cells #[.int .i64 0,.int .i64 d,.int .i64 a,.int .i64 b,.int .i64 c,.int .i64 n,.string t] 70 (0,0)):=by rw [hW1];exact Fa (Me _ _) _
 have HR:=ja.mk iq
 have HX:=ja.mk Bi
 have hr0:=(ga iq 0).trans rfl
 have Mn:=(ga iq 1).trans rfl
 have Xl:=aa iq 0
 have Wl:=aa iq 1
 have hx0:=(ga Bi 0).trans rfl
 have hx1:=(ga Bi 1).trans rfl
 have Ek:=(ga Bi 2).trans rfl
 have jk:=(ga Bi 3).trans rfl
 have Dk:=(ga Bi 4).trans rfl
 have Um:=(ga Bi 5).trans rfl
 have zm:=(ga Bi 6).trans rfl
 have HB:=ja.mk Bl
 have oL:kb ≠ W1.heap.size:=by omega
 have nL:kb ≠ W1.heap.size + 1:=by omega
 have hw1:W.heap.size ≠ W1.heap.size:=by omega
 have gV:W.heap.size ≠ W1.heap.size + 1:=by omega
 have fV:W.heap.size + 1 ≠ W1.heap.size:=by omega
 have eV:W.heap.size + 1 ≠ W1.heap.size + 1:=by omega
 have HZ:=ja.mk hz
 clear hW1 iq Bi h2 h3 Bl hz
 go_enter Try.func92,Try.ntmps92
 go_upto_region 1 with (fail)
 rw [← HW.out]
 clear HW
 go_wp2
 have hz:=HZ.out
 refine bodyPost_ret (results_cell_row rfl _ _ (W.heap.size + 1) 79 #[.int .i64 (-1),.int .i64 n] (0,0) _ rfl ?_ Try.underlying79 rfl (by kernel_rfl)) rfl ?_
 ·exact zb (cs:=#[.int .i64 (-1),.int .i64 0]) (zb (cs:=#[.int .i64 0,.int .i64 0]) HR.out 0 _ rfl) 1 _ rfl
 ·exact ⟨rfl,by repeat (first|exact HB.out|apply ia|apply ua|apply qa|refine Aa ?_ (by first|omega|(simp;done)|(simp;omega)))⟩
theorem iN (hk:KV W B kb v xs nx) (d a b c n:Int) (t:ByteArray) (ha0:0 ≤ a) (ha1:a < xs.length) :
  Calls Try.prog 92 #[.pointer (some ⟨kb,0,none⟩),.agg #[.int .i64 1,.int .i64 d,.int .i64 a,.int .i64 b,.int .i64 c,.int .i64 n,.string t]] W fun e w'=>e = .returned (.agg #[.int .i64 (jb xs a).f0,.int .i64 (jb xs a).f1])∧Below W.heap.size W w':=by
 obtain ⟨hB,h2,h3⟩:=hk
 have bN:=ja.mk h2
 have hlt:=Pc h2
 obtain ⟨W1,hW1⟩:∃ W1,W1=(W.alloc (.cells #[.int .i64 1,.int .i64 d,.int .i64 a,.int .i64 b,.int .i64 c,.int .i64 n,.string t] 70 (0,0))).alloc (.cells #[.int .i64 0,.int .i64 0] 79 (0,0)):=⟨_,rfl⟩
 have HW:=ja.mk hW1
 have Bl:Below W.heap.size W W1:=by rw [hW1];exact qa (qa (Below.refl _ _) _) _
 have hz:W1.heap.size=W.heap.size + 2:=by rw [hW1];simp
 have Ig:=ja.mk (Ya h2 Bl)
 have oD:=(ga Ig.out 0).trans rfl
 have hk1:=(ga Ig.out 1).trans rfl
 have TW:=aa Ig.out 1
 have iq:W1.heap[W.heap.size + 1]? = some (.cells #[.int .i64 0,.int .i64 0] 79 (0,0)):=by rw [hW1];have:=Me (W.alloc (.cells #[.int .i64 1,.int .i64 d,.int .i64 a,.int .i64 b,.int .i64 c,.int .i64 n,.string t] 70 (0,0))) (.cells #[.int .i64 0,.int .i64 0] 79 (0,0));simpa using this
 have Bi:W1.heap[W.heap.size]? = some (.cells #[.int .i64 1,.int .i64 d,.int .i64 a,.int .i64 b,.int .i64 c,.int .i64 n,.string t] 70 (0,0)):=by rw [hW1];exact Fa (Me _ _) _
 have HR:=ja.mk iq
 have HX:=ja.mk Bi
 have hr0:=(ga iq 0).trans rfl
 have Mn:=(ga iq 1).trans rfl
 have Xl:=aa iq 0
 have Wl:=aa iq 1
 have hx0:=(ga Bi 0).trans rfl
 have hx1:=(ga Bi 1).trans rfl
 have Ek:=(ga Bi 2).trans rfl
 have jk:=(ga Bi 3).trans rfl
 have Dk:=(ga Bi 4).trans rfl
 have Um:=(ga Bi 5).trans rfl
 have zm:=(ga Bi 6).trans rfl
 have HB:=ja.mk Bl
 obtain ⟨A,cc,rfl,_,hC⟩:=Kd.Zn (Kd.Ue h3 Bl)
 have FN:=hC.2.1
 obtain ⟨ad,e1,Wt,Vt⟩:=ru hC a ha0 ha1
 cases e1
 obtain ⟨g,rfl⟩:=Kd.fq h3
 have HN:g < W.heap.size:=by
  obtain ⟨inner,hi⟩:=Kd.ju h3
  exact zw hi g (by simp [Value.ownBlock])
 have BA:g ≠ W1.heap.size:=by omega
 have AE:g ≠ W1.heap.size + 1:=by omega
 simp only [add_plain] at Wt Vt
 clear hC
 have oL:kb ≠ W1.heap.size:=by omega
 have nL:kb ≠ W1.heap.size + 1:=by omega
 have hw1:W.heap.size ≠ W1.heap.size:=by omega
 have gV:W.heap.size ≠ W1.heap.size + 1:=by omega
 have fV:W.heap.size + 1 ≠ W1.heap.size:=by omega
 have eV:W.heap.size + 1 ≠ W1.heap.size + 1:=by omega
 have HZ:=ja.mk hz
 clear hW1 iq Bi h2 h3 Bl hz
 go_enter Try.func92,Try.ntmps92
 go_upto_region 1 with (fail)
 rw [← HW.out]
 clear HW
 go_wp2
 go_region
 all_goals go_wp2
 have hz:=HZ.out
 refine bodyPost_ret (results_cell_row rfl _ _ (W.heap.size + 1) 79 #[.int .i64 (jb xs a).f0,.int .i64 (jb xs a).f1] (0,0) _ rfl ?_ Try.underlying79 rfl (by kernel_rfl)) rfl ?_
 ·exact zb (cs:=#[.int .i64 (jb xs a).f0,.int .i64 0]) (zb (cs:=#[.int .i64 0,.int .i64 0]) HR.out 0 _ rfl) 1 _ rfl
 ·exact ⟨rfl,by repeat (first|exact HB.out|apply ia|apply ua|apply qa|refine Aa ?_ (by first|omega|(simp;done)|(simp;omega)))⟩
theorem KV.upd {W':World} {zN:Int} (hB:B ≤ kb) (h2:W.heap[kb]? = some (.cells #[v,.int .i64 nx] 74 (0,0))) (h3:Kd.R CN 79 W B (fun _=>True) v xs) (hk:Kept W W' (fun k=>k=kb)) (h4:W'.heap[kb]? = some (.cells #[v,.int .i64 zN] 74 (0,0))):KV W' B kb v xs zN :=
 ⟨hB,h4,Kd.Hg (Kd.dm (Kd.Np h3 h2 (by decide)) hk (fun k hk' e=>hk'.2 e)) (fun _ _=>trivial)⟩
theorem qm {W2:World} {r:Nat} {u0 u1:Value} {zN:Int} (hB:B ≤ kb) (h2:W.heap[kb]? = some (.cells #[v,.int .i64 nx] 74 (0,0))) (h3:Kd.R CN 79 W B (fun _=>True) v xs) (hK:Kept W W2 (fun k=>k=kb)) (h4:W2.heap[kb]? = some (.cells #[v,.int .i64 nx] 74 (0,0))) (hl:Below kb W W2) (hr:W.heap.size ≤ r) (hlt:kb < W.heap.size) :
  KV (((W2.setCell ⟨kb,1,none⟩ (.int .i64 zN)).setCell ⟨r,0,none⟩ u0).setCell ⟨r,1,none⟩ u1) B kb v xs zN∧Kept W (((W2.setCell ⟨kb,1,none⟩ (.int .i64 zN)).setCell ⟨r,0,none⟩ u0).setCell ⟨r,1,none⟩ u1) (fun k=>k=kb)∧Below kb W (((W2.setCell ⟨kb,1,none⟩ (.int .i64 zN)).setCell ⟨r,0,none⟩ u0).setCell ⟨r,1,none⟩ u1):=by
 have hkk:Kept W (((W2.setCell ⟨kb,1,none⟩ (.int .i64 zN)).setCell ⟨r,0,none⟩ u0).setCell ⟨r,1,none⟩ u1) (fun k=>k=kb) :=
  Kept.setCell (p:=⟨r,1,none⟩) (Kept.setCell (p:=⟨r,0,none⟩) (Kept.setCell (p:=⟨kb,1,none⟩) hK (Or.inl rfl) _) (Or.inr hr) _) (Or.inr hr) _
 refine ⟨KV.upd hB h2 h3 hkk (Tc (Tc (zb (cs:=#[v,.int .i64 nx]) h4 1 _ rfl) (by simp;omega) _) (by simp;omega) _),hkk,?_⟩
 exact Below.setCell (p:=⟨r,1,none⟩) (Below.setCell (p:=⟨r,0,none⟩) (Below.setCell (p:=⟨kb,1,none⟩) hl (Nat.le_refl _) _) (by simp;omega) _) (by simp;omega) _
theorem fN (hk:KV W B kb v xs nx) (hn0:0 ≤ nx) (Ds:nx ≤ 1000000000) (d a b c n:Int) (t:ByteArray) (o:Int) (Am:(o == 0)=false) (iT:(o == 1)=false) (E5:(o == 2)=false) :
  Calls Try.prog 92 #[.pointer (some ⟨kb,0,none⟩),.agg #[.int .i64 o,.int .i64 d,.int .i64 a,.int .i64 b,.int .i64 c,.int .i64 n,.string t]] W fun e w'=>e = .returned (.agg #[.int .i64 nx,.int .i64 0])∧KV w' B kb v xs (nx + 1)∧Kept W w' (fun k=>k=kb)∧Below kb W w':=by
 obtain ⟨hB,h2,h3⟩:=hk
 have ZM:=ja.mk h3
 have bN:=ja.mk h2
 have hlt:=Pc h2
 obtain ⟨W1,hW1⟩:∃ W1,W1=(W.alloc (.cells #[.int .i64 o,.int .i64 d,.int .i64 a,.int .i64 b,.int .i64 c,.int .i64 n,.string t] 70 (0,0))).alloc (.cells #[.int .i64 0,.int .i64 0] 79 (0,0)):=⟨_,rfl⟩
 have HW:=ja.mk hW1
 have Bl:Below W.heap.size W W1:=by rw [hW1];exact qa (qa (Below.refl _ _) _) _
 have hz:W1.heap.size=W.heap.size + 2:=by rw [hW1];simp
 have Ig:=ja.mk (Ya h2 Bl)
 have oD:=(ga Ig.out 0).trans rfl
 have hk1:=(ga Ig.out 1).trans rfl
 have TW:=aa Ig.out 1
 have iq:W1.heap[W.heap.size + 1]? = some (.cells #[.int .i64 0,.int .i64 0] 79 (0,0)):=by rw [hW1];have:=Me (W.alloc (.cells #[.int .i64 o,.int .i64 d,.int .i64 a,.int .i64 b,.int .i64 c,.int .i64 n,.string t] 70 (0,0))) (.cells #[.int .i64 0,.int .i64 0] 79 (0,0));simpa using this
 have Bi:W1.heap[W.heap.size]? = some (.cells #[.int .i64 o,.int .i64 d,.int .i64 a,.int .i64 b,.int .i64 c,.int .i64 n,.string t] 70 (0,0)):=by rw [hW1];exact Fa (Me _ _) _
 have HR:=ja.mk iq
 have HX:=ja.mk Bi
 have hr0:=(ga iq 0).trans rfl
 have Mn:=(ga iq 1).trans rfl
 have Xl:=aa iq 0
 have Wl:=aa iq 1
 have hx0:=(ga Bi 0).trans rfl
 have hx1:=(ga Bi 1).trans rfl
 have Ek:=(ga Bi 2).trans rfl
 have jk:=(ga Bi 3).trans rfl
 have Dk:=(ga Bi 4).trans rfl
 have Um:=(ga Bi 5).trans rfl
 have zm:=(ga Bi 6).trans rfl
 have HB:=ja.mk Bl
 have oL:kb ≠ W1.heap.size:=by omega
 have nL:kb ≠ W1.heap.size + 1:=by omega
 have hw1:W.heap.size ≠ W1.heap.size:=by omega
 have gV:W.heap.size ≠ W1.heap.size + 1:=by omega
 have fV:W.heap.size + 1 ≠ W1.heap.size:=by omega
 have eV:W.heap.size + 1 ≠ W1.heap.size + 1:=by omega
 have HZ:=ja.mk hz
 clear hW1 iq Bi h2 h3 Bl hz
 go_enter Try.func92,Try.ntmps92
 go_upto_region 1 with (fail)
 rw [← HW.out]
 clear HW
 go_wp2
 all_goals
  have hz:=HZ.out
  refine bodyPost_ret (results_cell_row rfl _ _ (W.heap.size + 1) 79 #[.int .i64 nx,.int .i64 0] (0,0) _ rfl ?_ Try.underlying79 rfl (by kernel_rfl)) rfl ?_
  ·exact zb (cs:=#[.int .i64 nx,.int .i64 0]) (zb (cs:=#[.int .i64 0,.int .i64 0]) (Tc (by (with_reducible repeat (first|refine Ga ?_ _|refine Ia ?_|refine Fa ?_ _));exact HR.out) (by simp;omega) _) 0 _ rfl) 1 _ rfl
  ·exact ⟨rfl,qm hB bN.out ZM.out (by (with_reducible repeat (first|refine Kept.drewN ?_ _|refine Kept.drew ?_|refine Kept.alloc ?_ _));exact Kept.Hi HB.out _) (by (with_reducible repeat (first|refine Ga ?_ _|refine Ia ?_|refine Fa ?_ _));exact Ig.out) (by repeat (first|exact HB.out.mono (Nat.le_of_lt hlt)|apply ia|apply ua|refine Below.alloc ?_ (by simp;omega) _)) (Nat.le_succ _) hlt⟩
def yE (t:ByteArray) (A B:mm) (nx:Int):mm × Int:=match Bx t A B with
 | some s=>(s,nx)
 | none=>(⟨nx,0⟩,nx + 1)
theorem MV {t:ByteArray} {A B:mm} {nx:Int} (h1:A.f0 = -1) (h2:B.f0 = -1):yE t A B nx=(⟨-1,aG t A.f1 B.f1⟩,nx):=by
 unfold yE Bx
 rw [if_pos ⟨h1,h2⟩]
theorem LV {t:ByteArray} {A B:mm} {nx:Int} (h1:A.f0 = -1) (h2:¬ B.f0 = -1) (h3:t.toList=[43]):yE t A B nx=(⟨B.f0,wrap64 (A.f1 + B.f1)⟩,nx):=by
 unfold yE Bx
 rw [if_neg (fun h=>h2 h.2),if_pos ⟨h3,h1⟩]
theorem JV {t:ByteArray} {A B:mm} {nx:Int} (h1:¬ A.f0 = -1) (h2:B.f0 = -1) (h3:t.toList=[43]):yE t A B nx=(⟨A.f0,wrap64 (A.f1 + B.f1)⟩,nx):=by
 unfold yE Bx
 rw [if_neg (fun h=>h1 h.1),if_neg (fun h=>h1 h.2),if_pos ⟨h3,h2⟩]
theorem IV {t:ByteArray} {A B:mm} {nx:Int} (h1:¬ A.f0 = -1) (h2:B.f0 = -1) (h3:¬ t.toList=[43]) (h4:t.toList=[45]):yE t A B nx=(⟨A.f0,wrap64 (A.f1 - B.f1)⟩,nx):=by
 unfold yE Bx
 rw [if_neg (fun h=>h1 h.1),if_neg (fun h=>h1 h.2),if_neg (fun h=>h3 h.1),if_pos ⟨h4,h2⟩]
theorem GV {t:ByteArray} {A B:mm} {nx:Int} (h1:¬ A.f0 = -1) (h2:¬ B.f0 = -1) (h4:t.toList=[45]) (h5:A.f0=B.f0):yE t A B nx=(⟨-1,wrap64 (A.f1 - B.f1)⟩,nx):=by
 unfold yE Bx
 rw [if_neg (fun h=>h1 h.1),if_neg (fun h=>h1 h.2),if_neg (fun h=>h2 h.2),if_neg (fun h=>h2 h.2),if_pos ⟨h4,h5⟩]
theorem yA {t:ByteArray} {A B:mm} {nx:Int} (h1:¬ (A.f0 = -1∧B.f0 = -1)) (h2:¬ (t.toList=[43]∧A.f0 = -1)) (h3:¬ (t.toList=[43]∧B.f0 = -1)) (h4:¬ (t.toList=[45]∧B.f0 = -1)) (h5:¬ (t.toList=[45]∧A.f0=B.f0)):yE t A B nx=(⟨nx,0⟩,nx + 1):=by
 unfold yE Bx
 rw [if_neg h1,if_neg h2,if_neg h3,if_neg h4,if_neg h5]
theorem xu {e e0:Ending} {w':World} (hk:KV W B kb v xs nx) (he:e=e0) (hb:Below W.heap.size W w'):e=e0∧KV w' B kb v xs nx∧Kept W w' (fun k=>k=kb)∧Below kb W w':=⟨he,hk.below hb,Kept.Hi hb _,hb.mono (Nat.le_of_lt (Pc hk.2.1))⟩
theorem gN (hk:KV W B kb v xs nx) (hn0:0 ≤ nx) (Ds:nx ≤ 1000000000) (d a b c n:Int) (t:ByteArray) (ha0:0 ≤ a) (ha1:a < xs.length) (hb0:0 ≤ b) (hb1:b < xs.length) :
  Calls Try.prog 92 #[.pointer (some ⟨kb,0,none⟩),.agg #[.int .i64 2,.int .i64 d,.int .i64 a,.int .i64 b,.int .i64 c,.int .i64 n,.string t]] W fun e w'=>e = .returned (.agg #[.int .i64 (yE t (jb xs a) (jb xs b) nx).1.f0,.int .i64 (yE t (jb xs a) (jb xs b) nx).1.f1])∧KV w' B kb v xs (yE t (jb xs a) (jb xs b) nx).2∧Kept W w' (fun k=>k=kb)∧Below kb W w':=by
 obtain ⟨⟨⟨r0,r1⟩,zN⟩,hr⟩:∃ r,r=yE t (jb xs a) (jb xs b) nx:=⟨_,rfl⟩
 rw [← hr]
 have Sz:=ja.mk hr
 have tQ:=ja.mk hk
 clear hr
 obtain ⟨hB,h2,h3⟩:=hk
 have ZM:=ja.mk h3
 have bN:=ja.mk h2
 have hlt:=Pc h2
 obtain ⟨W1,hW1⟩:∃ W1,W1=(W.alloc (.cells #[.int .i64 2,.int .i64 d,.int .i64 a,.int .i64 b,.int .i64 c,.int .i64 n,.string t] 70 (0,0))).alloc (.cells #[.int .i64 0,.int .i64 0] 79 (0,0)):=⟨_,rfl⟩
 have HW:=ja.mk hW1
 have Bl:Below W.heap.size W W1:=by rw [hW1];exact qa (qa (Below.refl _ _) _) _
 have hz:W1.heap.size=W.heap.size + 2:=by rw [hW1];simp
 have Ig:=ja.mk (Ya h2 Bl)
 have oD:=(ga Ig.out 0).trans rfl
 have hk1:=(ga Ig.out 1).trans rfl
 have TW:=aa Ig.out 1
 have iq:W1.heap[W.heap.size + 1]? = some (.cells #[.int .i64 0,.int .i64 0] 79 (0,0)):=by rw [hW1];have:=Me (W.alloc (.cells #[.int .i64 2,.int .i64 d,.int .i64 a,.int .i64 b,.int .i64 c,.int .i64 n,.string t] 70 (0,0))) (.cells #[.int .i64 0,.int .i64 0] 79 (0,0));simpa using this
 have Bi:W1.heap[W.heap.size]? = some (.cells #[.int .i64 2,.int .i64 d,.int .i64 a,.int .i64 b,.int .i64 c,.int .i64 n,.string t] 70 (0,0)):=by rw [hW1];exact Fa (Me _ _) _
 have HR:=ja.mk iq
 have HX:=ja.mk Bi
 have hr0:=(ga iq 0).trans rfl
 have Mn:=(ga iq 1).trans rfl
 have Xl:=aa iq 0
 have Wl:=aa iq 1
 have hx0:=(ga Bi 0).trans rfl
 have hx1:=(ga Bi 1).trans rfl
 have Ek:=(ga Bi 2).trans rfl
 have jk:=(ga Bi 3).trans rfl
 have Dk:=(ga Bi 4).trans rfl
 have Um:=(ga Bi 5).trans rfl
 have zm:=(ga Bi 6).trans rfl
 have HB:=ja.mk Bl
 obtain ⟨A,cc,rfl,_,hC⟩:=Kd.Zn (Kd.Ue h3 Bl)
 have FN:=hC.2.1
 obtain ⟨ad,e1,Wt,Vt⟩:=ru hC a ha0 ha1
 cases e1
 obtain ⟨ad_,e1,Wp,Vp⟩:=ru hC b hb0 hb1
 cases e1
 obtain ⟨g,rfl⟩:=Kd.fq h3
 have HN:g < W.heap.size:=by
  obtain ⟨inner,hi⟩:=Kd.ju h3
  exact zw hi g (by simp [Value.ownBlock])
 have BA:g ≠ W1.heap.size:=by omega
 have AE:g ≠ W1.heap.size + 1:=by omega
 simp only [add_plain] at Wt Vt Wp Vp
 clear hC
 have oL:kb ≠ W1.heap.size:=by omega
 have nL:kb ≠ W1.heap.size + 1:=by omega
 have hw1:W.heap.size ≠ W1.heap.size:=by omega
 have gV:W.heap.size ≠ W1.heap.size + 1:=by omega
 have fV:W.heap.size + 1 ≠ W1.heap.size:=by omega
 have eV:W.heap.size + 1 ≠ W1.heap.size + 1:=by omega
 have HZ:=ja.mk hz
 clear hW1 iq Bi h2 h3 Bl hz
 go_enter Try.func92,Try.ntmps92
 go_upto_region 1 with (fail)
 rw [← HW.out]
 clear HW
 go_upto_region 7 with (fail)
 have jj:=ja.mk (ua (Below.refl W1.heap.size W1))
 have hd1:W1.cell? ⟨kb,0,none⟩=some (.slice (some ⟨g,0,none⟩) xs.length cc):=oD
 have hd2:W1.cell? ⟨W.heap.size,2,none⟩=some (.int .i64 a):=Ek
 have hd3:W1.cell? ⟨W.heap.size,3,none⟩=some (.int .i64 b):=jk
 have HG:=ja.mk (fun (W3:World) (h:Below W1.heap.size W1 W3)=>(⟨Zd h hd1,Zd h hd2,Zd h hd3,Zd h Wt,Zd h Vt,Zd h Wp,Zd h Vp⟩:W3.cell? ⟨kb,0,none⟩=some (.slice (some ⟨g,0,none⟩) xs.length cc)∧W3.cell? ⟨W.heap.size,2,none⟩=some (.int .i64 a)∧W3.cell? ⟨W.heap.size,3,none⟩=some (.int .i64 b)∧W3.cell? ⟨g,a.toNat * 2,none⟩=some (.int .i64 (jb xs a).f0)∧W3.cell? ⟨g,a.toNat * 2 + 1,none⟩=some (.int .i64 (jb xs a).f1)∧W3.cell? ⟨g,b.toNat * 2,none⟩=some (.int .i64 (jb xs b).f0)∧W3.cell? ⟨g,b.toNat * 2 + 1,none⟩=some (.int .i64 (jb xs b).f1)))
 refine Oi (n:=20) (S:=fun w'=>w'.cell? ⟨kb,0,none⟩=some (.slice (some ⟨g,0,none⟩) xs.length cc)∧w'.cell? ⟨W.heap.size,2,none⟩=some (.int .i64 a)∧w'.cell? ⟨W.heap.size,3,none⟩=some (.int .i64 b)∧w'.cell? ⟨g,a.toNat * 2,none⟩=some (.int .i64 (jb xs a).f0)∧w'.cell? ⟨g,a.toNat * 2 + 1,none⟩=some (.int .i64 (jb xs a).f1)∧w'.cell? ⟨g,b.toNat * 2,none⟩=some (.int .i64 (jb xs b).f0)∧w'.cell? ⟨g,b.toNat * 2 + 1,none⟩=some (.int .i64 (jb xs b).f1)) (ds:=[19]) #[false,false,false,false,false,false,false,false,false,false,false,false,false,false,false,false,false,false,false,false] (by kernel_rfl) rfl rfl ⟨hd1,hd2,hd3,Wt,Vt,Wp,Vp⟩ (fun hHeld=>?_)
 refine Nc (i:=0) (N:=some 26) (v:=?_) (a':=?_) #[true,false,false,false,false,false,false,false,false,false,false,false,false,false,false,false,false,false,false,false] rfl rfl (by kernel_rfl) (fun _ _ _ h=>h) (Or.inl ⟨by rfl,?_⟩) ?_ ?_
 rotate_left
 ·intro w'
  go_simp
  with_reducible rfl
 rotate_left
 ·simp only [Act.put,List.setIfInBounds_toArray,List.set_cons_zero,List.set_cons_succ,Bb,Cb]
  rfl
 refine Nc (i:=1) (N:=some 27) (v:=?_) (a':=?_) #[true,true,false,false,false,false,false,false,false,false,false,false,false,false,false,false,false,false,false,false] rfl rfl (by kernel_rfl) (fun _ _ _ h=>h) (Or.inl ⟨by rfl,?_⟩) ?_ ?_
 rotate_left
 ·intro w'
  go_simp
  with_reducible rfl
 rotate_left
 ·simp only [Act.put,List.setIfInBounds_toArray,List.set_cons_zero,List.set_cons_succ,Bb,Cb]
  rfl
 refine Nc (i:=2) (N:=some 28) (v:=?_) (a':=?_) #[true,true,true,false,false,false,false,false,false,false,false,false,false,false,false,false,false,false,false,false] rfl rfl (by kernel_rfl) (fun _ _ _ h=>h) (Or.inl ⟨by rfl,?_⟩) ?_ ?_
 rotate_left
 ·intro w'
  go_simp
  with_reducible rfl
 rotate_left
 ·simp only [Act.put,List.setIfInBounds_toArray,List.set_cons_zero,List.set_cons_succ,Bb,Cb]
  rfl
 refine Nc (i:=4) (N:=some 30) (v:=?_) (a':=?_) #[true,true,true,false,true,false,false,false,false,false,false,false,false,false,false,false,false,false,false,false] rfl rfl (by kernel_rfl) (fun _ _ _ h=>h) (Or.inl ⟨by rfl,?_⟩) ?_ ?_
 rotate_left
 ·intro w'
  go_simp
  with_reducible rfl
 rotate_left
 ·simp only [Act.put,List.setIfInBounds_toArray,List.set_cons_zero,List.set_cons_succ,Bb,Cb]
  rfl
 refine Nc (i:=8) (N:=some 34) (v:=?_) (a':=?_) #[true,true,true,false,true,false,false,false,true,false,false,false,false,false,false,false,false,false,false,false] rfl rfl (by kernel_rfl) (fun _ _ _ h=>h) (Or.inl ⟨by rfl,?_⟩) ?_ ?_
 rotate_left
 ·intro w'
  go_simp
  with_reducible rfl
 rotate_left
 ·simp only [Act.put,List.setIfInBounds_toArray,List.set_cons_zero,List.set_cons_succ,Bb,Cb]
  rfl
 refine Nc (i:=9) (N:=some 35) (v:=?_) (a':=?_) #[true,true,true,false,true,false,false,false,true,true,false,false,false,false,false,false,false,false,false,false] rfl rfl (by kernel_rfl) (fun _ _ _ h=>h) (Or.inl ⟨by rfl,?_⟩) ?_ ?_
 rotate_left
 ·intro w'
  go_simp
  with_reducible rfl
 rotate_left
 ·simp only [Act.put,List.setIfInBounds_toArray,List.set_cons_zero,List.set_cons_succ,Bb,Cb]
  rfl
 refine Nc (i:=10) (N:=some 36) (v:=?_) (a':=?_) #[true,true,true,false,true,false,false,false,true,true,true,false,false,false,false,false,false,false,false,false] rfl rfl (by kernel_rfl) (fun _ _ _ h=>h) (Or.inl ⟨by rfl,?_⟩) ?_ ?_
 rotate_left
 ·intro w'
  go_simp
  with_reducible rfl
 rotate_left
 ·simp only [Act.put,List.setIfInBounds_toArray,List.set_cons_zero,List.set_cons_succ,Bb,Cb]
  rfl
 refine Nc (i:=12) (N:=some 38) (v:=?_) (a':=?_) #[true,true,true,false,true,false,false,false,true,true,true,false,true,false,false,false,false,false,false,false] rfl rfl (by kernel_rfl) (fun _ _ _ h=>h) (Or.inl ⟨by rfl,?_⟩) ?_ ?_
 rotate_left
 ·intro w'
  go_simp
  with_reducible rfl
 rotate_left
 ·simp only [Act.put,List.setIfInBounds_toArray,List.set_cons_zero,List.set_cons_succ,Bb,Cb]
  rfl
 refine Lf (i:=3) (N:=some 29) (v:=?_) (a':=?_) #[true,true,true,true,true,false,false,false,true,true,true,false,true,false,false,false,false,false,false,false] rfl rfl (by kernel_rfl) (fun _ _ _ h=>h) (Or.inl ⟨by rfl,?_⟩) hHeld ?_ ?_
 rotate_left
 ·rintro w' ⟨s0,s1,s2,s3,s4,s5,s6⟩
  go_simp
  with_reducible rfl
 rotate_left
 ·simp only [Act.put,List.setIfInBounds_toArray,List.set_cons_zero,List.set_cons_succ,Bb,Cb]
  rfl
 refine Lf (i:=5) (N:=some 31) (v:=?_) (a':=?_) #[true,true,true,true,true,true,false,false,true,true,true,false,true,false,false,false,false,false,false,false] rfl rfl (by kernel_rfl) (fun _ _ _ h=>h) (Or.inl ⟨by rfl,?_⟩) hHeld ?_ ?_
 rotate_left
 ·rintro w' ⟨s0,s1,s2,s3,s4,s5,s6⟩
  go_simp
  with_reducible rfl
 rotate_left
 ·simp only [Act.put,List.setIfInBounds_toArray,List.set_cons_zero,List.set_cons_succ,Bb,Cb]
  rfl
 refine Nc (i:=6) (N:=some 32) (v:=?_) (a':=?_) #[true,true,true,true,true,true,true,false,true,true,true,false,true,false,false,false,false,false,false,false] rfl rfl (by kernel_rfl) (fun _ _ _ h=>h) (Or.inl ⟨by rfl,?_⟩) ?_ ?_
 rotate_left
 ·intro w'
  go_simp
  with_reducible rfl
 rotate_left
 ·simp only [Act.put,List.setIfInBounds_toArray,List.set_cons_zero,List.set_cons_succ,Bb,Cb]
  rfl
 refine Lf (i:=7) (N:=some 33) (v:=?_) (a':=?_) #[true,true,true,true,true,true,true,true,true,true,true,false,true,false,false,false,false,false,false,false] rfl rfl (by kernel_rfl) (fun _ _ _ h=>h) (Or.inl ⟨by rfl,?_⟩) hHeld ?_ ?_
 rotate_left
 ·rintro w' ⟨s0,s1,s2,s3,s4,s5,s6⟩
  go_simp
  with_reducible rfl
 rotate_left
 ·simp only [Act.put,List.setIfInBounds_toArray,List.set_cons_zero,List.set_cons_succ,Bb,Cb]
  rfl
 refine Lf (i:=11) (N:=some 37) (v:=?_) (a':=?_) #[true,true,true,true,true,true,true,true,true,true,true,true,true,false,false,false,false,false,false,false] rfl rfl (by kernel_rfl) (fun _ _ _ h=>h) (Or.inl ⟨by rfl,?_⟩) hHeld ?_ ?_
 rotate_left
 ·rintro w' ⟨s0,s1,s2,s3,s4,s5,s6⟩
  go_simp
  with_reducible rfl
 rotate_left
 ·simp only [Act.put,List.setIfInBounds_toArray,List.set_cons_zero,List.set_cons_succ,Bb,Cb]
  rfl
 refine Lf (i:=13) (N:=some 39) (v:=?_) (a':=?_) #[true,true,true,true,true,true,true,true,true,true,true,true,true,true,false,false,false,false,false,false] rfl rfl (by kernel_rfl) (fun _ _ _ h=>h) (Or.inl ⟨by rfl,?_⟩) hHeld ?_ ?_
 rotate_left
 ·rintro w' ⟨s0,s1,s2,s3,s4,s5,s6⟩
  go_simp
  with_reducible rfl
 rotate_left
 ·simp only [Act.put,List.setIfInBounds_toArray,List.set_cons_zero,List.set_cons_succ,Bb,Cb]
  rfl
 refine Nc (i:=14) (N:=some 40) (v:=?_) (a':=?_) #[true,true,true,true,true,true,true,true,true,true,true,true,true,true,true,false,false,false,false,false] rfl rfl (by kernel_rfl) (fun _ _ _ h=>h) (Or.inl ⟨by rfl,?_⟩) ?_ ?_
 rotate_left
 ·intro w'
  go_simp
  with_reducible rfl
 rotate_left
 ·simp only [Act.put,List.setIfInBounds_toArray,List.set_cons_zero,List.set_cons_succ,Bb,Cb]
  rfl
 refine Lf (i:=15) (N:=some 41) (v:=?_) (a':=?_) #[true,true,true,true,true,true,true,true,true,true,true,true,true,true,true,true,false,false,false,false] rfl rfl (by kernel_rfl) (fun _ _ _ h=>h) (Or.inl ⟨by rfl,?_⟩) hHeld ?_ ?_
 rotate_left
 ·rintro w' ⟨s0,s1,s2,s3,s4,s5,s6⟩
  go_simp
  with_reducible rfl
 rotate_left
 ·simp only [Act.put,List.setIfInBounds_toArray,List.set_cons_zero,List.set_cons_succ,Bb,Cb]
  rfl
 refine IG (σ:=Nat × Nat) 2 #[true,true,true,true,true,true,true,true,true,true,true,true,true,true,true,true,true,true,false,false] (fun s=>[(5,.pointer (some ⟨s.1,0,none⟩)),(6,.pointer (some ⟨s.2,0,none⟩))]) (fun s w'=>w' = (W1.drew.alloc (.cells #[.int .i64 0,.int .i64 0] 79 (0,0))).alloc (.cells #[.int .i64 0,.int .i64 0] 79 (0,0))∧((s.1=W1.heap.size∧s.2=W1.heap.size + 1) ∨ (s.1=W1.heap.size + 1∧s.2=W1.heap.size))) ?_ ?_
 rotate_left
 ·intro Ss
  refine kN (i:=16) (j:=17) (Ni:=some 5) (Nj:=some 6) #[true,true,true,true,true,true,true,true,true,true,true,true,true,true,true,true,true,false,false,false] #[true,true,true,true,true,true,true,true,true,true,true,true,true,true,true,true,false,true,false,false] rfl rfl rfl rfl (by kernel_rfl) (by decide) (by decide) (fun K hK=>?_) (fun K hK=>?_)
  ·skip
   refine Ck (w1:=?_) (v:=?_) (by rfl) rfl ?_ ?_
   rotate_left 2
   ·go_simp
    constructor
    ·rfl
    ·rfl
   refine hK.out _ _ ⟨(HG.out _ (qa jj.out _)).1,(HG.out _ (qa jj.out _)).2.1,(HG.out _ (qa jj.out _)).2.2.1,(HG.out _ (qa jj.out _)).2.2.2.1,(HG.out _ (qa jj.out _)).2.2.2.2.1,(HG.out _ (qa jj.out _)).2.2.2.2.2.1,(HG.out _ (qa jj.out _)).2.2.2.2.2.2⟩ (fun hHeld=>?_)
   clear hK K
   refine Mg (a':=?_) ?_ ?_
   rotate_left
   ·show Act.put _ (some 5) _=_
    simp only [Act.put,List.setIfInBounds_toArray,List.set_cons_zero,List.set_cons_succ,Bb,Cb]
    rfl
   refine gm (i:=17) (N:=some 6) #[true,true,true,true,true,true,true,true,true,true,true,true,true,true,true,true,true,true,false,false] rfl rfl (by kernel_rfl) (by decide) (fun K hK=>?_)
   refine Ck (w1:=?_) (v:=?_) (by rfl) rfl ?_ ?_
   rotate_left 2
   ·go_simp
    constructor
    ·rfl
    ·rfl
   refine hK.out _ _ ⟨(HG.out _ (qa (qa jj.out _) _)).1,(HG.out _ (qa (qa jj.out _) _)).2.1,(HG.out _ (qa (qa jj.out _) _)).2.2.1,(HG.out _ (qa (qa jj.out _) _)).2.2.2.1,(HG.out _ (qa (qa jj.out _) _)).2.2.2.2.1,(HG.out _ (qa (qa jj.out _) _)).2.2.2.2.2.1,(HG.out _ (qa (qa jj.out _) _)).2.2.2.2.2.2⟩ (fun hHeld=>?_)
   clear hK K
   refine Mg (a':=?_) ?_ ?_
   rotate_left
   ·show Act.put _ (some 6) _=_
    simp only [Act.put,List.setIfInBounds_toArray,List.set_cons_zero,List.set_cons_succ,Bb,Cb]
    rfl
   exact Mg (by simp only [yl,Act.put,List.setIfInBounds_toArray,List.set_cons_zero,List.set_cons_succ]) (Ss (W1.heap.size,W1.heap.size + 1) _ ⟨rfl,Or.inl ⟨rfl,rfl⟩⟩)
  ·skip
   refine Ck (w1:=?_) (v:=?_) (by rfl) rfl ?_ ?_
   rotate_left 2
   ·go_simp
    constructor
    ·rfl
    ·rfl
   refine hK.out _ _ ⟨(HG.out _ (qa jj.out _)).1,(HG.out _ (qa jj.out _)).2.1,(HG.out _ (qa jj.out _)).2.2.1,(HG.out _ (qa jj.out _)).2.2.2.1,(HG.out _ (qa jj.out _)).2.2.2.2.1,(HG.out _ (qa jj.out _)).2.2.2.2.2.1,(HG.out _ (qa jj.out _)).2.2.2.2.2.2⟩ (fun hHeld=>?_)
   clear hK K
   refine Mg (a':=?_) ?_ ?_
   rotate_left
   ·show Act.put _ (some 6) _=_
    simp only [Act.put,List.setIfInBounds_toArray,List.set_cons_zero,List.set_cons_succ,Bb,Cb]
    rfl
   refine gm (i:=16) (N:=some 5) #[true,true,true,true,true,true,true,true,true,true,true,true,true,true,true,true,true,true,false,false] rfl rfl (by kernel_rfl) (by decide) (fun K hK=>?_)
   refine Ck (w1:=?_) (v:=?_) (by rfl) rfl ?_ ?_
   rotate_left 2
   ·go_simp
    constructor
    ·rfl
    ·rfl
   refine hK.out _ _ ⟨(HG.out _ (qa (qa jj.out _) _)).1,(HG.out _ (qa (qa jj.out _) _)).2.1,(HG.out _ (qa (qa jj.out _) _)).2.2.1,(HG.out _ (qa (qa jj.out _) _)).2.2.2.1,(HG.out _ (qa (qa jj.out _) _)).2.2.2.2.1,(HG.out _ (qa (qa jj.out _) _)).2.2.2.2.2.1,(HG.out _ (qa (qa jj.out _) _)).2.2.2.2.2.2⟩ (fun hHeld=>?_)
   clear hK K
   refine Mg (a':=?_) ?_ ?_
   rotate_left
   ·show Act.put _ (some 5) _=_
    simp only [Act.put,List.setIfInBounds_toArray,List.set_cons_zero,List.set_cons_succ,Bb,Cb]
    rfl
   exact Mg (by simp only [yl,Act.put,List.setIfInBounds_toArray,List.set_cons_zero,List.set_cons_succ]) (Ss (W1.heap.size + 1,W1.heap.size) _ ⟨rfl,Or.inr ⟨rfl,rfl⟩⟩)
 rintro ⟨s1,s2⟩ W3 ⟨om,hs⟩
 simp only at hs
 have hne:s1 ≠ s2:=by omega
 have kz:W1.heap.size ≤ s1:=by omega
 have jz:W1.heap.size ≤ s2:=by omega
 have DF:Below W1.heap.size W1 W3:=by rw [om];exact qa (qa jj.out _) _
 have VK:W3.heap.size=W1.heap.size + 2:=by rw [om];simp
 have Ds:W3.heap[s1]? = some (.cells #[.int .i64 0,.int .i64 0] 79 (0,0)):=by
  rw [om]
  rcases hs with ⟨e,_⟩|⟨e,_⟩
  ·rw [e];exact Fa (Me W1.drew _) _
  ·rw [e];have:=Me (W1.drew.alloc (.cells #[.int .i64 0,.int .i64 0] 79 (0,0))) (.cells #[.int .i64 0,.int .i64 0] 79 (0,0));simpa using this
 have hn2:W3.heap[s2]? = some (.cells #[.int .i64 0,.int .i64 0] 79 (0,0)):=by
  rw [om]
  rcases hs with ⟨_,e⟩|⟨_,e⟩
  ·rw [e];have:=Me (W1.drew.alloc (.cells #[.int .i64 0,.int .i64 0] 79 (0,0))) (.cells #[.int .i64 0,.int .i64 0] 79 (0,0));simpa using this
  ·rw [e];exact Fa (Me W1.drew _) _
 clear om hs
 have vE:=ja.mk DF
 have hHeld:=HG.out W3 DF
 have Ow:=ja.mk Ds
 have GM:=ja.mk hn2
 clear DF Ds hn2
 refine Mg (a':=?_) ?_ ?_
 rotate_left
 ·simp only [yl,Act.put,List.setIfInBounds_toArray,List.set_cons_zero,List.set_cons_succ]
  rfl
 refine gm (i:=18) (N:=none) #[true,true,true,true,true,true,true,true,true,true,true,true,true,true,true,true,true,true,true,false] rfl rfl (by kernel_rfl) (by decide) (fun K hK=>?_)
 have AF:=(ga Ow.out 0).trans rfl
 have zF:=(ga Ow.out 1).trans rfl
 have qF:=aa Ow.out 0
 have pF:=aa Ow.out 1
 refine Hs (w1:=?_) (by rfl) rfl ?_ ?_
 rotate_left
 ·go_simp
  rfl
 have jo:=ja.mk (show Below W1.heap.size W1 ((W3.setCell ⟨s1,0,none⟩ (.int .i64 (jb xs a).f0)).setCell ⟨s1,1,none⟩ (.int .i64 (jb xs a).f1)) from (vE.out.setCell kz _).setCell kz _)
 have HM:=ja.mk (zb (cs:=#[.int .i64 (jb xs a).f0,.int .i64 0]) (zb (cs:=#[.int .i64 0,.int .i64 0]) Ow.out 0 (.int .i64 (jb xs a).f0) rfl) 1 (.int .i64 (jb xs a).f1) rfl)
 have Pw:=ja.mk (Tc (p:=⟨s1,1,none⟩) (Tc (p:=⟨s1,0,none⟩) GM.out (Ne.symm hne) (.int .i64 (jb xs a).f0)) (Ne.symm hne) (.int .i64 (jb xs a).f1))
 clear AF zF qF pF
 refine hK.out _ _ ⟨(HG.out _ jo.out).1,(HG.out _ jo.out).2.1,(HG.out _ jo.out).2.2.1,(HG.out _ jo.out).2.2.2.1,(HG.out _ jo.out).2.2.2.2.1,(HG.out _ jo.out).2.2.2.2.2.1,(HG.out _ jo.out).2.2.2.2.2.2⟩ (fun hHeld=>?_)
 clear hK K
 refine cz (i:=19) (N:=none) #[true,true,true,true,true,true,true,true,true,true,true,true,true,true,true,true,true,true,true,true] rfl rfl (by kernel_rfl) (by decide) (fun K hK=>?_)
 have yF:=(ga Pw.out 0).trans rfl
 have xF:=(ga Pw.out 1).trans rfl
 have oF:=aa Pw.out 0
 have nF:=aa Pw.out 1
 refine Hs (w1:=?_) (by rfl) rfl ?_ ?_
 rotate_left
 ·go_simp
  rfl
 refine hK.out _ _ ?_
 clear hK K
 refine Mk (by kernel_rfl) ?_
 obtain ⟨W5,hW5⟩:∃ W5,W5=(((W3.setCell ⟨s1,0,none⟩ (.int .i64 (jb xs a).f0)).setCell ⟨s1,1,none⟩ (.int .i64 (jb xs a).f1)).setCell ⟨s2,0,none⟩ (.int .i64 (jb xs b).f0)).setCell ⟨s2,1,none⟩ (.int .i64 (jb xs b).f1):=⟨_,rfl⟩
 rw [← hW5]
 have Es:Below W1.heap.size W1 W5:=by rw [hW5];exact (jo.out.setCell jz _).setCell jz _
 have Po:W5.heap[s1]? = some (.cells #[.int .i64 (jb xs a).f0,.int .i64 (jb xs a).f1] 79 (0,0)):=by rw [hW5];exact Tc (p:=⟨s2,1,none⟩) (Tc (p:=⟨s2,0,none⟩) HM.out hne _) hne _
 have hm2:W5.heap[s2]? = some (.cells #[.int .i64 (jb xs b).f0,.int .i64 (jb xs b).f1] 79 (0,0)):=by rw [hW5];exact zb (cs:=#[.int .i64 (jb xs b).f0,.int .i64 0]) (zb (cs:=#[.int .i64 0,.int .i64 0]) Pw.out 0 _ rfl) 1 _ rfl
 clear hW5 HM Pw Ow GM yF xF oF nF jo vE hd1 hd2 hd3 Wt Vt Wp Vp hx0 hx1 Ek jk Dk Um zm hr0 Mn Xl Wl oD hk1 TW HG jj VK
 have HR:=ja.mk (Ya HR.out Es)
 have HX:=ja.mk (Ya HX.out Es)
 have Ig:=ja.mk (Ya Ig.out Es)
 have Saj:=Es.size
 have HB:=ja.mk (Na HB.out Es)
 clear Es
 have hk1:=(ga Ig.out 1).trans rfl
 have TW:=aa Ig.out 1
 have hr0:=(ga HR.out 0).trans rfl
 have Mn:=(ga HR.out 1).trans rfl
 have Xl:=aa HR.out 0
 have Wl:=aa HR.out 1
 have zm:=(ga HX.out 6).trans rfl
 have cw:=(ga Po 0).trans rfl
 have bw:=(ga Po 1).trans rfl
 have Ex:=(ga hm2 0).trans rfl
 have Dx:=(ga hm2 1).trans rfl
 by_cases hA:(jb xs a).f0 = -1
 ·by_cases hB:(jb xs b).f0 = -1
  ·have bA:((jb xs a).f0 == -1)=true:=beq_iff_eq.2 hA
   have bB:((jb xs b).f0 == -1)=true:=beq_iff_eq.2 hB
   rw [MV hA hB] at Sz
   clear hA hB
   go_wp2_with (first|(go_at_call 119;(with_reducible refine (Zl _ _ _ _).mono ?_);rintro e w1 ⟨rfl,⟨k1,rfl⟩⟩))
   all_goals
    have hz:=HZ.out
    cases Sz.out
    refine bodyPost_ret (results_cell_row rfl _ _ (W.heap.size + 1) 79 #[.int .i64 (-1),.int .i64 (aG t (jb xs a).f1 (jb xs b).f1)] (0,0) _ rfl ?_ Try.underlying79 rfl (by kernel_rfl)) rfl ?_
    ·exact zb (cs:=#[.int .i64 (-1),.int .i64 0]) (zb (cs:=#[.int .i64 0,.int .i64 0]) (by (with_reducible repeat (first|refine Ga ?_ _|refine Ia ?_|refine Fa ?_ _));exact HR.out) 0 _ rfl) 1 _ rfl
    ·exact xu tQ.out rfl (by repeat (first|exact HB.out|apply ia|apply ua|apply qa|refine Aa ?_ (by first|omega|(simp;done)|(simp;omega))))
  ·by_cases hP:t.toList=[43]
   ·have bA:((jb xs a).f0 == -1)=true:=beq_iff_eq.2 hA
    have bB:((jb xs b).f0 == -1)=false:=beq_eq_false_iff_ne.2 hB
    have bP:(t.toList == [43])=true:=beq_iff_eq.2 hP
    rw [LV hA hB hP] at Sz
    clear hA hB hP
    go_wp2_with (first|(go_at_call 119;(with_reducible refine (Zl _ _ _ _).mono ?_);rintro e w1 ⟨rfl,⟨k1,rfl⟩⟩))
    all_goals
     have hz:=HZ.out
     cases Sz.out
     refine bodyPost_ret (results_cell_row rfl _ _ (W.heap.size + 1) 79 #[.int .i64 (jb xs b).f0,.int .i64 (wrap64 ((jb xs a).f1 + (jb xs b).f1))] (0,0) _ rfl ?_ Try.underlying79 rfl (by kernel_rfl)) rfl ?_
     ·exact zb (cs:=#[.int .i64 (jb xs b).f0,.int .i64 0]) (zb (cs:=#[.int .i64 0,.int .i64 0]) (by (with_reducible repeat (first|refine Ga ?_ _|refine Ia ?_|refine Fa ?_ _));exact HR.out) 0 _ rfl) 1 _ rfl
     ·exact xu tQ.out rfl (by repeat (first|exact HB.out|apply ia|apply ua|apply qa|refine Aa ?_ (by first|omega|(simp;done)|(simp;omega))))
   ·by_cases hM:t.toList=[45]
    ·by_cases hE:(jb xs a).f0=(jb xs b).f0
     ·exact absurd (hE ▸ hA) hB
     ·have bA:((jb xs a).f0 == -1)=true:=beq_iff_eq.2 hA
      have bB:((jb xs b).f0 == -1)=false:=beq_eq_false_iff_ne.2 hB
      have bP:(t.toList == [43])=false:=beq_eq_false_iff_ne.2 hP
      have bM:(t.toList == [45])=true:=beq_iff_eq.2 hM
      have bE:((jb xs a).f0 == (jb xs b).f0)=false:=beq_eq_false_iff_ne.2 hE
      rw [yA (fun h=>hB h.2) (fun h=>hP h.1) (fun h=>hB h.2) (fun h=>hB h.2) (fun h=>hE h.2)] at Sz
      clear hA hB hP hM hE
      go_wp2_with (first|(go_at_call 119;(with_reducible refine (Zl _ _ _ _).mono ?_);rintro e w1 ⟨rfl,⟨k1,rfl⟩⟩))
      all_goals
       have hz:=HZ.out
       cases Sz.out
       refine bodyPost_ret (results_cell_row rfl _ _ (W.heap.size + 1) 79 #[.int .i64 nx,.int .i64 0] (0,0) _ rfl ?_ Try.underlying79 rfl (by kernel_rfl)) rfl ?_
       ·exact zb (cs:=#[.int .i64 nx,.int .i64 0]) (zb (cs:=#[.int .i64 0,.int .i64 0]) (Tc (by (with_reducible repeat (first|refine Ga ?_ _|refine Ia ?_|refine Fa ?_ _));exact HR.out) (by simp;omega) _) 0 _ rfl) 1 _ rfl
       ·exact ⟨rfl,qm hB bN.out ZM.out (by (with_reducible repeat (first|refine Kept.drewN ?_ _|refine Kept.drew ?_|refine Kept.alloc ?_ _));exact Kept.Hi HB.out _) (by (with_reducible repeat (first|refine Ga ?_ _|refine Ia ?_|refine Fa ?_ _));exact Ig.out) (by repeat (first|exact HB.out.mono (Nat.le_of_lt hlt)|apply ia|apply ua|refine Below.alloc ?_ (by simp;omega) _)) (Nat.le_succ _) hlt⟩
    ·have bA:((jb xs a).f0 == -1)=true:=beq_iff_eq.2 hA
     have bB:((jb xs b).f0 == -1)=false:=beq_eq_false_iff_ne.2 hB
     have bP:(t.toList == [43])=false:=beq_eq_false_iff_ne.2 hP
     have bM:(t.toList == [45])=false:=beq_eq_false_iff_ne.2 hM
     rw [yA (fun h=>hB h.2) (fun h=>hP h.1) (fun h=>hB h.2) (fun h=>hM h.1) (fun h=>hM h.1)] at Sz
     clear hA hB hP hM
     go_wp2_with (first|(go_at_call 119;(with_reducible refine (Zl _ _ _ _).mono ?_);rintro e w1 ⟨rfl,⟨k1,rfl⟩⟩))
     all_goals
      have hz:=HZ.out
      cases Sz.out
      refine bodyPost_ret (results_cell_row rfl _ _ (W.heap.size + 1) 79 #[.int .i64 nx,.int .i64 0] (0,0) _ rfl ?_ Try.underlying79 rfl (by kernel_rfl)) rfl ?_
      ·exact zb (cs:=#[.int .i64 nx,.int .i64 0]) (zb (cs:=#[.int .i64 0,.int .i64 0]) (Tc (by (with_reducible repeat (first|refine Ga ?_ _|refine Ia ?_|refine Fa ?_ _));exact HR.out) (by simp;omega) _) 0 _ rfl) 1 _ rfl
      ·exact ⟨rfl,qm hB bN.out ZM.out (by (with_reducible repeat (first|refine Kept.drewN ?_ _|refine Kept.drew ?_|refine Kept.alloc ?_ _));exact Kept.Hi HB.out _) (by (with_reducible repeat (first|refine Ga ?_ _|refine Ia ?_|refine Fa ?_ _));exact Ig.out) (by repeat (first|exact HB.out.mono (Nat.le_of_lt hlt)|apply ia|apply ua|refine Below.alloc ?_ (by simp;omega) _)) (Nat.le_succ _) hlt⟩
 ·by_cases hB:(jb xs b).f0 = -1
  ·by_cases hP:t.toList=[43]
   ·have bA:((jb xs a).f0 == -1)=false:=beq_eq_false_iff_ne.2 hA
    have bB:((jb xs b).f0 == -1)=true:=beq_iff_eq.2 hB
    have bP:(t.toList == [43])=true:=beq_iff_eq.2 hP
    rw [JV hA hB hP] at Sz
    clear hA hB hP
    go_wp2_with (first|(go_at_call 119;(with_reducible refine (Zl _ _ _ _).mono ?_);rintro e w1 ⟨rfl,⟨k1,rfl⟩⟩))
    all_goals
     have hz:=HZ.out
     cases Sz.out
     refine bodyPost_ret (results_cell_row rfl _ _ (W.heap.size + 1) 79 #[.int .i64 (jb xs a).f0,.int .i64 (wrap64 ((jb xs a).f1 + (jb xs b).f1))] (0,0) _ rfl ?_ Try.underlying79 rfl (by kernel_rfl)) rfl ?_
     ·exact zb (cs:=#[.int .i64 (jb xs a).f0,.int .i64 0]) (zb (cs:=#[.int .i64 0,.int .i64 0]) (by (with_reducible repeat (first|refine Ga ?_ _|refine Ia ?_|refine Fa ?_ _));exact HR.out) 0 _ rfl) 1 _ rfl
     ·exact xu tQ.out rfl (by repeat (first|exact HB.out|apply ia|apply ua|apply qa|refine Aa ?_ (by first|omega|(simp;done)|(simp;omega))))
   ·by_cases hM:t.toList=[45]
    ·have bA:((jb xs a).f0 == -1)=false:=beq_eq_false_iff_ne.2 hA
     have bB:((jb xs b).f0 == -1)=true:=beq_iff_eq.2 hB
     have bP:(t.toList == [43])=false:=beq_eq_false_iff_ne.2 hP
     have bM:(t.toList == [45])=true:=beq_iff_eq.2 hM
     rw [IV hA hB hP hM] at Sz
     clear hA hB hP hM
     go_wp2_with (first|(go_at_call 119;(with_reducible refine (Zl _ _ _ _).mono ?_);rintro e w1 ⟨rfl,⟨k1,rfl⟩⟩))
     all_goals
      have hz:=HZ.out
      cases Sz.out
      refine bodyPost_ret (results_cell_row rfl _ _ (W.heap.size + 1) 79 #[.int .i64 (jb xs a).f0,.int .i64 (wrap64 ((jb xs a).f1 - (jb xs b).f1))] (0,0) _ rfl ?_ Try.underlying79 rfl (by kernel_rfl)) rfl ?_
      ·exact zb (cs:=#[.int .i64 (jb xs a).f0,.int .i64 0]) (zb (cs:=#[.int .i64 0,.int .i64 0]) (by (with_reducible repeat (first|refine Ga ?_ _|refine Ia ?_|refine Fa ?_ _));exact HR.out) 0 _ rfl) 1 _ rfl
      ·exact xu tQ.out rfl (by repeat (first|exact HB.out|apply ia|apply ua|apply qa|refine Aa ?_ (by first|omega|(simp;done)|(simp;omega))))
    ·have bA:((jb xs a).f0 == -1)=false:=beq_eq_false_iff_ne.2 hA
     have bB:((jb xs b).f0 == -1)=true:=beq_iff_eq.2 hB
     have bP:(t.toList == [43])=false:=beq_eq_false_iff_ne.2 hP
     have bM:(t.toList == [45])=false:=beq_eq_false_iff_ne.2 hM
     rw [yA (fun h=>hA h.1) (fun h=>hP h.1) (fun h=>hP h.1) (fun h=>hM h.1) (fun h=>hM h.1)] at Sz
     clear hA hB hP hM
     go_wp2_with (first|(go_at_call 119;(with_reducible refine (Zl _ _ _ _).mono ?_);rintro e w1 ⟨rfl,⟨k1,rfl⟩⟩))
     all_goals
      have hz:=HZ.out
      cases Sz.out
      refine bodyPost_ret (results_cell_row rfl _ _ (W.heap.size + 1) 79 #[.int .i64 nx,.int .i64 0] (0,0) _ rfl ?_ Try.underlying79 rfl (by kernel_rfl)) rfl ?_
      ·exact zb (cs:=#[.int .i64 nx,.int .i64 0]) (zb (cs:=#[.int .i64 0,.int .i64 0]) (Tc (by (with_reducible repeat (first|refine Ga ?_ _|refine Ia ?_|refine Fa ?_ _));exact HR.out) (by simp;omega) _) 0 _ rfl) 1 _ rfl
      ·exact ⟨rfl,qm hB bN.out ZM.out (by (with_reducible repeat (first|refine Kept.drewN ?_ _|refine Kept.drew ?_|refine Kept.alloc ?_ _));exact Kept.Hi HB.out _) (by (with_reducible repeat (first|refine Ga ?_ _|refine Ia ?_|refine Fa ?_ _));exact Ig.out) (by repeat (first|exact HB.out.mono (Nat.le_of_lt hlt)|apply ia|apply ua|refine Below.alloc ?_ (by simp;omega) _)) (Nat.le_succ _) hlt⟩
  ·by_cases hP:t.toList=[43]
   ·have hM:¬ t.toList=[45]:=fun h=>absurd (hP.symm.trans h) (by decide)
    have bA:((jb xs a).f0 == -1)=false:=beq_eq_false_iff_ne.2 hA
    have bB:((jb xs b).f0 == -1)=false:=beq_eq_false_iff_ne.2 hB
    have bP:(t.toList == [43])=true:=beq_iff_eq.2 hP
    have bM:(t.toList == [45])=false:=beq_eq_false_iff_ne.2 hM
    rw [yA (fun h=>hA h.1) (fun h=>hA h.2) (fun h=>hB h.2) (fun h=>hB h.2) (fun h=>hM h.1)] at Sz
    clear hA hB hP hM
    go_wp2_with (first|(go_at_call 119;(with_reducible refine (Zl _ _ _ _).mono ?_);rintro e w1 ⟨rfl,⟨k1,rfl⟩⟩))
    all_goals
     have hz:=HZ.out
     cases Sz.out
     refine bodyPost_ret (results_cell_row rfl _ _ (W.heap.size + 1) 79 #[.int .i64 nx,.int .i64 0] (0,0) _ rfl ?_ Try.underlying79 rfl (by kernel_rfl)) rfl ?_
     ·exact zb (cs:=#[.int .i64 nx,.int .i64 0]) (zb (cs:=#[.int .i64 0,.int .i64 0]) (Tc (by (with_reducible repeat (first|refine Ga ?_ _|refine Ia ?_|refine Fa ?_ _));exact HR.out) (by simp;omega) _) 0 _ rfl) 1 _ rfl
     ·exact ⟨rfl,qm hB bN.out ZM.out (by (with_reducible repeat (first|refine Kept.drewN ?_ _|refine Kept.drew ?_|refine Kept.alloc ?_ _));exact Kept.Hi HB.out _) (by (with_reducible repeat (first|refine Ga ?_ _|refine Ia ?_|refine Fa ?_ _));exact Ig.out) (by repeat (first|exact HB.out.mono (Nat.le_of_lt hlt)|apply ia|apply ua|refine Below.alloc ?_ (by simp;omega) _)) (Nat.le_succ _) hlt⟩
   ·by_cases hM:t.toList=[45]
    ·by_cases hE:(jb xs a).f0=(jb xs b).f0
     ·have bA:((jb xs a).f0 == -1)=false:=beq_eq_false_iff_ne.2 hA
      have bB:((jb xs b).f0 == -1)=false:=beq_eq_false_iff_ne.2 hB
      have bP:(t.toList == [43])=false:=beq_eq_false_iff_ne.2 hP
      have bM:(t.toList == [45])=true:=beq_iff_eq.2 hM
      have bE:((jb xs a).f0 == (jb xs b).f0)=true:=beq_iff_eq.2 hE
      rw [GV hA hB hM hE] at Sz
      clear hA hB hP hM hE
      go_wp2_with (first|(go_at_call 119;(with_reducible refine (Zl _ _ _ _).mono ?_);rintro e w1 ⟨rfl,⟨k1,rfl⟩⟩))
      all_goals
       have hz:=HZ.out
       cases Sz.out
       refine bodyPost_ret (results_cell_row rfl _ _ (W.heap.size + 1) 79 #[.int .i64 (-1),.int .i64 (wrap64 ((jb xs a).f1 - (jb xs b).f1))] (0,0) _ rfl ?_ Try.underlying79 rfl (by kernel_rfl)) rfl ?_
       ·exact zb (cs:=#[.int .i64 (-1),.int .i64 0]) (zb (cs:=#[.int .i64 0,.int .i64 0]) (by (with_reducible repeat (first|refine Ga ?_ _|refine Ia ?_|refine Fa ?_ _));exact HR.out) 0 _ rfl) 1 _ rfl
       ·exact xu tQ.out rfl (by repeat (first|exact HB.out|apply ia|apply ua|apply qa|refine Aa ?_ (by first|omega|(simp;done)|(simp;omega))))
     ·have bA:((jb xs a).f0 == -1)=false:=beq_eq_false_iff_ne.2 hA
      have bB:((jb xs b).f0 == -1)=false:=beq_eq_false_iff_ne.2 hB
      have bP:(t.toList == [43])=false:=beq_eq_false_iff_ne.2 hP
      have bM:(t.toList == [45])=true:=beq_iff_eq.2 hM
      have bE:((jb xs a).f0 == (jb xs b).f0)=false:=beq_eq_false_iff_ne.2 hE
      rw [yA (fun h=>hA h.1) (fun h=>hA h.2) (fun h=>hB h.2) (fun h=>hB h.2) (fun h=>hE h.2)] at Sz
      clear hA hB hP hM hE
      go_wp2_with (first|(go_at_call 119;(with_reducible refine (Zl _ _ _ _).mono ?_);rintro e w1 ⟨rfl,⟨k1,rfl⟩⟩))
      all_goals
       have hz:=HZ.out
       cases Sz.out
       refine bodyPost_ret (results_cell_row rfl _ _ (W.heap.size + 1) 79 #[.int .i64 nx,.int .i64 0] (0,0) _ rfl ?_ Try.underlying79 rfl (by kernel_rfl)) rfl ?_
       ·exact zb (cs:=#[.int .i64 nx,.int .i64 0]) (zb (cs:=#[.int .i64 0,.int .i64 0]) (Tc (by (with_reducible repeat (first|refine Ga ?_ _|refine Ia ?_|refine Fa ?_ _));exact HR.out) (by simp;omega) _) 0 _ rfl) 1 _ rfl
       ·exact ⟨rfl,qm hB bN.out ZM.out (by (with_reducible repeat (first|refine Kept.drewN ?_ _|refine Kept.drew ?_|refine Kept.alloc ?_ _));exact Kept.Hi HB.out _) (by (with_reducible repeat (first|refine Ga ?_ _|refine Ia ?_|refine Fa ?_ _));exact Ig.out) (by repeat (first|exact HB.out.mono (Nat.le_of_lt hlt)|apply ia|apply ua|refine Below.alloc ?_ (by simp;omega) _)) (Nat.le_succ _) hlt⟩
    ·have bA:((jb xs a).f0 == -1)=false:=beq_eq_false_iff_ne.2 hA
     have bB:((jb xs b).f0 == -1)=false:=beq_eq_false_iff_ne.2 hB
     have bP:(t.toList == [43])=false:=beq_eq_false_iff_ne.2 hP
     have bM:(t.toList == [45])=false:=beq_eq_false_iff_ne.2 hM
     rw [yA (fun h=>hA h.1) (fun h=>hA h.2) (fun h=>hB h.2) (fun h=>hB h.2) (fun h=>hM h.1)] at Sz
     clear hA hB hP hM
     go_wp2_with (first|(go_at_call 119;(with_reducible refine (Zl _ _ _ _).mono ?_);rintro e w1 ⟨rfl,⟨k1,rfl⟩⟩))
     all_goals
      have hz:=HZ.out
      cases Sz.out
      refine bodyPost_ret (results_cell_row rfl _ _ (W.heap.size + 1) 79 #[.int .i64 nx,.int .i64 0] (0,0) _ rfl ?_ Try.underlying79 rfl (by kernel_rfl)) rfl ?_
      ·exact zb (cs:=#[.int .i64 nx,.int .i64 0]) (zb (cs:=#[.int .i64 0,.int .i64 0]) (Tc (by (with_reducible repeat (first|refine Ga ?_ _|refine Ia ?_|refine Fa ?_ _));exact HR.out) (by simp;omega) _) 0 _ rfl) 1 _ rfl
      ·exact ⟨rfl,qm hB bN.out ZM.out (by (with_reducible repeat (first|refine Kept.drewN ?_ _|refine Kept.drew ?_|refine Kept.alloc ?_ _));exact Kept.Hi HB.out _) (by (with_reducible repeat (first|refine Ga ?_ _|refine Ia ?_|refine Fa ?_ _));exact Ig.out) (by repeat (first|exact HB.out.mono (Nat.le_of_lt hlt)|apply ia|apply ua|refine Below.alloc ?_ (by simp;omega) _)) (Nat.le_succ _) hlt⟩
theorem tA {x:yf} {r:mm} (hk:KV W B kb v xs nx) (h:Calls Try.prog 92 #[.pointer (some ⟨kb,0,none⟩),.agg #[.int .i64 x.f0,.int .i64 x.f1,.int .i64 x.f2,.int .i64 x.f3,.int .i64 x.f4,.int .i64 x.f5,.string x.f6]] W fun e w'=>e = .returned (.agg #[.int .i64 r.f0,.int .i64 r.f1])∧Below W.heap.size W w') :
  Calls Try.prog 92 #[.pointer (some ⟨kb,0,none⟩),.agg #[.int .i64 x.f0,.int .i64 x.f1,.int .i64 x.f2,.int .i64 x.f3,.int .i64 x.f4,.int .i64 x.f5,.string x.f6]] W fun e w'=>e = .returned (.agg #[.int .i64 r.f0,.int .i64 r.f1])∧KV w' B kb v xs nx∧Kept W w' (fun k=>k=kb)∧Below kb W w':=by
 have hlt:kb < W.heap.size:=Pc hk.2.1
 exact h.mono fun e w' ⟨he,hb⟩=>⟨he,hk.below hb,Kept.Hi hb _,hb.mono (Nat.le_of_lt hlt)⟩
theorem CJ (hk:KV W B kb v xs nx) (hn0:0 ≤ nx) (Ds:nx ≤ 1000000000) (x:yf) (h1:x.f0=1→0 ≤ x.f2∧x.f2 < xs.length) (h2:x.f0=2→(0 ≤ x.f2∧x.f2 < xs.length)∧(0 ≤ x.f3∧x.f3 < xs.length)) :
  Calls Try.prog 92 #[.pointer (some ⟨kb,0,none⟩),.agg #[.int .i64 x.f0,.int .i64 x.f1,.int .i64 x.f2,.int .i64 x.f3,.int .i64 x.f4,.int .i64 x.f5,.string x.f6]] W fun e w'=>e = .returned (.agg #[.int .i64 (wo xs nx x).1.f0,.int .i64 (wo xs nx x).1.f1])∧KV w' B kb v xs (wo xs nx x).2∧Kept W w' (fun k=>k=kb)∧Below kb W w':=by
 unfold wo
 by_cases o0:x.f0=0
 ·rw [if_pos o0]
  refine tA (r:=⟨-1,x.f5⟩) hk ?_
  rw [o0]
  exact jN hk _ _ _ _ _ _
 rw [if_neg o0]
 by_cases o1:x.f0=1
 ·rw [if_pos o1]
  refine tA (r:=jb xs x.f2) hk ?_
  rw [o1]
  exact iN hk _ _ _ _ _ _ (h1 o1).1 (h1 o1).2
 rw [if_neg o1]
 by_cases o2:x.f0=2
 ·rw [if_pos o2]
  obtain ⟨⟨a0,a1⟩,b0,b1⟩:=h2 o2
  rw [o2]
  exact gN hk hn0 Ds _ _ _ _ _ _ a0 a1 b0 b1
 rw [if_neg o2]
 exact fN hk hn0 Ds _ _ _ _ _ _ x.f0 (beq_eq_false_iff_ne.mpr o0) (beq_eq_false_iff_ne.mpr o1) (beq_eq_false_iff_ne.mpr o2)
end
end Go.Proofs.Ytmifdccaajngcaa.P
end
section
namespace Go.Proofs.Ytmifdccaajngcaa.P
open Go.RowKit Go.Proofs.Sa.Ec Go.Proofs.Sa.Bf Go.Proofs.Sa.Yg
set_option linter.unusedVariables false
set_option linter.unusedSimpArgs false
def mg (x:yf):Int:=if x.f0=4 then -1 else if x.f0=6 then -1 else x.f1
theorem xA (x:yf) (w:World):Calls Try.prog 91 #[.agg #[.int .i64 x.f0,.int .i64 x.f1,.int .i64 x.f2,.int .i64 x.f3,.int .i64 x.f4,.int .i64 x.f5,.string x.f6]] w fun e w'=>e = .returned (.int .i64 (mg x))∧Below w.heap.size w w' :=
 Fq.calls _ _ _ _ _ _ _ _ w (by
  unfold Fq.f mg
  split
  ·rfl
  ·split <;> rfl)
def cj (xs:List mm) (nx:Int) (x:yf):List mm × Int :=
 if 0 ≤ mg x then (xs.set (mg x).toNat (wo xs nx x).1,(wo xs nx x).2) else (xs,nx)
section
variable {W:World} {B kb:Nat} {xs:List mm} {nx:Int}
def KT (W:World) (k:Nat):Prop:=∃ cells t,W.heap[k]? = some (.cells cells t (0,0))∧(t=74 ∨ t=79)
theorem uA (hk:KS W B kb xs nx) (hn0:0 ≤ nx) (Ds:nx ≤ 1000000000) (x:yf) (h1:x.f0=1→0 ≤ x.f2∧x.f2 < xs.length) (h2:x.f0=2→(0 ≤ x.f2∧x.f2 < xs.length)∧(0 ≤ x.f3∧x.f3 < xs.length)) (h3:mg x < xs.length) :
  Calls Try.prog 60 #[.pointer (some ⟨kb,0,none⟩),.agg #[.int .i64 x.f0,.int .i64 x.f1,.int .i64 x.f2,.int .i64 x.f3,.int .i64 x.f4,.int .i64 x.f5,.string x.f6]] W fun e w'=>e = .returned (.tuple #[])∧KS w' B kb (cj xs nx x).1 (cj xs nx x).2∧Below B W w'∧Kept W w' (KT W):=by
 obtain ⟨W1,hW1⟩:∃ W1,W1=W.alloc (.cells #[.int .i64 x.f0,.int .i64 x.f1,.int .i64 x.f2,.int .i64 x.f3,.int .i64 x.f4,.int .i64 x.f5,.string x.f6] 70 (0,0)):=⟨_,rfl⟩
 have HW:=ja.mk hW1
 have Bl:Below W.heap.size W W1:=by rw [hW1];exact qa (Below.refl _ _) _
 have Bi:W1.heap[W.heap.size]? = some (.cells #[.int .i64 x.f0,.int .i64 x.f1,.int .i64 x.f2,.int .i64 x.f3,.int .i64 x.f4,.int .i64 x.f5,.string x.f6] 70 (0,0)):=by rw [hW1];exact Me _ _
 obtain ⟨v,hk⟩:=hk
 have hk1:=hk.below Bl
 have RT:B ≤ W.heap.size:=by
  obtain ⟨hB,hh,_⟩:=hk
  have:=Pc hh
  omega
 have HKT:=ja.mk (show KT W kb from ⟨_,_,hk.2.1,Or.inl rfl⟩)
 have HRT:=ja.mk (Kd.Tt hk.2.2)
 have PU:=ja.mk (Kept.Hi Bl (KT W))
 have HB:=ja.mk (Bl.mono RT)
 have HK:=ja.mk hk1
 have HX:=ja.mk Bi
 have hx0:=(ga Bi 0).trans rfl
 have hx1:=(ga Bi 1).trans rfl
 have Ek:=(ga Bi 2).trans rfl
 have jk:=(ga Bi 3).trans rfl
 have Dk:=(ga Bi 4).trans rfl
 have Um:=(ga Bi 5).trans rfl
 have zm:=(ga Bi 6).trans rfl
 clear hW1 Bi hk1 Bl hk
 unfold cj
 by_cases hm:0 ≤ mg x
 ·rw [if_pos hm]
  have hmb:decide (mg x ≥ 0)=true:=decide_eq_true hm
  go_enter Try.func60,Try.ntmps60
  go_upto_region 1 with (fail)
  rw [← HW.out]
  clear HW
  go_upto_region 3 with (first|(go_at_call 91;(with_reducible refine (xA x _).mono ?_);rintro e w1 ⟨rfl,hb⟩;have Oz:=ja.mk hb;clear hb))
  have HX:=ja.mk (Ia (Ya HX.out Oz.out))
  have HB:=ja.mk (ua (HB.out.trans (Oz.out.mono (Nat.le_trans RT HB.out.size))))
  have hkv:=(HK.out.below Oz.out).below (Oo (Below.refl _ _))
  have PU:=ja.mk ((PU.out.below Oz.out).drew)
  have HK:=ja.mk hkv
  clear hkv hx0 hx1 Ek jk Dk Um zm
  obtain ⟨A,cc,rfl,_,hC⟩:=Kd.Zn HK.out.2.2
  have FN:=hC.2.1
  obtain ⟨ad,c9,e1,nu,hcK,yq⟩:=Kd.jx hC cV (mg x) hm h3
  cases e1
  obtain ⟨g,rfl⟩:=Kd.fq HK.out.2.2
  have HGT:=ja.mk (show KT W g by obtain ⟨cells,hc⟩:=HRT.out g rfl;exact ⟨_,_,hc,Or.inr rfl⟩)
  clear hC
  refine Oi (n:=10) (S:=fun w'=>w'.cell? ⟨kb,0,none⟩=some (.slice (some ⟨g,0,none⟩) xs.length cc)∧w'.cell? ⟨W.heap.size,0,none⟩=some (.int .i64 x.f0)∧w'.cell? ⟨W.heap.size,1,none⟩=some (.int .i64 x.f1)∧w'.cell? ⟨W.heap.size,2,none⟩=some (.int .i64 x.f2)∧w'.cell? ⟨W.heap.size,3,none⟩=some (.int .i64 x.f3)∧w'.cell? ⟨W.heap.size,4,none⟩=some (.int .i64 x.f4)∧w'.cell? ⟨W.heap.size,5,none⟩=some (.int .i64 x.f5)∧w'.cell? ⟨W.heap.size,6,none⟩=some (.string x.f6)) (ds:=[9]) #[false,false,false,false,false,false,false,false,false,false] (by kernel_rfl) rfl rfl ⟨(ga HK.out.2.1 0).trans rfl,(ga HX.out 0).trans rfl,(ga HX.out 1).trans rfl,(ga HX.out 2).trans rfl,(ga HX.out 3).trans rfl,(ga HX.out 4).trans rfl,(ga HX.out 5).trans rfl,(ga HX.out 6).trans rfl⟩ (fun hHeld=>?_)
  generalize w1.drew=w2 at HX HB HK PU hHeld ⊢
  refine Nc (i:=0) (N:=some 9) (v:=?_) (a':=?_) #[true,false,false,false,false,false,false,false,false,false] rfl rfl (by kernel_rfl) (fun _ _ _ h=>h) (Or.inl ⟨by rfl,?_⟩) ?_ ?_
  rotate_left
  ·intro w'
   go_simp
   with_reducible rfl
  rotate_left
  ·simp only [Act.put,List.setIfInBounds_toArray,List.set_cons_zero,List.set_cons_succ,Bb,Cb]
   rfl
  refine Nc (i:=1) (N:=some 10) (v:=?_) (a':=?_) #[true,true,false,false,false,false,false,false,false,false] rfl rfl (by kernel_rfl) (fun _ _ _ h=>h) (Or.inl ⟨by rfl,?_⟩) ?_ ?_
  rotate_left
  ·intro w'
   go_simp
   with_reducible rfl
  rotate_left
  ·simp only [Act.put,List.setIfInBounds_toArray,List.set_cons_zero,List.set_cons_succ,Bb,Cb]
   rfl
  refine Nc (i:=2) (N:=some 11) (v:=?_) (a':=?_) #[true,true,true,false,false,false,false,false,false,false] rfl rfl (by kernel_rfl) (fun _ _ _ h=>h) (Or.inl ⟨by rfl,?_⟩) ?_ ?_
  rotate_left
  ·intro w'
   go_simp
   with_reducible rfl
  rotate_left
  ·simp only [Act.put,List.setIfInBounds_toArray,List.set_cons_zero,List.set_cons_succ,Bb,Cb]
   rfl
  refine Nc (i:=4) (N:=some 13) (v:=?_) (a':=?_) #[true,true,true,false,true,false,false,false,false,false] rfl rfl (by kernel_rfl) (fun _ _ _ h=>h) (Or.inl ⟨by rfl,?_⟩) ?_ ?_
  rotate_left
  ·intro w'
   go_simp
   with_reducible rfl
  rotate_left
  ·simp only [Act.put,List.setIfInBounds_toArray,List.set_cons_zero,List.set_cons_succ,Bb,Cb]
   rfl
  refine Nc (i:=5) (N:=some 14) (v:=?_) (a':=?_) #[true,true,true,false,true,true,false,false,false,false] rfl rfl (by kernel_rfl) (fun _ _ _ h=>h) (Or.inl ⟨by rfl,?_⟩) ?_ ?_
  rotate_left
  ·intro w'
   go_simp
   with_reducible rfl
  rotate_left
  ·simp only [Act.put,List.setIfInBounds_toArray,List.set_cons_zero,List.set_cons_succ,Bb,Cb]
   rfl
  refine Lf (i:=3) (N:=some 12) (v:=?_) (a':=?_) #[true,true,true,true,true,true,false,false,false,false] rfl rfl (by kernel_rfl) (fun _ _ _ h=>h) (Or.inl ⟨by rfl,?_⟩) hHeld ?_ ?_
  rotate_left
  ·rintro w' ⟨s0,s1,s2,s3,s4,s5,s6,s7⟩
   go_simp
   with_reducible rfl
  rotate_left
  ·simp only [Act.put,List.setIfInBounds_toArray,List.set_cons_zero,List.set_cons_succ,Bb,Cb]
   rfl
  refine Lf (i:=6) (N:=some 15) (v:=?_) (a':=?_) #[true,true,true,true,true,true,true,false,false,false] rfl rfl (by kernel_rfl) (fun _ _ _ h=>h) (Or.inl ⟨by rfl,?_⟩) hHeld ?_ ?_
  rotate_left
  ·rintro w' ⟨s0,s1,s2,s3,s4,s5,s6,s7⟩
   go_simp
   with_reducible rfl
  rotate_left
  ·simp only [Act.put,List.setIfInBounds_toArray,List.set_cons_zero,List.set_cons_succ,Bb,Cb]
   rfl
  refine gm (i:=7) (N:=some 16) #[true,true,true,true,true,true,true,true,false,false] rfl rfl (by kernel_rfl) (by decide) (fun K hK=>?_)
  refine Qm Try.func92 (by kernel_rfl) rfl #[.pointer (some ⟨kb,0,none⟩),.agg #[.int .i64 x.f0,.int .i64 x.f1,.int .i64 x.f2,.int .i64 x.f3,.int .i64 x.f4,.int .i64 x.f5,.string x.f6]] (by rfl) rfl rfl (by simp only [List.map_toArray,List.map_cons,List.map_nil];rfl) ?_
  with_reducible refine (CJ HK.out hn0 Ds x h1 h2).mono ?_
  rintro e w3 ⟨rfl,hkv,hkk,hbv⟩
  refine ⟨_,rfl,?_⟩
  have HX:=ja.mk (Yf HX.out hkk (by obtain ⟨_,q,_⟩:=HK.out;intro e;rw [← e,HX.out] at q;simp at q))
  have HB:=ja.mk (HB.out.trans (hbv.mono HK.out.1))
  have HK:=ja.mk hkv
  have PU:=ja.mk (PU.out.Ur hkk (fun k_ e=>Or.inl (by rw [e];exact HKT.out)))
  clear hkv hkk hbv
  refine hK.out _ _ ⟨(ga HK.out.2.1 0).trans rfl,(ga HX.out 0).trans rfl,(ga HX.out 1).trans rfl,(ga HX.out 2).trans rfl,(ga HX.out 3).trans rfl,(ga HX.out 4).trans rfl,(ga HX.out 5).trans rfl,(ga HX.out 6).trans rfl⟩ (fun hHeld=>?_)
  clear hK K
  refine Mg (a':=?_) ?_ ?_
  rotate_left
  ·show Act.put _ (some 16) _=_
   simp only [Act.put,List.setIfInBounds_toArray,List.set_cons_zero,List.set_cons_succ,Bb,Cb]
   rfl
  refine Nc (i:=8) (N:=some 17) (v:=?_) (a':=?_) #[true,true,true,true,true,true,true,true,true,false] rfl rfl (by kernel_rfl) (fun _ _ _ h=>h) (Or.inl ⟨by rfl,?_⟩) ?_ ?_
  rotate_left
  ·intro w'
   go_simp
   with_reducible rfl
  rotate_left
  ·simp only [Act.put,List.setIfInBounds_toArray,List.set_cons_zero,List.set_cons_succ,Bb,Cb]
   rfl
  refine cz (i:=9) (N:=none) #[true,true,true,true,true,true,true,true,true,true] rfl rfl (by kernel_rfl) (by decide) (fun K hK=>?_)
  obtain ⟨c3,L0,M0,YP,NT⟩:=Kd.Xg HK.out.2.2 cV (mg x) hm h3
  obtain rfl:=FD (Kd.K_of_M _ M0)
  have hs0:w3.cell? ⟨g,(mg x).toNat * 2,none⟩=some (.int .i64 (xs.getD (mg x).toNat cV).f0):=YP 0 _ rfl
  have hs1:w3.cell? ⟨g,(mg x).toNat * 2 + 1,none⟩=some (.int .i64 (xs.getD (mg x).toNat cV).f1):=YP 1 _ rfl
  have hf0:w3.frozen? ⟨g,(mg x).toNat * 2,none⟩=false:=NT 0
  have hf1:w3.frozen? ⟨g,(mg x).toNat * 2 + 1,none⟩=false:=NT 1
  have Mz:=ja.mk (Kd.cm HK.out.2.2 (mg x) hm h3 L0 YP (seg:=[.int .i64 (wo xs nx x).1.f0,.int .i64 (wo xs nx x).1.f1]) (j:=0) (show 0 + 2 ≤ 2 from by decide) (x':=(wo xs nx x).1) (Xo:=fun _=>False) (FG _ _ _ _) (fun _ hk=>hk.elim)).1
  have hneg:kb ≠ g:=fun e=>Kd.oE HK.out.2.2 HK.out.2.1 (by decide) (by rw [e];rfl)
  have hBg:B ≤ g:=by
   obtain ⟨inner,hi⟩:=Kd.ju HK.out.2.2
   exact Ks hi g rfl
  clear L0 M0 YP NT
  refine Hs (w1:=?_) (by rfl) rfl ?_ ?_
  rotate_left
  ·go_simp
   rfl
  refine hK.out _ _ ?_
  clear hK K
  refine Mk (by kernel_rfl) ?_
  go_wp2
  refine bodyPost_end (v:=.tuple #[]) ?_ rfl ?_
  ·kernel_rfl
  exact ⟨rfl,⟨_,HK.out.1,Tc (p:=⟨g,(mg x).toNat * 2 + 1,none⟩) (Tc (p:=⟨g,(mg x).toNat * 2,none⟩) HK.out.2.1 hneg _) hneg _,Mz.out⟩,(HB.out.setCell hBg _).setCell hBg _,Kept.setCell (p:=⟨g,(mg x).toNat * 2 + 1,none⟩) (Kept.setCell (p:=⟨g,(mg x).toNat * 2,none⟩) PU.out (Or.inl HGT.out) _) (Or.inl HGT.out) _⟩
 ·rw [if_neg hm]
  have hmb:decide (mg x ≥ 0)=false:=decide_eq_false hm
  clear hm
  go_enter Try.func60,Try.ntmps60
  go_upto_region 1 with (fail)
  rw [← HW.out]
  clear HW
  go_wp2_with (first|(go_at_call 91;(with_reducible refine (xA x _).mono ?_);rintro e w1 ⟨rfl,hb⟩;have Oz:=ja.mk hb;clear hb))
  refine bodyPost_end (v:=.tuple #[]) ?_ rfl ?_
  ·kernel_rfl
  exact ⟨rfl,⟨_,HK.out.below Oz.out⟩,HB.out.trans (Oz.out.mono (Nat.le_trans RT HB.out.size)),PU.out.below Oz.out⟩
theorem zD (hk:KS W B kb xs nx) (hn0:0 ≤ nx) (Ds:nx ≤ 1000000000) (x:yf) (h1:x.f0=1→0 ≤ x.f2∧x.f2 < xs.length) (h2:x.f0=2→(0 ≤ x.f2∧x.f2 < xs.length)∧(0 ≤ x.f3∧x.f3 < xs.length)) (h3:mg x < xs.length) :
  Calls Try.prog 60 #[.pointer (some ⟨kb,0,none⟩),.agg #[.int .i64 x.f0,.int .i64 x.f1,.int .i64 x.f2,.int .i64 x.f3,.int .i64 x.f4,.int .i64 x.f5,.string x.f6]] W fun e w'=>e = .returned (.tuple #[])∧KS w' B kb (cj xs nx x).1 (cj xs nx x).2∧Below B W w' :=
 (uA hk hn0 Ds x h1 h2 h3).mono fun _ _ ⟨a,b,c,_⟩=>⟨a,b,c⟩
end
end Go.Proofs.Ytmifdccaajngcaa.P
end
