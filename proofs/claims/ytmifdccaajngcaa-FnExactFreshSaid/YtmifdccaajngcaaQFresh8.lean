import Derived.Shelf.Abstract
import Derived.Outline
import Derived.RegionTactic
import Derived.Test.YtmifdccaajngcaaQFresh1
import Derived.Test.YtmifdccaajngcaaQFresh7
import Derived.Deep.QuietTactic
import Derived.BigQuiet
section
namespace Go.Proofs.Ytmifdccaajngcaa.P
open Go.RowKit Go.Proofs.Ca.xb Go.Proofs.Ca.Xb Go.Proofs.Ca.ic
set_option linter.unusedVariables false
set_option linter.unusedSimpArgs false
attribute [local go_sem high] zW
def vB:List ByteArray:=[⟨#[61,61]⟩,⟨#[60]⟩,⟨#[38]⟩,⟨#[43]⟩,⟨#[45]⟩,⟨#[42]⟩]
def Ar (s:ByteArray):Bool:=vB.any fun y=>decide (s.toList=y.toList)
theorem DG (s:ByteArray):Ug.f 8 s=some (Ar s):=by
 unfold Ug.f Jc.f Eb.f Ar vB
 simp only [Eb.l0,List.any_cons,List.any_nil]
 by_cases h0:s.toList=[61,61]
 ·simp [Vi,h0]
 by_cases h1:s.toList=[60]
 ·simp [Vi,h1,wrap64]
 by_cases h2:s.toList=[38]
 ·simp [Vi,h2,wrap64]
 by_cases h3:s.toList=[43]
 ·simp [Vi,h3,wrap64]
 by_cases h4:s.toList=[45]
 ·simp [Vi,h4,wrap64]
 by_cases h5:s.toList=[42]
 ·simp [Vi,h5,wrap64]
 simp [Vi,h0,h1,h2,h3,h4,h5,wrap64]
theorem FB (s:ByteArray) (w:World):Calls Try.prog 136 #[.string s] w fun e w'=>e = .returned (.bool (Ar s))∧Below w.heap.size w w':=Ug.calls 8 s (Ar s) w (DG s)
def Sh (slots s:Int):Bool:=decide (0 ≤ s) && decide (s < slots)
set_option maxHeartbeats 400000 in
theorem Nh (B:Nat) (slots s:Int) (W:World) (hb3:W.cell? ⟨B,3,none⟩=some (.int .i64 slots)):Calls Try.prog 135 #[.int .i64 s,.pointer (some ⟨B,0,none⟩)] W fun e w'=>e = .returned (.bool (Sh slots s))∧W=w':=by
 unfold Sh
 by_cases h:0 ≤ s
 all_goals
  go_enter Try.func135,Try.ntmps135
  go_wp2
  go_ret
  exact ⟨by simp [*];try omega,rfl⟩
set_option maxHeartbeats 2000000 in
set_option maxRecDepth 100000 in
theorem LG (A0 A4:Option Addr) (c0 c4 n0 n4:Nat) (p1 p2 slots d a b c n:Int) (t:ByteArray) (w:World) (hn0:n0 ≤ 9223372036854775807) (Wx:n4 ≤ 9223372036854775807) :
  Calls Try.prog 118 #[.agg #[.slice A0 n0 c0,.int .i64 p1,.int .i64 p2,.int .i64 slots,.slice A4 n4 c4],.agg #[.int .i64 0,.int .i64 d,.int .i64 a,.int .i64 b,.int .i64 c,.int .i64 n,.string t]] w fun e w'=>e = .returned (.bool (Sh slots d && (a == 0 && (b == 0 && (c == 0 && t.toList.isEmpty)))))∧Below w.heap.size w w':=by
 obtain ⟨W1,hW1⟩:∃ W1,W1=(w.alloc (.cells #[.slice A0 n0 c0,.int .i64 p1,.int .i64 p2,.int .i64 slots,.slice A4 n4 c4] 30 (0,0))).alloc (.cells #[.int .i64 0,.int .i64 d,.int .i64 a,.int .i64 b,.int .i64 c,.int .i64 n,.string t] 70 (0,0)):=⟨_,rfl⟩
 have HW:=qa.mk hW1
 have HB:=qa.mk (show Below w.heap.size w W1 from by rw [hW1];exact ia (ia (Below.refl _ _) _) _)
 have hz:W1.heap.size=w.heap.size + 2:=by rw [hW1];simp
 have qQ:W1.cell? ⟨w.heap.size,3,none⟩=some (.int .i64 slots):=by rw [hW1];simp
 have hx0:W1.cell? ⟨w.heap.size + 1,0,none⟩=some (.int .i64 0):=by rw [hW1];simp
 have hx1:W1.cell? ⟨w.heap.size + 1,1,none⟩=some (.int .i64 d):=by rw [hW1];simp
 have Gk:W1.cell? ⟨w.heap.size + 1,2,none⟩=some (.int .i64 a):=by rw [hW1];simp
 have Fk:W1.cell? ⟨w.heap.size + 1,3,none⟩=some (.int .i64 b):=by rw [hW1];simp
 have qm:W1.cell? ⟨w.heap.size + 1,4,none⟩=some (.int .i64 c):=by rw [hW1];simp
 have vp:W1.cell? ⟨w.heap.size + 1,5,none⟩=some (.int .i64 n):=by rw [hW1];simp
 have om:W1.cell? ⟨w.heap.size + 1,6,none⟩=some (.string t):=by rw [hW1];simp
 clear hW1
 go_enter Try.func118,Try.ntmps118
 go_wp2_with (first|(go_at_call 58;(with_reducible refine (Oh _ _ _ _).mono ?_);rintro e w1 ⟨rfl,⟨k1,rfl⟩⟩))
 rw [← HW.out]
 clear HW
 go_region
 all_goals go_wp2_with (first|(go_at_call 135;(refine (Nh _ slots _ _ ?hc).mono ?_);(case hc=>first|(go_simp;done)|(go_simp;rfl));rintro e w1 ⟨rfl,rfl⟩))
 all_goals go_ret
 all_goals exact ⟨by (try clear uN OL QH Kt);simp [*],by repeat (first|exact HB.out|(refine Pa ?_ Kt.out)|apply ja|apply za|apply ia|refine Aa ?_ (by first|omega|(simp;done)|(simp;omega)))⟩
set_option maxHeartbeats 2000000 in
set_option maxRecDepth 100000 in
theorem KG (A0 A4:Option Addr) (c0 c4 n0 n4:Nat) (p1 p2 slots d a b c n:Int) (t:ByteArray) (w:World) (hn0:n0 ≤ 9223372036854775807) (Wx:n4 ≤ 9223372036854775807) :
  Calls Try.prog 118 #[.agg #[.slice A0 n0 c0,.int .i64 p1,.int .i64 p2,.int .i64 slots,.slice A4 n4 c4],.agg #[.int .i64 1,.int .i64 d,.int .i64 a,.int .i64 b,.int .i64 c,.int .i64 n,.string t]] w fun e w'=>e = .returned (.bool (Sh slots d && Sh slots a && (b == 0 && (c == 0 && (n == 0 && t.toList.isEmpty)))))∧Below w.heap.size w w':=by
 obtain ⟨W1,hW1⟩:∃ W1,W1=(w.alloc (.cells #[.slice A0 n0 c0,.int .i64 p1,.int .i64 p2,.int .i64 slots,.slice A4 n4 c4] 30 (0,0))).alloc (.cells #[.int .i64 1,.int .i64 d,.int .i64 a,.int .i64 b,.int .i64 c,.int .i64 n,.string t] 70 (0,0)):=⟨_,rfl⟩
 have HW:=qa.mk hW1
 have HB:=qa.mk (show Below w.heap.size w W1 from by rw [hW1];exact ia (ia (Below.refl _ _) _) _)
 have hz:W1.heap.size=w.heap.size + 2:=by rw [hW1];simp
 have qQ:W1.cell? ⟨w.heap.size,3,none⟩=some (.int .i64 slots):=by rw [hW1];simp
 have hx0:W1.cell? ⟨w.heap.size + 1,0,none⟩=some (.int .i64 1):=by rw [hW1];simp
 have hx1:W1.cell? ⟨w.heap.size + 1,1,none⟩=some (.int .i64 d):=by rw [hW1];simp
 have Gk:W1.cell? ⟨w.heap.size + 1,2,none⟩=some (.int .i64 a):=by rw [hW1];simp
 have Fk:W1.cell? ⟨w.heap.size + 1,3,none⟩=some (.int .i64 b):=by rw [hW1];simp
 have qm:W1.cell? ⟨w.heap.size + 1,4,none⟩=some (.int .i64 c):=by rw [hW1];simp
 have vp:W1.cell? ⟨w.heap.size + 1,5,none⟩=some (.int .i64 n):=by rw [hW1];simp
 have om:W1.cell? ⟨w.heap.size + 1,6,none⟩=some (.string t):=by rw [hW1];simp
 clear hW1
 go_enter Try.func118,Try.ntmps118
 go_wp2_with (first|(go_at_call 58;(with_reducible refine (Oh _ _ _ _).mono ?_);rintro e w1 ⟨rfl,⟨k1,rfl⟩⟩))
 rw [← HW.out]
 clear HW
 go_region
 all_goals go_wp2_with (first|(go_at_call 135;(refine (Nh _ slots _ _ ?hc).mono ?_);(case hc=>first|(go_simp;done)|(go_simp;rfl));rintro e w1 ⟨rfl,rfl⟩))
 all_goals go_ret
 all_goals exact ⟨by (try clear uN OL QH Kt);simp [*],by repeat (first|exact HB.out|(refine Pa ?_ Kt.out)|apply ja|apply za|apply ia|refine Aa ?_ (by first|omega|(simp;done)|(simp;omega)))⟩
set_option maxHeartbeats 2000000 in
set_option maxRecDepth 100000 in
theorem JG (A0 A4:Option Addr) (c0 c4 n0 n4:Nat) (p1 p2 slots d a b c n:Int) (t:ByteArray) (w:World) (hn0:n0 ≤ 9223372036854775807) (Wx:n4 ≤ 9223372036854775807) :
  Calls Try.prog 118 #[.agg #[.slice A0 n0 c0,.int .i64 p1,.int .i64 p2,.int .i64 slots,.slice A4 n4 c4],.agg #[.int .i64 2,.int .i64 d,.int .i64 a,.int .i64 b,.int .i64 c,.int .i64 n,.string t]] w fun e w'=>e = .returned (.bool (Sh slots d && Sh slots a && Sh slots b && Ar t && (c == 0 && n == 0)))∧Below w.heap.size w w':=by
 obtain ⟨W1,hW1⟩:∃ W1,W1=(w.alloc (.cells #[.slice A0 n0 c0,.int .i64 p1,.int .i64 p2,.int .i64 slots,.slice A4 n4 c4] 30 (0,0))).alloc (.cells #[.int .i64 2,.int .i64 d,.int .i64 a,.int .i64 b,.int .i64 c,.int .i64 n,.string t] 70 (0,0)):=⟨_,rfl⟩
 have HW:=qa.mk hW1
 have HB:=qa.mk (show Below w.heap.size w W1 from by rw [hW1];exact ia (ia (Below.refl _ _) _) _)
 have hz:W1.heap.size=w.heap.size + 2:=by rw [hW1];simp
 have qQ:W1.cell? ⟨w.heap.size,3,none⟩=some (.int .i64 slots):=by rw [hW1];simp
 have hx0:W1.cell? ⟨w.heap.size + 1,0,none⟩=some (.int .i64 2):=by rw [hW1];simp
 have hx1:W1.cell? ⟨w.heap.size + 1,1,none⟩=some (.int .i64 d):=by rw [hW1];simp
 have Gk:W1.cell? ⟨w.heap.size + 1,2,none⟩=some (.int .i64 a):=by rw [hW1];simp
 have Fk:W1.cell? ⟨w.heap.size + 1,3,none⟩=some (.int .i64 b):=by rw [hW1];simp
 have qm:W1.cell? ⟨w.heap.size + 1,4,none⟩=some (.int .i64 c):=by rw [hW1];simp
 have vp:W1.cell? ⟨w.heap.size + 1,5,none⟩=some (.int .i64 n):=by rw [hW1];simp
 have om:W1.cell? ⟨w.heap.size + 1,6,none⟩=some (.string t):=by rw [hW1];simp
 clear hW1
 go_enter Try.func118,Try.ntmps118
 go_wp2_with (first|(go_at_call 58;(with_reducible refine (Oh _ _ _ _).mono ?_);rintro e w1 ⟨rfl,⟨k1,rfl⟩⟩))
 rw [← HW.out]
 clear HW
 go_region
 all_goals go_wp2_with (first|(go_at_call 135;(refine (Nh _ slots _ _ ?hc).mono ?_);(case hc=>first|(go_simp;done)|(go_simp;rfl));rintro e w1 ⟨rfl,rfl⟩)|(go_at_call 136;(with_reducible refine (FB _ _).mono ?_);rintro e w2 ⟨rfl,hb2⟩;have Kt:=qa.mk hb2;obtain ⟨uN,OL⟩:=AO hb2;have QH:=hb2.size;simp at QH;clear hb2))
 all_goals go_ret
 all_goals exact ⟨by (try clear uN OL QH Kt);simp [*],by repeat (first|exact HB.out|(refine Pa ?_ Kt.out)|apply ja|apply za|apply ia|refine Aa ?_ (by first|omega|(simp;done)|(simp;omega)))⟩
set_option maxHeartbeats 2000000 in
set_option maxRecDepth 100000 in
theorem IG (A0 A4:Option Addr) (c0 c4 n0 n4:Nat) (p1 p2 slots d a b c n:Int) (t:ByteArray) (w:World) (hn0:n0 ≤ 9223372036854775807) (Wx:n4 ≤ 9223372036854775807) :
  Calls Try.prog 118 #[.agg #[.slice A0 n0 c0,.int .i64 p1,.int .i64 p2,.int .i64 slots,.slice A4 n4 c4],.agg #[.int .i64 3,.int .i64 d,.int .i64 a,.int .i64 b,.int .i64 c,.int .i64 n,.string t]] w fun e w'=>e = .returned (.bool (Sh slots d && Sh slots b && qi n 0 ((n0:Int) - 1) && (Sh slots a || a == -1) && (c == 0 && t.toList.isEmpty)))∧Below w.heap.size w w':=by
 obtain ⟨W1,hW1⟩:∃ W1,W1=(w.alloc (.cells #[.slice A0 n0 c0,.int .i64 p1,.int .i64 p2,.int .i64 slots,.slice A4 n4 c4] 30 (0,0))).alloc (.cells #[.int .i64 3,.int .i64 d,.int .i64 a,.int .i64 b,.int .i64 c,.int .i64 n,.string t] 70 (0,0)):=⟨_,rfl⟩
 have HW:=qa.mk hW1
 have HB:=qa.mk (show Below w.heap.size w W1 from by rw [hW1];exact ia (ia (Below.refl _ _) _) _)
 have hz:W1.heap.size=w.heap.size + 2:=by rw [hW1];simp
 have qQ:W1.cell? ⟨w.heap.size,3,none⟩=some (.int .i64 slots):=by rw [hW1];simp
 have hx0:W1.cell? ⟨w.heap.size + 1,0,none⟩=some (.int .i64 3):=by rw [hW1];simp
 have hx1:W1.cell? ⟨w.heap.size + 1,1,none⟩=some (.int .i64 d):=by rw [hW1];simp
 have Gk:W1.cell? ⟨w.heap.size + 1,2,none⟩=some (.int .i64 a):=by rw [hW1];simp
 have Fk:W1.cell? ⟨w.heap.size + 1,3,none⟩=some (.int .i64 b):=by rw [hW1];simp
 have qm:W1.cell? ⟨w.heap.size + 1,4,none⟩=some (.int .i64 c):=by rw [hW1];simp
 have vp:W1.cell? ⟨w.heap.size + 1,5,none⟩=some (.int .i64 n):=by rw [hW1];simp
 have om:W1.cell? ⟨w.heap.size + 1,6,none⟩=some (.string t):=by rw [hW1];simp
 clear hW1
 go_enter Try.func118,Try.ntmps118
 go_wp2_with (first|(go_at_call 58;(with_reducible refine (Oh _ _ _ _).mono ?_);rintro e w1 ⟨rfl,⟨k1,rfl⟩⟩))
 rw [← HW.out]
 clear HW
 go_region
 all_goals go_wp2_with (first|(go_at_call 135;(refine (Nh _ slots _ _ ?hc).mono ?_);(case hc=>first|(go_simp;done)|(go_simp;rfl));rintro e w1 ⟨rfl,rfl⟩))
 all_goals go_ret
 all_goals exact ⟨by (try clear uN OL QH Kt);simp [*],by repeat (first|exact HB.out|(refine Pa ?_ Kt.out)|apply ja|apply za|apply ia|refine Aa ?_ (by first|omega|(simp;done)|(simp;omega)))⟩
set_option maxHeartbeats 2000000 in
set_option maxRecDepth 100000 in
theorem GG (A0 A4:Option Addr) (c0 c4 n0 n4:Nat) (p1 p2 slots d a b c n:Int) (t:ByteArray) (w:World) (hn0:n0 ≤ 9223372036854775807) (Wx:n4 ≤ 9223372036854775807) :
  Calls Try.prog 118 #[.agg #[.slice A0 n0 c0,.int .i64 p1,.int .i64 p2,.int .i64 slots,.slice A4 n4 c4],.agg #[.int .i64 4,.int .i64 d,.int .i64 a,.int .i64 b,.int .i64 c,.int .i64 n,.string t]] w fun e w'=>e = .returned (.bool (Sh slots c && Sh slots b && qi n 0 ((n0:Int) - 1) && (Sh slots a || a == -1) && (d == 0 && t.toList.isEmpty)))∧Below w.heap.size w w':=by
 obtain ⟨W1,hW1⟩:∃ W1,W1=(w.alloc (.cells #[.slice A0 n0 c0,.int .i64 p1,.int .i64 p2,.int .i64 slots,.slice A4 n4 c4] 30 (0,0))).alloc (.cells #[.int .i64 4,.int .i64 d,.int .i64 a,.int .i64 b,.int .i64 c,.int .i64 n,.string t] 70 (0,0)):=⟨_,rfl⟩
 have HW:=qa.mk hW1
 have HB:=qa.mk (show Below w.heap.size w W1 from by rw [hW1];exact ia (ia (Below.refl _ _) _) _)
 have hz:W1.heap.size=w.heap.size + 2:=by rw [hW1];simp
 have qQ:W1.cell? ⟨w.heap.size,3,none⟩=some (.int .i64 slots):=by rw [hW1];simp
 have hx0:W1.cell? ⟨w.heap.size + 1,0,none⟩=some (.int .i64 4):=by rw [hW1];simp
 have hx1:W1.cell? ⟨w.heap.size + 1,1,none⟩=some (.int .i64 d):=by rw [hW1];simp
 have Gk:W1.cell? ⟨w.heap.size + 1,2,none⟩=some (.int .i64 a):=by rw [hW1];simp
 have Fk:W1.cell? ⟨w.heap.size + 1,3,none⟩=some (.int .i64 b):=by rw [hW1];simp
 have qm:W1.cell? ⟨w.heap.size + 1,4,none⟩=some (.int .i64 c):=by rw [hW1];simp
 have vp:W1.cell? ⟨w.heap.size + 1,5,none⟩=some (.int .i64 n):=by rw [hW1];simp
 have om:W1.cell? ⟨w.heap.size + 1,6,none⟩=some (.string t):=by rw [hW1];simp
 clear hW1
 go_enter Try.func118,Try.ntmps118
 go_wp2_with (first|(go_at_call 58;(with_reducible refine (Oh _ _ _ _).mono ?_);rintro e w1 ⟨rfl,⟨k1,rfl⟩⟩))
 rw [← HW.out]
 clear HW
 go_region
 all_goals go_wp2_with (first|(go_at_call 135;(refine (Nh _ slots _ _ ?hc).mono ?_);(case hc=>first|(go_simp;done)|(go_simp;rfl));rintro e w1 ⟨rfl,rfl⟩))
 all_goals go_ret
 all_goals exact ⟨by (try clear uN OL QH Kt);simp [*],by repeat (first|exact HB.out|(refine Pa ?_ Kt.out)|apply ja|apply za|apply ia|refine Aa ?_ (by first|omega|(simp;done)|(simp;omega)))⟩
set_option maxHeartbeats 2000000 in
set_option maxRecDepth 100000 in
theorem FG (A0 A4:Option Addr) (c0 c4 n0 n4:Nat) (p1 p2 slots d a b c n:Int) (t:ByteArray) (w:World) (hn0:n0 ≤ 9223372036854775807) (Wx:n4 ≤ 9223372036854775807) :
  Calls Try.prog 118 #[.agg #[.slice A0 n0 c0,.int .i64 p1,.int .i64 p2,.int .i64 slots,.slice A4 n4 c4],.agg #[.int .i64 5,.int .i64 d,.int .i64 a,.int .i64 b,.int .i64 c,.int .i64 n,.string t]] w fun e w'=>e = .returned (.bool (Sh slots d && (a == 0 && (b == 0 && (c == 0 && (n == 0 && t.toList.isEmpty))))))∧Below w.heap.size w w':=by
 obtain ⟨W1,hW1⟩:∃ W1,W1=(w.alloc (.cells #[.slice A0 n0 c0,.int .i64 p1,.int .i64 p2,.int .i64 slots,.slice A4 n4 c4] 30 (0,0))).alloc (.cells #[.int .i64 5,.int .i64 d,.int .i64 a,.int .i64 b,.int .i64 c,.int .i64 n,.string t] 70 (0,0)):=⟨_,rfl⟩
 have HW:=qa.mk hW1
 have HB:=qa.mk (show Below w.heap.size w W1 from by rw [hW1];exact ia (ia (Below.refl _ _) _) _)
 have hz:W1.heap.size=w.heap.size + 2:=by rw [hW1];simp
 have qQ:W1.cell? ⟨w.heap.size,3,none⟩=some (.int .i64 slots):=by rw [hW1];simp
 have hx0:W1.cell? ⟨w.heap.size + 1,0,none⟩=some (.int .i64 5):=by rw [hW1];simp
 have hx1:W1.cell? ⟨w.heap.size + 1,1,none⟩=some (.int .i64 d):=by rw [hW1];simp
 have Gk:W1.cell? ⟨w.heap.size + 1,2,none⟩=some (.int .i64 a):=by rw [hW1];simp
 have Fk:W1.cell? ⟨w.heap.size + 1,3,none⟩=some (.int .i64 b):=by rw [hW1];simp
 have qm:W1.cell? ⟨w.heap.size + 1,4,none⟩=some (.int .i64 c):=by rw [hW1];simp
 have vp:W1.cell? ⟨w.heap.size + 1,5,none⟩=some (.int .i64 n):=by rw [hW1];simp
 have om:W1.cell? ⟨w.heap.size + 1,6,none⟩=some (.string t):=by rw [hW1];simp
 clear hW1
 go_enter Try.func118,Try.ntmps118
 go_wp2_with (first|(go_at_call 58;(with_reducible refine (Oh _ _ _ _).mono ?_);rintro e w1 ⟨rfl,⟨k1,rfl⟩⟩))
 rw [← HW.out]
 clear HW
 go_region
 all_goals go_wp2_with (first|(go_at_call 135;(refine (Nh _ slots _ _ ?hc).mono ?_);(case hc=>first|(go_simp;done)|(go_simp;rfl));rintro e w1 ⟨rfl,rfl⟩))
 all_goals go_ret
 all_goals exact ⟨by (try clear uN OL QH Kt);simp [*],by repeat (first|exact HB.out|(refine Pa ?_ Kt.out)|apply ja|apply za|apply ia|refine Aa ?_ (by first|omega|(simp;done)|(simp;omega)))⟩
set_option maxHeartbeats 2000000 in
set_option maxRecDepth 100000 in
theorem EG (A0 A4:Option Addr) (c0 c4 n0 n4:Nat) (p1 p2 slots d a b c n:Int) (t:ByteArray) (w:World) (hn0:n0 ≤ 9223372036854775807) (Wx:n4 ≤ 9223372036854775807) :
  Calls Try.prog 118 #[.agg #[.slice A0 n0 c0,.int .i64 p1,.int .i64 p2,.int .i64 slots,.slice A4 n4 c4],.agg #[.int .i64 6,.int .i64 d,.int .i64 a,.int .i64 b,.int .i64 c,.int .i64 n,.string t]] w fun e w'=>e = .returned (.bool (Sh slots a && (d == 0 && (b == 0 && (c == 0 && (n == 0 && t.toList.isEmpty))))))∧Below w.heap.size w w':=by
 obtain ⟨W1,hW1⟩:∃ W1,W1=(w.alloc (.cells #[.slice A0 n0 c0,.int .i64 p1,.int .i64 p2,.int .i64 slots,.slice A4 n4 c4] 30 (0,0))).alloc (.cells #[.int .i64 6,.int .i64 d,.int .i64 a,.int .i64 b,.int .i64 c,.int .i64 n,.string t] 70 (0,0)):=⟨_,rfl⟩
 have HW:=qa.mk hW1
 have HB:=qa.mk (show Below w.heap.size w W1 from by rw [hW1];exact ia (ia (Below.refl _ _) _) _)
 have hz:W1.heap.size=w.heap.size + 2:=by rw [hW1];simp
 have qQ:W1.cell? ⟨w.heap.size,3,none⟩=some (.int .i64 slots):=by rw [hW1];simp
 have hx0:W1.cell? ⟨w.heap.size + 1,0,none⟩=some (.int .i64 6):=by rw [hW1];simp
 have hx1:W1.cell? ⟨w.heap.size + 1,1,none⟩=some (.int .i64 d):=by rw [hW1];simp
 have Gk:W1.cell? ⟨w.heap.size + 1,2,none⟩=some (.int .i64 a):=by rw [hW1];simp
 have Fk:W1.cell? ⟨w.heap.size + 1,3,none⟩=some (.int .i64 b):=by rw [hW1];simp
 have qm:W1.cell? ⟨w.heap.size + 1,4,none⟩=some (.int .i64 c):=by rw [hW1];simp
 have vp:W1.cell? ⟨w.heap.size + 1,5,none⟩=some (.int .i64 n):=by rw [hW1];simp
 have om:W1.cell? ⟨w.heap.size + 1,6,none⟩=some (.string t):=by rw [hW1];simp
 clear hW1
 go_enter Try.func118,Try.ntmps118
 go_wp2_with (first|(go_at_call 58;(with_reducible refine (Oh _ _ _ _).mono ?_);rintro e w1 ⟨rfl,⟨k1,rfl⟩⟩))
 rw [← HW.out]
 clear HW
 go_region
 all_goals go_wp2_with (first|(go_at_call 135;(refine (Nh _ slots _ _ ?hc).mono ?_);(case hc=>first|(go_simp;done)|(go_simp;rfl));rintro e w1 ⟨rfl,rfl⟩))
 all_goals go_ret
 all_goals exact ⟨by (try clear uN OL QH Kt);simp [*],by repeat (first|exact HB.out|(refine Pa ?_ Kt.out)|apply ja|apply za|apply ia|refine Aa ?_ (by first|omega|(simp;done)|(simp;omega)))⟩
set_option maxHeartbeats 2000000 in
set_option maxRecDepth 100000 in
theorem IB (A0 A4:Option Addr) (c0 c4 n0 n4:Nat) (p1 p2 slots d a b c n:Int) (t:ByteArray) (w:World) (hn0:n0 ≤ 9223372036854775807) (Wx:n4 ≤ 9223372036854775807) (o:Int) (h0:(o == 0)=false) (h1:(o == 1)=false) (h2:(o == 2)=false) (h3:(o == 3)=false) (h4:(o == 4)=false) (h5:(o == 5)=false) (h6:(o == 6)=false) :
  Calls Try.prog 118 #[.agg #[.slice A0 n0 c0,.int .i64 p1,.int .i64 p2,.int .i64 slots,.slice A4 n4 c4],.agg #[.int .i64 o,.int .i64 d,.int .i64 a,.int .i64 b,.int .i64 c,.int .i64 n,.string t]] w fun e w'=>e = .returned (.bool (false))∧Below w.heap.size w w':=by
 obtain ⟨W1,hW1⟩:∃ W1,W1=(w.alloc (.cells #[.slice A0 n0 c0,.int .i64 p1,.int .i64 p2,.int .i64 slots,.slice A4 n4 c4] 30 (0,0))).alloc (.cells #[.int .i64 o,.int .i64 d,.int .i64 a,.int .i64 b,.int .i64 c,.int .i64 n,.string t] 70 (0,0)):=⟨_,rfl⟩
 have HW:=qa.mk hW1
 have HB:=qa.mk (show Below w.heap.size w W1 from by rw [hW1];exact ia (ia (Below.refl _ _) _) _)
 have hz:W1.heap.size=w.heap.size + 2:=by rw [hW1];simp
 have qQ:W1.cell? ⟨w.heap.size,3,none⟩=some (.int .i64 slots):=by rw [hW1];simp
 have hx0:W1.cell? ⟨w.heap.size + 1,0,none⟩=some (.int .i64 o):=by rw [hW1];simp
 have hx1:W1.cell? ⟨w.heap.size + 1,1,none⟩=some (.int .i64 d):=by rw [hW1];simp
 have Gk:W1.cell? ⟨w.heap.size + 1,2,none⟩=some (.int .i64 a):=by rw [hW1];simp
 have Fk:W1.cell? ⟨w.heap.size + 1,3,none⟩=some (.int .i64 b):=by rw [hW1];simp
 have qm:W1.cell? ⟨w.heap.size + 1,4,none⟩=some (.int .i64 c):=by rw [hW1];simp
 have vp:W1.cell? ⟨w.heap.size + 1,5,none⟩=some (.int .i64 n):=by rw [hW1];simp
 have om:W1.cell? ⟨w.heap.size + 1,6,none⟩=some (.string t):=by rw [hW1];simp
 clear hW1
 go_enter Try.func118,Try.ntmps118
 go_wp2_with (first|(go_at_call 58;(with_reducible refine (Oh _ _ _ _).mono ?_);rintro e w1 ⟨rfl,⟨k1,rfl⟩⟩))
 rw [← HW.out]
 clear HW
 go_region
 all_goals go_wp2_with (first|(go_at_call 135;(refine (Nh _ slots _ _ ?hc).mono ?_);(case hc=>first|(go_simp;done)|(go_simp;rfl));rintro e w1 ⟨rfl,rfl⟩))
 all_goals go_ret
 all_goals exact ⟨by (try clear uN OL QH Kt);simp [*],by repeat (first|exact HB.out|(refine Pa ?_ Kt.out)|apply ja|apply za|apply ia|refine Aa ?_ (by first|omega|(simp;done)|(simp;omega)))⟩
def Di (n0:Nat) (slots:Int) (o d a b c n:Int) (t:ByteArray):Bool :=
 if o=0 then Sh slots d && (a == 0 && (b == 0 && (c == 0 && t.toList.isEmpty)))
 else if o=1 then Sh slots d && Sh slots a && (b == 0 && (c == 0 && (n == 0 && t.toList.isEmpty)))
 else if o=2 then Sh slots d && Sh slots a && Sh slots b && Ar t && (c == 0 && n == 0)
 else if o=3 then Sh slots d && Sh slots b && qi n 0 ((n0:Int) - 1) && (Sh slots a || a == -1) && (c == 0 && t.toList.isEmpty)
 else if o=4 then Sh slots c && Sh slots b && qi n 0 ((n0:Int) - 1) && (Sh slots a || a == -1) && (d == 0 && t.toList.isEmpty)
 else if o=5 then Sh slots d && (a == 0 && (b == 0 && (c == 0 && (n == 0 && t.toList.isEmpty))))
 else if o=6 then Sh slots a && (d == 0 && (b == 0 && (c == 0 && (n == 0 && t.toList.isEmpty))))
 else false
theorem vA (A0 A4:Option Addr) (c0 c4 n0 n4:Nat) (p1 p2 slots:Int) (w:World) (hn0:n0 ≤ 9223372036854775807) (Wx:n4 ≤ 9223372036854775807) (o d a b c n:Int) (t:ByteArray) :
  Calls Try.prog 118 #[.agg #[.slice A0 n0 c0,.int .i64 p1,.int .i64 p2,.int .i64 slots,.slice A4 n4 c4],.agg #[.int .i64 o,.int .i64 d,.int .i64 a,.int .i64 b,.int .i64 c,.int .i64 n,.string t]] w fun e w'=>e = .returned (.bool (Di n0 slots o d a b c n t))∧Below w.heap.size w w':=by
 unfold Di
 by_cases h0:o=0
 ·rw [if_pos h0,h0]
  exact LG A0 A4 c0 c4 n0 n4 p1 p2 slots d a b c n t w hn0 Wx
 rw [if_neg h0]
 by_cases h1:o=1
 ·rw [if_pos h1,h1]
  exact KG A0 A4 c0 c4 n0 n4 p1 p2 slots d a b c n t w hn0 Wx
 rw [if_neg h1]
 by_cases h2:o=2
 ·rw [if_pos h2,h2]
  exact JG A0 A4 c0 c4 n0 n4 p1 p2 slots d a b c n t w hn0 Wx
 rw [if_neg h2]
 by_cases h3:o=3
 ·rw [if_pos h3,h3]
  exact IG A0 A4 c0 c4 n0 n4 p1 p2 slots d a b c n t w hn0 Wx
 rw [if_neg h3]
 by_cases h4:o=4
 ·rw [if_pos h4,h4]
  exact GG A0 A4 c0 c4 n0 n4 p1 p2 slots d a b c n t w hn0 Wx
 rw [if_neg h4]
 by_cases h5:o=5
 ·rw [if_pos h5,h5]
  exact FG A0 A4 c0 c4 n0 n4 p1 p2 slots d a b c n t w hn0 Wx
 rw [if_neg h5]
 by_cases h6:o=6
 ·rw [if_pos h6,h6]
  exact EG A0 A4 c0 c4 n0 n4 p1 p2 slots d a b c n t w hn0 Wx
 rw [if_neg h6]
 exact IB A0 A4 c0 c4 n0 n4 p1 p2 slots d a b c n t w hn0 Wx o (beq_eq_false_iff_ne.mpr h0) (beq_eq_false_iff_ne.mpr h1) (beq_eq_false_iff_ne.mpr h2) (beq_eq_false_iff_ne.mpr h3) (beq_eq_false_iff_ne.mpr h4) (beq_eq_false_iff_ne.mpr h5) (beq_eq_false_iff_ne.mpr h6)
end Go.Proofs.Ytmifdccaajngcaa.P
end
section
namespace Go.Proofs.Ytmifdccaajngcaa.P
open Go.RowKit Go.Proofs.Ca.xb Go.Proofs.Ca.Xb Go.Proofs.Ca.ic
set_option linter.unusedVariables false
set_option linter.unusedSimpArgs false
def Gh (n0:Nat) (slots:Int) (x:Jh):Bool:=Di n0 slots x.f0 x.f1 x.f2 x.f3 x.f4 x.f5 x.f6
def Si (n0:Nat) (slots:Int) (n4:Nat) (code:List Jh) (j a tg els:Int):Bool :=
 !(code.any fun x=>!Gh n0 slots x) && decide (0 ≤ slots) &&
  (if j=0 then qi tg 0 ((n4:Int) - 1) && a == 0 && els == 0
   else if j=1 then qi tg 0 ((n4:Int) - 1) && qi els 0 ((n4:Int) - 1) && Sh slots a
   else if j=2 then Sh slots a && tg == 0 && els == 0
   else false)
set_option maxHeartbeats 400000 in
theorem MG (B:Nat) (A0 A4:Option Addr) (c0 c4 n0 n4:Nat) (p1 p2 slots:Int) (hn0:n0 ≤ 9223372036854775807) (Wx:n4 ≤ 9223372036854775807) (W:World) (x:Jh)
  (hb0:W.cell? ⟨B,0,none⟩=some (.slice A0 n0 c0)) (hb1:W.cell? ⟨B,1,none⟩=some (.int .i64 p1)) (hb2:W.cell? ⟨B,2,none⟩=some (.int .i64 p2)) (hb3:W.cell? ⟨B,3,none⟩=some (.int .i64 slots)) (Z8:W.cell? ⟨B,4,none⟩=some (.slice A4 n4 c4)) (hB:B < W.heap.size) :
  Calls Try.prog 117 #[.agg #[.int .i64 x.f0,.int .i64 x.f1,.int .i64 x.f2,.int .i64 x.f3,.int .i64 x.f4,.int .i64 x.f5,.string x.f6],.pointer (some ⟨B,0,none⟩)] W
   fun e w'=>e = .returned (.bool (!Gh n0 slots x))∧Below W.heap.size W w':=by
 have hne:B ≠ W.heap.size:=by omega
 unfold Gh
 have HC:=qa.mk (fun W'=>vA A0 A4 c0 c4 n0 n4 p1 p2 slots W' hn0 Wx x.f0 x.f1 x.f2 x.f3 x.f4 x.f5 x.f6)
 generalize Di n0 slots x.f0 x.f1 x.f2 x.f3 x.f4 x.f5 x.f6=b at HC ⊢
 go_enter Try.func117,Try.ntmps117
 go_wp2_with (go_at_call 118;(with_reducible refine (HC.out _).mono ?_);rintro e w1 ⟨rfl,hb⟩;have HD:=qa.mk (Pa (ia (Below.refl _ _) _) hb);clear hb)
 go_ret
 exact ⟨rfl,HD.out⟩
set_option maxHeartbeats 2000000 in
set_option maxRecDepth 100000 in
theorem wA (A0 A4 A5:Option Addr) (c0 c4 c5 n0 n4:Nat) (p1 p2 slots:Int) (l5:List Jh) (j a tg els:Int) (w:World) (hn0:n0 ≤ 9223372036854775807) (Wx:n4 ≤ 9223372036854775807) (M9:Kd.C Ro w A5 l5.length l5) (hc5:l5.length ≤ c5) :
  Calls Try.prog 90 #[.agg #[.slice A0 n0 c0,.int .i64 p1,.int .i64 p2,.int .i64 slots,.slice A4 n4 c4],.agg #[.slice A5 l5.length c5,.int .i64 j,.int .i64 a,.int .i64 tg,.int .i64 els]] w fun e w'=>e = .returned (.bool (Si n0 slots n4 l5 j a tg els))∧Below w.heap.size w w':=by
 have eg:=enters_of Try.func117 (by kernel_rfl) rfl
 have hm5:=M9.2.1
 obtain ⟨W1,hW1⟩:∃ W1,W1=(w.alloc (.cells #[.slice A0 n0 c0,.int .i64 p1,.int .i64 p2,.int .i64 slots,.slice A4 n4 c4] 30 (0,0))).alloc (.cells #[.slice A5 l5.length c5,.int .i64 j,.int .i64 a,.int .i64 tg,.int .i64 els] 68 (0,0)):=⟨_,rfl⟩
 have HW:=qa.mk hW1
 have hB1:Below w.heap.size w W1:=by rw [hW1];exact ia (ia (Below.refl _ _) _) _
 have hz:W1.heap.size=w.heap.size + 2:=by rw [hW1];simp
 have hg0:W1.cell? ⟨w.heap.size,0,none⟩=some (.slice A0 n0 c0):=by rw [hW1];simp
 have FA:W1.cell? ⟨w.heap.size,1,none⟩=some (.int .i64 p1):=by rw [hW1];simp
 have dH:W1.cell? ⟨w.heap.size,2,none⟩=some (.int .i64 p2):=by rw [hW1];simp
 have MP:W1.cell? ⟨w.heap.size,3,none⟩=some (.int .i64 slots):=by rw [hW1];simp
 have BR:W1.cell? ⟨w.heap.size,4,none⟩=some (.slice A4 n4 c4):=by rw [hW1];simp
 have hx0:W1.cell? ⟨w.heap.size + 1,0,none⟩=some (.slice A5 l5.length c5):=by rw [hW1];simp
 have hx1:W1.cell? ⟨w.heap.size + 1,1,none⟩=some (.int .i64 j):=by rw [hW1];simp
 have Gk:W1.cell? ⟨w.heap.size + 1,2,none⟩=some (.int .i64 a):=by rw [hW1];simp
 have Fk:W1.cell? ⟨w.heap.size + 1,3,none⟩=some (.int .i64 tg):=by rw [hW1];simp
 have qm:W1.cell? ⟨w.heap.size + 1,4,none⟩=some (.int .i64 els):=by rw [hW1];simp
 have En:=Kd.Yb M9 hB1
 clear hW1 M9
 have HF:=qa.mk (tr 117 #[.pointer (some ⟨w.heap.size,0,none⟩)] (fun x=>!Gh n0 slots x) eg A5 c5 l5 W1 En hc5
  (fun W2 x hb'=>MG w.heap.size A0 A4 c0 c4 n0 n4 p1 p2 slots hn0 Wx W2 x ((hb'.cell (p:=⟨w.heap.size,0,none⟩) (by simp;omega)).trans hg0) ((hb'.cell (p:=⟨w.heap.size,1,none⟩) (by simp;omega)).trans FA) ((hb'.cell (p:=⟨w.heap.size,2,none⟩) (by simp;omega)).trans dH) ((hb'.cell (p:=⟨w.heap.size,3,none⟩) (by simp;omega)).trans MP) ((hb'.cell (p:=⟨w.heap.size,4,none⟩) (by simp;omega)).trans BR) (Nat.lt_of_lt_of_le (by omega) hb'.size)))
 have HB:=qa.mk hB1
 clear En hB1 eg
 unfold Si
 cases hq:l5.any (fun x=>!Gh n0 slots x) with
 | true =>
  rw [hq] at HF
  go_enter Try.func90,Try.ntmps90
  go_upto_region 1 with (fail)
  rw [← HW.out]
  clear HW
  go_wp2_with (first|(go_at_call 116;(with_reducible refine HF.out.mono ?_);rintro e w2 ⟨rfl,hb2⟩;have Kt:=qa.mk hb2;clear hb2))
  all_goals
   go_ret
   exact ⟨by simp,Pa HB.out Kt.out⟩
 | false =>
  rw [hq] at HF
  cases ha0:decide (0 ≤ a)
  all_goals
   go_enter Try.func90,Try.ntmps90
   go_upto_region 1 with (fail)
   rw [← HW.out]
   clear HW
   go_upto_region 3 with (first|(go_at_call 116;(with_reducible refine HF.out.mono ?_);rintro e w2 ⟨rfl,hb2⟩;replace MP:=(hb2.cell (World.block_lt_of_cell? W1 _ MP)).trans MP;replace BR:=(hb2.cell (World.block_lt_of_cell? W1 _ BR)).trans BR;replace hx1:=(hb2.cell (World.block_lt_of_cell? W1 _ hx1)).trans hx1;replace Gk:=(hb2.cell (World.block_lt_of_cell? W1 _ Gk)).trans Gk;replace Fk:=(hb2.cell (World.block_lt_of_cell? W1 _ Fk)).trans Fk;replace qm:=(hb2.cell (World.block_lt_of_cell? W1 _ qm)).trans qm;have Kt:=qa.mk (Pa HB.out hb2);clear hb2 HB hg0 FA dH hx0))
   go_quiet ((go_at_call 58;exact Calls.quiet_of ((Oh _ _ _ _).mono fun _ _ ⟨he,hm⟩=>⟨he,hm.out⟩)))
   go_wp2
   all_goals go_ret
   all_goals exact ⟨by first|(simp [Sh, *];done)|(simp [Sh, *];intros;omega)|(clear HF MP BR hx1 Gk Fk qm;simp_all [Sh];done)|(clear HF MP BR hx1 Gk Fk qm;simp_all [Sh];omega),by repeat (first|exact Kt.out|apply ja)⟩
def Ah.f (Ra:List Int) (Ja:Int) (Ma:Int) (Oa:Int) (Qa:List (Eh)) (Xc:List (Jh)) (Lb:Int) (Sb:Int) (Ub:Int) (Fc:Int):Option Bool:=some (Si Ra.length Oa Qa.length Xc Lb Sb Ub Fc)
theorem Ah.calls (Ib:Option Addr) (Gb:Nat) (Ra:List Int) (Ja:Int) (Ma:Int) (Oa:Int) (qc:Option Addr) (dc:Nat) (Qa:List (Eh)) (Ze:Option Addr) (Re:Nat) (Xc:List (Jh)) (Lb:Int) (Sb:Int) (Ub:Int) (Fc:Int) (r:Bool) (w:World) (zf:Kd.C (Kd.int .i64) w Ib Ra.length Ra) (uf:Ra.length ≤ Gb) (bg:Kd.C Xq w qc Qa.length Qa) (cg:Qa.length ≤ dc) (Yq:Kd.C Ro w Ze Xc.length Xc) (Zq:Xc.length ≤ Re) (h:Ah.f Ra Ja Ma Oa Qa Xc Lb Sb Ub Fc=some r) :
  Calls Try.prog 90 #[.agg #[.slice Ib Ra.length Gb,.int .i64 Ja,.int .i64 Ma,.int .i64 Oa,.slice qc Qa.length dc],.agg #[.slice Ze Xc.length Re,.int .i64 Lb,.int .i64 Sb,.int .i64 Ub,.int .i64 Fc]] w fun e w'=>e = .returned (.bool r)∧Below w.heap.size w w':=by
 injection h with h
 subst h
 exact wA Ib qc Ze Gb dc Re Ra.length Qa.length Ja Ma Oa Xc Lb Sb Ub Fc w zf.2.1 bg.2.1 Yq Zq
end Go.Proofs.Ytmifdccaajngcaa.P
end
section
namespace Go.Proofs.Ytmifdccaajngcaa.P
open Go.RowKit Go.Proofs.Ca.xb Go.Proofs.Ca.Xb Go.Proofs.Ca.ic
attribute [local go_sem] Vd Td we ue Dd Cd Ud Sd
set_option linter.unusedVariables false
set_option linter.unusedSimpArgs false
mutual
def Kb.j0:Nat→Bool→List Int→Int→Int→Int→List (Eh)→Option (Bool)
 | 0,_,_,_,_,_,_=>none
 | k + 1,x29,x102000,Od,x102002,x102003,x102004=>if x29=true then (some false) else (Kb.l0 k 0 x102004 (x102004.length:Int) 0 x102000 Od x102002 x102003 x102004)
def Kb.l0:Nat→Int→List (Eh)→Int→Int→List Int→Int→Int→Int→List (Eh)→Option (Bool)
 | 0,_,_,_,_,_,_,_,_,_=>none
 | k + 1,x3,x31,x32,x33,x102000,Od,x102002,x102003,x102004=>if x33 < x32 then (if 0 ≤ x33 then (if x33 < (x31.length:Int) then ((Ah.f x102000 Od x102002 x102003 x102004 ((mb x31 x33).f0) ((mb x31 x33).f1) ((mb x31 x33).f2) ((mb x31 x33).f3) ((mb x31 x33).f4)).bind fun t107=>(if t107=true then (Kb.l0 k (wrap64 (x3 + (((mb x31 x33).f0).length:Int))) x31 x32 (wrap64 (x33 + 1)) x102000 Od x102002 x102003 x102004) else (some false))) else (none)) else (none)) else (some (decide (x3 ≤ 1000)))
end
def Kb.f (k:Nat) (Ra:List Int) (Ja:Int) (Ma:Int) (Oa:Int) (Qa:List (Eh)):Option (Bool):=(Mf.f Ra Ja Ma ([]:List (au))).bind fun t102=>(if t102=true then ((sg.f Oa Ma 1000).bind fun t103=>(if t103=true then ((sg.f (Qa.length:Int) 1 300).bind fun t104=>(Kb.j0 k (!t104) Ra Ja Ma Oa Qa)) else (Kb.j0 k true Ra Ja Ma Oa Qa))) else (Kb.j0 k true Ra Ja Ma Oa Qa))
theorem Kb.je:∀ k,(∀ y0 y1 y2 y3 y4 y5,mc (Kb.j0 k y0 y1 y2 y3 y4 y5) (Kb.j0 (k + 1) y0 y1 y2 y3 y4 y5))∧(∀ y0 y1 y2 y3 y4 y5 y6 y7 y8,mc (Kb.l0 k y0 y1 y2 y3 y4 y5 y6 y7 y8) (Kb.l0 (k + 1) y0 y1 y2 y3 y4 y5 y6 y7 y8))
 | 0=>⟨fun _ _ _ _ _ _ r h=>by simp [Kb.j0] at h,fun _ _ _ _ _ _ _ _ _ r h=>by simp [Kb.l0] at h⟩
 | k + 1=>by
  obtain ⟨Lf,ih1⟩:=Kb.je k
  refine ⟨?_,?_⟩
  ·intro y0 y1 y2 y3 y4 y5
   unfold Kb.j0
   repeat' first
   | (with_reducible exact Lf _ _ _ _ _ _)
   | (with_reducible exact ih1 _ _ _ _ _ _ _ _ _)
   | (with_reducible exact mc.refl _)
   | (with_reducible exact mc.none _)
   | (with_reducible refine mc.ite ?_ ?_)
   | (with_reducible refine mc.bind ?_ (fun _=>?_))
   | exact Lf _ _ _ _ _ _
   | exact ih1 _ _ _ _ _ _ _ _ _
   | exact mc.none _
   | refine mc.ite ?_ ?_
   | refine mc.bind ?_ (fun _=>?_)
  ·intro y0 y1 y2 y3 y4 y5 y6 y7 y8
   unfold Kb.l0
   repeat' first
   | (with_reducible exact Lf _ _ _ _ _ _)
   | (with_reducible exact ih1 _ _ _ _ _ _ _ _ _)
   | (with_reducible exact mc.refl _)
   | (with_reducible exact mc.none _)
   | (with_reducible refine mc.ite ?_ ?_)
   | (with_reducible refine mc.bind ?_ (fun _=>?_))
   | exact Lf _ _ _ _ _ _
   | exact ih1 _ _ _ _ _ _ _ _ _
   | exact mc.none _
   | refine mc.ite ?_ ?_
   | refine mc.bind ?_ (fun _=>?_)
theorem Kb.mono:∀ a0 a1 a2 a3 a4 k,mc (Kb.f k a0 a1 a2 a3 a4) (Kb.f (k + 1) a0 a1 a2 a3 a4):=by
 intro a0 a1 a2 a3 a4 k
 obtain ⟨Lf,ih1⟩:=Kb.je k
 unfold Kb.f
 repeat' first
   | (with_reducible exact Lf _ _ _ _ _ _)
   | (with_reducible exact ih1 _ _ _ _ _ _ _ _ _)
   | (with_reducible exact mc.refl _)
   | (with_reducible exact mc.none _)
   | (with_reducible refine mc.ite ?_ ?_)
   | (with_reducible refine mc.bind ?_ (fun _=>?_))
   | exact Lf _ _ _ _ _ _
   | exact ih1 _ _ _ _ _ _ _ _ _
   | exact mc.none _
   | refine mc.ite ?_ ?_
   | refine mc.bind ?_ (fun _=>?_)
set_option maxHeartbeats 8000000 in
set_option maxRecDepth 100000 in
theorem Kb.calls (k:Nat) (Ib:Option Addr) (Gb:Nat) (Ra:List Int) (Ja:Int) (Ma:Int) (Oa:Int) (qc:Option Addr) (dc:Nat) (Qa:List (Eh)) (r:Bool) (w:World) (zf:Kd.C (Kd.int .i64) w Ib Ra.length Ra) (uf:Ra.length ≤ Gb) (bg:Kd.C Xq w qc Qa.length Qa) (cg:Qa.length ≤ dc) (h:Kb.f k Ra Ja Ma Oa Qa=some r) :
  Calls Try.prog 57 #[.agg #[.slice Ib Ra.length Gb,.int .i64 Ja,.int .i64 Ma,.int .i64 Oa,.slice qc Qa.length dc]] w fun e w'=>e = .returned (.bool r)∧Below w.heap.size w w':=by
 have CA:=Try.underlying30
 have zab:=Try.underlying124
 have NG:=Try.underlying68
 have Ve:=qa.mk zf
 have gf:=qa.mk uf
 clear zf uf
 have Tf:=qa.mk bg
 have Yg:=qa.mk cg
 clear bg cg
 have HB:=qa.mk (Below.refl w.heap.size w)
 have H:((Mf.f Ra Ja Ma ([]:List (au))).bind fun t102=>(if t102=true then ((sg.f Oa Ma 1000).bind fun t103=>(if t103=true then ((sg.f (Qa.length:Int) 1 300).bind fun t104=>(Kb.j0 k (!t104) Ra Ja Ma Oa Qa)) else (Kb.j0 k true Ra Ja Ma Oa Qa))) else (Kb.j0 k true Ra Ja Ma Oa Qa)))=some r:=h
 clear h
 have HC2:=qa.mk H
 clear H
 go_enter Try.func57,Try.ntmps57
 go_upto_region 1 with (first|((with_reducible refine Mb (N:=1) rfl ?_);(try (refine pg (by rfl) ?_;dsimp only));refine Jb ?hg (N:=1) ?hd (cs:=#[.slice Ib Ra.length Gb,.int .i64 Ja,.int .i64 Ma,.int .i64 Oa,.slice qc Qa.length dc]) (t:=30) ?hr ?_;(case hd=>rfl);(case hg=>rfl);(case hr=>first|(go_simp;done)|(go_simp;rfl));intro Fa hg w3 Qb hb;have Pb:=qa.mk (Pa (by repeat (first|(with_reducible first|exact HB.out|apply ia|apply ja|apply za)|exact HB.out)) hb);have Wb:=qa.mk (Qb);have nc:=qa.mk ((by rw [hg];exact (Na (by repeat (first|(with_reducible first|exact HB.out|apply ia|apply ja|apply za)|exact HB.out))):w.heap.size ≤ Fa));have Nc:=qa.mk ((by rw [hg];exact (Na (by repeat (first|(with_reducible first|exact HB.out|apply ia|apply ja|apply za)|exact HB.out))):w.heap.size ≤ Fa));clear HB;have HB:=Pb;have ua:=Wb;have Nd:=nc;have Va:=Nc;clear Pb Wb nc Nc;clear hb Qb hg))
 (try simp only [Act.put,List.setIfInBounds_toArray,List.set_cons_zero,List.set_cons_succ])
 go_cut [29] (fun r9 wc=>∃ (kq:Nat) (SC:Bool),r9 = .bool SC∧qa (Kb.j0 kq SC Ra Ja Ma Oa Qa=some r)∧qa (kq ≤ k)∧qa (wc.heap[Fa]? = some (.cells #[(.slice Ib Ra.length Gb),.int .i64 Ja,.int .i64 Ma,.int .i64 Oa,(.slice qc Qa.length dc)] 30 (0,0)))∧qa (Below w.heap.size w wc))
 case first =>
  have H:=HC2.out
  clear HC2
  replace H:=Option.bind_eq_some_iff.mp H
  obtain ⟨t102,QX,H⟩:=H
  replace H:(if t102=true then ((sg.f Oa Ma 1000).bind fun t103=>(if t103=true then ((sg.f (Qa.length:Int) 1 300).bind fun t104=>(Kb.j0 k (!t104) Ra Ja Ma Oa Qa)) else (Kb.j0 k true Ra Ja Ma Oa Qa))) else (Kb.j0 k true Ra Ja Ma Oa Qa))=some r:=H
  have A4:=qa.mk QX
  clear QX
  by_cases c5:t102=true
  ·subst c5
   have H1:((sg.f Oa Ma 1000).bind fun t103=>(if t103=true then ((sg.f (Qa.length:Int) 1 300).bind fun t104=>(Kb.j0 k (!t104) Ra Ja Ma Oa Qa)) else (Kb.j0 k true Ra Ja Ma Oa Qa)))=some r:=by rw [if_pos rfl] at H;exact H
   clear H
   have H:=H1
   clear H1
   replace H:=Option.bind_eq_some_iff.mp H
   obtain ⟨t103,QO,H⟩:=H
   replace H:(if t103=true then ((sg.f (Qa.length:Int) 1 300).bind fun t104=>(Kb.j0 k (!t104) Ra Ja Ma Oa Qa)) else (Kb.j0 k true Ra Ja Ma Oa Qa))=some r:=H
   have A6:=qa.mk QO
   clear QO
   by_cases c7:t103=true
   ·subst c7
    have H1:((sg.f (Qa.length:Int) 1 300).bind fun t104=>(Kb.j0 k (!t104) Ra Ja Ma Oa Qa))=some r:=by rw [if_pos rfl] at H;exact H
    clear H
    have H:=H1
    clear H1
    replace H:=Option.bind_eq_some_iff.mp H
    obtain ⟨t104,pG,H⟩:=H
    replace H:(Kb.j0 k (!t104) Ra Ja Ma Oa Qa)=some r:=H
    have A8:=qa.mk pG
    clear pG
    have H':=qa.mk H
    clear H
    have cm:w3.cell? ⟨Fa,0,none⟩=some (.slice Ib Ra.length Gb):=(ga ua.out 0).trans rfl
    have Zl:w3.cell? ⟨Fa,1,none⟩=some (.int .i64 Ja):=(ga ua.out 1).trans rfl
    have Yl:w3.cell? ⟨Fa,2,none⟩=some (.int .i64 Ma):=(ga ua.out 2).trans rfl
    have Xl:w3.cell? ⟨Fa,3,none⟩=some (.int .i64 Oa):=(ga ua.out 3).trans rfl
    have Wl:w3.cell? ⟨Fa,4,none⟩=some (.slice qc Qa.length dc):=(ga ua.out 4).trans rfl
    have Tl:=aa ua.out 0
    have Sl:=aa ua.out 1
    have Rl:=aa ua.out 2
    have Ql:=aa ua.out 3
    have Ol:=aa ua.out 4
    go_wp2_with (first|((with_reducible refine Bb (f:=89) rfl ?_);refine jd (some 13) rfl rfl Try.func89 (by kernel_rfl) rfl #[.agg #[.slice Ib Ra.length Gb,.int .i64 Ja,.int .i64 Ma,.slice none 0 0]] rfl (by (try simp only [List.map_toArray,List.map_cons,List.map_nil]);first|done|rfl|(simp only [List.length_drop,List.length_take];rfl)) ?_;(refine (Mf.calls _ _ Ra Ja Ma _ _ ([]:List (au)) true _ ?side1 ?side2 ?side3 ?side4 A4.out).mono ?_);(case side1=>repeat (first|exact (Kd.Yb Ve.out HB.out)|(with_reducible refine Kd.yc ?_ _)|(with_reducible refine Kd.uc ?_ _)|(with_reducible refine Kd.Sc ?_)));(case side2=>exact gf.out);(case side3=>exact Kd.EJ _ _);(case side4=>exact Nat.le_refl _);rintro e Qo ⟨rfl,hb⟩;refine ⟨_,rfl,?_⟩;have Pb:=qa.mk (Wa (g:=Fa) (o:=.cells #[.slice Ib Ra.length Gb,.int .i64 Ja,.int .i64 Ma,.int .i64 Oa,.slice qc Qa.length dc] 30 (0,0)) (by (with_reducible repeat (first|refine Ea ?_ _|refine Ga ?_|refine Da ?_ _));exact ua.out) hb);have Wb:=qa.mk (Pa (by repeat (first|(with_reducible first|exact HB.out|apply ia|apply ja|apply za|refine Aa ?_ Va.out)|exact HB.out)) hb);clear ua;clear HB;have ua:=Pb;have HB:=Wb;clear Pb Wb;(try clear hb);(try clear hb2);(try clear hk);(try clear hi);have Qi:Qo.cell? ⟨Fa,0,none⟩=some (.slice Ib Ra.length Gb):=(ga ua.out 0).trans rfl;have Oi:Qo.cell? ⟨Fa,1,none⟩=some (.int .i64 Ja):=(ga ua.out 1).trans rfl;have Jq:Qo.cell? ⟨Fa,2,none⟩=some (.int .i64 Ma):=(ga ua.out 2).trans rfl;have Iq:Qo.cell? ⟨Fa,3,none⟩=some (.int .i64 Oa):=(ga ua.out 3).trans rfl;have Hq:Qo.cell? ⟨Fa,4,none⟩=some (.slice qc Qa.length dc):=(ga ua.out 4).trans rfl;have Ki:=aa ua.out 0;have Ji:=aa ua.out 1;have sq:=aa ua.out 2;have rq:=aa ua.out 3;have qq:=aa ua.out 4)|(go_at_call 58;(with_reducible refine (sg.calls Oa Ma 1000 true _ A6.out).mono ?_);rintro e w' ⟨rfl,⟨nd,rfl⟩⟩)|(go_at_call 58;(with_reducible refine (sg.calls (Qa.length:Int) 1 300 t104 _ A8.out).mono ?_);rintro e w' ⟨rfl,⟨nd,rfl⟩⟩))
    go_meet
    case rel=>exact ⟨_,(!t104),(by first|rfl|(simp;done)|(simp [*];done)),H',⟨by first|omega|exact Nat.le_refl _⟩,⟨by (with_reducible repeat (first|refine Ea ?_ _|refine Ga ?_|refine Da ?_ _));exact ua.out⟩,⟨by repeat (first|(with_reducible first|exact HB.out|apply ia|apply ja|apply za|refine Aa ?_ Va.out)|exact HB.out)⟩⟩
   ·replace c7:=Bool.eq_false_iff.mpr c7
    subst c7
    have H1:(Kb.j0 k true Ra Ja Ma Oa Qa)=some r:=by rw [if_neg (show ¬ (false=true) by decide)] at H;exact H
    clear H
    have H:=H1
    clear H1
    have H':=qa.mk H
    clear H
    have xw:w3.cell? ⟨Fa,0,none⟩=some (.slice Ib Ra.length Gb):=(ga ua.out 0).trans rfl
    have vw:w3.cell? ⟨Fa,1,none⟩=some (.int .i64 Ja):=(ga ua.out 1).trans rfl
    have uw:w3.cell? ⟨Fa,2,none⟩=some (.int .i64 Ma):=(ga ua.out 2).trans rfl
    have tw:w3.cell? ⟨Fa,3,none⟩=some (.int .i64 Oa):=(ga ua.out 3).trans rfl
    have sw:w3.cell? ⟨Fa,4,none⟩=some (.slice qc Qa.length dc):=(ga ua.out 4).trans rfl
    have Gv:=aa ua.out 0
    have Fv:=aa ua.out 1
    have Dv:=aa ua.out 2
    have Cv:=aa ua.out 3
    have Bv:=aa ua.out 4
    go_wp2_with (first|((with_reducible refine Bb (f:=89) rfl ?_);refine jd (some 13) rfl rfl Try.func89 (by kernel_rfl) rfl #[.agg #[.slice Ib Ra.length Gb,.int .i64 Ja,.int .i64 Ma,.slice none 0 0]] rfl (by (try simp only [List.map_toArray,List.map_cons,List.map_nil]);first|done|rfl|(simp only [List.length_drop,List.length_take];rfl)) ?_;(refine (Mf.calls _ _ Ra Ja Ma _ _ ([]:List (au)) true _ ?side1 ?side2 ?side3 ?side4 A4.out).mono ?_);(case side1=>repeat (first|exact (Kd.Yb Ve.out HB.out)|(with_reducible refine Kd.yc ?_ _)|(with_reducible refine Kd.uc ?_ _)|(with_reducible refine Kd.Sc ?_)));(case side2=>exact gf.out);(case side3=>exact Kd.EJ _ _);(case side4=>exact Nat.le_refl _);rintro e sy ⟨rfl,hb⟩;refine ⟨_,rfl,?_⟩;have Pb:=qa.mk (Wa (g:=Fa) (o:=.cells #[.slice Ib Ra.length Gb,.int .i64 Ja,.int .i64 Ma,.int .i64 Oa,.slice qc Qa.length dc] 30 (0,0)) (by (with_reducible repeat (first|refine Ea ?_ _|refine Ga ?_|refine Da ?_ _));exact ua.out) hb);have Wb:=qa.mk (Pa (by repeat (first|(with_reducible first|exact HB.out|apply ia|apply ja|apply za|refine Aa ?_ Va.out)|exact HB.out)) hb);clear ua;clear HB;have ua:=Pb;have HB:=Wb;clear Pb Wb;(try clear hb);(try clear hb2);(try clear hk);(try clear hi);have Gl:sy.cell? ⟨Fa,0,none⟩=some (.slice Ib Ra.length Gb):=(ga ua.out 0).trans rfl;have Fl:sy.cell? ⟨Fa,1,none⟩=some (.int .i64 Ja):=(ga ua.out 1).trans rfl;have Wm:sy.cell? ⟨Fa,2,none⟩=some (.int .i64 Ma):=(ga ua.out 2).trans rfl;have Vm:sy.cell? ⟨Fa,3,none⟩=some (.int .i64 Oa):=(ga ua.out 3).trans rfl;have Um:sy.cell? ⟨Fa,4,none⟩=some (.slice qc Qa.length dc):=(ga ua.out 4).trans rfl;have El:=aa ua.out 0;have Dl:=aa ua.out 1;have Jm:=aa ua.out 2;have Im:=aa ua.out 3;have Gm:=aa ua.out 4)|(go_at_call 58;(with_reducible refine (sg.calls Oa Ma 1000 false _ A6.out).mono ?_);rintro e w' ⟨rfl,⟨nd,rfl⟩⟩))
    go_meet
    case rel=>exact ⟨_,(true),(by first|rfl|(simp;done)|(simp [*];done)),H',⟨by first|omega|exact Nat.le_refl _⟩,⟨by (with_reducible repeat (first|refine Ea ?_ _|refine Ga ?_|refine Da ?_ _));exact ua.out⟩,⟨by repeat (first|(with_reducible first|exact HB.out|apply ia|apply ja|apply za|refine Aa ?_ Va.out)|exact HB.out)⟩⟩
  ·replace c5:=Bool.eq_false_iff.mpr c5
   subst c5
   have H1:(Kb.j0 k true Ra Ja Ma Oa Qa)=some r:=by rw [if_neg (show ¬ (false=true) by decide)] at H;exact H
   clear H
   have H:=H1
   clear H1
   have H':=qa.mk H
   clear H
   have qw:w3.cell? ⟨Fa,0,none⟩=some (.slice Ib Ra.length Gb):=(ga ua.out 0).trans rfl
   have ow:w3.cell? ⟨Fa,1,none⟩=some (.int .i64 Ja):=(ga ua.out 1).trans rfl
   have nw:w3.cell? ⟨Fa,2,none⟩=some (.int .i64 Ma):=(ga ua.out 2).trans rfl
   have mw:w3.cell? ⟨Fa,3,none⟩=some (.int .i64 Oa):=(ga ua.out 3).trans rfl
   have jw:w3.cell? ⟨Fa,4,none⟩=some (.slice qc Qa.length dc):=(ga ua.out 4).trans rfl
   have Av:=aa ua.out 0
   have wv:=aa ua.out 1
   have vv:=aa ua.out 2
   have tv:=aa ua.out 3
   have qv:=aa ua.out 4
   go_wp2_with (first|((with_reducible refine Bb (f:=89) rfl ?_);refine jd (some 13) rfl rfl Try.func89 (by kernel_rfl) rfl #[.agg #[.slice Ib Ra.length Gb,.int .i64 Ja,.int .i64 Ma,.slice none 0 0]] rfl (by (try simp only [List.map_toArray,List.map_cons,List.map_nil]);first|done|rfl|(simp only [List.length_drop,List.length_take];rfl)) ?_;(refine (Mf.calls _ _ Ra Ja Ma _ _ ([]:List (au)) false _ ?side1 ?side2 ?side3 ?side4 A4.out).mono ?_);(case side1=>repeat (first|exact (Kd.Yb Ve.out HB.out)|(with_reducible refine Kd.yc ?_ _)|(with_reducible refine Kd.uc ?_ _)|(with_reducible refine Kd.Sc ?_)));(case side2=>exact gf.out);(case side3=>exact Kd.EJ _ _);(case side4=>exact Nat.le_refl _);rintro e Dw ⟨rfl,hb⟩;refine ⟨_,rfl,?_⟩;have Pb:=qa.mk (Wa (g:=Fa) (o:=.cells #[.slice Ib Ra.length Gb,.int .i64 Ja,.int .i64 Ma,.int .i64 Oa,.slice qc Qa.length dc] 30 (0,0)) (by (with_reducible repeat (first|refine Ea ?_ _|refine Ga ?_|refine Da ?_ _));exact ua.out) hb);have Wb:=qa.mk (Pa (by repeat (first|(with_reducible first|exact HB.out|apply ia|apply ja|apply za|refine Aa ?_ Va.out)|exact HB.out)) hb);clear ua;clear HB;have ua:=Pb;have HB:=Wb;clear Pb Wb;(try clear hb);(try clear hb2);(try clear hk);(try clear hi)))
   go_meet
   case rel=>exact ⟨_,(true),(by first|rfl|(simp;done)|(simp [*];done)),H',⟨by first|omega|exact Nat.le_refl _⟩,⟨by (with_reducible repeat (first|refine Ea ?_ _|refine Ga ?_|refine Da ?_ _));exact ua.out⟩,⟨by repeat (first|(with_reducible first|exact HB.out|apply ia|apply ja|apply za|refine Aa ?_ Va.out)|exact HB.out)⟩⟩
 case rest =>
  clear HC2
  try clear p2
  try clear c5
  try clear c7
  try clear c8
  try clear Qi
  try clear Oi
  try clear Jq
  try clear Iq
  try clear Hq
  try clear xw
  try clear vw
  try clear uw
  try clear tw
  try clear sw
  try clear Gl
  try clear Fl
  try clear Wm
  try clear Vm
  try clear Um
  try clear qw
  try clear ow
  try clear nw
  try clear mw
  try clear jw
  try clear cm
  try clear Zl
  try clear Yl
  try clear Xl
  try clear Wl
  try clear Ki
  try clear Ji
  try clear sq
  try clear rq
  try clear qq
  try clear Gv
  try clear Fv
  try clear Dv
  try clear Cv
  try clear Bv
  try clear El
  try clear Dl
  try clear Jm
  try clear Im
  try clear Gm
  try clear Av
  try clear wv
  try clear vv
  try clear tv
  try clear qv
  try clear Tl
  try clear Sl
  try clear Rl
  try clear Ql
  try clear Ol
  obtain ⟨kq,SC,rfl,HA,HJ1,ua,HB⟩:=hcut
  cases kq with
  | zero=>exact absurd HA.out (by simp [Kb.j0])
  | succ kj1 =>
   have H:=HA.out
   clear HA
   simp only [Kb.j0] at H
   by_cases c17:SC=true
   ·subst c17
    have H1:(some false)=some r:=by rw [if_pos rfl] at H;exact H
    clear H
    have H:=H1
    clear H1
    obtain rfl:=Option.some.inj H
    go_wp2
    go_ret
    exact ⟨by first|rfl|(simp [La,Ka] <;> rfl)|(simp [*,La,Ka] <;> rfl),by repeat (first|(with_reducible first|exact HB.out|apply ia|apply ja|apply za|refine Aa ?_ Va.out)|exact HB.out)⟩
   ·replace c17:=Bool.eq_false_iff.mpr c17
    subst c17
    have H1:(Kb.l0 kj1 0 Qa (Qa.length:Int) 0 Ra Ja Ma Oa Qa)=some r:=by rw [if_neg (show ¬ (false=true) by decide)] at H;exact H
    clear H
    have H:=H1
    clear H1
    have H':=qa.mk H
    clear H
    have Eo:wc.cell? ⟨Fa,0,none⟩=some (.slice Ib Ra.length Gb):=(ga ua.out 0).trans rfl
    have Co:wc.cell? ⟨Fa,1,none⟩=some (.int .i64 Ja):=(ga ua.out 1).trans rfl
    have Bo:wc.cell? ⟨Fa,2,none⟩=some (.int .i64 Ma):=(ga ua.out 2).trans rfl
    have Ao:wc.cell? ⟨Fa,3,none⟩=some (.int .i64 Oa):=(ga ua.out 3).trans rfl
    have zo:wc.cell? ⟨Fa,4,none⟩=some (.slice qc Qa.length dc):=(ga ua.out 4).trans rfl
    have qo:=aa ua.out 0
    have oo:=aa ua.out 1
    have mo:=aa ua.out 2
    have ko:=aa ua.out 3
    have jo:=aa ua.out 4
    go_wp2
    go_loopg [3,33] kj1 (fun kq v3 v33 w'=>∃ (rG:Int) (fe:Int),v3 = .int .i64 rG∧v33 = .int .i64 fe∧qa (Kb.l0 kq rG Qa (Qa.length:Int) fe Ra Ja Ma Oa Qa=some r)∧qa (kq ≤ kj1)∧qa (w'.heap[Fa]? = some (.cells #[(.slice Ib Ra.length Gb),.int .i64 Ja,.int .i64 Ma,.int .i64 Oa,(.slice qc Qa.length dc)] 30 (0,0)))∧qa (Below w.heap.size w w'))
    case atStart=>exact ⟨(0),(0),(by first|rfl|(simp;done)|(simp [*];done)),(by first|rfl|(simp;done)|(simp [*];done)),H',⟨Nat.le_refl _⟩,⟨by (with_reducible repeat (first|refine Ea ?_ _|refine Ga ?_|refine Da ?_ _));exact ua.out⟩,⟨by repeat (first|(with_reducible first|exact HB.out|apply ia|apply ja|apply za|refine Aa ?_ Va.out)|exact HB.out)⟩⟩
    case round =>
     clear H'
     try clear c1
     try clear p2
     try clear c5
     try clear c7
     try clear c8
     try clear c17
     try clear Qi
     try clear Oi
     try clear Jq
     try clear Iq
     try clear Hq
     try clear xw
     try clear vw
     try clear uw
     try clear tw
     try clear sw
     try clear Gl
     try clear Fl
     try clear Wm
     try clear Vm
     try clear Um
     try clear qw
     try clear ow
     try clear nw
     try clear mw
     try clear jw
     try clear Eo
     try clear Co
     try clear Bo
     try clear Ao
     try clear zo
     try clear cm
     try clear Zl
     try clear Yl
     try clear Xl
     try clear Wl
     try clear Ki
     try clear Ji
     try clear sq
     try clear rq
     try clear qq
     try clear Gv
     try clear Fv
     try clear Dv
     try clear Cv
     try clear Bv
     try clear El
     try clear Dl
     try clear Jm
     try clear Im
     try clear Gm
     try clear Av
     try clear wv
     try clear vv
     try clear tv
     try clear qv
     try clear qo
     try clear oo
     try clear mo
     try clear ko
     try clear jo
     try clear Tl
     try clear Sl
     try clear Rl
     try clear Ql
     try clear Ol
     try clear p2
     (try clear HA)
     (try clear HK2)
     (try clear ua)
     (try clear HB)
     obtain ⟨rG,fe,rfl,rfl,HA,HK2,ua,HB⟩:=hrel
     cases gk with
     | zero=>exact absurd HA.out (by simp [Kb.l0])
     | succ k2 =>
      have H:=HA.out
      clear HA
      simp only [Kb.l0] at H
      by_cases c19:fe < (Qa.length:Int)
      ·rw [if_pos c19] at H
       have lJ:decide (fe < (Qa.length:Int))=true:=decide_eq_true c19
       clear c19
       by_cases c20:0 ≤ fe
       ·rw [if_pos c20] at H
        have wO:decide (0 ≤ fe)=true:=decide_eq_true c20
        clear c20
        by_cases c21:fe < (Qa.length:Int)
        ·rw [if_pos c21] at H
         have kJ:decide (fe < (Qa.length:Int))=true:=decide_eq_true c21
         clear c21
         replace H:=Option.bind_eq_some_iff.mp H
         obtain ⟨t107,TX,H⟩:=H
         replace H:(if t107=true then (Kb.l0 k2 (wrap64 (rG + (((mb Qa fe).f0).length:Int))) Qa (Qa.length:Int) (wrap64 (fe + 1)) Ra Ja Ma Oa Qa) else (some false))=some r:=H
         have A22:=qa.mk TX
         clear TX
         by_cases c23:t107=true
         ·subst c23
          have H1:(Kb.l0 k2 (wrap64 (rG + (((mb Qa fe).f0).length:Int))) Qa (Qa.length:Int) (wrap64 (fe + 1)) Ra Ja Ma Oa Qa)=some r:=by rw [if_pos rfl] at H;exact H
          clear H
          have H:=H1
          clear H1
          have H':=qa.mk H
          clear H
          have Bn:0 ≤ (fe:Int):=of_decide_eq_true (by first|(with_reducible assumption)|assumption)
          have zn:fe < (Qa.length:Int):=of_decide_eq_true (by first|(with_reducible assumption)|assumption)
          obtain ⟨Vj,ni,ji,Rz,ng,mg,lg,kg,jg,Hh,Ih⟩:=Wi Tf.out fe Bn zn
          cases Rz
          replace ng:=(HB.out.cell (World.block_lt_of_cell? w _ ng)).trans ng
          replace mg:=(HB.out.cell (World.block_lt_of_cell? w _ mg)).trans mg
          replace lg:=(HB.out.cell (World.block_lt_of_cell? w _ lg)).trans lg
          replace kg:=(HB.out.cell (World.block_lt_of_cell? w _ kg)).trans kg
          replace jg:=(HB.out.cell (World.block_lt_of_cell? w _ jg)).trans jg
          have Lo:=qa.mk Ih
          have Lq:=qa.mk Hh
          clear Ih Hh
          replace Bn:=eq_true Bn
          replace zn:=eq_true zn
          go_wp2_with (first|((with_reducible refine Mb (N:=5) rfl ?_);(try (refine pg (by rfl) ?_;dsimp only));refine Jb ?hg (N:=5) ?hd (cs:=#[.slice none 0 0,.int .i64 0,.int .i64 0,.int .i64 0,.int .i64 0]) (t:=68) ?hr ?_;(case hd=>rfl);(case hg=>rfl);(case hr=>first|(go_simp;done)|(go_simp;rfl));intro zi hg NJ Qb hb;have Pb:=qa.mk (Wa (g:=Fa) (o:=.cells #[.slice Ib Ra.length Gb,.int .i64 Ja,.int .i64 Ma,.int .i64 Oa,.slice (some Vj) Qa.length dc] 30 (0,0)) (by (with_reducible repeat (first|refine Ea ?_ _|refine Ga ?_|refine Da ?_ _));exact ua.out) hb);have Wb:=qa.mk (Pa (by repeat (first|(with_reducible first|exact HB.out|apply ia|apply ja|apply za|refine Aa ?_ Va.out)|exact HB.out)) hb);have nc:=qa.mk (Qb);have Nc:=qa.mk ((by rw [hg];exact (Na (by repeat (first|(with_reducible first|exact HB.out|apply ia|apply ja|apply za|refine Aa ?_ Va.out)|exact HB.out))):w.heap.size ≤ zi));have qe:=qa.mk ((by rw [hg];exact (Na (by repeat (first|(with_reducible first|exact HB.out|apply ia|apply ja|apply za|refine Aa ?_ Va.out)|exact HB.out))):w.heap.size ≤ zi));have lf:=qa.mk ((by rw [hg];exact Nat.ne_of_lt (Ac (g:=Fa) (o:=.cells #[.slice Ib Ra.length Gb,.int .i64 Ja,.int .i64 Ma,.int .i64 Oa,.slice (some Vj) Qa.length dc] 30 (0,0)) (by (with_reducible repeat (first|refine Ea ?_ _|refine Ga ?_|refine Da ?_ _));exact ua.out)):Fa ≠ zi));have Hf:=qa.mk ((by rw [hg];exact Nat.ne_of_gt (Ac (g:=Fa) (o:=.cells #[.slice Ib Ra.length Gb,.int .i64 Ja,.int .i64 Ma,.int .i64 Oa,.slice (some Vj) Qa.length dc] 30 (0,0)) (by (with_reducible repeat (first|refine Ea ?_ _|refine Ga ?_|refine Da ?_ _));exact ua.out)):zi ≠ Fa));clear ua;clear HB;have ua:=Pb;have HB:=Wb;have xh:=nc;have FX:=Nc;have Rp:=qe;have Hg:=lf;have bu:=Hf;clear Pb Wb nc Nc qe lf Hf;clear hb Qb hg;have MS:=bu.out;have oS:=Hg.out;have Ss:NJ.cell? ⟨zi,0,none⟩=some (.slice none 0 0):=(ga xh.out 0).trans rfl;have Rs:NJ.cell? ⟨zi,1,none⟩=some (.int .i64 0):=(ga xh.out 1).trans rfl;have Qs:NJ.cell? ⟨zi,2,none⟩=some (.int .i64 0):=(ga xh.out 2).trans rfl;have Ns:NJ.cell? ⟨zi,3,none⟩=some (.int .i64 0):=(ga xh.out 3).trans rfl;have Ms:NJ.cell? ⟨zi,4,none⟩=some (.int .i64 0):=(ga xh.out 4).trans rfl;have Wr:=aa xh.out 0;have Vr:=aa xh.out 1;have Ur:=aa xh.out 2;have Tr:=aa xh.out 3;have Sr:=aa xh.out 4;have Zv:NJ.cell? ⟨Fa,0,none⟩=some (.slice Ib Ra.length Gb):=(ga ua.out 0).trans rfl;have Yv:NJ.cell? ⟨Fa,1,none⟩=some (.int .i64 Ja):=(ga ua.out 1).trans rfl;have Xv:NJ.cell? ⟨Fa,2,none⟩=some (.int .i64 Ma):=(ga ua.out 2).trans rfl;have Wv:NJ.cell? ⟨Fa,3,none⟩=some (.int .i64 Oa):=(ga ua.out 3).trans rfl;have Vv:NJ.cell? ⟨Fa,4,none⟩=some (.slice (some Vj) Qa.length dc):=(ga ua.out 4).trans rfl;have Xu:=aa ua.out 0;have Wu:=aa ua.out 1;have Vu:=aa ua.out 2;have Uu:=aa ua.out 3;have Tu:=aa ua.out 4)|((with_reducible refine Bb (f:=90) rfl ?_);refine jd (some 44) rfl rfl Try.func90 (by kernel_rfl) rfl #[.agg #[.slice Ib Ra.length Gb,.int .i64 Ja,.int .i64 Ma,.int .i64 Oa,.slice (some Vj) Qa.length dc],.agg #[.slice ni ((mb Qa fe).f0).length ji,.int .i64 ((mb Qa fe).f1),.int .i64 ((mb Qa fe).f2),.int .i64 ((mb Qa fe).f3),.int .i64 ((mb Qa fe).f4)]] rfl (by (try simp only [List.map_toArray,List.map_cons,List.map_nil]);first|done|rfl|(simp only [List.length_drop,List.length_take];rfl)) ?_;(with_reducible refine (Ah.calls _ _ Ra Ja Ma Oa _ _ Qa _ _ ((mb Qa fe).f0) ((mb Qa fe).f1) ((mb Qa fe).f2) ((mb Qa fe).f3) ((mb Qa fe).f4) true _ ?side1 ?side2 ?side3 ?side4 ?side5 ?side6 A22.out).mono ?_);(case side1=>exact Kd.Yb Ve.out (by repeat (first|(with_reducible first|exact HB.out|apply ia|apply ja|apply za|refine Aa ?_ Va.out|refine Aa ?_ Rp.out)|exact HB.out)));(case side2=>exact gf.out);(case side3=>exact Kd.Yb Tf.out (by repeat (first|(with_reducible first|exact HB.out|apply ia|apply ja|apply za|refine Aa ?_ Va.out|refine Aa ?_ Rp.out)|exact HB.out)));(case side4=>exact Yg.out);(case side5=>exact Kd.Yb Lo.out (by repeat (first|(with_reducible first|exact HB.out|apply ia|apply ja|apply za|refine Aa ?_ Va.out|refine Aa ?_ Rp.out)|exact HB.out)));(case side6=>exact Lq.out);rintro e gH ⟨rfl,hb⟩;refine ⟨_,rfl,?_⟩;have Pb:=qa.mk (Wa (g:=Fa) (o:=.cells #[.slice Ib Ra.length Gb,.int .i64 Ja,.int .i64 Ma,.int .i64 Oa,.slice (some Vj) Qa.length dc] 30 (0,0)) (by (with_reducible repeat (first|refine Ea ?_ _|refine Ga ?_|refine Da ?_ _));refine Rb ?_ Hg.out _;(with_reducible repeat (first|refine Ea ?_ _|refine Ga ?_|refine Da ?_ _));refine Rb ?_ Hg.out _;(with_reducible repeat (first|refine Ea ?_ _|refine Ga ?_|refine Da ?_ _));refine Rb ?_ Hg.out _;(with_reducible repeat (first|refine Ea ?_ _|refine Ga ?_|refine Da ?_ _));refine Rb ?_ Hg.out _;(with_reducible repeat (first|refine Ea ?_ _|refine Ga ?_|refine Da ?_ _));refine Rb ?_ Hg.out _;(with_reducible repeat (first|refine Ea ?_ _|refine Ga ?_|refine Da ?_ _));exact ua.out) hb);have Wb:=qa.mk (Wa (g:=zi) (o:=.cells #[.slice ni ((mb Qa fe).f0).length ji,.int .i64 ((mb Qa fe).f1),.int .i64 ((mb Qa fe).f2),.int .i64 ((mb Qa fe).f3),.int .i64 ((mb Qa fe).f4)] 68 (0,0)) (by (with_reducible repeat (first|refine Ea ?_ _|refine Ga ?_|refine Da ?_ _));refine Db (cs:=#[.slice ni ((mb Qa fe).f0).length ji,.int .i64 ((mb Qa fe).f1),.int .i64 ((mb Qa fe).f2),.int .i64 ((mb Qa fe).f3),.int .i64 0]) ?_ 4 _ rfl;(with_reducible repeat (first|refine Ea ?_ _|refine Ga ?_|refine Da ?_ _));refine Db (cs:=#[.slice ni ((mb Qa fe).f0).length ji,.int .i64 ((mb Qa fe).f1),.int .i64 ((mb Qa fe).f2),.int .i64 0,.int .i64 0]) ?_ 3 _ rfl;(with_reducible repeat (first|refine Ea ?_ _|refine Ga ?_|refine Da ?_ _));refine Db (cs:=#[.slice ni ((mb Qa fe).f0).length ji,.int .i64 ((mb Qa fe).f1),.int .i64 0,.int .i64 0,.int .i64 0]) ?_ 2 _ rfl;(with_reducible repeat (first|refine Ea ?_ _|refine Ga ?_|refine Da ?_ _));refine Db (cs:=#[.slice ni ((mb Qa fe).f0).length ji,.int .i64 0,.int .i64 0,.int .i64 0,.int .i64 0]) ?_ 1 _ rfl;(with_reducible repeat (first|refine Ea ?_ _|refine Ga ?_|refine Da ?_ _));refine Db (cs:=#[.slice none 0 0,.int .i64 0,.int .i64 0,.int .i64 0,.int .i64 0]) ?_ 0 _ rfl;(with_reducible repeat (first|refine Ea ?_ _|refine Ga ?_|refine Da ?_ _));exact xh.out) hb);have nc:=qa.mk (Pa (by repeat (first|(with_reducible first|exact HB.out|apply ia|apply ja|apply za|refine Aa ?_ Va.out|refine Aa ?_ Rp.out)|exact HB.out)) hb);clear ua;clear xh;clear HB;have ua:=Pb;have xh:=Wb;have HB:=nc;clear Pb Wb nc;(try clear hb);(try clear hb2);(try clear hk);(try clear hi)))
          go_roundg k2
          case measure=>have:=HJ1.out;have:=HK2.out;omega
          case rel=>exact ⟨(wrap64 (rG + (((mb Qa fe).f0).length:Int))),(wrap64 (fe + 1)),(by first|rfl|(simp;done)|(simp [*];done)),(by first|rfl|(simp;done)|(simp [*];done)),H',⟨by have:=HJ1.out;have:=HK2.out;omega⟩,⟨by (with_reducible repeat (first|refine Ea ?_ _|refine Ga ?_|refine Da ?_ _));exact ua.out⟩,⟨by repeat (first|(with_reducible first|exact HB.out|apply ia|apply ja|apply za|refine Aa ?_ Va.out|refine Aa ?_ Rp.out)|exact HB.out)⟩⟩
         ·replace c23:=Bool.eq_false_iff.mpr c23
          subst c23
          have H1:(some false)=some r:=by rw [if_neg (show ¬ (false=true) by decide)] at H;exact H
          clear H
          have H:=H1
          clear H1
          obtain rfl:=Option.some.inj H
          have Bn:0 ≤ (fe:Int):=of_decide_eq_true (by first|(with_reducible assumption)|assumption)
          have zn:fe < (Qa.length:Int):=of_decide_eq_true (by first|(with_reducible assumption)|assumption)
          obtain ⟨Vj,ni,ji,Rz,ng,mg,lg,kg,jg,Hh,Ih⟩:=Wi Tf.out fe Bn zn
          cases Rz
          replace ng:=(HB.out.cell (World.block_lt_of_cell? w _ ng)).trans ng
          replace mg:=(HB.out.cell (World.block_lt_of_cell? w _ mg)).trans mg
          replace lg:=(HB.out.cell (World.block_lt_of_cell? w _ lg)).trans lg
          replace kg:=(HB.out.cell (World.block_lt_of_cell? w _ kg)).trans kg
          replace jg:=(HB.out.cell (World.block_lt_of_cell? w _ jg)).trans jg
          have Lo:=qa.mk Ih
          have Lq:=qa.mk Hh
          clear Ih Hh
          replace Bn:=eq_true Bn
          replace zn:=eq_true zn
          go_wp2_with (first|((with_reducible refine Mb (N:=5) rfl ?_);(try (refine pg (by rfl) ?_;dsimp only));refine Jb ?hg (N:=5) ?hd (cs:=#[.slice none 0 0,.int .i64 0,.int .i64 0,.int .i64 0,.int .i64 0]) (t:=68) ?hr ?_;(case hd=>rfl);(case hg=>rfl);(case hr=>first|(go_simp;done)|(go_simp;rfl));intro zi hg MJ Qb hb;have Pb:=qa.mk (Wa (g:=Fa) (o:=.cells #[.slice Ib Ra.length Gb,.int .i64 Ja,.int .i64 Ma,.int .i64 Oa,.slice (some Vj) Qa.length dc] 30 (0,0)) (by (with_reducible repeat (first|refine Ea ?_ _|refine Ga ?_|refine Da ?_ _));exact ua.out) hb);have Wb:=qa.mk (Pa (by repeat (first|(with_reducible first|exact HB.out|apply ia|apply ja|apply za|refine Aa ?_ Va.out)|exact HB.out)) hb);have nc:=qa.mk (Qb);have Nc:=qa.mk ((by rw [hg];exact (Na (by repeat (first|(with_reducible first|exact HB.out|apply ia|apply ja|apply za|refine Aa ?_ Va.out)|exact HB.out))):w.heap.size ≤ zi));have qe:=qa.mk ((by rw [hg];exact (Na (by repeat (first|(with_reducible first|exact HB.out|apply ia|apply ja|apply za|refine Aa ?_ Va.out)|exact HB.out))):w.heap.size ≤ zi));have lf:=qa.mk ((by rw [hg];exact Nat.ne_of_lt (Ac (g:=Fa) (o:=.cells #[.slice Ib Ra.length Gb,.int .i64 Ja,.int .i64 Ma,.int .i64 Oa,.slice (some Vj) Qa.length dc] 30 (0,0)) (by (with_reducible repeat (first|refine Ea ?_ _|refine Ga ?_|refine Da ?_ _));exact ua.out)):Fa ≠ zi));have Hf:=qa.mk ((by rw [hg];exact Nat.ne_of_gt (Ac (g:=Fa) (o:=.cells #[.slice Ib Ra.length Gb,.int .i64 Ja,.int .i64 Ma,.int .i64 Oa,.slice (some Vj) Qa.length dc] 30 (0,0)) (by (with_reducible repeat (first|refine Ea ?_ _|refine Ga ?_|refine Da ?_ _));exact ua.out)):zi ≠ Fa));clear ua;clear HB;have ua:=Pb;have HB:=Wb;have xh:=nc;have FX:=Nc;have Rp:=qe;have Hg:=lf;have bu:=Hf;clear Pb Wb nc Nc qe lf Hf;clear hb Qb hg;have Uac:=bu.out;have fac:=Hg.out;have Uv:MJ.cell? ⟨zi,0,none⟩=some (.slice none 0 0):=(ga xh.out 0).trans rfl;have Tv:MJ.cell? ⟨zi,1,none⟩=some (.int .i64 0):=(ga xh.out 1).trans rfl;have Sv:MJ.cell? ⟨zi,2,none⟩=some (.int .i64 0):=(ga xh.out 2).trans rfl;have Rv:MJ.cell? ⟨zi,3,none⟩=some (.int .i64 0):=(ga xh.out 3).trans rfl;have Qv:MJ.cell? ⟨zi,4,none⟩=some (.int .i64 0):=(ga xh.out 4).trans rfl;have Su:=aa xh.out 0;have Ru:=aa xh.out 1;have Qu:=aa xh.out 2;have Pu:=aa xh.out 3;have Ou:=aa xh.out 4;have Gz:MJ.cell? ⟨Fa,0,none⟩=some (.slice Ib Ra.length Gb):=(ga ua.out 0).trans rfl;have Fz:MJ.cell? ⟨Fa,1,none⟩=some (.int .i64 Ja):=(ga ua.out 1).trans rfl;have Ez:MJ.cell? ⟨Fa,2,none⟩=some (.int .i64 Ma):=(ga ua.out 2).trans rfl;have Dz:MJ.cell? ⟨Fa,3,none⟩=some (.int .i64 Oa):=(ga ua.out 3).trans rfl;have Cz:MJ.cell? ⟨Fa,4,none⟩=some (.slice (some Vj) Qa.length dc):=(ga ua.out 4).trans rfl;have dz:=aa ua.out 0;have cz:=aa ua.out 1;have bz:=aa ua.out 2;have az:=aa ua.out 3;have Zy:=aa ua.out 4)|((with_reducible refine Bb (f:=90) rfl ?_);refine jd (some 44) rfl rfl Try.func90 (by kernel_rfl) rfl #[.agg #[.slice Ib Ra.length Gb,.int .i64 Ja,.int .i64 Ma,.int .i64 Oa,.slice (some Vj) Qa.length dc],.agg #[.slice ni ((mb Qa fe).f0).length ji,.int .i64 ((mb Qa fe).f1),.int .i64 ((mb Qa fe).f2),.int .i64 ((mb Qa fe).f3),.int .i64 ((mb Qa fe).f4)]] rfl (by (try simp only [List.map_toArray,List.map_cons,List.map_nil]);first|done|rfl|(simp only [List.length_drop,List.length_take];rfl)) ?_;(with_reducible refine (Ah.calls _ _ Ra Ja Ma Oa _ _ Qa _ _ ((mb Qa fe).f0) ((mb Qa fe).f1) ((mb Qa fe).f2) ((mb Qa fe).f3) ((mb Qa fe).f4) false _ ?side1 ?side2 ?side3 ?side4 ?side5 ?side6 A22.out).mono ?_);(case side1=>exact Kd.Yb Ve.out (by repeat (first|(with_reducible first|exact HB.out|apply ia|apply ja|apply za|refine Aa ?_ Va.out|refine Aa ?_ Rp.out)|exact HB.out)));(case side2=>exact gf.out);(case side3=>exact Kd.Yb Tf.out (by repeat (first|(with_reducible first|exact HB.out|apply ia|apply ja|apply za|refine Aa ?_ Va.out|refine Aa ?_ Rp.out)|exact HB.out)));(case side4=>exact Yg.out);(case side5=>exact Kd.Yb Lo.out (by repeat (first|(with_reducible first|exact HB.out|apply ia|apply ja|apply za|refine Aa ?_ Va.out|refine Aa ?_ Rp.out)|exact HB.out)));(case side6=>exact Lq.out);rintro e sG ⟨rfl,hb⟩;refine ⟨_,rfl,?_⟩;have Pb:=qa.mk (Wa (g:=Fa) (o:=.cells #[.slice Ib Ra.length Gb,.int .i64 Ja,.int .i64 Ma,.int .i64 Oa,.slice (some Vj) Qa.length dc] 30 (0,0)) (by (with_reducible repeat (first|refine Ea ?_ _|refine Ga ?_|refine Da ?_ _));refine Rb ?_ Hg.out _;(with_reducible repeat (first|refine Ea ?_ _|refine Ga ?_|refine Da ?_ _));refine Rb ?_ Hg.out _;(with_reducible repeat (first|refine Ea ?_ _|refine Ga ?_|refine Da ?_ _));refine Rb ?_ Hg.out _;(with_reducible repeat (first|refine Ea ?_ _|refine Ga ?_|refine Da ?_ _));refine Rb ?_ Hg.out _;(with_reducible repeat (first|refine Ea ?_ _|refine Ga ?_|refine Da ?_ _));refine Rb ?_ Hg.out _;(with_reducible repeat (first|refine Ea ?_ _|refine Ga ?_|refine Da ?_ _));exact ua.out) hb);have Wb:=qa.mk (Wa (g:=zi) (o:=.cells #[.slice ni ((mb Qa fe).f0).length ji,.int .i64 ((mb Qa fe).f1),.int .i64 ((mb Qa fe).f2),.int .i64 ((mb Qa fe).f3),.int .i64 ((mb Qa fe).f4)] 68 (0,0)) (by (with_reducible repeat (first|refine Ea ?_ _|refine Ga ?_|refine Da ?_ _));refine Db (cs:=#[.slice ni ((mb Qa fe).f0).length ji,.int .i64 ((mb Qa fe).f1),.int .i64 ((mb Qa fe).f2),.int .i64 ((mb Qa fe).f3),.int .i64 0]) ?_ 4 _ rfl;(with_reducible repeat (first|refine Ea ?_ _|refine Ga ?_|refine Da ?_ _));refine Db (cs:=#[.slice ni ((mb Qa fe).f0).length ji,.int .i64 ((mb Qa fe).f1),.int .i64 ((mb Qa fe).f2),.int .i64 0,.int .i64 0]) ?_ 3 _ rfl;(with_reducible repeat (first|refine Ea ?_ _|refine Ga ?_|refine Da ?_ _));refine Db (cs:=#[.slice ni ((mb Qa fe).f0).length ji,.int .i64 ((mb Qa fe).f1),.int .i64 0,.int .i64 0,.int .i64 0]) ?_ 2 _ rfl;(with_reducible repeat (first|refine Ea ?_ _|refine Ga ?_|refine Da ?_ _));refine Db (cs:=#[.slice ni ((mb Qa fe).f0).length ji,.int .i64 0,.int .i64 0,.int .i64 0,.int .i64 0]) ?_ 1 _ rfl;(with_reducible repeat (first|refine Ea ?_ _|refine Ga ?_|refine Da ?_ _));refine Db (cs:=#[.slice none 0 0,.int .i64 0,.int .i64 0,.int .i64 0,.int .i64 0]) ?_ 0 _ rfl;(with_reducible repeat (first|refine Ea ?_ _|refine Ga ?_|refine Da ?_ _));exact xh.out) hb);have nc:=qa.mk (Pa (by repeat (first|(with_reducible first|exact HB.out|apply ia|apply ja|apply za|refine Aa ?_ Va.out|refine Aa ?_ Rp.out)|exact HB.out)) hb);clear ua;clear xh;clear HB;have ua:=Pb;have xh:=Wb;have HB:=nc;clear Pb Wb nc;(try clear hb);(try clear hb2);(try clear hk);(try clear hi)))
          go_ret
          exact ⟨by first|rfl|(simp [La,Ka] <;> rfl)|(simp [*,La,Ka] <;> rfl),by repeat (first|(with_reducible first|exact HB.out|apply ia|apply ja|apply za|refine Aa ?_ Va.out|refine Aa ?_ Rp.out)|exact HB.out)⟩
        ·rw [if_neg c21] at H
         exact absurd H (by simp)
       ·rw [if_neg c20] at H
        exact absurd H (by simp)
      ·rw [if_neg c19] at H
       have lJ:decide (fe < (Qa.length:Int))=false:=decide_eq_false c19
       clear c19
       obtain rfl:=Option.some.inj H
       go_wp2
       go_ret
       exact ⟨by first|rfl|(simp [La,Ka] <;> rfl)|(simp [*,La,Ka] <;> rfl),by repeat (first|(with_reducible first|exact HB.out|apply ia|apply ja|apply za|refine Aa ?_ Va.out)|exact HB.out)⟩
end Go.Proofs.Ytmifdccaajngcaa.P
end
section
namespace Go.Proofs.Ytmifdccaajngcaa.P
open Go.RowKit Go.Proofs.Ca.xb Go.Proofs.Ca.Xb Go.Proofs.Ca.ic
attribute [local go_sem] Vd Td we ue Dd Cd Ud Sd
set_option linter.unusedVariables false
set_option linter.unusedSimpArgs false
def Sn.f (Ec:Int) (Ja:Int) (Ma:Int) (Oa:Int) (fc:Int) (qd:Int) (ld:ByteArray):Option (Int):=if Ec=4 then (some (-1)) else (if Ec=6 then (some (-1)) else (some Ja))
set_option maxHeartbeats 8000000 in
set_option maxRecDepth 100000 in
theorem Sn.calls (Ec:Int) (Ja:Int) (Ma:Int) (Oa:Int) (fc:Int) (qd:Int) (ld:ByteArray) (r:Int) (w:World) (h:Sn.f Ec Ja Ma Oa fc qd ld=some r) :
  Calls Try.prog 91 #[.agg #[.int .i64 Ec,.int .i64 Ja,.int .i64 Ma,.int .i64 Oa,.int .i64 fc,.int .i64 qd,.string ld]] w fun e w'=>e = .returned (.int .i64 r)∧Below w.heap.size w w':=by
 have BA:=Try.underlying70
 have HB:=qa.mk (Below.refl w.heap.size w)
 have H:(if Ec=4 then (some (-1)) else (if Ec=6 then (some (-1)) else (some Ja)))=some r:=h
 clear h
 by_cases c2:Ec=4
 ·rw [if_pos c2] at H
  have BC:(Ec == 4)=true:=beq_iff_eq.mpr c2
  have zC:(Ec != 4)=false:=bne_eq_false_iff_eq.mpr c2
  clear c2
  obtain rfl:=Option.some.inj H
  go_enter Try.func91,Try.ntmps91
  go_wp2_with (first|((with_reducible refine Mb (N:=1) rfl ?_);refine Jb ?hg (N:=1) ?hd (cs:=#[.int .i64 Ec,.int .i64 Ja,.int .i64 Ma,.int .i64 Oa,.int .i64 fc,.int .i64 qd,.string ld]) (t:=70) ?hr ?_;(case hd=>rfl);(case hg=>rfl);(case hr=>first|(go_simp;done)|(go_simp;rfl));intro Fa hg w3 Qb hb;have Pb:=qa.mk (Pa (by repeat (first|(with_reducible first|exact HB.out|apply ia|apply ja|apply za)|exact HB.out)) hb);have Wb:=qa.mk (Qb);have nc:=qa.mk ((by rw [hg];exact (Na (by repeat (first|(with_reducible first|exact HB.out|apply ia|apply ja|apply za)|exact HB.out))):w.heap.size ≤ Fa));have Nc:=qa.mk ((by rw [hg];exact (Na (by repeat (first|(with_reducible first|exact HB.out|apply ia|apply ja|apply za)|exact HB.out))):w.heap.size ≤ Fa));clear HB;have HB:=Pb;have ua:=Wb;have Nd:=nc;have Va:=Nc;clear Pb Wb nc Nc;clear hb Qb hg;have oaa:w3.cell? ⟨Fa,0,none⟩=some (.int .i64 Ec):=(ga ua.out 0).trans rfl;have naa:w3.cell? ⟨Fa,1,none⟩=some (.int .i64 Ja):=(ga ua.out 1).trans rfl;have maa:w3.cell? ⟨Fa,2,none⟩=some (.int .i64 Ma):=(ga ua.out 2).trans rfl;have laa:w3.cell? ⟨Fa,3,none⟩=some (.int .i64 Oa):=(ga ua.out 3).trans rfl;have kaa:w3.cell? ⟨Fa,4,none⟩=some (.int .i64 fc):=(ga ua.out 4).trans rfl;have jaa:w3.cell? ⟨Fa,5,none⟩=some (.int .i64 qd):=(ga ua.out 5).trans rfl;have iaa:w3.cell? ⟨Fa,6,none⟩=some (.string ld):=(ga ua.out 6).trans rfl;have O_:=aa ua.out 0;have N_:=aa ua.out 1;have M_:=aa ua.out 2;have L_:=aa ua.out 3;have K_:=aa ua.out 4;have J_:=aa ua.out 5;have I_:=aa ua.out 6))
  go_ret
  exact ⟨by first|rfl|(simp [La,Ka] <;> rfl)|(simp [*,La,Ka] <;> rfl),by repeat (first|(with_reducible first|exact HB.out|apply ia|apply ja|apply za|refine Aa ?_ Va.out)|exact HB.out)⟩
 ·rw [if_neg c2] at H
  have BC:(Ec == 4)=false:=beq_eq_false_iff_ne.mpr c2
  have zC:(Ec != 4)=true:=bne_iff_ne.mpr c2
  by_cases c5:Ec=6
  ·rw [if_pos c5] at H
   have Hl:(Ec == 6)=true:=beq_iff_eq.mpr c5
   have Yt:(Ec != 6)=false:=bne_eq_false_iff_eq.mpr c5
   clear c5
   obtain rfl:=Option.some.inj H
   go_enter Try.func91,Try.ntmps91
   go_wp2_with (first|((with_reducible refine Mb (N:=1) rfl ?_);refine Jb ?hg (N:=1) ?hd (cs:=#[.int .i64 Ec,.int .i64 Ja,.int .i64 Ma,.int .i64 Oa,.int .i64 fc,.int .i64 qd,.string ld]) (t:=70) ?hr ?_;(case hd=>rfl);(case hg=>rfl);(case hr=>first|(go_simp;done)|(go_simp;rfl));intro Fa hg w6 Qb hb;have Pb:=qa.mk (Pa (by repeat (first|(with_reducible first|exact HB.out|apply ia|apply ja|apply za)|exact HB.out)) hb);have Wb:=qa.mk (Qb);have nc:=qa.mk ((by rw [hg];exact (Na (by repeat (first|(with_reducible first|exact HB.out|apply ia|apply ja|apply za)|exact HB.out))):w.heap.size ≤ Fa));have Nc:=qa.mk ((by rw [hg];exact (Na (by repeat (first|(with_reducible first|exact HB.out|apply ia|apply ja|apply za)|exact HB.out))):w.heap.size ≤ Fa));clear HB;have HB:=Pb;have ua:=Wb;have Nd:=nc;have Va:=Nc;clear Pb Wb nc Nc;clear hb Qb hg;have yo:w6.cell? ⟨Fa,0,none⟩=some (.int .i64 Ec):=(ga ua.out 0).trans rfl;have xo:w6.cell? ⟨Fa,1,none⟩=some (.int .i64 Ja):=(ga ua.out 1).trans rfl;have wo:w6.cell? ⟨Fa,2,none⟩=some (.int .i64 Ma):=(ga ua.out 2).trans rfl;have vo:w6.cell? ⟨Fa,3,none⟩=some (.int .i64 Oa):=(ga ua.out 3).trans rfl;have uo:w6.cell? ⟨Fa,4,none⟩=some (.int .i64 fc):=(ga ua.out 4).trans rfl;have CI:w6.cell? ⟨Fa,5,none⟩=some (.int .i64 qd):=(ga ua.out 5).trans rfl;have BI:w6.cell? ⟨Fa,6,none⟩=some (.string ld):=(ga ua.out 6).trans rfl;have fo:=aa ua.out 0;have Zn:=aa ua.out 1;have Yn:=aa ua.out 2;have Xn:=aa ua.out 3;have Wn:=aa ua.out 4;have kI:=aa ua.out 5;have jI:=aa ua.out 6))
   go_ret
   exact ⟨by first|rfl|(simp [La,Ka] <;> rfl)|(simp [*,La,Ka] <;> rfl),by repeat (first|(with_reducible first|exact HB.out|apply ia|apply ja|apply za|refine Aa ?_ Va.out)|exact HB.out)⟩
  ·rw [if_neg c5] at H
   have Hl:(Ec == 6)=false:=beq_eq_false_iff_ne.mpr c5
   have Yt:(Ec != 6)=true:=bne_iff_ne.mpr c5
   obtain rfl:=Option.some.inj H
   go_enter Try.func91,Try.ntmps91
   go_wp2_with (first|((with_reducible refine Mb (N:=1) rfl ?_);refine Jb ?hg (N:=1) ?hd (cs:=#[.int .i64 Ec,.int .i64 Ja,.int .i64 Ma,.int .i64 Oa,.int .i64 fc,.int .i64 qd,.string ld]) (t:=70) ?hr ?_;(case hd=>rfl);(case hg=>rfl);(case hr=>first|(go_simp;done)|(go_simp;rfl));intro Fa hg w8 Qb hb;have Pb:=qa.mk (Pa (by repeat (first|(with_reducible first|exact HB.out|apply ia|apply ja|apply za)|exact HB.out)) hb);have Wb:=qa.mk (Qb);have nc:=qa.mk ((by rw [hg];exact (Na (by repeat (first|(with_reducible first|exact HB.out|apply ia|apply ja|apply za)|exact HB.out))):w.heap.size ≤ Fa));have Nc:=qa.mk ((by rw [hg];exact (Na (by repeat (first|(with_reducible first|exact HB.out|apply ia|apply ja|apply za)|exact HB.out))):w.heap.size ≤ Fa));clear HB;have HB:=Pb;have ua:=Wb;have Nd:=nc;have Va:=Nc;clear Pb Wb nc Nc;clear hb Qb hg;have cm:w8.cell? ⟨Fa,0,none⟩=some (.int .i64 Ec):=(ga ua.out 0).trans rfl;have Zl:w8.cell? ⟨Fa,1,none⟩=some (.int .i64 Ja):=(ga ua.out 1).trans rfl;have Yl:w8.cell? ⟨Fa,2,none⟩=some (.int .i64 Ma):=(ga ua.out 2).trans rfl;have Xl:w8.cell? ⟨Fa,3,none⟩=some (.int .i64 Oa):=(ga ua.out 3).trans rfl;have Wl:w8.cell? ⟨Fa,4,none⟩=some (.int .i64 fc):=(ga ua.out 4).trans rfl;have nQ:w8.cell? ⟨Fa,5,none⟩=some (.int .i64 qd):=(ga ua.out 5).trans rfl;have mQ:w8.cell? ⟨Fa,6,none⟩=some (.string ld):=(ga ua.out 6).trans rfl;have Tl:=aa ua.out 0;have Sl:=aa ua.out 1;have Rl:=aa ua.out 2;have Ql:=aa ua.out 3;have Ol:=aa ua.out 4;have OP:=aa ua.out 5;have NP:=aa ua.out 6))
   go_ret
   exact ⟨by first|rfl|(simp [La,Ka] <;> rfl)|(simp [*,La,Ka] <;> rfl),by repeat (first|(with_reducible first|exact HB.out|apply ia|apply ja|apply za|refine Aa ?_ Va.out)|exact HB.out)⟩
end Go.Proofs.Ytmifdccaajngcaa.P
end
section
namespace Go.Proofs.Ytmifdccaajngcaa.P
open Go.RowKit Go.Proofs.Ca.xb Go.Proofs.Ca.Xb Go.Proofs.Ca.ic
attribute [local go_sem] Vd Td we ue Dd Cd Ud Sd
set_option linter.unusedVariables false
set_option linter.unusedSimpArgs false
def Dn.f (a0:ByteArray) (a1:Int) (a2:Int):Option (Int):=if a0.toList=([43]:List UInt8) then (some (wrap64 (a1 + a2))) else (if a0.toList=([45]:List UInt8) then (some (wrap64 (a1 - a2))) else (if a0.toList=([42]:List UInt8) then (some (wrap64 (a1 * a2))) else (if a0.toList=([38]:List UInt8) then (some (Go.bits .and .i64 a1 a2)) else (if a0.toList=([61,61]:List UInt8) then (if a1=a2 then (some 1) else (some 0)) else (if a0.toList=([60]:List UInt8) then (if a1 < a2 then (some 1) else (some 0)) else (some 0))))))
set_option maxHeartbeats 8000000 in
set_option maxRecDepth 100000 in
theorem Dn.calls (a0:ByteArray) (a1:Int) (a2:Int) (r:Int) (w:World) (h:Dn.f a0 a1 a2=some r) :
  Calls Try.prog 119 #[.string a0,.int .i64 a1,.int .i64 a2] w fun e w'=>e = .returned (.int .i64 r)∧Cc w w':=by
 have H:(if a0.toList=([43]:List UInt8) then (some (wrap64 (a1 + a2))) else (if a0.toList=([45]:List UInt8) then (some (wrap64 (a1 - a2))) else (if a0.toList=([42]:List UInt8) then (some (wrap64 (a1 * a2))) else (if a0.toList=([38]:List UInt8) then (some (Go.bits .and .i64 a1 a2)) else (if a0.toList=([61,61]:List UInt8) then (if a1=a2 then (some 1) else (some 0)) else (if a0.toList=([60]:List UInt8) then (if a1 < a2 then (some 1) else (some 0)) else (some 0)))))))=some r:=h
 clear h
 by_cases c4:a0.toList=([43]:List UInt8)
 ·rw [if_pos c4] at H
  have Mh:(a0.toList == ([43]:List UInt8))=true:=beq_iff_eq.mpr c4
  have yC:(a0.toList != ([43]:List UInt8))=false:=bne_eq_false_iff_eq.mpr c4
  clear c4
  obtain rfl:=Option.some.inj H
  go_enter Try.func119,Try.ntmps119
  go_wp2
  go_ret
  exact ⟨by first|rfl|(simp;done)|(simp [*];done),by repeat (first|exact Cc.refl _|apply Cc.step)⟩
 ·rw [if_neg c4] at H
  have Mh:(a0.toList == ([43]:List UInt8))=false:=beq_eq_false_iff_ne.mpr c4
  have yC:(a0.toList != ([43]:List UInt8))=true:=bne_iff_ne.mpr c4
  by_cases c5:a0.toList=([45]:List UInt8)
  ·rw [if_pos c5] at H
   have Hl:(a0.toList == ([45]:List UInt8))=true:=beq_iff_eq.mpr c5
   have Yt:(a0.toList != ([45]:List UInt8))=false:=bne_eq_false_iff_eq.mpr c5
   clear c5
   obtain rfl:=Option.some.inj H
   go_enter Try.func119,Try.ntmps119
   go_wp2
   go_ret
   exact ⟨by first|rfl|(simp;done)|(simp [*];done),by repeat (first|exact Cc.refl _|apply Cc.step)⟩
  ·rw [if_neg c5] at H
   have Hl:(a0.toList == ([45]:List UInt8))=false:=beq_eq_false_iff_ne.mpr c5
   have Yt:(a0.toList != ([45]:List UInt8))=true:=bne_iff_ne.mpr c5
   by_cases c6:a0.toList=([42]:List UInt8)
   ·rw [if_pos c6] at H
    have rm:(a0.toList == ([42]:List UInt8))=true:=beq_iff_eq.mpr c6
    have jx:(a0.toList != ([42]:List UInt8))=false:=bne_eq_false_iff_eq.mpr c6
    clear c6
    obtain rfl:=Option.some.inj H
    go_enter Try.func119,Try.ntmps119
    go_wp2
    go_ret
    exact ⟨by first|rfl|(simp;done)|(simp [*];done),by repeat (first|exact Cc.refl _|apply Cc.step)⟩
   ·rw [if_neg c6] at H
    have rm:(a0.toList == ([42]:List UInt8))=false:=beq_eq_false_iff_ne.mpr c6
    have jx:(a0.toList != ([42]:List UInt8))=true:=bne_iff_ne.mpr c6
    by_cases c7:a0.toList=([38]:List UInt8)
    ·rw [if_pos c7] at H
     have Wo:(a0.toList == ([38]:List UInt8))=true:=beq_iff_eq.mpr c7
     have gx:(a0.toList != ([38]:List UInt8))=false:=bne_eq_false_iff_eq.mpr c7
     clear c7
     obtain rfl:=Option.some.inj H
     go_enter Try.func119,Try.ntmps119
     go_wp2
     go_ret
     exact ⟨by first|rfl|(simp;done)|(simp [*];done),by repeat (first|exact Cc.refl _|apply Cc.step)⟩
    ·rw [if_neg c7] at H
     have Wo:(a0.toList == ([38]:List UInt8))=false:=beq_eq_false_iff_ne.mpr c7
     have gx:(a0.toList != ([38]:List UInt8))=true:=bne_iff_ne.mpr c7
     by_cases c8:a0.toList=([61,61]:List UInt8)
     ·rw [if_pos c8] at H
      have Mn:(a0.toList == ([61,61]:List UInt8))=true:=beq_iff_eq.mpr c8
      have Xt:(a0.toList != ([61,61]:List UInt8))=false:=bne_eq_false_iff_eq.mpr c8
      clear c8
      by_cases c9:a1=a2
      ·rw [if_pos c9] at H
       have xC:(a1 == a2)=true:=beq_iff_eq.mpr c9
       have dJ:(a1 != a2)=false:=bne_eq_false_iff_eq.mpr c9
       clear c9
       obtain rfl:=Option.some.inj H
       go_enter Try.func119,Try.ntmps119
       go_wp2
       go_ret
       exact ⟨by first|rfl|(simp;done)|(simp [*];done),by repeat (first|exact Cc.refl _|apply Cc.step)⟩
      ·rw [if_neg c9] at H
       have xC:(a1 == a2)=false:=beq_eq_false_iff_ne.mpr c9
       have dJ:(a1 != a2)=true:=bne_iff_ne.mpr c9
       obtain rfl:=Option.some.inj H
       go_enter Try.func119,Try.ntmps119
       go_wp2
       go_ret
       exact ⟨by first|rfl|(simp;done)|(simp [*];done),by repeat (first|exact Cc.refl _|apply Cc.step)⟩
     ·rw [if_neg c8] at H
      have Mn:(a0.toList == ([61,61]:List UInt8))=false:=beq_eq_false_iff_ne.mpr c8
      have Xt:(a0.toList != ([61,61]:List UInt8))=true:=bne_iff_ne.mpr c8
      by_cases Jt:a0.toList=([60]:List UInt8)
      ·rw [if_pos Jt] at H
       have VA:(a0.toList == ([60]:List UInt8))=true:=beq_iff_eq.mpr Jt
       have nJ:(a0.toList != ([60]:List UInt8))=false:=bne_eq_false_iff_eq.mpr Jt
       clear Jt
       by_cases c11:a1 < a2
       ·rw [if_pos c11] at H
        have iG:decide (a1 < a2)=true:=decide_eq_true c11
        clear c11
        obtain rfl:=Option.some.inj H
        go_enter Try.func119,Try.ntmps119
        go_wp2
        go_ret
        exact ⟨by first|rfl|(simp;done)|(simp [*];done),by repeat (first|exact Cc.refl _|apply Cc.step)⟩
       ·rw [if_neg c11] at H
        have iG:decide (a1 < a2)=false:=decide_eq_false c11
        clear c11
        obtain rfl:=Option.some.inj H
        go_enter Try.func119,Try.ntmps119
        go_wp2
        go_ret
        exact ⟨by first|rfl|(simp;done)|(simp [*];done),by repeat (first|exact Cc.refl _|apply Cc.step)⟩
      ·rw [if_neg Jt] at H
       have VA:(a0.toList == ([60]:List UInt8))=false:=beq_eq_false_iff_ne.mpr Jt
       have nJ:(a0.toList != ([60]:List UInt8))=true:=bne_iff_ne.mpr Jt
       obtain rfl:=Option.some.inj H
       go_enter Try.func119,Try.ntmps119
       go_wp2
       go_ret
       exact ⟨by first|rfl|(simp;done)|(simp [*];done),by repeat (first|exact Cc.refl _|apply Cc.step)⟩
end Go.Proofs.Ytmifdccaajngcaa.P
end
section
namespace Go.Proofs.Ytmifdccaajngcaa.P
open Go.RowKit Go.Proofs.Ca.xb Go.Proofs.Ca.Xb Go.Proofs.Ca.ic
set_option linter.unusedVariables false
set_option linter.unusedSimpArgs false
def KV (W:World) (B kb:Nat) (v:Value) (xs:List Ko) (nx:Int):Prop:=B ≤ kb∧W.heap[kb]? = some (.cells #[v,.int .i64 nx] 74 (0,0))∧Kd.R TN 79 W B (fun _=>True) v xs
def KS (W:World) (B kb:Nat) (xs:List Ko) (nx:Int):Prop:=∃ v,KV W B kb v xs nx
theorem KV.below {W W':World} {B kb:Nat} {v:Value} {xs:List Ko} {nx:Int} (h:KV W B kb v xs nx) (hb:Below W.heap.size W W'):KV W' B kb v xs nx:=⟨h.1,Wa h.2.1 hb,Kd.Ge h.2.2 hb⟩
section
variable {W W':World} {B kb:Nat} {xs:List Ko} {nx:Int}
theorem KS.below (h:KS W B kb xs nx) (hb:Below W.heap.size W W'):KS W' B kb xs nx:=by
 obtain ⟨v,h⟩:=h
 exact ⟨v,h.below hb⟩
theorem KS.alloc (h:KS W B kb xs nx) (o:Obj):KS (W.alloc o) B kb xs nx:=h.below (ia (Below.refl _ _) o)
theorem KS.drew (h:KS W B kb xs nx):KS W.drew B kb xs nx:=h.below (Io (Below.refl _ _))
theorem KS.drewN (h:KS W B kb xs nx) (n:Nat):KS (W.drewN n) B kb xs nx:=h.below (ja (Below.refl _ _) n)
theorem KS.kept {S:Nat→Prop} (h:KS W B kb xs nx) (hk:Kept W W' S) (hS:∀ k,S k→∃ cells t,W.heap[k]? = some (.cells cells t (0,0))∧t ≠ 74∧t ≠ 79):KS W' B kb xs nx:=by
 obtain ⟨v,h0,h1,h2⟩:=h
 refine ⟨v,h0,Kp h1 hk ?_,Kd.ke (Kd.uJ (Kd.Jl h2) hk ?_) (fun _ _=>trivial)⟩
 ·intro hs
  obtain ⟨cells,t,hc,ht,_⟩:=hS kb hs
  rw [h1] at hc
  injection hc with hc
  injection hc with _ hc
  exact ht hc.symm
 ·rintro k ⟨_,_,_,q,hq,cells',hc'⟩ hs
  obtain ⟨cells,t,hc,_,ht⟩:=hS k hs
  rw [hc'] at hc
  injection hc with hc
  injection hc with _ hc
  have:q=79:=by simpa [TN,Kd.cH,Kd.pair,Kd.int,Kd.scalar] using hq
  exact ht (hc.symm.trans this)
end
def idents (n:Nat):List Ko:=(List.range n).map fun (j:Nat)=>(⟨(j:Int),0⟩:Ko)
theorem ah (n:Nat):(idents n).length=n:=by simp [idents]
theorem iu (n j:Nat) (h:j < n):(idents n).take (j + 1)=(idents n).take j ++ [⟨(j:Int),0⟩]:=by
 rw [List.take_succ_eq_append_getElem (by rw [ah];exact h)]
 simp [idents]
set_option maxHeartbeats 1000000 in
set_option maxRecDepth 100000 in
theorem Mw (A0 A4:Option Addr) (c0 c4 n0 n4:Nat) (p1 p2:Int) (n:Nat) (hn:n ≤ 1000) (w:World) :
  Calls Try.prog 59 #[.agg #[.slice A0 n0 c0,.int .i64 p1,.int .i64 p2,.int .i64 n,.slice A4 n4 c4]] w fun e w'=>∃ kb,e = .returned (.pointer (some ⟨kb,0,none⟩))∧KS w' w.heap.size kb (idents n) n∧Below w.heap.size w w':=by
 go_enter Try.func59,Try.ntmps59
 go_wp2
 have HS:=qa.mk (show KS ((w.alloc (.cells #[.slice A0 n0 c0,.int .i64 p1,.int .i64 p2,.int .i64 n,.slice A4 n4 c4] 30 (0,0))).alloc (.cells #[.slice none 0 0,.int .i64 n] 74 (0,0))) w.heap.size (w.heap.size + 1) ((idents n).take 0) n from ⟨_,by omega,by have:=Yc (w.alloc (.cells #[.slice A0 n0 c0,.int .i64 p1,.int .i64 p2,.int .i64 n,.slice A4 n4 c4] 30 (0,0))) (.cells #[.slice none 0 0,.int .i64 n] 74 (0,0));simpa using this,Kd.EO _ _ _ _ _⟩)
 have HB:=qa.mk (ia (ia (Below.refl w.heap.size w) (.cells #[.slice A0 n0 c0,.int .i64 p1,.int .i64 p2,.int .i64 n,.slice A4 n4 c4] 30 (0,0))) (.cells #[.slice none 0 0,.int .i64 n] 74 (0,0)))
 go_loopg [11] n (fun gg v11 wr=>∃ j:Nat,j ≤ n∧n - j ≤ gg∧v11 = .int .i64 j∧qa (KS wr w.heap.size (w.heap.size + 1) ((idents n).take j) n)∧qa (Below w.heap.size w wr))
 case atStart=>exact ⟨0,Nat.zero_le _,by omega,rfl,HS,HB⟩
 case round =>
  clear HS HB
  (try clear HS)
  (try clear HB)
  obtain ⟨j,hj,hg,rfl,HS,HB⟩:=hrel
  by_cases hlt:j < n
  ·have LP:decide ((j:Int) < (n:Int))=true:=decide_eq_true (by omega)
   obtain ⟨v,h0,h1,h2⟩:=HS.out
   have HR:=qa.mk h2
   have H1:=qa.mk h1
   have hc0:=(ga h1 0).trans rfl
   have hf0:=aa h1 0
   clear h1 h2
   obtain ⟨y,hy⟩:∃ y_:List Ko,y_=(idents n).take (j + 1):=⟨_,rfl⟩
   have Ny:=qa.mk hy
   clear hy
   go_wp2_with (first|(at_builtin;refine Kd.bB TN (w0:=wr) w.heap.size rfl (.tmp 18) (.tmp 21) 72 79 (.agg #[(.int .i64 0),(.int .i64 0)]) 16 rfl Try.underlying72 oP rfl (by decide) (by omega) v ((idents n).take j) (⟨(j:Int),0⟩:Ko) [.int .i64 (j:Int),.int .i64 0] (fun _=>True) (fun _=>False) rfl rfl ?aP (fun _ hk=>hk.elim) (fun _ _=>trivial) HR.out (Below.refl _ _) HB.out.size ?aL ?_;(case aP=>exact aD _ _ _ (⟨(j:Int),0⟩:Ko));(case aL=>rw [List.length_take,ah];omega);intro v1 w1 ho hb hgr hat;rw [← iu n j hlt,← Ny.out] at ho;have PJ:=qa.mk ho;have e9:=qa.mk (qh H1.out hgr (Kd.Qx HR.out H1.out (by decide)));have PO:=qa.mk (HB.out.grown hgr HB.out.size (fun k e=>by obtain ⟨inner,hi⟩:=Kd.Pk HR.out;exact bp hi k e));obtain ⟨A1,c1,rfl⟩:=Kd.mh ho;have OJ:=(ga e9.out 0).trans rfl;have hf1:=aa e9.out 0;clear ho hb hgr hat))
   go_roundg (n - (j + 1))
   case measure=>omega
   case rel =>
    refine ⟨j + 1,by omega,by omega,by go_num,⟨?_⟩,⟨PO.out.setCell (by simp) _⟩⟩
    rw [← Ny.out]
    exact ⟨_,by omega,Uz e9.out 0 _,Kd.ke (Kd.He (p:=⟨w.heap.size + 1,0,none⟩) (Kd.Rj PJ.out e9.out (by decide)) (fun _ hk=>hk.2) _) (fun _ _=>trivial)⟩
  ·have LP:decide ((j:Int) < (n:Int))=false:=decide_eq_false (by omega)
   obtain rfl:j=n:=by omega
   go_wp2
   go_ret
   exact ⟨_,rfl,by have:=HS.out;rw [List.take_of_length_le (by rw [ah];omega)] at this;exact this,HB.out⟩
end Go.Proofs.Ytmifdccaajngcaa.P
end
