import Derived.Test.YtoomcmaifgkkfaaProg
import Derived.Below
import Derived.Deep.Draws
import Derived.Deep.AppendLies
import Derived.Maps.AppendAt
import Derived.OwnWalk
import Derived.Laws.BytesArg
import Derived.Laws.MakeOwn
import Derived.Laws.OwnMore
import Derived.Deep.OwnRows
import Derived.Tactics
import Derived.Lib.ConvBytes
import Derived.Laws.Slices
import Derived.WalkKit
import Derived.KernelRfl
import Derived.RowKit3
import Derived.Deep.LoopGhost
import Derived.Deep.QuietTactic
import Derived.BigQuiet
import Derived.WideLaws
import Derived.Deep.DeepCutAuto
import Derived.Deep.CutBlock
import Derived.Deep.RegionHeld3
import Derived.Laws.Rows
import Derived.Lib.AppendStr
import Derived.ArgAppend
import Derived.Laws.IdiomCopy
import Derived.OrdersHeld
import Derived.Laws.BitsLemmas
import Derived.RowKit
import Derived.Test.YtoomcmaifgkkfaaQRulerW1
import Derived.Test.YtoomcmaifgkkfaaQRulerW2
import Derived.Deep.Slices
import Derived.ChangeArms
import Derived.OpenShut
import Derived.WideShapes
set_option maxHeartbeats 8000000
set_option maxRecDepth 100000
section
namespace Go.Proofs.Ytoomcmaifgkkfaa.P
open Go.RowKit Go.Proofs.Ia.Pb Go.Proofs.Ia.Ld Go.Proofs.Ia.De
set_option linter.unusedVariables false
set_option linter.unusedSimpArgs false
attribute [local go_sem] Bi zi Fj Ej mh jh Ai si
def kac:Option Int→Value
 | none=>.nilIface
 | some c=>.iface 0 (.int .i64 c)
theorem Pa:kac none = .nilIface:=rfl
theorem Oa (c:Int):kac (some c) = .iface 0 (.int .i64 c):=rfl
theorem info3:(Try.prog.info? 3).map (fun i=>(i.zero,i.size,i.bytes))=some (some (.int .i64 0),1,8):=by kernel_rfl
theorem wL:(Try.prog.info? 4).map (fun i=>(i.zero,i.size,i.bytes))=some (some (.bool false),1,1):=by kernel_rfl
theorem qQ:(Try.prog.info? 22).map (fun i=>(i.zero,i.size,i.bytes))=some (some (.slice none 0 0),1,24):=by kernel_rfl
theorem Y0:(Try.prog.info? 73).map (fun i=>(i.zero,i.size,i.bytes))=some (some (.slice none 0 0),1,24):=by kernel_rfl
theorem X0:(Try.prog.info? 83).map (fun i=>(i.zero,i.size,i.bytes))=some (some (.agg #[(.slice none 0 0),(.int .i64 0),(.int .i64 0),(.int .i64 0),(.int .i64 0)]),5,56):=by kernel_rfl
theorem YT:(Try.prog.info? 122).map (fun i=>(i.zero,i.size,i.bytes))=some (some (.agg #[(.int .i64 0),(.int .i64 0),(.int .i64 0),(.int .i64 0),(.int .i64 0),(.int .i64 0),(.string ⟨#[]⟩)]),7,64):=by kernel_rfl
structure S7 where
 f0:Int
 f1:Int
 f2:Bool
 f3:Int
def z7:S7:=⟨(0:Int),(0:Int),false,(0:Int)⟩
structure S8 where
 f0:Int
 f1:Int
 f2:Bool
 f3:Int
def z8:S8:=⟨(0:Int),(0:Int),false,(0:Int)⟩
def Vb (xs:List (List Int)) (i:Int):(List Int):=xs.getD i.toNat ([]:List Int)
theorem xk {w:World} {A:Option Addr} {n:Nat} {xs:List (List Int)} (h:Kd.C (Kd.slice 3 (Kd.int .i64)) w A n xs) (i:Int) (h0:0 ≤ i) (h1:i < n):∃ ad A0 c0,A=some ad∧w.cell? (ad.add i.toNat)=some (.slice A0 (Vb xs i).length c0)∧(Vb xs i).length ≤ c0∧(Kd.int .i64).C w A0 (Vb xs i).length (Vb xs i):=by
 obtain ⟨ad,c,e,_,hK,hc0⟩:=Kd.KD h ([]:List Int) i h0 h1;have hc:∀ j u,c[j]? = some u→w.cell? (ad.add (i.toNat * 1 + j))=some u:=hc0;obtain ⟨A0,c0,rfl,l0,g0⟩:=hK;exact ⟨ad,A0,c0,e,by have hq:=hc 0 _ rfl;rwa [Nat.mul_one,Nat.add_zero] at hq,l0,g0⟩
structure S67 where
 f0:Int
 f1:Int
 f2:Int
 f3:Int
 f4:Int
def z67:S67:=⟨(0:Int),(0:Int),(0:Int),(0:Int),(0:Int)⟩
structure zn where
 f0:Int
 f1:Int
 f2:Int
 f3:Int
 f4:Int
 f5:Int
 f6:ByteArray
def z141:zn:=⟨(0:Int),(0:Int),(0:Int),(0:Int),(0:Int),(0:Int),(⟨#[]⟩:ByteArray)⟩
def xB:Kd zn:=Kd.XS (Kd.pair (Kd.int .i64) (Kd.pair (Kd.int .i64) (Kd.pair (Kd.int .i64) (Kd.pair (Kd.int .i64) (Kd.pair (Kd.int .i64) (Kd.pair (Kd.int .i64) Kd.string)))))) (fun x:zn=>(x.f0,x.f1,x.f2,x.f3,x.f4,x.f5,x.f6))
theorem tO {w:World} {x:zn} {cs:List Value} (h:xB.K w x cs):cs=[.int .i64 x.f0,.int .i64 x.f1,.int .i64 x.f2,.int .i64 x.f3,.int .i64 x.f4,.int .i64 x.f5,.string x.f6]:=by
 obtain ⟨_,_,rfl,rfl,⟨_,_,rfl,rfl,⟨_,_,rfl,rfl,⟨_,_,rfl,rfl,⟨_,_,rfl,rfl,⟨_,_,rfl,rfl,rfl⟩⟩⟩⟩⟩⟩:=h;exact rfl
def Oc (xs:List zn) (i:Int):zn:=xs.getD i.toNat z141
theorem IG {w:World} {A:Option Addr} {n:Nat} {xs:List zn} (h:Kd.C xB w A n xs) (i:Int) (h0:0 ≤ i) (h1:i < n):∃ ad , A=some ad∧w.cell? (ad.add (i.toNat * 7))=some (.int .i64 (Oc xs i).f0)∧w.cell? ⟨(ad.add (i.toNat * 7)).block,(ad.add (i.toNat * 7)).off + 1,none⟩=some (.int .i64 (Oc xs i).f1)∧w.cell? ⟨(ad.add (i.toNat * 7)).block,(ad.add (i.toNat * 7)).off + 2,none⟩=some (.int .i64 (Oc xs i).f2)∧w.cell? ⟨(ad.add (i.toNat * 7)).block,(ad.add (i.toNat * 7)).off + 3,none⟩=some (.int .i64 (Oc xs i).f3)∧w.cell? ⟨(ad.add (i.toNat * 7)).block,(ad.add (i.toNat * 7)).off + 4,none⟩=some (.int .i64 (Oc xs i).f4)∧w.cell? ⟨(ad.add (i.toNat * 7)).block,(ad.add (i.toNat * 7)).off + 5,none⟩=some (.int .i64 (Oc xs i).f5)∧w.cell? ⟨(ad.add (i.toNat * 7)).block,(ad.add (i.toNat * 7)).off + 6,none⟩=some (.string (Oc xs i).f6):=by
 obtain ⟨ad,c,e,_,hK,hc0⟩:=Kd.KD h z141 i h0 h1;have hc:∀ j u,c[j]? = some u→w.cell? (ad.add (i.toNat * 7 + j))=some u:=hc0;obtain rfl:=tO hK;exact ⟨ad,e,hc 0 _ rfl,by rw [← bg _ _ 1 (by omega)];exact hc 1 _ rfl,by rw [← bg _ _ 2 (by omega)];exact hc 2 _ rfl,by rw [← bg _ _ 3 (by omega)];exact hc 3 _ rfl,by rw [← bg _ _ 4 (by omega)];exact hc 4 _ rfl,by rw [← bg _ _ 5 (by omega)];exact hc 5 _ rfl,by rw [← bg _ _ 6 (by omega)];exact hc 6 _ rfl⟩
structure Tk where
 f0:(List zn)
 f1:Int
 f2:Int
 f3:Int
 f4:Int
def Y7:Tk:=⟨([]:List zn),(0:Int),(0:Int),(0:Int),(0:Int)⟩
def yB:Kd Tk:=Kd.XS (Kd.pair (Kd.slice 141 xB) (Kd.pair (Kd.int .i64) (Kd.pair (Kd.int .i64) (Kd.pair (Kd.int .i64) (Kd.int .i64))))) (fun x:Tk=>(x.f0,x.f1,x.f2,x.f3,x.f4))
theorem wO {w:World} {x:Tk} {cs:List Value} (h:yB.K w x cs):∃ A0 c0,cs=[.slice A0 x.f0.length c0,.int .i64 x.f1,.int .i64 x.f2,.int .i64 x.f3,.int .i64 x.f4]∧x.f0.length ≤ c0∧xB.C w A0 x.f0.length x.f0:=by
 obtain ⟨_,_,rfl,⟨A0,c0,rfl,l0,g0⟩,⟨_,_,rfl,rfl,⟨_,_,rfl,rfl,⟨_,_,rfl,rfl,rfl⟩⟩⟩⟩:=h;exact ⟨A0,c0,rfl,l0,g0⟩
def Cd (xs:List Tk) (i:Int):Tk:=xs.getD i.toNat Y7
theorem JG {w:World} {A:Option Addr} {n:Nat} {xs:List Tk} (h:Kd.C yB w A n xs) (i:Int) (h0:0 ≤ i) (h1:i < n):∃ ad A0 c0,A=some ad∧w.cell? (ad.add (i.toNat * 5))=some (.slice A0 (Cd xs i).f0.length c0)∧w.cell? ⟨(ad.add (i.toNat * 5)).block,(ad.add (i.toNat * 5)).off + 1,none⟩=some (.int .i64 (Cd xs i).f1)∧w.cell? ⟨(ad.add (i.toNat * 5)).block,(ad.add (i.toNat * 5)).off + 2,none⟩=some (.int .i64 (Cd xs i).f2)∧w.cell? ⟨(ad.add (i.toNat * 5)).block,(ad.add (i.toNat * 5)).off + 3,none⟩=some (.int .i64 (Cd xs i).f3)∧w.cell? ⟨(ad.add (i.toNat * 5)).block,(ad.add (i.toNat * 5)).off + 4,none⟩=some (.int .i64 (Cd xs i).f4)∧(Cd xs i).f0.length ≤ c0∧xB.C w A0 (Cd xs i).f0.length (Cd xs i).f0:=by
 obtain ⟨ad,c,e,_,hK,hc0⟩:=Kd.KD h Y7 i h0 h1;have hc:∀ j u,c[j]? = some u→w.cell? (ad.add (i.toNat * 5 + j))=some u:=hc0;obtain ⟨A0,c0,rfl,l0,g0⟩:=wO hK;exact ⟨ad,A0,c0,e,hc 0 _ rfl,by rw [← bg _ _ 1 (by omega)];exact hc 1 _ rfl,by rw [← bg _ _ 2 (by omega)];exact hc 2 _ rfl,by rw [← bg _ _ 3 (by omega)];exact hc 3 _ rfl,by rw [← bg _ _ 4 (by omega)];exact hc 4 _ rfl,l0,g0⟩
structure O7 where
 f0:(List Int)
 f1:Int
 f2:Int
 f3:Int
 f4:(List Tk)
def k40:Kd O7:=Kd.XS (Kd.pair (Kd.slice 3 (Kd.int .i64)) (Kd.pair (Kd.int .i64) (Kd.pair (Kd.int .i64) (Kd.pair (Kd.int .i64) (Kd.slice 106 yB))))) (fun x:O7=>(x.f0,x.f1,x.f2,x.f3,x.f4))
theorem oQ {w:World} {x:O7} {cs:List Value} (h:k40.K w x cs):∃ A0 c0 A4 c4,cs=[.slice A0 x.f0.length c0,.int .i64 x.f1,.int .i64 x.f2,.int .i64 x.f3,.slice A4 x.f4.length c4]∧x.f0.length ≤ c0∧(Kd.int .i64).C w A0 x.f0.length x.f0∧x.f4.length ≤ c4∧yB.C w A4 x.f4.length x.f4:=by
 obtain ⟨_,_,rfl,⟨A0,c0,rfl,l0,g0⟩,⟨_,_,rfl,rfl,⟨_,_,rfl,rfl,⟨_,_,rfl,rfl,⟨A4,c4,rfl,l4,g4⟩⟩⟩⟩⟩:=h;exact ⟨A0,c0,A4,c4,rfl,l0,g0,l4,g4⟩
structure jd where
 f0:Int
 f1:Int
 f2:Int
 f3:Int
 f4:Int
 f5:Int
 f6:ByteArray
def bk:jd:=⟨(0:Int),(0:Int),(0:Int),(0:Int),(0:Int),(0:Int),(⟨#[]⟩:ByteArray)⟩
def Zf:Kd jd:=Kd.XS (Kd.pair (Kd.int .i64) (Kd.pair (Kd.int .i64) (Kd.pair (Kd.int .i64) (Kd.pair (Kd.int .i64) (Kd.pair (Kd.int .i64) (Kd.pair (Kd.int .i64) Kd.string)))))) (fun x:jd=>(x.f0,x.f1,x.f2,x.f3,x.f4,x.f5,x.f6))
theorem vO:Kd.Heap Zf:=Kd.ZH _ (Kd.tj (Kd.jj .i64) (Kd.tj (Kd.jj .i64) (Kd.tj (Kd.jj .i64) (Kd.tj (Kd.jj .i64) (Kd.tj (Kd.jj .i64) (Kd.tj (Kd.jj .i64) Kd.YH))))))
theorem uO {w:World} {x:jd} {cs:List Value} (h:Zf.K w x cs):cs=[.int .i64 x.f0,.int .i64 x.f1,.int .i64 x.f2,.int .i64 x.f3,.int .i64 x.f4,.int .i64 x.f5,.string x.f6]:=by
 obtain ⟨_,_,rfl,rfl,⟨_,_,rfl,rfl,⟨_,_,rfl,rfl,⟨_,_,rfl,rfl,⟨_,_,rfl,rfl,⟨_,_,rfl,rfl,rfl⟩⟩⟩⟩⟩⟩:=h;exact rfl
theorem pg {w:World} {base:Nat} {ok:Nat→Prop} {x:jd} {cs:List Value} (h:Zf.M w base ok x cs):cs=[.int .i64 x.f0,.int .i64 x.f1,.int .i64 x.f2,.int .i64 x.f3,.int .i64 x.f4,.int .i64 x.f5,.string x.f6]:=by
 obtain ⟨_,_,rfl,rfl,⟨_,_,rfl,rfl,⟨_,_,rfl,rfl,⟨_,_,rfl,rfl,⟨_,_,rfl,rfl,⟨_,_,rfl,rfl,rfl⟩⟩⟩⟩⟩⟩:=h;exact rfl
theorem ql (w:World) (base:Nat) (ok:Nat→Prop) (x:jd)  : Zf.M w base ok x [.int .i64 x.f0,.int .i64 x.f1,.int .i64 x.f2,.int .i64 x.f3,.int .i64 x.f4,.int .i64 x.f5,.string x.f6]:=⟨[.int .i64 x.f0],[.int .i64 x.f1,.int .i64 x.f2,.int .i64 x.f3,.int .i64 x.f4,.int .i64 x.f5,.string x.f6],rfl,rfl,⟨[.int .i64 x.f1],[.int .i64 x.f2,.int .i64 x.f3,.int .i64 x.f4,.int .i64 x.f5,.string x.f6],rfl,rfl,⟨[.int .i64 x.f2],[.int .i64 x.f3,.int .i64 x.f4,.int .i64 x.f5,.string x.f6],rfl,rfl,⟨[.int .i64 x.f3],[.int .i64 x.f4,.int .i64 x.f5,.string x.f6],rfl,rfl,⟨[.int .i64 x.f4],[.int .i64 x.f5,.string x.f6],rfl,rfl,⟨[.int .i64 x.f5],[.string x.f6],rfl,rfl,rfl⟩⟩⟩⟩⟩⟩
def Ba (xs:List jd) (i:Int):jd:=xs.getD i.toNat bk
theorem Ds {w:World} {A:Option Addr} {n:Nat} {xs:List jd} (h:Kd.C Zf w A n xs) (i:Int) (h0:0 ≤ i) (h1:i < n):∃ ad , A=some ad∧w.cell? (ad.add (i.toNat * 7))=some (.int .i64 (Ba xs i).f0)∧w.cell? ⟨(ad.add (i.toNat * 7)).block,(ad.add (i.toNat * 7)).off + 1,none⟩=some (.int .i64 (Ba xs i).f1)∧w.cell? ⟨(ad.add (i.toNat * 7)).block,(ad.add (i.toNat * 7)).off + 2,none⟩=some (.int .i64 (Ba xs i).f2)∧w.cell? ⟨(ad.add (i.toNat * 7)).block,(ad.add (i.toNat * 7)).off + 3,none⟩=some (.int .i64 (Ba xs i).f3)∧w.cell? ⟨(ad.add (i.toNat * 7)).block,(ad.add (i.toNat * 7)).off + 4,none⟩=some (.int .i64 (Ba xs i).f4)∧w.cell? ⟨(ad.add (i.toNat * 7)).block,(ad.add (i.toNat * 7)).off + 5,none⟩=some (.int .i64 (Ba xs i).f5)∧w.cell? ⟨(ad.add (i.toNat * 7)).block,(ad.add (i.toNat * 7)).off + 6,none⟩=some (.string (Ba xs i).f6):=by
 obtain ⟨ad,c,e,_,hK,hc0⟩:=Kd.KD h bk i h0 h1;have hc:∀ j u,c[j]? = some u→w.cell? (ad.add (i.toNat * 7 + j))=some u:=hc0;obtain rfl:=uO hK;exact ⟨ad,e,hc 0 _ rfl,by rw [← bg _ _ 1 (by omega)];exact hc 1 _ rfl,by rw [← bg _ _ 2 (by omega)];exact hc 2 _ rfl,by rw [← bg _ _ 3 (by omega)];exact hc 3 _ rfl,by rw [← bg _ _ 4 (by omega)];exact hc 4 _ rfl,by rw [← bg _ _ 5 (by omega)];exact hc 5 _ rfl,by rw [← bg _ _ 6 (by omega)];exact hc 6 _ rfl⟩
structure jf where
 f0:(List jd)
 f1:Int
 f2:Int
 f3:Int
 f4:Int
def dH:jf:=⟨([]:List jd),(0:Int),(0:Int),(0:Int),(0:Int)⟩
def Gp:Kd jf:=Kd.XS (Kd.pair (Kd.slice 122 Zf) (Kd.pair (Kd.int .i64) (Kd.pair (Kd.int .i64) (Kd.pair (Kd.int .i64) (Kd.int .i64))))) (fun x:jf=>(x.f0,x.f1,x.f2,x.f3,x.f4))
theorem nQ:Kd.Heap Gp:=Kd.ZH _ (Kd.tj (Kd.iK 122 vO) (Kd.tj (Kd.jj .i64) (Kd.tj (Kd.jj .i64) (Kd.tj (Kd.jj .i64) (Kd.jj .i64)))))
theorem mQ {w:World} {x:jf} {cs:List Value} (h:Gp.K w x cs):∃ A0 c0,cs=[.slice A0 x.f0.length c0,.int .i64 x.f1,.int .i64 x.f2,.int .i64 x.f3,.int .i64 x.f4]∧x.f0.length ≤ c0∧Zf.C w A0 x.f0.length x.f0:=by
 obtain ⟨_,_,rfl,⟨A0,c0,rfl,l0,g0⟩,⟨_,_,rfl,rfl,⟨_,_,rfl,rfl,⟨_,_,rfl,rfl,rfl⟩⟩⟩⟩:=h;exact ⟨A0,c0,rfl,l0,g0⟩
theorem Sy {w:World} {base:Nat} {ok:Nat→Prop} {x:jf} {cs:List Value} (h:Gp.M w base ok x cs):∃ v0,cs=[v0,.int .i64 x.f1,.int .i64 x.f2,.int .i64 x.f3,.int .i64 x.f4]∧Zf.R 122 w base ok v0 x.f0:=by
 obtain ⟨_,_,rfl,⟨v0,rfl,g0⟩,⟨_,_,rfl,rfl,⟨_,_,rfl,rfl,⟨_,_,rfl,rfl,rfl⟩⟩⟩⟩:=h;exact ⟨v0,rfl,g0⟩
theorem bE (w:World) (base:Nat) (ok:Nat→Prop) (x:jf) {v0:Value} (g0:Zf.R 122 w base ok v0 x.f0):Gp.M w base ok x [v0,.int .i64 x.f1,.int .i64 x.f2,.int .i64 x.f3,.int .i64 x.f4]:=⟨[v0],[.int .i64 x.f1,.int .i64 x.f2,.int .i64 x.f3,.int .i64 x.f4],rfl,⟨v0,rfl,g0⟩,⟨[.int .i64 x.f1],[.int .i64 x.f2,.int .i64 x.f3,.int .i64 x.f4],rfl,rfl,⟨[.int .i64 x.f2],[.int .i64 x.f3,.int .i64 x.f4],rfl,rfl,⟨[.int .i64 x.f3],[.int .i64 x.f4],rfl,rfl,rfl⟩⟩⟩⟩
def Ta (xs:List jf) (i:Int):jf:=xs.getD i.toNat dH
theorem Sk {w:World} {A:Option Addr} {n:Nat} {xs:List jf} (h:Kd.C Gp w A n xs) (i:Int) (h0:0 ≤ i) (h1:i < n):∃ ad A0 c0,A=some ad∧w.cell? (ad.add (i.toNat * 5))=some (.slice A0 (Ta xs i).f0.length c0)∧w.cell? ⟨(ad.add (i.toNat * 5)).block,(ad.add (i.toNat * 5)).off + 1,none⟩=some (.int .i64 (Ta xs i).f1)∧w.cell? ⟨(ad.add (i.toNat * 5)).block,(ad.add (i.toNat * 5)).off + 2,none⟩=some (.int .i64 (Ta xs i).f2)∧w.cell? ⟨(ad.add (i.toNat * 5)).block,(ad.add (i.toNat * 5)).off + 3,none⟩=some (.int .i64 (Ta xs i).f3)∧w.cell? ⟨(ad.add (i.toNat * 5)).block,(ad.add (i.toNat * 5)).off + 4,none⟩=some (.int .i64 (Ta xs i).f4)∧(Ta xs i).f0.length ≤ c0∧Zf.C w A0 (Ta xs i).f0.length (Ta xs i).f0:=by
 obtain ⟨ad,c,e,_,hK,hc0⟩:=Kd.KD h dH i h0 h1;have hc:∀ j u,c[j]? = some u→w.cell? (ad.add (i.toNat * 5 + j))=some u:=hc0;obtain ⟨A0,c0,rfl,l0,g0⟩:=mQ hK;exact ⟨ad,A0,c0,e,hc 0 _ rfl,by rw [← bg _ _ 1 (by omega)];exact hc 1 _ rfl,by rw [← bg _ _ 2 (by omega)];exact hc 2 _ rfl,by rw [← bg _ _ 3 (by omega)];exact hc 3 _ rfl,by rw [← bg _ _ 4 (by omega)];exact hc 4 _ rfl,l0,g0⟩
structure S45 where
 f0:(List Int)
 f1:Int
 f2:Int
 f3:Int
 f4:(List jf)
def z45:S45:=⟨([]:List Int),(0:Int),(0:Int),(0:Int),([]:List jf)⟩
def fl (xs:List (List Bool)) (i:Int):(List Bool):=xs.getD i.toNat ([]:List Bool)
theorem gS {w:World} {A:Option Addr} {n:Nat} {xs:List (List Bool)} (h:Kd.C (Kd.slice 4 Kd.bool) w A n xs) (i:Int) (h0:0 ≤ i) (h1:i < n):∃ ad A0 c0,A=some ad∧w.cell? (ad.add i.toNat)=some (.slice A0 (fl xs i).length c0)∧(fl xs i).length ≤ c0∧Kd.bool.C w A0 (fl xs i).length (fl xs i):=by
 obtain ⟨ad,c,e,_,hK,hc0⟩:=Kd.KD h ([]:List Bool) i h0 h1;have hc:∀ j u,c[j]? = some u→w.cell? (ad.add (i.toNat * 1 + j))=some u:=hc0;obtain ⟨A0,c0,rfl,l0,g0⟩:=hK;exact ⟨ad,A0,c0,e,by have hq:=hc 0 _ rfl;rwa [Nat.mul_one,Nat.add_zero] at hq,l0,g0⟩
structure jP where
 f0:Int
 f1:Int
 f2:Int
 f3:ByteArray
 f4:(List jP)
def B7 (d:Kd jP):Kd jP:=Kd.XS (Kd.pair (Kd.int .i64) (Kd.pair (Kd.int .i64) (Kd.pair (Kd.int .i64) (Kd.pair Kd.string (Kd.slice 137 d))))) (fun x:jP=>(x.f0,x.f1,x.f2,x.f3,x.f4))
theorem XZ:Kd.Sub B7 [137]:=Kd.rL _ (Kd.Zk (Kd.sub_const _ (by decide)) (Kd.Zk (Kd.sub_const _ (by decide)) (Kd.Zk (Kd.sub_const _ (by decide)) (Kd.Zk (Kd.sub_const _ (by decide)) (Kd.Ky 137 (by decide) Kd.CJ)))))
theorem o8:∀ n,(Kd.upto B7 5 [137] n).sz=5:=Kd.pL (fun _=>rfl)
def Gan:Kd jP:=Kd.fix B7 5 [137] o8 (Kd.zJ XZ)
structure jz where
 f0:Int
 f1:Int
 f2:Int
 f3:(List jP)
 f4:(List jz)
 f5:(List jz)
def C7 (d:Kd jz):Kd jz:=Kd.XS (Kd.pair (Kd.int .i64) (Kd.pair (Kd.int .i64) (Kd.pair (Kd.int .i64) (Kd.pair (Kd.slice 137 Gan) (Kd.pair (Kd.slice 133 d) (Kd.slice 133 d)))))) (fun x:jz=>(x.f0,x.f1,x.f2,x.f3,x.f4,x.f5))
theorem YZ:Kd.Sub C7 [133,137]:=Kd.rL _ (Kd.Zk (Kd.sub_const _ (by decide)) (Kd.Zk (Kd.sub_const _ (by decide)) (Kd.Zk (Kd.sub_const _ (by decide)) (Kd.Zk (Kd.sub_const _ (by decide)) (Kd.Zk (Kd.Ky 133 (by decide) Kd.CJ) (Kd.Ky 133 (by decide) Kd.CJ))))))
theorem r8:∀ n,(Kd.upto C7 6 [133,137] n).sz=6:=Kd.pL (fun _=>rfl)
def Han:Kd jz:=Kd.fix C7 6 [133,137] r8 (Kd.zJ YZ)
theorem fQ {α:Type} {d:Kd α} {e:Nat} {w:World} {base:Nat} {ok:Nat→Prop} {v:Value} {xs:List α} (h:ga (d.R e w base ok v xs)):v.oneCell' = true:=by
 obtain ⟨A,c,rfl⟩:=Kd.Nd h.out
 rfl
theorem dQ {α:Type} {d:Kd α} {e:Nat} {w:World} {base:Nat} {ok:Nat→Prop} {v:Value} {xs:List α} (h:ga (d.S e w base ok v xs)):v.oneCell' = true:=by
 obtain ⟨A,c,rfl⟩:=Kd.Nd (Kd.pS h.out)
 rfl
theorem iQ {α:Type} {d:Kd α} {e:Nat} {w:World} {base:Nat} {ok:Nat→Prop} {v:Value} {xs:List α} (h:ga (Kd.N d e w base ok v xs)):v.oneCell' = true:=by
 obtain ⟨A,c,rfl⟩:=Kd.oX h.out
 rfl
theorem gQ {α:Type} {d:Kd α} {e:Nat} {w:World} {base:Nat} {ok:Nat→Prop} {v:Value} {xs:List α} (h:ga (d.Q e w base ok v xs)):v.oneCell' = true:=by
 obtain ⟨A,c,rfl,_⟩:=Kd.Cy h.out
 rfl
def Cn (P:Program) (t:TypeId) {α:Type} (d:Kd α) (fit:α→Prop):Prop :=
 ∀ {H:Type} {enc:TypeId × Value→H} {w:World} {base:Nat} {spare:Nat→Bool} {held:Bool} {fuel:Nat} {cs:List Value} {x:DataW H × List MemPlace},
  DataW.trod enc P w base spare held fuel t cs=some x→∃ a:α,d.K w a cs∧fit a
theorem pO {P:Program} {t:TypeId} {k:IntKind} (ht:P.underlying t=some (.int k)):Cn P t (Kd.int k) (fun n=>(Lit.int k n).wf=true):=by
 intro H enc w base spare held fuel cs x h;obtain ⟨n,rfl,_,hw⟩:=DataW.trod_int ht h;exact ⟨n,rfl,hw⟩
def Zs (n:Int):Prop:=-9223372036854775808 ≤ n∧n ≤ 9223372036854775807
theorem wf_i64 {n:Int} (h:(Lit.int .i64 n).wf=true):Zs n:=by
 simp [Lit.wf,IntKind.min,IntKind.max,IntKind.signed,IntKind.bits] at h;unfold Zs;omega
theorem gh {P:Program} {t:TypeId} (ht:P.underlying t=some (.int .i64)):Cn P t (Kd.int .i64) Zs:=by
 intro H enc w base spare held fuel cs x h;obtain ⟨n,h1,h2⟩:=pO ht h;exact ⟨n,h1,wf_i64 h2⟩
theorem WD {P:Program} {t:TypeId} (ht:P.underlying t=some .string):Cn P t Kd.string (fun s=>s.size ≤ 9223372036854775807):=by
 intro H enc w base spare held fuel cs x h;obtain ⟨s,rfl,_,hw⟩:=DataW.trod_string ht h;exact ⟨s,rfl,by simpa [maxLen] using hw⟩
theorem Az {α:Type} {p:Nat→α→Prop}:∀ n,(∀ i,i < n→∃ a,p i a)→∃ xs:List α,xs.length=n∧∀ (i:Nat) (a:α),xs[i]? = some a→p i a
 | 0,_=>⟨[],rfl,fun i a h=>by simp at h⟩
 | n + 1,h=>by
  obtain ⟨xs,hl,hx⟩:=Az n (fun i hi=>h i (by omega));obtain ⟨a,ha⟩:=h n (by omega);refine ⟨xs ++ [a],by simp [hl],fun i b hb=>?_⟩
  rcases Nat.lt_or_ge i xs.length with hi|hi
  ·rw [List.getElem?_append_left hi] at hb;exact hx i b hb
  ·have:i=n:=by
    have:=(List.getElem?_eq_some_iff.1 hb).1;simp [hl] at this;omega
   subst this;rw [List.getElem?_append_right hi,hl] at hb;simp at hb;exact hb ▸ ha
theorem Gt {P:Program} {t e e':TypeId} {α:Type} {d:Kd α} {fit:α→Prop} (ht:P.underlying t=some (.slice e)) (hs:P.cellsOf e=d.sz) (h:Cn P e d fit):Cn P t (Kd.slice e' d) (fun l=>l.length ≤ 9223372036854775807∧∀ a ∈ l,fit a):=by
 intro H enc w base spare held fuel cs x hx
 rcases Go.Deep.open_slice ht hx with ⟨rfl,_⟩|⟨a,len,cap,m,n,D,Pl,rfl,hb,hl,hm,hmm,_,hel⟩
 ·exact ⟨[],⟨none,0,rfl,Nat.le_refl _,rfl,by simp,fun hp=>absurd hp (by simp)⟩,by simp,by simp⟩
 ·have hle:len ≤ m:=by rw [hmm];split <;> omega
  have F9:len ≤ 9223372036854775807:=by simp only [maxLen] at hm;omega
  obtain ⟨xs,hxl,hxs⟩:=Az (α:=α) (p:=fun i y=>∃ c,c.length=d.sz∧d.K w y c∧(∀ j u,c[j]? = some u→w.cell? (a.add (i * d.sz + j))=some u)∧fit y) len (fun i hi=>by
   obtain ⟨cs',h1,h2⟩:=hel i (by omega);obtain ⟨y,hy,hf⟩:=h h2;obtain ⟨_,NC,xC⟩:=World.cells?_some h1;refine ⟨y,cs',by rw [NC,hs],hy,fun j u hu=>?_,hf⟩;have hj:j < P.cellsOf e:=by rw [← NC];exact (List.getElem?_eq_some_iff.1 hu).1
   rw [← hs,← Go.Deep.add_add,xC j hj]
   exact hu)
  refine ⟨xs,⟨some a,cap,by rw [hxl],by omega,rfl,by omega,fun _=>⟨a,rfl,fun j p hj=>?_⟩⟩,by omega,fun y hy=>?_⟩
  ·obtain ⟨c,h1,h2,h3,_⟩:=hxs j p hj;exact ⟨c,h1,h2,h3⟩
  ·obtain ⟨i,hi,rfl⟩:=List.getElem_of_mem hy;obtain ⟨c,_,_,_,h4⟩:=hxs i _ (List.getElem?_eq_getElem hi);exact h4
def PG (P:Program) (fs:List Field) (off:Nat) {α:Type} (d:Kd α) (fit:α→Prop):Prop :=
 ∀ {H:Type} {enc:TypeId × Value→H} {w:World} {base:Nat} {spare:Nat→Bool} {held:Bool} {n:Nat} {cs:List Value},
  (∀ f ∈ fs,∃ y,DataW.trod enc P w base spare held n f.type ((cs.drop f.offset).take (P.cellsOf f.type))=some y)→cs.length=off + d.sz→∃ a:α,d.K w a (cs.drop off)∧fit a
theorem Yv {P:Program} {f:Field} {off:Nat} {α:Type} {d:Kd α} {fit:α→Prop} (ho:f.offset=off) (hs:P.cellsOf f.type=d.sz) (h:Cn P f.type d fit):PG P [f] off d fit:=by
 intro H enc w base spare held n cs hf hl;obtain ⟨y,hy⟩:=hf f (by simp);rw [ho,hs,List.take_of_length_le (by rw [List.length_drop];omega)] at hy;exact h hy
theorem ug {P:Program} {f:Field} {fs:List Field} {off off2:Nat} {α β:Type} {d:Kd α} {d2:Kd β} {fit:α→Prop} {jac:β→Prop} (ho:f.offset=off) (hs:P.cellsOf f.type=d.sz) (ho2:off2=off + d.sz) (h:Cn P f.type d fit) (h2:PG P fs off2 d2 jac):PG P (f :: fs) off (Kd.pair d d2) (fun p=>fit p.1∧jac p.2):=by
 intro H enc w base spare held n cs hf hl;have hl':cs.length=off + (d.sz + d2.sz):=hl;obtain ⟨y,hy⟩:=hf f (by simp);rw [ho,hs] at hy;obtain ⟨a,ha,fa⟩:=h hy;obtain ⟨b,hb,fb⟩:=h2 (fun g hg=>hf g (List.mem_cons_of_mem _ hg)) (by omega);refine ⟨(a,b),⟨(cs.drop off).take d.sz,cs.drop off2,?_,ha,hb⟩,fa,fb⟩;rw [ho2,← List.drop_drop,List.take_append_drop]
theorem jr {P:Program} {t:TypeId} {fs:Array Field} {α:Type} {d:Kd α} {fit:α→Prop} (ht:P.underlying t=some (.struct fs)) (hs:P.cellsOf t=d.sz) (h:PG P fs.toList 0 d fit):Cn P t d fit:=by
 intro H enc w base spare held fuel cs x hx;obtain ⟨xs,n,_,_,hl,hxl,hf⟩:=DataW.trod_struct ht hx
 have:=h (w:=w) (enc:=enc) (base:=base) (spare:=spare) (held:=held) (n:=n) (cs:=cs) (fun f hfm=>by
  obtain ⟨i,hi,rfl⟩:=List.getElem_of_mem hfm;have hi':i < fs.size:=by simpa using hi
  have h1:=hf i (fs.toList[i]) (by simp [hi']);rw [List.getElem?_eq_getElem (by omega)] at h1
  exact ⟨_,h1⟩) (by omega)
 simpa using this
theorem Qy {P:Program} {t:TypeId} {α β:Type} {d:Kd α} {fit:α→Prop} {g:β→α} (gi:α→β) (hg:∀ a,g (gi a)=a) (h:Cn P t d fit):Cn P t (Kd.XS d g) (fun b=>fit (g b)):=by
 intro H enc w base spare held fuel cs x hx;obtain ⟨a,ha,hf⟩:=h hx;refine ⟨gi a,?_,?_⟩
 ·show d.K w (g (gi a)) cs
  rw [hg];exact ha
 ·show fit (g (gi a))
  rw [hg];exact hf
theorem cQ {P:Program} {t:TypeId} {fs:Array Field} {α:Type} {d:Kd α} {fit:α→Prop} {r:Reach} {b0:Nat} {H:Type} {enc:TypeId × Value→H} {w:World} {base:Nat} {spare:Nat→Bool} {held:Bool} {v:Value} {dt:DataW H} {p:List MemPlace}
  (ht:P.underlying t=some (.struct fs)) (h:Cn P t d fit) (hv:Value.okWide P w r b0 t v) (hd:DataW.Trod enc P w base spare held t v dt p) :
  ∃ (a:α) (cs:Array Value),v = .agg cs∧d.K w a cs.toList∧fit a:=by
 obtain ⟨cs,rfl,hsz⟩:=Go.WideShapes.okWide_struct ht hv;obtain ⟨fuel,hf⟩:=hd;obtain ⟨a,ha,hfa⟩:=h hf;exact ⟨a,cs,rfl,by simpa [Value.cells] using ha,hfa⟩
theorem UT:Cn Try.prog 22 (Kd.slice 3 (Kd.int .i64)) (fun l=>l.length ≤ 9223372036854775807∧∀ a ∈ l,Zs a):=Gt Try.underlying22 (by kernel_rfl) (gh Try.underlying3)
def mK (x:zn):Prop:=Zs x.f0∧Zs x.f1∧Zs x.f2∧Zs x.f3∧Zs x.f4∧Zs x.f5∧(fun s=>s.size ≤ 9223372036854775807) x.f6
theorem ZP:Cn Try.prog 141 xB mK:=Qy (fun p=>⟨p.1,p.2.1,p.2.2.1,p.2.2.2.1,p.2.2.2.2.1,p.2.2.2.2.2.1,p.2.2.2.2.2.2⟩) (fun _=>rfl) (jr Try.underlying141 (by kernel_rfl) (ug rfl (by kernel_rfl) (by kernel_rfl) (gh Try.underlying3) (ug rfl (by kernel_rfl) (by kernel_rfl) (gh Try.underlying3) (ug rfl (by kernel_rfl) (by kernel_rfl) (gh Try.underlying3) (ug rfl (by kernel_rfl) (by kernel_rfl) (gh Try.underlying3) (ug rfl (by kernel_rfl) (by kernel_rfl) (gh Try.underlying3) (ug rfl (by kernel_rfl) (by kernel_rfl) (gh Try.underlying3) (Yv rfl (by kernel_rfl) (WD Try.underlying9)))))))))
theorem bQ:Cn Try.prog 104 (Kd.slice 141 xB) (fun l=>l.length ≤ 9223372036854775807∧∀ a ∈ l,mK a):=Gt Try.underlying104 (by kernel_rfl) ZP
def nK (x:Tk):Prop:=(fun l=>l.length ≤ 9223372036854775807∧∀ a ∈ l,mK a) x.f0∧Zs x.f1∧Zs x.f2∧Zs x.f3∧Zs x.f4
theorem aQ:Cn Try.prog 106 yB nK:=Qy (fun p=>⟨p.1,p.2.1,p.2.2.1,p.2.2.2.1,p.2.2.2.2⟩) (fun _=>rfl) (jr Try.underlying106 (by kernel_rfl) (ug rfl (by kernel_rfl) (by kernel_rfl) bQ (ug rfl (by kernel_rfl) (by kernel_rfl) (gh Try.underlying3) (ug rfl (by kernel_rfl) (by kernel_rfl) (gh Try.underlying3) (ug rfl (by kernel_rfl) (by kernel_rfl) (gh Try.underlying3) (Yv rfl (by kernel_rfl) (gh Try.underlying3)))))))
theorem TT:Cn Try.prog 38 (Kd.slice 106 yB) (fun l=>l.length ≤ 9223372036854775807∧∀ a ∈ l,nK a):=Gt Try.underlying38 (by kernel_rfl) aQ
def ER (x:O7):Prop:=(fun l=>l.length ≤ 9223372036854775807∧∀ a ∈ l,Zs a) x.f0∧Zs x.f1∧Zs x.f2∧Zs x.f3∧(fun l=>l.length ≤ 9223372036854775807∧∀ a ∈ l,nK a) x.f4
theorem RT:Cn Try.prog 40 k40 ER:=Qy (fun p=>⟨p.1,p.2.1,p.2.2.1,p.2.2.2.1,p.2.2.2.2⟩) (fun _=>rfl) (jr Try.underlying40 (by kernel_rfl) (ug rfl (by kernel_rfl) (by kernel_rfl) UT (ug rfl (by kernel_rfl) (by kernel_rfl) (gh Try.underlying3) (ug rfl (by kernel_rfl) (by kernel_rfl) (gh Try.underlying3) (ug rfl (by kernel_rfl) (by kernel_rfl) (gh Try.underlying3) (Yv rfl (by kernel_rfl) TT))))))
def Qe.l0:Nat→List ByteArray→ByteArray→Int→Option (Bool)
 | 0,_,_,_=>none
 | k + 1,x0,x1,x5=>if x5 < (x0.length:Int) then (if 0 ≤ x5 then (if (Eg ByteArray.empty x0 x5).toList=x1.toList then (some true) else (Qe.l0 k x0 x1 (wrap64 (x5 + 1)))) else (none)) else (some false)
def Qe.f (k:Nat) (l0:List ByteArray) (a1:ByteArray):Option (Bool):=Qe.l0 k l0 a1 0
theorem Qe.calls (k:Nat) (A0:Option Addr) (c0:Nat) (l0:List ByteArray) (a1:ByteArray) (r:Bool) (w:World) (Zj:Kd.C Kd.string w A0 l0.length l0) (hc0:l0.length ≤ c0) (h:Qe.f k l0 a1=some r) :
  Calls Try.prog 135 #[.slice A0 l0.length c0,.string a1] w fun e w'=>e = .returned (.bool r)∧Nc w w':=by
 have Dn:=ga.mk Zj;have bH:=ga.mk hc0;clear Zj hc0;have H:(Qe.l0 k l0 a1 0)=some r:=h;clear h;have H':=ga.mk H;clear H;go_enter Try.func135,Try.ntmps135;go_wp2
 go_loopg [5] k (fun kq v5 w'=>∃ (Aa:Int),v5 = .int .i64 Aa∧ga (Qe.l0 kq l0 a1 Aa=some r)∧ga (kq ≤ k)∧Nc w w')
 case atStart=>exact ⟨(0),(by first|rfl|(simp;done)|(simp [*];done)),H',⟨Nat.le_refl _⟩,by repeat (first|exact Nc.refl _|apply Nc.step)⟩
 case round =>
  clear H'
  try clear c1
  try clear p2
  (try clear HA);(try clear uf);obtain ⟨Aa,rfl,HA,uf,⟨m1,rfl⟩⟩:=hrel;cases gk with
  | zero=>exact absurd HA.out (by simp [Qe.l0])
  | succ k1 =>
   have H:=HA.out;clear HA;simp only [Qe.l0] at H
   by_cases c3:Aa < (l0.length:Int)
   ·rw [if_pos c3] at H;have dh:decide (Aa < (l0.length:Int))=true:=decide_eq_true c3;clear c3
    by_cases c4:0 ≤ Aa
    ·rw [if_pos c4] at H;have Dk:decide (0 ≤ Aa)=true:=decide_eq_true c4;clear c4
     by_cases c5:(Eg ByteArray.empty l0 Aa).toList=a1.toList
     ·rw [if_pos c5] at H;have qn:((Eg ByteArray.empty l0 Aa).toList == a1.toList)=true:=beq_iff_eq.mpr c5;have gz:((Eg ByteArray.empty l0 Aa).toList != a1.toList)=false:=bne_eq_false_iff_eq.mpr c5;clear c5;obtain rfl:=Option.some.inj H;have Nf:0 ≤ (Aa:Int):=of_decide_eq_true (by first|(with_reducible assumption)|assumption);have Mf:Aa < (l0.length:Int):=of_decide_eq_true (by first|(with_reducible assumption)|assumption);obtain ⟨Ge,Aj,Ud⟩:=Kd.Yu Dn.out Aa Nf Mf;cases Aj;replace Nf:=eq_true Nf;replace Mf:=eq_true Mf;go_wp2;go_ret;exact ⟨by first|rfl|(simp;done)|(simp [*];done),by repeat (first|exact Nc.refl _|apply Nc.step)⟩
     ·rw [if_neg c5] at H;have qn:((Eg ByteArray.empty l0 Aa).toList == a1.toList)=false:=beq_eq_false_iff_ne.mpr c5;have gz:((Eg ByteArray.empty l0 Aa).toList != a1.toList)=true:=bne_iff_ne.mpr c5;have H':=ga.mk H;clear H;have Nf:0 ≤ (Aa:Int):=of_decide_eq_true (by first|(with_reducible assumption)|assumption);have Mf:Aa < (l0.length:Int):=of_decide_eq_true (by first|(with_reducible assumption)|assumption);obtain ⟨Ge,Aj,Ud⟩:=Kd.Yu Dn.out Aa Nf Mf;cases Aj;replace Nf:=eq_true Nf;replace Mf:=eq_true Mf;go_wp2
      go_roundg k1
      case measure=>have:=uf.out;omega
      case rel=>exact ⟨(wrap64 (Aa + 1)),(by first|rfl|(simp;done)|(simp [*];done)),H',⟨by have:=uf.out;omega⟩,by repeat (first|exact Nc.refl _|apply Nc.step)⟩
    ·rw [if_neg c4] at H;exact absurd H (by simp)
   ·rw [if_neg c3] at H;have dh:decide (Aa < (l0.length:Int))=false:=decide_eq_false c3;clear c3;obtain rfl:=Option.some.inj H;go_wp2;go_ret;exact ⟨by first|rfl|(simp;done)|(simp [*];done),by repeat (first|exact Nc.refl _|apply Nc.step)⟩
def Za.f (a0:Int) (a1:Int) (a2:Int):Option (Bool):=if a0 ≥ a1 then (some (decide (a0 ≤ a2))) else (some false)
theorem Za.calls (a0:Int) (a1:Int) (a2:Int) (r:Bool) (w:World) (h:Za.f a0 a1 a2=some r) :
  Calls Try.prog 81 #[.int .i64 a0,.int .i64 a1,.int .i64 a2] w fun e w'=>e = .returned (.bool r)∧Nc w w':=by
 have H:(if a0 ≥ a1 then (some (decide (a0 ≤ a2))) else (some false))=some r:=h;clear h
 by_cases c4:a0 ≥ a1
 ·rw [if_pos c4] at H;have Dk:decide (a1 ≤ a0)=true:=decide_eq_true c4;clear c4;obtain rfl:=Option.some.inj H;go_enter Try.func81,Try.ntmps81;go_wp2;go_ret;exact ⟨by first|rfl|(simp;done)|(simp [*];done),by repeat (first|exact Nc.refl _|apply Nc.step)⟩
 ·rw [if_neg c4] at H;have Dk:decide (a1 ≤ a0)=false:=decide_eq_false c4;clear c4;obtain rfl:=Option.some.inj H;go_enter Try.func81,Try.ntmps81;go_wp2;go_ret;exact ⟨by first|rfl|(simp;done)|(simp [*];done),by repeat (first|exact Nc.refl _|apply Nc.step)⟩
mutual
def yb.j0:Nat→Bool→Bool→Bool→Bool→List Int→Int→Int→Int→List (jf)→Int→Int→Int→Int→Int→Int→ByteArray→Option (Bool)
 | 0,_,_,_,_,_,_,_,_,_,_,_,_,_,_,_,_=>none
 | k + 1,x5,x6,x7,x8,Yc,Zc,Xc,Wc,dc,sg,ek,Ik,Dj,Cj,Mm,Cp=>if sg=2 then (if sg=4 then (yb.j1 k x5 x6 x7 x8 false Yc Zc Xc Wc dc sg ek Ik Dj Cj Mm Cp) else (yb.j1 k x5 x6 x7 x8 (Cj != 0) Yc Zc Xc Wc dc sg ek Ik Dj Cj Mm Cp)) else (if Cp.toList=([]:List UInt8) then (if sg=4 then (yb.j1 k x5 x6 x7 x8 false Yc Zc Xc Wc dc sg ek Ik Dj Cj Mm Cp) else (yb.j1 k x5 x6 x7 x8 (Cj != 0) Yc Zc Xc Wc dc sg ek Ik Dj Cj Mm Cp)) else (yb.j1 k x5 x6 x7 x8 true Yc Zc Xc Wc dc sg ek Ik Dj Cj Mm Cp))
def yb.j1:Nat→Bool→Bool→Bool→Bool→Bool→List Int→Int→Int→Int→List (jf)→Int→Int→Int→Int→Int→Int→ByteArray→Option (Bool)
 | 0,_,_,_,_,_,_,_,_,_,_,_,_,_,_,_,_,_=>none
 | k + 1,x5,x6,x7,x8,x62,Yc,Zc,Xc,Wc,dc,sg,ek,Ik,Dj,Cj,Mm,Cp=>if x62=true then (some false) else (if sg=0 then (if x5=true then (if Ik=0 then (some (Dj == 0)) else (some false)) else (some false)) else (if sg=1 then (if x5=true then (if x6=true then (if Dj=0 then (some (Mm == 0)) else (some false)) else (some false)) else (some false)) else (if sg=2 then (if x5=true then (if x6=true then (if x7=true then (if Mm=0 then ((Qe.f k (([(⟨#[61,61]⟩:ByteArray),(⟨#[60]⟩:ByteArray),(⟨#[38]⟩:ByteArray),(⟨#[43]⟩:ByteArray),(⟨#[45]⟩:ByteArray),(⟨#[42]⟩:ByteArray)]:List ByteArray)) Cp).bind fun t111=>(some t111)) else (some false)) else (some false)) else (some false)) else (some false)) else (if sg=3 then (if x5=true then (some x8) else (some false)) else (if sg=4 then (if ek=0 then (if x8=true then ((Za.f Cj 0 (wrap64 (Wc - 1))).bind fun t112=>(some t112)) else (some false)) else (some false)) else (if sg=5 then (if x5=true then (if Ik=0 then (if Dj=0 then (some (Mm == 0)) else (some false)) else (some false)) else (some false)) else (if sg=6 then (if ek=0 then (if x6=true then (if Dj=0 then (some (Mm == 0)) else (some false)) else (some false)) else (some false)) else (some false))))))))
end
def yb.f (k:Nat) (Ma:List Int) (La:Int) (Na:Int) (Ka:Int) (Fa:List (jf)) (Qc:Int) (Xb:Int) (Qb:Int) (Rb:Int) (tc:Int) (xd:Int) (Qd:ByteArray):Option (Bool):=(Za.f Xb 0 (wrap64 (Ka - 1))).bind fun t103=>((Za.f Qb 0 (wrap64 (Ka - 1))).bind fun t104=>((Za.f Rb 0 (wrap64 (Ka - 1))).bind fun t105=>(if t104=true then (if t105=true then ((Za.f xd 0 (wrap64 ((Ma.length:Int) - 1))).bind fun t106=>(yb.j0 k t103 t104 t105 t106 Ma La Na Ka Fa Qc Xb Qb Rb tc xd Qd)) else (yb.j0 k t103 t104 t105 false Ma La Na Ka Fa Qc Xb Qb Rb tc xd Qd)) else (if Qb=(-1) then (if t105=true then ((Za.f xd 0 (wrap64 ((Ma.length:Int) - 1))).bind fun t107=>(yb.j0 k t103 t104 t105 t107 Ma La Na Ka Fa Qc Xb Qb Rb tc xd Qd)) else (yb.j0 k t103 t104 t105 false Ma La Na Ka Fa Qc Xb Qb Rb tc xd Qd)) else (yb.j0 k t103 t104 t105 false Ma La Na Ka Fa Qc Xb Qb Rb tc xd Qd)))))
theorem yb.calls (k:Nat) (qb:Option Addr) (mb:Nat) (Ma:List Int) (La:Int) (Na:Int) (Ka:Int) (Lb:Option Addr) (Fb:Nat) (Fa:List (jf)) (Qc:Int) (Xb:Int) (Qb:Int) (Rb:Int) (tc:Int) (xd:Int) (Qd:ByteArray) (r:Bool) (w:World) (Ae:Kd.C (Kd.int .i64) w qb Ma.length Ma) (we:Ma.length ≤ mb) (Uf:Kd.C Gp w Lb Fa.length Fa) (Lf:Fa.length ≤ Fb) (h:yb.f k Ma La Na Ka Fa Qc Xb Qb Rb tc xd Qd=some r) :
  Calls Try.prog 121 #[.agg #[.slice qb Ma.length mb,.int .i64 La,.int .i64 Na,.int .i64 Ka,.slice Lb Fa.length Fb],.agg #[.int .i64 Qc,.int .i64 Xb,.int .i64 Qb,.int .i64 Rb,.int .i64 tc,.int .i64 xd,.string Qd]] w fun e w'=>e = .returned (.bool r)∧Below w.heap.size w w':=by
 have Oz:=Try.underlying45;have MH:=Try.underlying122;have Ke:=ga.mk Ae;have Ve:=ga.mk we;clear Ae we;have kg:=ga.mk Uf;have Tg:=ga.mk Lf;clear Uf Lf;have HB:=ga.mk (Below.refl w.heap.size w);have H:((Za.f Xb 0 (wrap64 (Ka - 1))).bind fun t103=>((Za.f Qb 0 (wrap64 (Ka - 1))).bind fun t104=>((Za.f Rb 0 (wrap64 (Ka - 1))).bind fun t105=>(if t104=true then (if t105=true then ((Za.f xd 0 (wrap64 ((Ma.length:Int) - 1))).bind fun t106=>(yb.j0 k t103 t104 t105 t106 Ma La Na Ka Fa Qc Xb Qb Rb tc xd Qd)) else (yb.j0 k t103 t104 t105 false Ma La Na Ka Fa Qc Xb Qb Rb tc xd Qd)) else (if Qb=(-1) then (if t105=true then ((Za.f xd 0 (wrap64 ((Ma.length:Int) - 1))).bind fun t107=>(yb.j0 k t103 t104 t105 t107 Ma La Na Ka Fa Qc Xb Qb Rb tc xd Qd)) else (yb.j0 k t103 t104 t105 false Ma La Na Ka Fa Qc Xb Qb Rb tc xd Qd)) else (yb.j0 k t103 t104 t105 false Ma La Na Ka Fa Qc Xb Qb Rb tc xd Qd))))))=some r:=h;clear h;replace H:=Option.bind_eq_some_iff.mp H;obtain ⟨t103,sC,H⟩:=H;replace H:((Za.f Qb 0 (wrap64 (Ka - 1))).bind fun t104=>((Za.f Rb 0 (wrap64 (Ka - 1))).bind fun t105=>(if t104=true then (if t105=true then ((Za.f xd 0 (wrap64 ((Ma.length:Int) - 1))).bind fun t106=>(yb.j0 k t103 t104 t105 t106 Ma La Na Ka Fa Qc Xb Qb Rb tc xd Qd)) else (yb.j0 k t103 t104 t105 false Ma La Na Ka Fa Qc Xb Qb Rb tc xd Qd)) else (if Qb=(-1) then (if t105=true then ((Za.f xd 0 (wrap64 ((Ma.length:Int) - 1))).bind fun t107=>(yb.j0 k t103 t104 t105 t107 Ma La Na Ka Fa Qc Xb Qb Rb tc xd Qd)) else (yb.j0 k t103 t104 t105 false Ma La Na Ka Fa Qc Xb Qb Rb tc xd Qd)) else (yb.j0 k t103 t104 t105 false Ma La Na Ka Fa Qc Xb Qb Rb tc xd Qd)))))=some r:=H;have A3:=ga.mk sC;clear sC;replace H:=Option.bind_eq_some_iff.mp H;obtain ⟨t104,lJ,H⟩:=H;replace H:((Za.f Rb 0 (wrap64 (Ka - 1))).bind fun t105=>(if t104=true then (if t105=true then ((Za.f xd 0 (wrap64 ((Ma.length:Int) - 1))).bind fun t106=>(yb.j0 k t103 t104 t105 t106 Ma La Na Ka Fa Qc Xb Qb Rb tc xd Qd)) else (yb.j0 k t103 t104 t105 false Ma La Na Ka Fa Qc Xb Qb Rb tc xd Qd)) else (if Qb=(-1) then (if t105=true then ((Za.f xd 0 (wrap64 ((Ma.length:Int) - 1))).bind fun t107=>(yb.j0 k t103 t104 t105 t107 Ma La Na Ka Fa Qc Xb Qb Rb tc xd Qd)) else (yb.j0 k t103 t104 t105 false Ma La Na Ka Fa Qc Xb Qb Rb tc xd Qd)) else (yb.j0 k t103 t104 t105 false Ma La Na Ka Fa Qc Xb Qb Rb tc xd Qd))))=some r:=H;have A4:=ga.mk lJ;clear lJ;replace H:=Option.bind_eq_some_iff.mp H;obtain ⟨t105,A50,H⟩:=H;replace H:(if t104=true then (if t105=true then ((Za.f xd 0 (wrap64 ((Ma.length:Int) - 1))).bind fun t106=>(yb.j0 k t103 t104 t105 t106 Ma La Na Ka Fa Qc Xb Qb Rb tc xd Qd)) else (yb.j0 k t103 t104 t105 false Ma La Na Ka Fa Qc Xb Qb Rb tc xd Qd)) else (if Qb=(-1) then (if t105=true then ((Za.f xd 0 (wrap64 ((Ma.length:Int) - 1))).bind fun t107=>(yb.j0 k t103 t104 t105 t107 Ma La Na Ka Fa Qc Xb Qb Rb tc xd Qd)) else (yb.j0 k t103 t104 t105 false Ma La Na Ka Fa Qc Xb Qb Rb tc xd Qd)) else (yb.j0 k t103 t104 t105 false Ma La Na Ka Fa Qc Xb Qb Rb tc xd Qd)))=some r:=H;have A5:=ga.mk A50;clear A50;have HC6:=ga.mk H;clear H;go_enter Try.func121,Try.ntmps121
 go_upto_region 4 with (first|((with_reducible refine Ab (N:=2) rfl ?_);(try (refine Me (by rfl) ?_;dsimp only));refine Kb ?hg (N:=2) ?hd (cs:=#[.slice qb Ma.length mb,.int .i64 La,.int .i64 Na,.int .i64 Ka,.slice Lb Fa.length Fb]) (t:=45) ?hr ?_;(case hd=>rfl);(case hg=>rfl);(case hr=>first|(go_simp;done)|(go_simp;rfl));intro za hg w7 Wb hb;have Eb:=ga.mk (Qa (by repeat (first|(with_reducible first|exact HB.out|apply oa|apply ia|apply qa)|exact HB.out)) hb);have Ib:=ga.mk (Wb);have Sb:=ga.mk ((by rw [hg];exact (Ja (by repeat (first|(with_reducible first|exact HB.out|apply oa|apply ia|apply qa)|exact HB.out))):w.heap.size ≤ za));have yc:=ga.mk ((by rw [hg];exact (Ja (by repeat (first|(with_reducible first|exact HB.out|apply oa|apply ia|apply qa)|exact HB.out))):w.heap.size ≤ za));clear HB;have HB:=Eb;have ta:=Ib;have Be:=Sb;have Sa:=yc;clear Eb Ib Sb yc hb Wb hg)|((with_reducible refine Ab (N:=3) rfl ?_);(try (refine Me (by rfl) ?_;dsimp only));refine Kb ?hg (N:=3) ?hd (cs:=#[.int .i64 Qc,.int .i64 Xb,.int .i64 Qb,.int .i64 Rb,.int .i64 tc,.int .i64 xd,.string Qd]) (t:=122) ?hr ?_;(case hd=>rfl);(case hg=>rfl);(case hr=>first|(go_simp;done)|(go_simp;rfl));intro Ga hg w8 Wb hb;have Eb:=ga.mk (Wa (g:=za) (o:=.cells #[.slice qb Ma.length mb,.int .i64 La,.int .i64 Na,.int .i64 Ka,.slice Lb Fa.length Fb] 45 (0,0)) (by (with_reducible repeat (first|refine Ca ?_ _|refine Ea ?_|refine Da ?_ _));exact ta.out) hb);have Ib:=ga.mk (Qa (by repeat (first|(with_reducible first|exact HB.out|apply oa|apply ia|apply qa|refine ua ?_ Sa.out)|exact HB.out)) hb);have Sb:=ga.mk (Wb);have yc:=ga.mk ((by rw [hg];exact (Ja (by repeat (first|(with_reducible first|exact HB.out|apply oa|apply ia|apply qa|refine ua ?_ Sa.out)|exact HB.out))):w.heap.size ≤ Ga));have Ee:=ga.mk ((by rw [hg];exact (Ja (by repeat (first|(with_reducible first|exact HB.out|apply oa|apply ia|apply qa|refine ua ?_ Sa.out)|exact HB.out))):w.heap.size ≤ Ga));have mg:=ga.mk ((by rw [hg];exact Nat.ne_of_lt (Vc (g:=za) (o:=.cells #[.slice qb Ma.length mb,.int .i64 La,.int .i64 Na,.int .i64 Ka,.slice Lb Fa.length Fb] 45 (0,0)) (by (with_reducible repeat (first|refine Ca ?_ _|refine Ea ?_|refine Da ?_ _));exact ta.out)):za ≠ Ga));have di:=ga.mk ((by rw [hg];exact Nat.ne_of_gt (Vc (g:=za) (o:=.cells #[.slice qb Ma.length mb,.int .i64 La,.int .i64 Na,.int .i64 Ka,.slice Lb Fa.length Fb] 45 (0,0)) (by (with_reducible repeat (first|refine Ca ?_ _|refine Ea ?_|refine Da ?_ _));exact ta.out)):Ga ≠ za));clear ta HB;have ta:=Eb;have HB:=Ib;have ya:=Sb;have Nj:=yc;have uc:=Ee;have Db:=mg;have Cb:=di;clear Eb Ib Sb yc Ee mg di hb Wb hg;have tao:=Cb.out;have eao:=Db.out;have Wh:w8.cell? ⟨Ga,0,none⟩=some (.int .i64 Qc):=(ja ya.out 0).trans rfl;have Vh:w8.cell? ⟨Ga,1,none⟩=some (.int .i64 Xb):=(ja ya.out 1).trans rfl;have Uh:w8.cell? ⟨Ga,2,none⟩=some (.int .i64 Qb):=(ja ya.out 2).trans rfl;have Th:w8.cell? ⟨Ga,3,none⟩=some (.int .i64 Rb):=(ja ya.out 3).trans rfl;have Sh:w8.cell? ⟨Ga,4,none⟩=some (.int .i64 tc):=(ja ya.out 4).trans rfl;have oG:w8.cell? ⟨Ga,5,none⟩=some (.int .i64 xd):=(ja ya.out 5).trans rfl;have nG:w8.cell? ⟨Ga,6,none⟩=some (.string Qd):=(ja ya.out 6).trans rfl;have Rh:=aa ya.out 0;have Qh:=aa ya.out 1;have Ph:=aa ya.out 2;have Oh:=aa ya.out 3;have Nh:=aa ya.out 4;have mF:=aa ya.out 5;have lF:=aa ya.out 6;have gy:w8.cell? ⟨za,0,none⟩=some (.slice qb Ma.length mb):=(ja ta.out 0).trans rfl;have fy:w8.cell? ⟨za,1,none⟩=some (.int .i64 La):=(ja ta.out 1).trans rfl;have ey:w8.cell? ⟨za,2,none⟩=some (.int .i64 Na):=(ja ta.out 2).trans rfl;have cy:w8.cell? ⟨za,3,none⟩=some (.int .i64 Ka):=(ja ta.out 3).trans rfl;have ay:w8.cell? ⟨za,4,none⟩=some (.slice Lb Fa.length Fb):=(ja ta.out 4).trans rfl;have Nx:=aa ta.out 0;have Mx:=aa ta.out 1;have Lx:=aa ta.out 2;have Kx:=aa ta.out 3;have Jx:=aa ta.out 4)|((with_reducible refine zb (f:=81) rfl ?_);refine Pc (some 14) rfl rfl Try.func81 (by kernel_rfl) rfl #[.int .i64 Xb,.int .i64 0,.int .i64 (wrap64 (Ka - 1))] rfl (by (try simp only [List.map_toArray,List.map_cons,List.map_nil]);first|done|rfl|(simp only [List.length_drop,List.length_take];rfl)) ?_;(with_reducible refine (Za.calls Xb 0 (wrap64 (Ka - 1)) t103 _ A3.out).mono ?_);rintro e w' ⟨rfl,⟨nd,rfl⟩⟩;refine ⟨_,rfl,?_⟩)|((with_reducible refine zb (f:=81) rfl ?_);refine Pc (some 20) rfl rfl Try.func81 (by kernel_rfl) rfl #[.int .i64 Qb,.int .i64 0,.int .i64 (wrap64 (Ka - 1))] rfl (by (try simp only [List.map_toArray,List.map_cons,List.map_nil]);first|done|rfl|(simp only [List.length_drop,List.length_take];rfl)) ?_;(with_reducible refine (Za.calls Qb 0 (wrap64 (Ka - 1)) t104 _ A4.out).mono ?_);rintro e w' ⟨rfl,⟨nd,rfl⟩⟩;refine ⟨_,rfl,?_⟩)|((with_reducible refine zb (f:=81) rfl ?_);refine Pc (some 26) rfl rfl Try.func81 (by kernel_rfl) rfl #[.int .i64 Rb,.int .i64 0,.int .i64 (wrap64 (Ka - 1))] rfl (by (try simp only [List.map_toArray,List.map_cons,List.map_nil]);first|done|rfl|(simp only [List.length_drop,List.length_take];rfl)) ?_;(with_reducible refine (Za.calls Rb 0 (wrap64 (Ka - 1)) t105 _ A5.out).mono ?_);rintro e w' ⟨rfl,⟨nd,rfl⟩⟩;refine ⟨_,rfl,?_⟩))
 (try simp only [Act.put,List.setIfInBounds_toArray,List.set_cons_zero,List.set_cons_succ])
 go_cut [8] (fun v8 wc=>∃ (kq:Nat) (iH:Bool),v8 = .bool iH∧ga (yb.j0 kq t103 t104 t105 iH Ma La Na Ka Fa Qc Xb Qb Rb tc xd Qd=some r)∧ga (kq ≤ k)∧ga (wc.heap[za]? = some (.cells #[(.slice qb Ma.length mb),.int .i64 La,.int .i64 Na,.int .i64 Ka,(.slice Lb Fa.length Fb)] 45 (0,0)))∧ga (wc.heap[Ga]? = some (.cells #[.int .i64 Qc,.int .i64 Xb,.int .i64 Qb,.int .i64 Rb,.int .i64 tc,.int .i64 xd,.string Qd] 122 (0,0)))∧ga (Below w.heap.size w wc))
 case first =>
  have H:=HC6.out;clear HC6
  by_cases Fq:t104=true
  ·subst Fq;have H1:(if t105=true then ((Za.f xd 0 (wrap64 ((Ma.length:Int) - 1))).bind fun t106=>(yb.j0 k t103 true t105 t106 Ma La Na Ka Fa Qc Xb Qb Rb tc xd Qd)) else (yb.j0 k t103 true t105 false Ma La Na Ka Fa Qc Xb Qb Rb tc xd Qd))=some r:=by rw [if_pos rfl] at H;exact H
   clear H;have H:=H1;clear H1
   by_cases Yt:t105=true
   ·subst Yt;have H1:((Za.f xd 0 (wrap64 ((Ma.length:Int) - 1))).bind fun t106=>(yb.j0 k t103 true true t106 Ma La Na Ka Fa Qc Xb Qb Rb tc xd Qd))=some r:=by rw [if_pos rfl] at H;exact H
    clear H;have H:=H1;clear H1;replace H:=Option.bind_eq_some_iff.mp H;obtain ⟨t106,iaf,H⟩:=H;replace H:(yb.j0 k t103 true true t106 Ma La Na Ka Fa Qc Xb Qb Rb tc xd Qd)=some r:=H;have A14:=ga.mk iaf;clear iaf;have H':=ga.mk H;clear H;have Lat:=Cb.out;have Was:=Db.out;have gG:w8.cell? ⟨Ga,0,none⟩=some (.int .i64 Qc):=(ja ya.out 0).trans rfl;have fG:w8.cell? ⟨Ga,1,none⟩=some (.int .i64 Xb):=(ja ya.out 1).trans rfl;have eG:w8.cell? ⟨Ga,2,none⟩=some (.int .i64 Qb):=(ja ya.out 2).trans rfl;have dG:w8.cell? ⟨Ga,3,none⟩=some (.int .i64 Rb):=(ja ya.out 3).trans rfl;have cG:w8.cell? ⟨Ga,4,none⟩=some (.int .i64 tc):=(ja ya.out 4).trans rfl;have vN:w8.cell? ⟨Ga,5,none⟩=some (.int .i64 xd):=(ja ya.out 5).trans rfl;have uN:w8.cell? ⟨Ga,6,none⟩=some (.string Qd):=(ja ya.out 6).trans rfl;have eF:=aa ya.out 0;have dF:=aa ya.out 1;have cF:=aa ya.out 2;have bF:=aa ya.out 3;have ZE:=aa ya.out 4;have GM:=aa ya.out 5;have FM:=aa ya.out 6;have bG:w8.cell? ⟨za,0,none⟩=some (.slice qb Ma.length mb):=(ja ta.out 0).trans rfl;have aG:w8.cell? ⟨za,1,none⟩=some (.int .i64 La):=(ja ta.out 1).trans rfl;have ZF:w8.cell? ⟨za,2,none⟩=some (.int .i64 Na):=(ja ta.out 2).trans rfl;have YF:w8.cell? ⟨za,3,none⟩=some (.int .i64 Ka):=(ja ta.out 3).trans rfl;have XF:w8.cell? ⟨za,4,none⟩=some (.slice Lb Fa.length Fb):=(ja ta.out 4).trans rfl;have YE:=aa ta.out 0;have XE:=aa ta.out 1;have WE:=aa ta.out 2;have VE:=aa ta.out 3;have UE:=aa ta.out 4;go_wp2_with (first|(go_at_call 81;(with_reducible refine (Za.calls xd 0 (wrap64 ((Ma.length:Int) - 1)) t106 _ A14.out).mono ?_);rintro e w' ⟨rfl,⟨nd,rfl⟩⟩))
    go_meet
    case rel=>exact ⟨_,(t106),(by first|rfl|(simp;done)|(simp [*];done)),H',⟨by first|omega|exact Nat.le_refl _⟩,⟨by (with_reducible repeat (first|refine Ca ?_ _|refine Ea ?_|refine Da ?_ _));exact ta.out⟩,⟨by (with_reducible repeat (first|refine Ca ?_ _|refine Ea ?_|refine Da ?_ _));exact ya.out⟩,⟨by repeat (first|(with_reducible first|exact HB.out|apply oa|apply ia|apply qa|refine ua ?_ Sa.out|refine ua ?_ uc.out)|exact HB.out)⟩⟩
   ·replace Yt:=Bool.eq_false_iff.mpr Yt;subst Yt;have H1:(yb.j0 k t103 true false false Ma La Na Ka Fa Qc Xb Qb Rb tc xd Qd)=some r:=by rw [if_neg (show ¬ (false=true) by decide)] at H;exact H
    clear H;have H:=H1;clear H1;have H':=ga.mk H;clear H;go_wp2
    go_meet
    case rel=>exact ⟨_,(false),(by first|rfl|(simp;done)|(simp [*];done)),H',⟨by first|omega|exact Nat.le_refl _⟩,⟨by (with_reducible repeat (first|refine Ca ?_ _|refine Ea ?_|refine Da ?_ _));exact ta.out⟩,⟨by (with_reducible repeat (first|refine Ca ?_ _|refine Ea ?_|refine Da ?_ _));exact ya.out⟩,⟨by repeat (first|(with_reducible first|exact HB.out|apply oa|apply ia|apply qa|refine ua ?_ Sa.out|refine ua ?_ uc.out)|exact HB.out)⟩⟩
  ·replace Fq:=Bool.eq_false_iff.mpr Fq;subst Fq;have H1:(if Qb=(-1) then (if t105=true then ((Za.f xd 0 (wrap64 ((Ma.length:Int) - 1))).bind fun t107=>(yb.j0 k t103 false t105 t107 Ma La Na Ka Fa Qc Xb Qb Rb tc xd Qd)) else (yb.j0 k t103 false t105 false Ma La Na Ka Fa Qc Xb Qb Rb tc xd Qd)) else (yb.j0 k t103 false t105 false Ma La Na Ka Fa Qc Xb Qb Rb tc xd Qd))=some r:=by rw [if_neg (show ¬ (false=true) by decide)] at H;exact H
   clear H;have H:=H1;clear H1
   by_cases Bp:Qb=(-1)
   ·rw [if_pos Bp] at H;have vn:(Qb == (-1))=true:=beq_iff_eq.mpr Bp;have uy:(Qb != (-1))=false:=bne_eq_false_iff_eq.mpr Bp;clear Bp;(first|rw [vn]|(simp only [fc,ic];rw [vn])|skip)
    by_cases xp:t105=true
    ·subst xp;have H1:((Za.f xd 0 (wrap64 ((Ma.length:Int) - 1))).bind fun t107=>(yb.j0 k t103 false true t107 Ma La Na Ka Fa Qc Xb Qb Rb tc xd Qd))=some r:=by rw [if_pos rfl] at H;exact H
     clear H;have H:=H1;clear H1;replace H:=Option.bind_eq_some_iff.mp H;obtain ⟨t107,eaf,H⟩:=H;replace H:(yb.j0 k t103 false true t107 Ma La Na Ka Fa Qc Xb Qb Rb tc xd Qd)=some r:=H;have zC:=ga.mk eaf;clear eaf;have H':=ga.mk H;clear H;have Hat:=Cb.out;have Sas:=Db.out;have Zx:w8.cell? ⟨Ga,0,none⟩=some (.int .i64 Qc):=(ja ya.out 0).trans rfl;have Yx:w8.cell? ⟨Ga,1,none⟩=some (.int .i64 Xb):=(ja ya.out 1).trans rfl;have Xx:w8.cell? ⟨Ga,2,none⟩=some (.int .i64 Qb):=(ja ya.out 2).trans rfl;have Wx:w8.cell? ⟨Ga,3,none⟩=some (.int .i64 Rb):=(ja ya.out 3).trans rfl;have Vx:w8.cell? ⟨Ga,4,none⟩=some (.int .i64 tc):=(ja ya.out 4).trans rfl;have tN:w8.cell? ⟨Ga,5,none⟩=some (.int .i64 xd):=(ja ya.out 5).trans rfl;have sN:w8.cell? ⟨Ga,6,none⟩=some (.string Qd):=(ja ya.out 6).trans rfl;have Ix:=aa ya.out 0;have Hx:=aa ya.out 1;have Gx:=aa ya.out 2;have Fx:=aa ya.out 3;have Ex:=aa ya.out 4;have EM:=aa ya.out 5;have DM:=aa ya.out 6;have gq:w8.cell? ⟨za,0,none⟩=some (.slice qb Ma.length mb):=(ja ta.out 0).trans rfl;have fq:w8.cell? ⟨za,1,none⟩=some (.int .i64 La):=(ja ta.out 1).trans rfl;have cq:w8.cell? ⟨za,2,none⟩=some (.int .i64 Na):=(ja ta.out 2).trans rfl;have bq:w8.cell? ⟨za,3,none⟩=some (.int .i64 Ka):=(ja ta.out 3).trans rfl;have aq:w8.cell? ⟨za,4,none⟩=some (.slice Lb Fa.length Fb):=(ja ta.out 4).trans rfl;have Tp:=aa ta.out 0;have Sp:=aa ta.out 1;have Rp:=aa ta.out 2;have Qp:=aa ta.out 3;have Pp:=aa ta.out 4;go_wp2_with (first|(go_at_call 81;(with_reducible refine (Za.calls xd 0 (wrap64 ((Ma.length:Int) - 1)) t107 _ zC.out).mono ?_);rintro e w' ⟨rfl,⟨nd,rfl⟩⟩))
     go_meet
     case rel=>exact ⟨_,(t107),(by first|rfl|(simp;done)|(simp [*];done)),H',⟨by first|omega|exact Nat.le_refl _⟩,⟨by (with_reducible repeat (first|refine Ca ?_ _|refine Ea ?_|refine Da ?_ _));exact ta.out⟩,⟨by (with_reducible repeat (first|refine Ca ?_ _|refine Ea ?_|refine Da ?_ _));exact ya.out⟩,⟨by repeat (first|(with_reducible first|exact HB.out|apply oa|apply ia|apply qa|refine ua ?_ Sa.out|refine ua ?_ uc.out)|exact HB.out)⟩⟩
    ·replace xp:=Bool.eq_false_iff.mpr xp;subst xp;have H1:(yb.j0 k t103 false false false Ma La Na Ka Fa Qc Xb Qb Rb tc xd Qd)=some r:=by rw [if_neg (show ¬ (false=true) by decide)] at H;exact H
     clear H;have H:=H1;clear H1;have H':=ga.mk H;clear H;have C9:=Cb.out;have j9:=Db.out;have Qu:w8.cell? ⟨Ga,0,none⟩=some (.int .i64 Qc):=(ja ya.out 0).trans rfl;have Pu:w8.cell? ⟨Ga,1,none⟩=some (.int .i64 Xb):=(ja ya.out 1).trans rfl;have Ou:w8.cell? ⟨Ga,2,none⟩=some (.int .i64 Qb):=(ja ya.out 2).trans rfl;have Nu:w8.cell? ⟨Ga,3,none⟩=some (.int .i64 Rb):=(ja ya.out 3).trans rfl;have Mu:w8.cell? ⟨Ga,4,none⟩=some (.int .i64 tc):=(ja ya.out 4).trans rfl;have rN:w8.cell? ⟨Ga,5,none⟩=some (.int .i64 xd):=(ja ya.out 5).trans rfl;have qN:w8.cell? ⟨Ga,6,none⟩=some (.string Qd):=(ja ya.out 6).trans rfl;have Bu:=aa ya.out 0;have Au:=aa ya.out 1;have zu:=aa ya.out 2;have yu:=aa ya.out 3;have xu:=aa ya.out 4;have CM:=aa ya.out 5;have BM:=aa ya.out 6;go_wp2
     go_meet
     case rel=>exact ⟨_,(false),(by first|rfl|(simp;done)|(simp [*];done)),H',⟨by first|omega|exact Nat.le_refl _⟩,⟨by (with_reducible repeat (first|refine Ca ?_ _|refine Ea ?_|refine Da ?_ _));exact ta.out⟩,⟨by (with_reducible repeat (first|refine Ca ?_ _|refine Ea ?_|refine Da ?_ _));exact ya.out⟩,⟨by repeat (first|(with_reducible first|exact HB.out|apply oa|apply ia|apply qa|refine ua ?_ Sa.out|refine ua ?_ uc.out)|exact HB.out)⟩⟩
   ·rw [if_neg Bp] at H;have vn:(Qb == (-1))=false:=beq_eq_false_iff_ne.mpr Bp;have uy:(Qb != (-1))=true:=bne_iff_ne.mpr Bp;(first|rw [vn]|(simp only [fc,ic];rw [vn])|skip);have H':=ga.mk H;clear H;have Gat:=Cb.out;have Ras:=Db.out;have TA:w8.cell? ⟨Ga,0,none⟩=some (.int .i64 Qc):=(ja ya.out 0).trans rfl;have SA:w8.cell? ⟨Ga,1,none⟩=some (.int .i64 Xb):=(ja ya.out 1).trans rfl;have QA:w8.cell? ⟨Ga,2,none⟩=some (.int .i64 Qb):=(ja ya.out 2).trans rfl;have PA:w8.cell? ⟨Ga,3,none⟩=some (.int .i64 Rb):=(ja ya.out 3).trans rfl;have OA:w8.cell? ⟨Ga,4,none⟩=some (.int .i64 tc):=(ja ya.out 4).trans rfl;have pN:w8.cell? ⟨Ga,5,none⟩=some (.int .i64 xd):=(ja ya.out 5).trans rfl;have oN:w8.cell? ⟨Ga,6,none⟩=some (.string Qd):=(ja ya.out 6).trans rfl;have xA:=aa ya.out 0;have vA:=aa ya.out 1;have uA:=aa ya.out 2;have tA:=aa ya.out 3;have sA:=aa ya.out 4;have zM:=aa ya.out 5;have yM:=aa ya.out 6;go_wp2
    go_meet
    case rel=>exact ⟨_,(false),(by first|rfl|(simp;done)|(simp [*];done)),H',⟨by first|omega|exact Nat.le_refl _⟩,⟨by (with_reducible repeat (first|refine Ca ?_ _|refine Ea ?_|refine Da ?_ _));exact ta.out⟩,⟨by (with_reducible repeat (first|refine Ca ?_ _|refine Ea ?_|refine Da ?_ _));exact ya.out⟩,⟨by repeat (first|(with_reducible first|exact HB.out|apply oa|apply ia|apply qa|refine ua ?_ Sa.out|refine ua ?_ uc.out)|exact HB.out)⟩⟩
 case rest =>
  clear HC6
  try clear c1
  try clear c2
  try clear p2
  try clear p6
  try clear c8
  try clear c9
  try clear Fq
  try clear Yt
  try clear Qz
  try clear Bp
  try clear vn
  try clear uy
  try clear xp
  try clear qt
  try clear EG
  try clear N7
  try clear Wh
  try clear Vh
  try clear Uh
  try clear Th
  try clear Sh
  try clear oG
  try clear nG
  try clear gy
  try clear fy
  try clear ey
  try clear cy
  try clear ay
  try clear gG
  try clear fG
  try clear eG
  try clear dG
  try clear cG
  try clear vN
  try clear uN
  try clear bG
  try clear aG
  try clear ZF
  try clear YF
  try clear XF
  try clear Zx
  try clear Yx
  try clear Xx
  try clear Wx
  try clear Vx
  try clear tN
  try clear sN
  try clear gq
  try clear fq
  try clear cq
  try clear bq
  try clear aq
  try clear Qu
  try clear Pu
  try clear Ou
  try clear Nu
  try clear Mu
  try clear rN
  try clear qN
  try clear TA
  try clear SA
  try clear QA
  try clear PA
  try clear OA
  try clear pN
  try clear oN
  try clear Rh
  try clear Qh
  try clear Ph
  try clear Oh
  try clear Nh
  try clear mF
  try clear lF
  try clear Nx
  try clear Mx
  try clear Lx
  try clear Kx
  try clear Jx
  try clear eF
  try clear dF
  try clear cF
  try clear bF
  try clear ZE
  try clear GM
  try clear FM
  try clear YE
  try clear XE
  try clear WE
  try clear VE
  try clear UE
  try clear Ix
  try clear Hx
  try clear Gx
  try clear Fx
  try clear Ex
  try clear EM
  try clear DM
  try clear Tp
  try clear Sp
  try clear Rp
  try clear Qp
  try clear Pp
  try clear Bu
  try clear Au
  try clear zu
  try clear yu
  try clear xu
  try clear CM
  try clear BM
  try clear xA
  try clear vA
  try clear uA
  try clear tA
  try clear sA
  try clear zM
  try clear yM
  obtain ⟨kq,iH,rfl,HA,HJ5,ta,ya,HB⟩:=hcut;cases kq with
  | zero=>exact absurd HA.out (by simp [yb.j0])
  | succ kj5 =>
   have H:=HA.out;clear HA;simp only [yb.j0] at H;have o7:=ga.mk H;clear H
   go_upto_region 5 with (fail)
   go_cut [62] (fun v62 wc=>∃ (kq:Nat) (LD:Bool),v62 = .bool LD∧ga (yb.j1 kq t103 t104 t105 iH LD Ma La Na Ka Fa Qc Xb Qb Rb tc xd Qd=some r)∧ga (kq ≤ kj5)∧ga (wc.heap[za]? = some (.cells #[(.slice qb Ma.length mb),.int .i64 La,.int .i64 Na,.int .i64 Ka,(.slice Lb Fa.length Fb)] 45 (0,0)))∧ga (wc.heap[Ga]? = some (.cells #[.int .i64 Qc,.int .i64 Xb,.int .i64 Qb,.int .i64 Rb,.int .i64 tc,.int .i64 xd,.string Qd] 122 (0,0)))∧ga (Below w.heap.size w wc))
   case first =>
    have H:=o7.out;clear o7
    by_cases VA:Qc=2
    ·rw [if_pos VA] at H;have ry:(Qc == 2)=true:=beq_iff_eq.mpr VA;have MY:(Qc != 2)=false:=bne_eq_false_iff_eq.mpr VA;clear VA;(first|rw [ry]|(simp only [fc,ic];rw [ry])|skip)
     by_cases Ez:Qc=4
     ·rw [if_pos Ez] at H;have uD:(Qc == 4)=true:=beq_iff_eq.mpr Ez;have LY:(Qc != 4)=false:=bne_eq_false_iff_eq.mpr Ez;clear Ez;have H':=ga.mk H;clear H;have Cat:=Cb.out;have Nas:=Db.out;have VF:wc.cell? ⟨Ga,0,none⟩=some (.int .i64 Qc):=(ja ya.out 0).trans rfl;have UF:wc.cell? ⟨Ga,1,none⟩=some (.int .i64 Xb):=(ja ya.out 1).trans rfl;have SF:wc.cell? ⟨Ga,2,none⟩=some (.int .i64 Qb):=(ja ya.out 2).trans rfl;have RF:wc.cell? ⟨Ga,3,none⟩=some (.int .i64 Rb):=(ja ya.out 3).trans rfl;have QF:wc.cell? ⟨Ga,4,none⟩=some (.int .i64 tc):=(ja ya.out 4).trans rfl;have sW:wc.cell? ⟨Ga,5,none⟩=some (.int .i64 xd):=(ja ya.out 5).trans rfl;have rW:wc.cell? ⟨Ga,6,none⟩=some (.string Qd):=(ja ya.out 6).trans rfl;have SE:=aa ya.out 0;have RE:=aa ya.out 1;have QE:=aa ya.out 2;have PE:=aa ya.out 3;have OE:=aa ya.out 4;have cV:=aa ya.out 5;have bV:=aa ya.out 6;go_wp2
      go_meet
      case rel=>exact ⟨_,(false),(by first|rfl|(simp;done)|(simp [*];done)),H',⟨by have:=HJ5.out;first|omega|exact Nat.le_refl _⟩,⟨by (with_reducible repeat (first|refine Ca ?_ _|refine Ea ?_|refine Da ?_ _));exact ta.out⟩,⟨by (with_reducible repeat (first|refine Ca ?_ _|refine Ea ?_|refine Da ?_ _));exact ya.out⟩,⟨by repeat (first|(with_reducible first|exact HB.out|apply oa|apply ia|apply qa|refine ua ?_ Sa.out|refine ua ?_ uc.out)|exact HB.out)⟩⟩
     ·rw [if_neg Ez] at H;have uD:(Qc == 4)=false:=beq_eq_false_iff_ne.mpr Ez;have LY:(Qc != 4)=true:=bne_iff_ne.mpr Ez;have H':=ga.mk H;clear H;have Aat:=Cb.out;have Las:=Db.out;have iN:wc.cell? ⟨Ga,0,none⟩=some (.int .i64 Qc):=(ja ya.out 0).trans rfl;have gN:wc.cell? ⟨Ga,1,none⟩=some (.int .i64 Xb):=(ja ya.out 1).trans rfl;have fN:wc.cell? ⟨Ga,2,none⟩=some (.int .i64 Qb):=(ja ya.out 2).trans rfl;have eN:wc.cell? ⟨Ga,3,none⟩=some (.int .i64 Rb):=(ja ya.out 3).trans rfl;have dN:wc.cell? ⟨Ga,4,none⟩=some (.int .i64 tc):=(ja ya.out 4).trans rfl;have cN:wc.cell? ⟨Ga,5,none⟩=some (.int .i64 xd):=(ja ya.out 5).trans rfl;have bN:wc.cell? ⟨Ga,6,none⟩=some (.string Qd):=(ja ya.out 6).trans rfl;have rM:=aa ya.out 0;have qM:=aa ya.out 1;have pM:=aa ya.out 2;have oM:=aa ya.out 3;have nM:=aa ya.out 4;have mM:=aa ya.out 5;have lM:=aa ya.out 6;go_wp2
      go_meet
      case rel=>exact ⟨_,((tc != 0)),(by first|rfl|(simp;done)|(simp [*];done)),H',⟨by have:=HJ5.out;first|omega|exact Nat.le_refl _⟩,⟨by (with_reducible repeat (first|refine Ca ?_ _|refine Ea ?_|refine Da ?_ _));exact ta.out⟩,⟨by (with_reducible repeat (first|refine Ca ?_ _|refine Ea ?_|refine Da ?_ _));exact ya.out⟩,⟨by repeat (first|(with_reducible first|exact HB.out|apply oa|apply ia|apply qa|refine ua ?_ Sa.out|refine ua ?_ uc.out)|exact HB.out)⟩⟩
    ·rw [if_neg VA] at H;have ry:(Qc == 2)=false:=beq_eq_false_iff_ne.mpr VA;have MY:(Qc != 2)=true:=bne_iff_ne.mpr VA;(first|rw [ry]|(simp only [fc,ic];rw [ry])|skip)
     by_cases IY:Qd.toList=([]:List UInt8)
     ·rw [if_pos IY] at H;have HY:(Qd.toList == ([]:List UInt8))=true:=beq_iff_eq.mpr IY;have GY:(Qd.toList != ([]:List UInt8))=false:=bne_eq_false_iff_eq.mpr IY;clear IY
      by_cases FY:Qc=4
      ·rw [if_pos FY] at H;have EY:(Qc == 4)=true:=beq_iff_eq.mpr FY;have DY:(Qc != 4)=false:=bne_eq_false_iff_eq.mpr FY;clear FY;have H':=ga.mk H;clear H;have u9:=Cb.out;have X8:=Db.out;have JF:wc.cell? ⟨Ga,0,none⟩=some (.int .i64 Qc):=(ja ya.out 0).trans rfl;have GF:wc.cell? ⟨Ga,1,none⟩=some (.int .i64 Xb):=(ja ya.out 1).trans rfl;have FF:wc.cell? ⟨Ga,2,none⟩=some (.int .i64 Qb):=(ja ya.out 2).trans rfl;have EF:wc.cell? ⟨Ga,3,none⟩=some (.int .i64 Rb):=(ja ya.out 3).trans rfl;have DF:wc.cell? ⟨Ga,4,none⟩=some (.int .i64 tc):=(ja ya.out 4).trans rfl;have aN:wc.cell? ⟨Ga,5,none⟩=some (.int .i64 xd):=(ja ya.out 5).trans rfl;have ZM:wc.cell? ⟨Ga,6,none⟩=some (.string Qd):=(ja ya.out 6).trans rfl;have EE:=aa ya.out 0;have DE:=aa ya.out 1;have CE:=aa ya.out 2;have AE:=aa ya.out 3;have zE:=aa ya.out 4;have kM:=aa ya.out 5;have jM:=aa ya.out 6;go_wp2
       go_meet
       case rel=>exact ⟨_,(false),(by first|rfl|(simp;done)|(simp [*];done)),H',⟨by have:=HJ5.out;first|omega|exact Nat.le_refl _⟩,⟨by (with_reducible repeat (first|refine Ca ?_ _|refine Ea ?_|refine Da ?_ _));exact ta.out⟩,⟨by (with_reducible repeat (first|refine Ca ?_ _|refine Ea ?_|refine Da ?_ _));exact ya.out⟩,⟨by repeat (first|(with_reducible first|exact HB.out|apply oa|apply ia|apply qa|refine ua ?_ Sa.out|refine ua ?_ uc.out)|exact HB.out)⟩⟩
      ·rw [if_neg FY] at H;have EY:(Qc == 4)=false:=beq_eq_false_iff_ne.mpr FY;have DY:(Qc != 4)=true:=bne_iff_ne.mpr FY;have H':=ga.mk H;clear H;have r9:=Cb.out;have W8:=Db.out;have CA:wc.cell? ⟨Ga,0,none⟩=some (.int .i64 Qc):=(ja ya.out 0).trans rfl;have BA:wc.cell? ⟨Ga,1,none⟩=some (.int .i64 Xb):=(ja ya.out 1).trans rfl;have AA:wc.cell? ⟨Ga,2,none⟩=some (.int .i64 Qb):=(ja ya.out 2).trans rfl;have zA:wc.cell? ⟨Ga,3,none⟩=some (.int .i64 Rb):=(ja ya.out 3).trans rfl;have yA:wc.cell? ⟨Ga,4,none⟩=some (.int .i64 tc):=(ja ya.out 4).trans rfl;have fW:wc.cell? ⟨Ga,5,none⟩=some (.int .i64 xd):=(ja ya.out 5).trans rfl;have eW:wc.cell? ⟨Ga,6,none⟩=some (.string Qd):=(ja ya.out 6).trans rfl;have eA:=aa ya.out 0;have dA:=aa ya.out 1;have cA:=aa ya.out 2;have bA:=aa ya.out 3;have aA:=aa ya.out 4;have QU:=aa ya.out 5;have PU:=aa ya.out 6;go_wp2
       go_meet
       case rel=>exact ⟨_,((tc != 0)),(by first|rfl|(simp;done)|(simp [*];done)),H',⟨by have:=HJ5.out;first|omega|exact Nat.le_refl _⟩,⟨by (with_reducible repeat (first|refine Ca ?_ _|refine Ea ?_|refine Da ?_ _));exact ta.out⟩,⟨by (with_reducible repeat (first|refine Ca ?_ _|refine Ea ?_|refine Da ?_ _));exact ya.out⟩,⟨by repeat (first|(with_reducible first|exact HB.out|apply oa|apply ia|apply qa|refine ua ?_ Sa.out|refine ua ?_ uc.out)|exact HB.out)⟩⟩
     ·rw [if_neg IY] at H;have HY:(Qd.toList == ([]:List UInt8))=false:=beq_eq_false_iff_ne.mpr IY;have GY:(Qd.toList != ([]:List UInt8))=true:=bne_iff_ne.mpr IY;have H':=ga.mk H;clear H;have o9:=Cb.out;have V8:=Db.out;have SM:wc.cell? ⟨Ga,0,none⟩=some (.int .i64 Qc):=(ja ya.out 0).trans rfl;have RM:wc.cell? ⟨Ga,1,none⟩=some (.int .i64 Xb):=(ja ya.out 1).trans rfl;have QM:wc.cell? ⟨Ga,2,none⟩=some (.int .i64 Qb):=(ja ya.out 2).trans rfl;have PM:wc.cell? ⟨Ga,3,none⟩=some (.int .i64 Rb):=(ja ya.out 3).trans rfl;have OM:wc.cell? ⟨Ga,4,none⟩=some (.int .i64 tc):=(ja ya.out 4).trans rfl;have YV:wc.cell? ⟨Ga,5,none⟩=some (.int .i64 xd):=(ja ya.out 5).trans rfl;have XV:wc.cell? ⟨Ga,6,none⟩=some (.string Qd):=(ja ya.out 6).trans rfl;have cM:=aa ya.out 0;have bM:=aa ya.out 1;have aM:=aa ya.out 2;have ZL:=aa ya.out 3;have YL:=aa ya.out 4;have JU:=aa ya.out 5;have IU:=aa ya.out 6;go_wp2
      go_meet
      case rel=>exact ⟨_,(true),(by first|rfl|(simp;done)|(simp [*];done)),H',⟨by have:=HJ5.out;first|omega|exact Nat.le_refl _⟩,⟨by (with_reducible repeat (first|refine Ca ?_ _|refine Ea ?_|refine Da ?_ _));exact ta.out⟩,⟨by (with_reducible repeat (first|refine Ca ?_ _|refine Ea ?_|refine Da ?_ _));exact ya.out⟩,⟨by repeat (first|(with_reducible first|exact HB.out|apply oa|apply ia|apply qa|refine ua ?_ Sa.out|refine ua ?_ uc.out)|exact HB.out)⟩⟩
   case rest =>
    clear o7
    try clear c1
    try clear c2
    try clear p2
    try clear c3
    try clear c4
    try clear p6
    try clear c8
    try clear c9
    try clear Fq
    try clear Yt
    try clear Qz
    try clear Bp
    try clear vn
    try clear uy
    try clear xp
    try clear qt
    try clear EG
    try clear N7
    try clear VA
    try clear ry
    try clear MY
    try clear Ez
    try clear uD
    try clear LY
    try clear FN
    try clear KI
    try clear IY
    try clear HY
    try clear GY
    try clear FY
    try clear EY
    try clear DY
    try clear G5
    try clear c39
    try clear c41
    try clear Wh
    try clear Vh
    try clear Uh
    try clear Th
    try clear Sh
    try clear oG
    try clear nG
    try clear gy
    try clear fy
    try clear ey
    try clear cy
    try clear ay
    try clear gG
    try clear fG
    try clear eG
    try clear dG
    try clear cG
    try clear vN
    try clear uN
    try clear bG
    try clear aG
    try clear ZF
    try clear YF
    try clear XF
    try clear Zx
    try clear Yx
    try clear Xx
    try clear Wx
    try clear Vx
    try clear tN
    try clear sN
    try clear gq
    try clear fq
    try clear cq
    try clear bq
    try clear aq
    try clear Qu
    try clear Pu
    try clear Ou
    try clear Nu
    try clear Mu
    try clear rN
    try clear qN
    try clear TA
    try clear SA
    try clear QA
    try clear PA
    try clear OA
    try clear pN
    try clear oN
    try clear VF
    try clear UF
    try clear SF
    try clear RF
    try clear QF
    try clear sW
    try clear rW
    try clear iN
    try clear gN
    try clear fN
    try clear eN
    try clear dN
    try clear cN
    try clear bN
    try clear JF
    try clear GF
    try clear FF
    try clear EF
    try clear DF
    try clear aN
    try clear ZM
    try clear CA
    try clear BA
    try clear AA
    try clear zA
    try clear yA
    try clear fW
    try clear eW
    try clear SM
    try clear RM
    try clear QM
    try clear PM
    try clear OM
    try clear YV
    try clear XV
    try clear Rh
    try clear Qh
    try clear Ph
    try clear Oh
    try clear Nh
    try clear mF
    try clear lF
    try clear Nx
    try clear Mx
    try clear Lx
    try clear Kx
    try clear Jx
    try clear eF
    try clear dF
    try clear cF
    try clear bF
    try clear ZE
    try clear GM
    try clear FM
    try clear YE
    try clear XE
    try clear WE
    try clear VE
    try clear UE
    try clear Ix
    try clear Hx
    try clear Gx
    try clear Fx
    try clear Ex
    try clear EM
    try clear DM
    try clear Tp
    try clear Sp
    try clear Rp
    try clear Qp
    try clear Pp
    try clear Bu
    try clear Au
    try clear zu
    try clear yu
    try clear xu
    try clear CM
    try clear BM
    try clear xA
    try clear vA
    try clear uA
    try clear tA
    try clear sA
    try clear zM
    try clear yM
    try clear SE
    try clear RE
    try clear QE
    try clear PE
    try clear OE
    try clear cV
    try clear bV
    try clear rM
    try clear qM
    try clear pM
    try clear oM
    try clear nM
    try clear mM
    try clear lM
    try clear EE
    try clear DE
    try clear CE
    try clear AE
    try clear zE
    try clear kM
    try clear jM
    try clear eA
    try clear dA
    try clear cA
    try clear bA
    try clear aA
    try clear QU
    try clear PU
    try clear cM
    try clear bM
    try clear aM
    try clear ZL
    try clear YL
    try clear JU
    try clear IU
    try clear p2
    try clear p6
    obtain ⟨kq,LD,rfl,HA,bay,ta,ya,HB⟩:=hcut;cases kq with
    | zero=>exact absurd HA.out (by simp [yb.j1])
    | succ sO =>
     have H:=HA.out;clear HA;simp only [yb.j1] at H
     by_cases EN:LD=true
     ·subst EN;have H1:(some false)=some r:=by rw [if_pos rfl] at H;exact H
      clear H;have H:=H1;clear H1;obtain rfl:=Option.some.inj H;go_wp2;go_ret;exact ⟨by first|rfl|(simp [Pa,Oa] <;> rfl)|(simp [*,Pa,Oa] <;> rfl),by repeat (first|(with_reducible first|exact HB.out|apply oa|apply ia|apply qa|refine ua ?_ Sa.out|refine ua ?_ uc.out)|exact HB.out)⟩
     ·replace EN:=Bool.eq_false_iff.mpr EN;subst EN;have H1:(if Qc=0 then (if t103=true then (if Qb=0 then (some (Rb == 0)) else (some false)) else (some false)) else (if Qc=1 then (if t103=true then (if t104=true then (if Rb=0 then (some (xd == 0)) else (some false)) else (some false)) else (some false)) else (if Qc=2 then (if t103=true then (if t104=true then (if t105=true then (if xd=0 then ((Qe.f sO (([(⟨#[61,61]⟩:ByteArray),(⟨#[60]⟩:ByteArray),(⟨#[38]⟩:ByteArray),(⟨#[43]⟩:ByteArray),(⟨#[45]⟩:ByteArray),(⟨#[42]⟩:ByteArray)]:List ByteArray)) Qd).bind fun t111=>(some t111)) else (some false)) else (some false)) else (some false)) else (some false)) else (if Qc=3 then (if t103=true then (some iH) else (some false)) else (if Qc=4 then (if Xb=0 then (if iH=true then ((Za.f tc 0 (wrap64 (Ka - 1))).bind fun t112=>(some t112)) else (some false)) else (some false)) else (if Qc=5 then (if t103=true then (if Qb=0 then (if Rb=0 then (some (xd == 0)) else (some false)) else (some false)) else (some false)) else (if Qc=6 then (if Xb=0 then (if t104=true then (if Rb=0 then (some (xd == 0)) else (some false)) else (some false)) else (some false)) else (some false))))))))=some r:=by rw [if_neg (show ¬ (false=true) by decide)] at H;exact H
      clear H;have H:=H1;clear H1
      by_cases aC:Qc=0
      ·rw [if_pos aC] at H;have GI:(Qc == 0)=true:=beq_iff_eq.mpr aC;have FI:(Qc != 0)=false:=bne_eq_false_iff_eq.mpr aC;clear aC
       by_cases DG:t103=true
       ·subst DG;have H1:(if Qb=0 then (some (Rb == 0)) else (some false))=some r:=by rw [if_pos rfl] at H;exact H
        clear H;have H:=H1;clear H1
        by_cases tD:Qb=0
        ·rw [if_pos tD] at H;have DN:(Qb == 0)=true:=beq_iff_eq.mpr tD;have XR:(Qb != 0)=false:=bne_eq_false_iff_eq.mpr tD;clear tD;obtain rfl:=Option.some.inj H;have cY:=Cb.out;have aY:=Db.out;have CF:wc.cell? ⟨Ga,0,none⟩=some (.int .i64 Qc):=(ja ya.out 0).trans rfl;have BF:wc.cell? ⟨Ga,1,none⟩=some (.int .i64 Xb):=(ja ya.out 1).trans rfl;have AF:wc.cell? ⟨Ga,2,none⟩=some (.int .i64 Qb):=(ja ya.out 2).trans rfl;have zF:wc.cell? ⟨Ga,3,none⟩=some (.int .i64 Rb):=(ja ya.out 3).trans rfl;have yF:wc.cell? ⟨Ga,4,none⟩=some (.int .i64 tc):=(ja ya.out 4).trans rfl;have LV:wc.cell? ⟨Ga,5,none⟩=some (.int .i64 xd):=(ja ya.out 5).trans rfl;have KV:wc.cell? ⟨Ga,6,none⟩=some (.string Qd):=(ja ya.out 6).trans rfl;have yE:=aa ya.out 0;have xE:=aa ya.out 1;have wE:=aa ya.out 2;have vE:=aa ya.out 3;have uE:=aa ya.out 4;have wU:=aa ya.out 5;have vU:=aa ya.out 6;go_wp2;go_ret;exact ⟨by first|rfl|(simp [Pa,Oa] <;> rfl)|(simp [*,Pa,Oa] <;> rfl),by repeat (first|(with_reducible first|exact HB.out|apply oa|apply ia|apply qa|refine ua ?_ Sa.out|refine ua ?_ uc.out)|exact HB.out)⟩
        ·rw [if_neg tD] at H;have DN:(Qb == 0)=false:=beq_eq_false_iff_ne.mpr tD;have XR:(Qb != 0)=true:=bne_iff_ne.mpr tD;obtain rfl:=Option.some.inj H;have vat:=Cb.out;have Fas:=Db.out;have EV:wc.cell? ⟨Ga,0,none⟩=some (.int .i64 Qc):=(ja ya.out 0).trans rfl;have DV:wc.cell? ⟨Ga,1,none⟩=some (.int .i64 Xb):=(ja ya.out 1).trans rfl;have CV:wc.cell? ⟨Ga,2,none⟩=some (.int .i64 Qb):=(ja ya.out 2).trans rfl;have BV:wc.cell? ⟨Ga,3,none⟩=some (.int .i64 Rb):=(ja ya.out 3).trans rfl;have AV:wc.cell? ⟨Ga,4,none⟩=some (.int .i64 tc):=(ja ya.out 4).trans rfl;have qal:wc.cell? ⟨Ga,5,none⟩=some (.int .i64 xd):=(ja ya.out 5).trans rfl;have pal:wc.cell? ⟨Ga,6,none⟩=some (.string Qd):=(ja ya.out 6).trans rfl;have pU:=aa ya.out 0;have oU:=aa ya.out 1;have nU:=aa ya.out 2;have mU:=aa ya.out 3;have lU:=aa ya.out 4;have Wah:=aa ya.out 5;have Vah:=aa ya.out 6;go_wp2;go_ret;exact ⟨by first|rfl|(simp [Pa,Oa] <;> rfl)|(simp [*,Pa,Oa] <;> rfl),by repeat (first|(with_reducible first|exact HB.out|apply oa|apply ia|apply qa|refine ua ?_ Sa.out|refine ua ?_ uc.out)|exact HB.out)⟩
       ·replace DG:=Bool.eq_false_iff.mpr DG;subst DG;have H1:(some false)=some r:=by rw [if_neg (show ¬ (false=true) by decide)] at H;exact H
        clear H;have H:=H1;clear H1;obtain rfl:=Option.some.inj H;have n9:=Cb.out;have U8:=Db.out;have NM:wc.cell? ⟨Ga,0,none⟩=some (.int .i64 Qc):=(ja ya.out 0).trans rfl;have MM:wc.cell? ⟨Ga,1,none⟩=some (.int .i64 Xb):=(ja ya.out 1).trans rfl;have LM:wc.cell? ⟨Ga,2,none⟩=some (.int .i64 Qb):=(ja ya.out 2).trans rfl;have KM:wc.cell? ⟨Ga,3,none⟩=some (.int .i64 Rb):=(ja ya.out 3).trans rfl;have JM:wc.cell? ⟨Ga,4,none⟩=some (.int .i64 tc):=(ja ya.out 4).trans rfl;have jal:wc.cell? ⟨Ga,5,none⟩=some (.int .i64 xd):=(ja ya.out 5).trans rfl;have ial:wc.cell? ⟨Ga,6,none⟩=some (.string Qd):=(ja ya.out 6).trans rfl;have XL:=aa ya.out 0;have WL:=aa ya.out 1;have VL:=aa ya.out 2;have UL:=aa ya.out 3;have TL:=aa ya.out 4;have Pah:=aa ya.out 5;have Oah:=aa ya.out 6;go_wp2;go_ret;exact ⟨by first|rfl|(simp [Pa,Oa] <;> rfl)|(simp [*,Pa,Oa] <;> rfl),by repeat (first|(with_reducible first|exact HB.out|apply oa|apply ia|apply qa|refine ua ?_ Sa.out|refine ua ?_ uc.out)|exact HB.out)⟩
      ·rw [if_neg aC] at H;have GI:(Qc == 0)=false:=beq_eq_false_iff_ne.mpr aC;have FI:(Qc != 0)=true:=bne_iff_ne.mpr aC
       by_cases rP:Qc=1
       ·rw [if_pos rP] at H;have AY:(Qc == 1)=true:=beq_iff_eq.mpr rP;have Iac:(Qc != 1)=false:=bne_eq_false_iff_eq.mpr rP;clear rP
        by_cases c54:t103=true
        ·subst c54;have H1:(if t104=true then (if Rb=0 then (some (xd == 0)) else (some false)) else (some false))=some r:=by rw [if_pos rfl] at H;exact H
         clear H;have H:=H1;clear H1
         by_cases c55:t104=true
         ·subst c55;have H1:(if Rb=0 then (some (xd == 0)) else (some false))=some r:=by rw [if_pos rfl] at H;exact H
          clear H;have H:=H1;clear H1
          by_cases F5:Rb=0
          ·rw [if_pos F5] at H;have Hac:(Rb == 0)=true:=beq_iff_eq.mpr F5;have Gac:(Rb != 0)=false:=bne_eq_false_iff_eq.mpr F5;clear F5;obtain rfl:=Option.some.inj H;have oat:=Cb.out;have Bas:=Db.out;have zV:wc.cell? ⟨Ga,0,none⟩=some (.int .i64 Qc):=(ja ya.out 0).trans rfl;have yV:wc.cell? ⟨Ga,1,none⟩=some (.int .i64 Xb):=(ja ya.out 1).trans rfl;have xV:wc.cell? ⟨Ga,2,none⟩=some (.int .i64 Qb):=(ja ya.out 2).trans rfl;have wV:wc.cell? ⟨Ga,3,none⟩=some (.int .i64 Rb):=(ja ya.out 3).trans rfl;have vV:wc.cell? ⟨Ga,4,none⟩=some (.int .i64 tc):=(ja ya.out 4).trans rfl;have Mak:wc.cell? ⟨Ga,5,none⟩=some (.int .i64 xd):=(ja ya.out 5).trans rfl;have Lak:wc.cell? ⟨Ga,6,none⟩=some (.string Qd):=(ja ya.out 6).trans rfl;have kU:=aa ya.out 0;have jU:=aa ya.out 1;have iU:=aa ya.out 2;have gU:=aa ya.out 3;have fU:=aa ya.out 4;have tah:=aa ya.out 5;have sah:=aa ya.out 6;go_wp2;go_ret;exact ⟨by first|rfl|(simp [Pa,Oa] <;> rfl)|(simp [*,Pa,Oa] <;> rfl),by repeat (first|(with_reducible first|exact HB.out|apply oa|apply ia|apply qa|refine ua ?_ Sa.out|refine ua ?_ uc.out)|exact HB.out)⟩
          ·rw [if_neg F5] at H;have Hac:(Rb == 0)=false:=beq_eq_false_iff_ne.mpr F5;have Gac:(Rb != 0)=true:=bne_iff_ne.mpr F5;obtain rfl:=Option.some.inj H;have mat:=Cb.out;have Aas:=Db.out;have Kak:wc.cell? ⟨Ga,0,none⟩=some (.int .i64 Qc):=(ja ya.out 0).trans rfl;have Jak:wc.cell? ⟨Ga,1,none⟩=some (.int .i64 Xb):=(ja ya.out 1).trans rfl;have Iak:wc.cell? ⟨Ga,2,none⟩=some (.int .i64 Qb):=(ja ya.out 2).trans rfl;have Hak:wc.cell? ⟨Ga,3,none⟩=some (.int .i64 Rb):=(ja ya.out 3).trans rfl;have Gak:wc.cell? ⟨Ga,4,none⟩=some (.int .i64 tc):=(ja ya.out 4).trans rfl;have Fak:wc.cell? ⟨Ga,5,none⟩=some (.int .i64 xd):=(ja ya.out 5).trans rfl;have Eak:wc.cell? ⟨Ga,6,none⟩=some (.string Qd):=(ja ya.out 6).trans rfl;have rah:=aa ya.out 0;have qah:=aa ya.out 1;have pah:=aa ya.out 2;have oah:=aa ya.out 3;have nah:=aa ya.out 4;have mah:=aa ya.out 5;have lah:=aa ya.out 6;go_wp2;go_ret;exact ⟨by first|rfl|(simp [Pa,Oa] <;> rfl)|(simp [*,Pa,Oa] <;> rfl),by repeat (first|(with_reducible first|exact HB.out|apply oa|apply ia|apply qa|refine ua ?_ Sa.out|refine ua ?_ uc.out)|exact HB.out)⟩
         ·replace c55:=Bool.eq_false_iff.mpr c55;subst c55;have H1:(some false)=some r:=by rw [if_neg (show ¬ (false=true) by decide)] at H;exact H
          clear H;have H:=H1;clear H1;obtain rfl:=Option.some.inj H;have lat:=Cb.out;have zas:=Db.out;have Dak:wc.cell? ⟨Ga,0,none⟩=some (.int .i64 Qc):=(ja ya.out 0).trans rfl;have Cak:wc.cell? ⟨Ga,1,none⟩=some (.int .i64 Xb):=(ja ya.out 1).trans rfl;have Bak:wc.cell? ⟨Ga,2,none⟩=some (.int .i64 Qb):=(ja ya.out 2).trans rfl;have Aak:wc.cell? ⟨Ga,3,none⟩=some (.int .i64 Rb):=(ja ya.out 3).trans rfl;have zak:wc.cell? ⟨Ga,4,none⟩=some (.int .i64 tc):=(ja ya.out 4).trans rfl;have yak:wc.cell? ⟨Ga,5,none⟩=some (.int .i64 xd):=(ja ya.out 5).trans rfl;have xak:wc.cell? ⟨Ga,6,none⟩=some (.string Qd):=(ja ya.out 6).trans rfl;have kah:=aa ya.out 0;have jah:=aa ya.out 1;have iah:=aa ya.out 2;have hah:=aa ya.out 3;have gah:=aa ya.out 4;have fah:=aa ya.out 5;have eah:=aa ya.out 6;go_wp2;go_ret;exact ⟨by first|rfl|(simp [Pa,Oa] <;> rfl)|(simp [*,Pa,Oa] <;> rfl),by repeat (first|(with_reducible first|exact HB.out|apply oa|apply ia|apply qa|refine ua ?_ Sa.out|refine ua ?_ uc.out)|exact HB.out)⟩
        ·replace c54:=Bool.eq_false_iff.mpr c54;subst c54;have H1:(some false)=some r:=by rw [if_neg (show ¬ (false=true) by decide)] at H;exact H
         clear H;have H:=H1;clear H1;obtain rfl:=Option.some.inj H;have kat:=Cb.out;have yas:=Db.out;have wak:wc.cell? ⟨Ga,0,none⟩=some (.int .i64 Qc):=(ja ya.out 0).trans rfl;have vak:wc.cell? ⟨Ga,1,none⟩=some (.int .i64 Xb):=(ja ya.out 1).trans rfl;have uak:wc.cell? ⟨Ga,2,none⟩=some (.int .i64 Qb):=(ja ya.out 2).trans rfl;have tak:wc.cell? ⟨Ga,3,none⟩=some (.int .i64 Rb):=(ja ya.out 3).trans rfl;have sak:wc.cell? ⟨Ga,4,none⟩=some (.int .i64 tc):=(ja ya.out 4).trans rfl;have rak:wc.cell? ⟨Ga,5,none⟩=some (.int .i64 xd):=(ja ya.out 5).trans rfl;have qak:wc.cell? ⟨Ga,6,none⟩=some (.string Qd):=(ja ya.out 6).trans rfl;have dah:=aa ya.out 0;have cah:=aa ya.out 1;have bah:=aa ya.out 2;have aah:=aa ya.out 3;have Zag:=aa ya.out 4;have Yag:=aa ya.out 5;have Xag:=aa ya.out 6;go_wp2;go_ret;exact ⟨by first|rfl|(simp [Pa,Oa] <;> rfl)|(simp [*,Pa,Oa] <;> rfl),by repeat (first|(with_reducible first|exact HB.out|apply oa|apply ia|apply qa|refine ua ?_ Sa.out|refine ua ?_ uc.out)|exact HB.out)⟩
       ·rw [if_neg rP] at H;have AY:(Qc == 1)=false:=beq_eq_false_iff_ne.mpr rP;have Iac:(Qc != 1)=true:=bne_iff_ne.mpr rP
        by_cases E5:Qc=2
        ·rw [if_pos E5] at H;have Fac:(Qc == 2)=true:=beq_iff_eq.mpr E5;have Eac:(Qc != 2)=false:=bne_eq_false_iff_eq.mpr E5;clear E5
         by_cases c66:t103=true
         ·subst c66;have H1:(if t104=true then (if t105=true then (if xd=0 then ((Qe.f sO (([(⟨#[61,61]⟩:ByteArray),(⟨#[60]⟩:ByteArray),(⟨#[38]⟩:ByteArray),(⟨#[43]⟩:ByteArray),(⟨#[45]⟩:ByteArray),(⟨#[42]⟩:ByteArray)]:List ByteArray)) Qd).bind fun t111=>(some t111)) else (some false)) else (some false)) else (some false))=some r:=by rw [if_pos rfl] at H;exact H
          clear H;have H:=H1;clear H1
          by_cases c67:t104=true
          ·subst c67;have H1:(if t105=true then (if xd=0 then ((Qe.f sO (([(⟨#[61,61]⟩:ByteArray),(⟨#[60]⟩:ByteArray),(⟨#[38]⟩:ByteArray),(⟨#[43]⟩:ByteArray),(⟨#[45]⟩:ByteArray),(⟨#[42]⟩:ByteArray)]:List ByteArray)) Qd).bind fun t111=>(some t111)) else (some false)) else (some false))=some r:=by rw [if_pos rfl] at H;exact H
           clear H;have H:=H1;clear H1
           by_cases c68:t105=true
           ·subst c68;have H1:(if xd=0 then ((Qe.f sO (([(⟨#[61,61]⟩:ByteArray),(⟨#[60]⟩:ByteArray),(⟨#[38]⟩:ByteArray),(⟨#[43]⟩:ByteArray),(⟨#[45]⟩:ByteArray),(⟨#[42]⟩:ByteArray)]:List ByteArray)) Qd).bind fun t111=>(some t111)) else (some false))=some r:=by rw [if_pos rfl] at H;exact H
            clear H;have H:=H1;clear H1
            by_cases D5:xd=0
            ·rw [if_pos D5] at H;have Dac:(xd == 0)=true:=beq_iff_eq.mpr D5;have Cac:(xd != 0)=false:=bne_eq_false_iff_eq.mpr D5;clear D5;obtain ⟨fB,Yj⟩:∃ y_:List ByteArray,y_=(([(⟨#[61,61]⟩:ByteArray),(⟨#[60]⟩:ByteArray),(⟨#[38]⟩:ByteArray),(⟨#[43]⟩:ByteArray),(⟨#[45]⟩:ByteArray),(⟨#[42]⟩:ByteArray)]:List ByteArray)):=⟨_,rfl⟩;replace H:((Qe.f sO fB Qd).bind fun t111=>(some t111))=some r:=by first|(rw [Yj];with_reducible exact H)|(have Md:=(Option.bind_some _ _).symm.trans H;rw [Yj];with_reducible exact Md)|(have Md:=(Option.bind_some _ _).symm.trans H;with_reducible exact Md)|with_reducible exact H|(rw [Yj];exact H)|exact H
             have Pv:=ga.mk Yj;clear Yj;replace H:=Option.bind_eq_some_iff.mp H;obtain ⟨t111,Wae,H⟩:=H;replace H:(some t111)=some r:=H;have mP:=ga.mk Wae;clear Wae;obtain rfl:=Option.some.inj H;have jat:=Cb.out;have xas:=Db.out;have pak:wc.cell? ⟨Ga,0,none⟩=some (.int .i64 Qc):=(ja ya.out 0).trans rfl;have oak:wc.cell? ⟨Ga,1,none⟩=some (.int .i64 Xb):=(ja ya.out 1).trans rfl;have nak:wc.cell? ⟨Ga,2,none⟩=some (.int .i64 Qb):=(ja ya.out 2).trans rfl;have mak:wc.cell? ⟨Ga,3,none⟩=some (.int .i64 Rb):=(ja ya.out 3).trans rfl;have lak:wc.cell? ⟨Ga,4,none⟩=some (.int .i64 tc):=(ja ya.out 4).trans rfl;have kak:wc.cell? ⟨Ga,5,none⟩=some (.int .i64 xd):=(ja ya.out 5).trans rfl;have jak:wc.cell? ⟨Ga,6,none⟩=some (.string Qd):=(ja ya.out 6).trans rfl;have Wag:=aa ya.out 0;have Vag:=aa ya.out 1;have Uag:=aa ya.out 2;have Sag:=aa ya.out 3;have Rag:=aa ya.out 4;have Qag:=aa ya.out 5;have Pag:=aa ya.out 6;go_wp2_with (first|((with_reducible refine Ab (N:=109) rfl ?_);(try (refine Me (by rfl) ?_;dsimp only));refine Kd.vk Kd.string _ 9 ?hg (N:=109) ?hd (xs:=([(⟨#[61,61]⟩:ByteArray),(⟨#[60]⟩:ByteArray),(⟨#[38]⟩:ByteArray),(⟨#[43]⟩:ByteArray),(⟨#[45]⟩:ByteArray),(⟨#[42]⟩:ByteArray)]:List ByteArray)) (inner:=[.string (⟨#[61,61]⟩:ByteArray),.string (⟨#[60]⟩:ByteArray),.string (⟨#[38]⟩:ByteArray),.string (⟨#[43]⟩:ByteArray),.string (⟨#[45]⟩:ByteArray),.string (⟨#[42]⟩:ByteArray)]) (ok:=fun _=>True) (Jh:=fun _=>True) ?hr ?hp (fun _ hk=>hk) trivial (Below.refl _ _) (Nat.le_refl _) (by simp) ?_;(case hd=>rfl);(case hg=>rfl);(case hr=>first|(go_simp;done)|(go_simp;rfl));(case hp=>exact (Sd.one (show Kd.M Kd.string _ _ _ (⟨#[61,61]⟩:ByteArray) [.string (⟨#[61,61]⟩:ByteArray)] from rfl) (Sd.one (show Kd.M Kd.string _ _ _ (⟨#[60]⟩:ByteArray) [.string (⟨#[60]⟩:ByteArray)] from rfl) (Sd.one (show Kd.M Kd.string _ _ _ (⟨#[38]⟩:ByteArray) [.string (⟨#[38]⟩:ByteArray)] from rfl) (Sd.one (show Kd.M Kd.string _ _ _ (⟨#[43]⟩:ByteArray) [.string (⟨#[43]⟩:ByteArray)] from rfl) (Sd.one (show Kd.M Kd.string _ _ _ (⟨#[45]⟩:ByteArray) [.string (⟨#[45]⟩:ByteArray)] from rfl) (Sd.one (show Kd.M Kd.string _ _ _ (⟨#[42]⟩:ByteArray) [.string (⟨#[42]⟩:ByteArray)] from rfl) (Sd.none _ _))))))));intro v109 NZ GQ hb Ol Re;clear Ol Re;(first|rw [← Pv.out] at GQ|(simp only [Int.reduceToNat] at GQ;rw [← Pv.out] at GQ));have Eb:=ga.mk (Kd.Fe GQ (Ja (by repeat (first|(with_reducible first|exact HB.out|apply oa|apply ia|apply qa|refine ua ?_ Sa.out|refine ua ?_ uc.out)|exact HB.out))));have Ib:=ga.mk (Wa (g:=za) (o:=.cells #[.slice qb Ma.length mb,.int .i64 La,.int .i64 Na,.int .i64 Ka,.slice Lb Fa.length Fb] 45 (0,0)) (by (with_reducible repeat (first|refine Ca ?_ _|refine Ea ?_|refine Da ?_ _));exact ta.out) hb);have Sb:=ga.mk (Wa (g:=Ga) (o:=.cells #[.int .i64 Qc,.int .i64 Xb,.int .i64 Qb,.int .i64 Rb,.int .i64 tc,.int .i64 xd,.string Qd] 122 (0,0)) (by (with_reducible repeat (first|refine Ca ?_ _|refine Ea ?_|refine Da ?_ _));exact ya.out) hb);have yc:=ga.mk (Qa (by repeat (first|(with_reducible first|exact HB.out|apply oa|apply ia|apply qa|refine ua ?_ Sa.out|refine ua ?_ uc.out)|exact HB.out)) hb);clear ta ya HB;have Us:=Eb;have ta:=Ib;have ya:=Sb;have HB:=yc;clear Eb Ib Sb yc hb GQ;have iak:NZ.cell? ⟨Ga,0,none⟩=some (.int .i64 Qc):=(ja ya.out 0).trans rfl;have hak:NZ.cell? ⟨Ga,1,none⟩=some (.int .i64 Xb):=(ja ya.out 1).trans rfl;have gak:NZ.cell? ⟨Ga,2,none⟩=some (.int .i64 Qb):=(ja ya.out 2).trans rfl;have fak:NZ.cell? ⟨Ga,3,none⟩=some (.int .i64 Rb):=(ja ya.out 3).trans rfl;have eak:NZ.cell? ⟨Ga,4,none⟩=some (.int .i64 tc):=(ja ya.out 4).trans rfl;have dak:NZ.cell? ⟨Ga,5,none⟩=some (.int .i64 xd):=(ja ya.out 5).trans rfl;have cak:NZ.cell? ⟨Ga,6,none⟩=some (.string Qd):=(ja ya.out 6).trans rfl;have Oag:=aa ya.out 0;have Nag:=aa ya.out 1;have Mag:=aa ya.out 2;have Lag:=aa ya.out 3;have Kag:=aa ya.out 4;have Jag:=aa ya.out 5;have Iag:=aa ya.out 6;obtain ⟨tay,tax,Nap⟩:=Kd.Nd Us.out;subst Nap)|(go_at_call 135;(with_reducible refine (Qe.calls sO _ _ fB Qd t111 _ ?Fc ?Ec mP.out).mono ?_);(case Fc=>repeat (first|exact (Kd.Jb Us.out).2.2|(with_reducible refine Kd.Ub ?_ _)|(with_reducible refine Kd.Tb ?_ _)|(with_reducible refine Kd.mc ?_)));(case Ec=>exact (Kd.Jb Us.out).2.1);rintro e w' ⟨rfl,⟨nd,rfl⟩⟩));go_ret;exact ⟨by first|rfl|(simp [Pa,Oa] <;> rfl)|(simp [*,Pa,Oa] <;> rfl),by repeat (first|(with_reducible first|exact HB.out|apply oa|apply ia|apply qa|refine ua ?_ Sa.out|refine ua ?_ uc.out)|exact HB.out)⟩
            ·rw [if_neg D5] at H;have Dac:(xd == 0)=false:=beq_eq_false_iff_ne.mpr D5;have Cac:(xd != 0)=true:=bne_iff_ne.mpr D5;obtain rfl:=Option.some.inj H;have iat:=Cb.out;have vas:=Db.out;have bak:wc.cell? ⟨Ga,0,none⟩=some (.int .i64 Qc):=(ja ya.out 0).trans rfl;have aak:wc.cell? ⟨Ga,1,none⟩=some (.int .i64 Xb):=(ja ya.out 1).trans rfl;have Zaj:wc.cell? ⟨Ga,2,none⟩=some (.int .i64 Qb):=(ja ya.out 2).trans rfl;have Yaj:wc.cell? ⟨Ga,3,none⟩=some (.int .i64 Rb):=(ja ya.out 3).trans rfl;have Xaj:wc.cell? ⟨Ga,4,none⟩=some (.int .i64 tc):=(ja ya.out 4).trans rfl;have Waj:wc.cell? ⟨Ga,5,none⟩=some (.int .i64 xd):=(ja ya.out 5).trans rfl;have Vaj:wc.cell? ⟨Ga,6,none⟩=some (.string Qd):=(ja ya.out 6).trans rfl;have Hag:=aa ya.out 0;have Gag:=aa ya.out 1;have Fag:=aa ya.out 2;have Eag:=aa ya.out 3;have Dag:=aa ya.out 4;have Cag:=aa ya.out 5;have Bag:=aa ya.out 6;go_wp2;go_ret;exact ⟨by first|rfl|(simp [Pa,Oa] <;> rfl)|(simp [*,Pa,Oa] <;> rfl),by repeat (first|(with_reducible first|exact HB.out|apply oa|apply ia|apply qa|refine ua ?_ Sa.out|refine ua ?_ uc.out)|exact HB.out)⟩
           ·replace c68:=Bool.eq_false_iff.mpr c68;subst c68;have H1:(some false)=some r:=by rw [if_neg (show ¬ (false=true) by decide)] at H;exact H
            clear H;have H:=H1;clear H1;obtain rfl:=Option.some.inj H;have gat:=Cb.out;have uas:=Db.out;have Uaj:wc.cell? ⟨Ga,0,none⟩=some (.int .i64 Qc):=(ja ya.out 0).trans rfl;have Taj:wc.cell? ⟨Ga,1,none⟩=some (.int .i64 Xb):=(ja ya.out 1).trans rfl;have Saj:wc.cell? ⟨Ga,2,none⟩=some (.int .i64 Qb):=(ja ya.out 2).trans rfl;have Raj:wc.cell? ⟨Ga,3,none⟩=some (.int .i64 Rb):=(ja ya.out 3).trans rfl;have Qaj:wc.cell? ⟨Ga,4,none⟩=some (.int .i64 tc):=(ja ya.out 4).trans rfl;have Paj:wc.cell? ⟨Ga,5,none⟩=some (.int .i64 xd):=(ja ya.out 5).trans rfl;have Oaj:wc.cell? ⟨Ga,6,none⟩=some (.string Qd):=(ja ya.out 6).trans rfl;have Aag:=aa ya.out 0;have zag:=aa ya.out 1;have yag:=aa ya.out 2;have xag:=aa ya.out 3;have wag:=aa ya.out 4;have vag:=aa ya.out 5;have uag:=aa ya.out 6;go_wp2;go_ret;exact ⟨by first|rfl|(simp [Pa,Oa] <;> rfl)|(simp [*,Pa,Oa] <;> rfl),by repeat (first|(with_reducible first|exact HB.out|apply oa|apply ia|apply qa|refine ua ?_ Sa.out|refine ua ?_ uc.out)|exact HB.out)⟩
          ·replace c67:=Bool.eq_false_iff.mpr c67;subst c67;have H1:(some false)=some r:=by rw [if_neg (show ¬ (false=true) by decide)] at H;exact H
           clear H;have H:=H1;clear H1;obtain rfl:=Option.some.inj H;have fat:=Cb.out;have tas:=Db.out;have Naj:wc.cell? ⟨Ga,0,none⟩=some (.int .i64 Qc):=(ja ya.out 0).trans rfl;have Maj:wc.cell? ⟨Ga,1,none⟩=some (.int .i64 Xb):=(ja ya.out 1).trans rfl;have Laj:wc.cell? ⟨Ga,2,none⟩=some (.int .i64 Qb):=(ja ya.out 2).trans rfl;have Kaj:wc.cell? ⟨Ga,3,none⟩=some (.int .i64 Rb):=(ja ya.out 3).trans rfl;have Jaj:wc.cell? ⟨Ga,4,none⟩=some (.int .i64 tc):=(ja ya.out 4).trans rfl;have Iaj:wc.cell? ⟨Ga,5,none⟩=some (.int .i64 xd):=(ja ya.out 5).trans rfl;have Haj:wc.cell? ⟨Ga,6,none⟩=some (.string Qd):=(ja ya.out 6).trans rfl;have sag:=aa ya.out 0;have rag:=aa ya.out 1;have qag:=aa ya.out 2;have pag:=aa ya.out 3;have oag:=aa ya.out 4;have nag:=aa ya.out 5;have lag:=aa ya.out 6;go_wp2;go_ret;exact ⟨by first|rfl|(simp [Pa,Oa] <;> rfl)|(simp [*,Pa,Oa] <;> rfl),by repeat (first|(with_reducible first|exact HB.out|apply oa|apply ia|apply qa|refine ua ?_ Sa.out|refine ua ?_ uc.out)|exact HB.out)⟩
         ·replace c66:=Bool.eq_false_iff.mpr c66;subst c66;have H1:(some false)=some r:=by rw [if_neg (show ¬ (false=true) by decide)] at H;exact H
          clear H;have H:=H1;clear H1;obtain rfl:=Option.some.inj H;have eat:=Cb.out;have sas:=Db.out;have Gaj:wc.cell? ⟨Ga,0,none⟩=some (.int .i64 Qc):=(ja ya.out 0).trans rfl;have Faj:wc.cell? ⟨Ga,1,none⟩=some (.int .i64 Xb):=(ja ya.out 1).trans rfl;have Eaj:wc.cell? ⟨Ga,2,none⟩=some (.int .i64 Qb):=(ja ya.out 2).trans rfl;have Daj:wc.cell? ⟨Ga,3,none⟩=some (.int .i64 Rb):=(ja ya.out 3).trans rfl;have Caj:wc.cell? ⟨Ga,4,none⟩=some (.int .i64 tc):=(ja ya.out 4).trans rfl;have Baj:wc.cell? ⟨Ga,5,none⟩=some (.int .i64 xd):=(ja ya.out 5).trans rfl;have Aaj:wc.cell? ⟨Ga,6,none⟩=some (.string Qd):=(ja ya.out 6).trans rfl;have kag:=aa ya.out 0;have jag:=aa ya.out 1;have iag:=aa ya.out 2;have hag:=aa ya.out 3;have gag:=aa ya.out 4;have fag:=aa ya.out 5;have eag:=aa ya.out 6;go_wp2;go_ret;exact ⟨by first|rfl|(simp [Pa,Oa] <;> rfl)|(simp [*,Pa,Oa] <;> rfl),by repeat (first|(with_reducible first|exact HB.out|apply oa|apply ia|apply qa|refine ua ?_ Sa.out|refine ua ?_ uc.out)|exact HB.out)⟩
        ·rw [if_neg E5] at H;have Fac:(Qc == 2)=false:=beq_eq_false_iff_ne.mpr E5;have Eac:(Qc != 2)=true:=bne_iff_ne.mpr E5
         by_cases C5:Qc=3
         ·rw [if_pos C5] at H;have Bac:(Qc == 3)=true:=beq_iff_eq.mpr C5;have Aac:(Qc != 3)=false:=bne_eq_false_iff_eq.mpr C5;clear C5
          by_cases c86:t103=true
          ·subst c86;have H1:(some iH)=some r:=by rw [if_pos rfl] at H;exact H
           clear H;have H:=H1;clear H1;obtain rfl:=Option.some.inj H;have bat:=Cb.out;have ras:=Db.out;have zaj:wc.cell? ⟨Ga,0,none⟩=some (.int .i64 Qc):=(ja ya.out 0).trans rfl;have yaj:wc.cell? ⟨Ga,1,none⟩=some (.int .i64 Xb):=(ja ya.out 1).trans rfl;have xaj:wc.cell? ⟨Ga,2,none⟩=some (.int .i64 Qb):=(ja ya.out 2).trans rfl;have waj:wc.cell? ⟨Ga,3,none⟩=some (.int .i64 Rb):=(ja ya.out 3).trans rfl;have vaj:wc.cell? ⟨Ga,4,none⟩=some (.int .i64 tc):=(ja ya.out 4).trans rfl;have uaj:wc.cell? ⟨Ga,5,none⟩=some (.int .i64 xd):=(ja ya.out 5).trans rfl;have taj:wc.cell? ⟨Ga,6,none⟩=some (.string Qd):=(ja ya.out 6).trans rfl;have dag:=aa ya.out 0;have cag:=aa ya.out 1;have bag:=aa ya.out 2;have aag:=aa ya.out 3;have Zaf:=aa ya.out 4;have Yaf:=aa ya.out 5;have Xaf:=aa ya.out 6;go_wp2;go_ret;exact ⟨by first|rfl|(simp [Pa,Oa] <;> rfl)|(simp [*,Pa,Oa] <;> rfl),by repeat (first|(with_reducible first|exact HB.out|apply oa|apply ia|apply qa|refine ua ?_ Sa.out|refine ua ?_ uc.out)|exact HB.out)⟩
          ·replace c86:=Bool.eq_false_iff.mpr c86;subst c86;have H1:(some false)=some r:=by rw [if_neg (show ¬ (false=true) by decide)] at H;exact H
           clear H;have H:=H1;clear H1;obtain rfl:=Option.some.inj H;have aat:=Cb.out;have qas:=Db.out;have saj:wc.cell? ⟨Ga,0,none⟩=some (.int .i64 Qc):=(ja ya.out 0).trans rfl;have raj:wc.cell? ⟨Ga,1,none⟩=some (.int .i64 Xb):=(ja ya.out 1).trans rfl;have qaj:wc.cell? ⟨Ga,2,none⟩=some (.int .i64 Qb):=(ja ya.out 2).trans rfl;have paj:wc.cell? ⟨Ga,3,none⟩=some (.int .i64 Rb):=(ja ya.out 3).trans rfl;have oaj:wc.cell? ⟨Ga,4,none⟩=some (.int .i64 tc):=(ja ya.out 4).trans rfl;have naj:wc.cell? ⟨Ga,5,none⟩=some (.int .i64 xd):=(ja ya.out 5).trans rfl;have maj:wc.cell? ⟨Ga,6,none⟩=some (.string Qd):=(ja ya.out 6).trans rfl;have Waf:=aa ya.out 0;have Vaf:=aa ya.out 1;have Uaf:=aa ya.out 2;have Taf:=aa ya.out 3;have Saf:=aa ya.out 4;have Raf:=aa ya.out 5;have Qaf:=aa ya.out 6;go_wp2;go_ret;exact ⟨by first|rfl|(simp [Pa,Oa] <;> rfl)|(simp [*,Pa,Oa] <;> rfl),by repeat (first|(with_reducible first|exact HB.out|apply oa|apply ia|apply qa|refine ua ?_ Sa.out|refine ua ?_ uc.out)|exact HB.out)⟩
         ·rw [if_neg C5] at H;have Bac:(Qc == 3)=false:=beq_eq_false_iff_ne.mpr C5;have Aac:(Qc != 3)=true:=bne_iff_ne.mpr C5
          by_cases B5:Qc=4
          ·rw [if_pos B5] at H;have zac:(Qc == 4)=true:=beq_iff_eq.mpr B5;have yac:(Qc != 4)=false:=bne_eq_false_iff_eq.mpr B5;clear B5
           by_cases o5:Xb=0
           ·rw [if_pos o5] at H;have xac:(Xb == 0)=true:=beq_iff_eq.mpr o5;have wac:(Xb != 0)=false:=bne_eq_false_iff_eq.mpr o5;clear o5
            by_cases c93:iH=true
            ·subst c93;have H1:((Za.f tc 0 (wrap64 (Ka - 1))).bind fun t112=>(some t112))=some r:=by rw [if_pos rfl] at H;exact H
             clear H;have H:=H1;clear H1;replace H:=Option.bind_eq_some_iff.mp H;obtain ⟨t112,Vae,H⟩:=H;replace H:(some t112)=some r:=H;have A94:=ga.mk Vae;clear Vae;obtain rfl:=Option.some.inj H;have Zas:=Cb.out;have pas:=Db.out;have laj:wc.cell? ⟨Ga,0,none⟩=some (.int .i64 Qc):=(ja ya.out 0).trans rfl;have kaj:wc.cell? ⟨Ga,1,none⟩=some (.int .i64 Xb):=(ja ya.out 1).trans rfl;have jaj:wc.cell? ⟨Ga,2,none⟩=some (.int .i64 Qb):=(ja ya.out 2).trans rfl;have iaj:wc.cell? ⟨Ga,3,none⟩=some (.int .i64 Rb):=(ja ya.out 3).trans rfl;have gaj:wc.cell? ⟨Ga,4,none⟩=some (.int .i64 tc):=(ja ya.out 4).trans rfl;have faj:wc.cell? ⟨Ga,5,none⟩=some (.int .i64 xd):=(ja ya.out 5).trans rfl;have eaj:wc.cell? ⟨Ga,6,none⟩=some (.string Qd):=(ja ya.out 6).trans rfl;have Paf:=aa ya.out 0;have Oaf:=aa ya.out 1;have Naf:=aa ya.out 2;have Maf:=aa ya.out 3;have Laf:=aa ya.out 4;have Kaf:=aa ya.out 5;have Jaf:=aa ya.out 6;have daj:wc.cell? ⟨za,0,none⟩=some (.slice qb Ma.length mb):=(ja ta.out 0).trans rfl;have caj:wc.cell? ⟨za,1,none⟩=some (.int .i64 La):=(ja ta.out 1).trans rfl;have baj:wc.cell? ⟨za,2,none⟩=some (.int .i64 Na):=(ja ta.out 2).trans rfl;have aaj:wc.cell? ⟨za,3,none⟩=some (.int .i64 Ka):=(ja ta.out 3).trans rfl;have Zai:wc.cell? ⟨za,4,none⟩=some (.slice Lb Fa.length Fb):=(ja ta.out 4).trans rfl;have Iaf:=aa ta.out 0;have Haf:=aa ta.out 1;have Gaf:=aa ta.out 2;have Faf:=aa ta.out 3;have Eaf:=aa ta.out 4;go_wp2_with (first|(go_at_call 81;(with_reducible refine (Za.calls tc 0 (wrap64 (Ka - 1)) t112 _ A94.out).mono ?_);rintro e w' ⟨rfl,⟨nd,rfl⟩⟩));go_ret;exact ⟨by first|rfl|(simp [Pa,Oa] <;> rfl)|(simp [*,Pa,Oa] <;> rfl),by repeat (first|(with_reducible first|exact HB.out|apply oa|apply ia|apply qa|refine ua ?_ Sa.out|refine ua ?_ uc.out)|exact HB.out)⟩
            ·replace c93:=Bool.eq_false_iff.mpr c93;subst c93;have H1:(some false)=some r:=by rw [if_neg (show ¬ (false=true) by decide)] at H;exact H
             clear H;have H:=H1;clear H1;obtain rfl:=Option.some.inj H;have Yas:=Cb.out;have oas:=Db.out;have Yai:wc.cell? ⟨Ga,0,none⟩=some (.int .i64 Qc):=(ja ya.out 0).trans rfl;have Xai:wc.cell? ⟨Ga,1,none⟩=some (.int .i64 Xb):=(ja ya.out 1).trans rfl;have Wai:wc.cell? ⟨Ga,2,none⟩=some (.int .i64 Qb):=(ja ya.out 2).trans rfl;have Vai:wc.cell? ⟨Ga,3,none⟩=some (.int .i64 Rb):=(ja ya.out 3).trans rfl;have Uai:wc.cell? ⟨Ga,4,none⟩=some (.int .i64 tc):=(ja ya.out 4).trans rfl;have Tai:wc.cell? ⟨Ga,5,none⟩=some (.int .i64 xd):=(ja ya.out 5).trans rfl;have Sai:wc.cell? ⟨Ga,6,none⟩=some (.string Qd):=(ja ya.out 6).trans rfl;have Daf:=aa ya.out 0;have Caf:=aa ya.out 1;have Baf:=aa ya.out 2;have Aaf:=aa ya.out 3;have zaf:=aa ya.out 4;have yaf:=aa ya.out 5;have xaf:=aa ya.out 6;go_wp2;go_ret;exact ⟨by first|rfl|(simp [Pa,Oa] <;> rfl)|(simp [*,Pa,Oa] <;> rfl),by repeat (first|(with_reducible first|exact HB.out|apply oa|apply ia|apply qa|refine ua ?_ Sa.out|refine ua ?_ uc.out)|exact HB.out)⟩
           ·rw [if_neg o5] at H;have xac:(Xb == 0)=false:=beq_eq_false_iff_ne.mpr o5;have wac:(Xb != 0)=true:=bne_iff_ne.mpr o5;obtain rfl:=Option.some.inj H;have Gao:=Cb.out;have sao:=Db.out;have Nab:wc.cell? ⟨Ga,0,none⟩=some (.int .i64 Qc):=(ja ya.out 0).trans rfl;have Mab:wc.cell? ⟨Ga,1,none⟩=some (.int .i64 Xb):=(ja ya.out 1).trans rfl;have Lab:wc.cell? ⟨Ga,2,none⟩=some (.int .i64 Qb):=(ja ya.out 2).trans rfl;have Kab:wc.cell? ⟨Ga,3,none⟩=some (.int .i64 Rb):=(ja ya.out 3).trans rfl;have Jab:wc.cell? ⟨Ga,4,none⟩=some (.int .i64 tc):=(ja ya.out 4).trans rfl;have Iab:wc.cell? ⟨Ga,5,none⟩=some (.int .i64 xd):=(ja ya.out 5).trans rfl;have Hab:wc.cell? ⟨Ga,6,none⟩=some (.string Qd):=(ja ya.out 6).trans rfl;have oaa:=aa ya.out 0;have naa:=aa ya.out 1;have maa:=aa ya.out 2;have laa:=aa ya.out 3;have kaa:=aa ya.out 4;have jaa:=aa ya.out 5;have iaa:=aa ya.out 6;go_wp2;go_ret;exact ⟨by first|rfl|(simp [Pa,Oa] <;> rfl)|(simp [*,Pa,Oa] <;> rfl),by repeat (first|(with_reducible first|exact HB.out|apply oa|apply ia|apply qa|refine ua ?_ Sa.out|refine ua ?_ uc.out)|exact HB.out)⟩
          ·rw [if_neg B5] at H;have zac:(Qc == 4)=false:=beq_eq_false_iff_ne.mpr B5;have yac:(Qc != 4)=true:=bne_iff_ne.mpr B5
           by_cases LK:Qc=5
           ·rw [if_pos LK] at H;have V5:(Qc == 5)=true:=beq_iff_eq.mpr LK;have U5:(Qc != 5)=false:=bne_eq_false_iff_eq.mpr LK;clear LK
            by_cases cX:t103=true
            ·subst cX;have H1:(if Qb=0 then (if Rb=0 then (some (xd == 0)) else (some false)) else (some false))=some r:=by rw [if_pos rfl] at H;exact H
             clear H;have H:=H1;clear H1
             by_cases KK:Qb=0
             ·rw [if_pos KK] at H;have S5:(Qb == 0)=true:=beq_iff_eq.mpr KK;have R5:(Qb != 0)=false:=bne_eq_false_iff_eq.mpr KK;clear KK
              by_cases JK:Rb=0
              ·rw [if_pos JK] at H;have Q5:(Rb == 0)=true:=beq_iff_eq.mpr JK;have P5:(Rb != 0)=false:=bne_eq_false_iff_eq.mpr JK;clear JK;obtain rfl:=Option.some.inj H;have Fao:=Cb.out;have rao:=Db.out;have Gab:wc.cell? ⟨Ga,0,none⟩=some (.int .i64 Qc):=(ja ya.out 0).trans rfl;have Fab:wc.cell? ⟨Ga,1,none⟩=some (.int .i64 Xb):=(ja ya.out 1).trans rfl;have Eab:wc.cell? ⟨Ga,2,none⟩=some (.int .i64 Qb):=(ja ya.out 2).trans rfl;have Dab:wc.cell? ⟨Ga,3,none⟩=some (.int .i64 Rb):=(ja ya.out 3).trans rfl;have Cab:wc.cell? ⟨Ga,4,none⟩=some (.int .i64 tc):=(ja ya.out 4).trans rfl;have Bab:wc.cell? ⟨Ga,5,none⟩=some (.int .i64 xd):=(ja ya.out 5).trans rfl;have Aab:wc.cell? ⟨Ga,6,none⟩=some (.string Qd):=(ja ya.out 6).trans rfl;have haa:=aa ya.out 0;have gaa:=aa ya.out 1;have faa:=aa ya.out 2;have eaa:=aa ya.out 3;have daa:=aa ya.out 4;have caa:=aa ya.out 5;have baa:=aa ya.out 6;go_wp2;go_ret;exact ⟨by first|rfl|(simp [Pa,Oa] <;> rfl)|(simp [*,Pa,Oa] <;> rfl),by repeat (first|(with_reducible first|exact HB.out|apply oa|apply ia|apply qa|refine ua ?_ Sa.out|refine ua ?_ uc.out)|exact HB.out)⟩
              ·rw [if_neg JK] at H;have Q5:(Rb == 0)=false:=beq_eq_false_iff_ne.mpr JK;have P5:(Rb != 0)=true:=bne_iff_ne.mpr JK;obtain rfl:=Option.some.inj H;have Eao:=Cb.out;have qao:=Db.out;have zab:wc.cell? ⟨Ga,0,none⟩=some (.int .i64 Qc):=(ja ya.out 0).trans rfl;have yab:wc.cell? ⟨Ga,1,none⟩=some (.int .i64 Xb):=(ja ya.out 1).trans rfl;have xab:wc.cell? ⟨Ga,2,none⟩=some (.int .i64 Qb):=(ja ya.out 2).trans rfl;have wab:wc.cell? ⟨Ga,3,none⟩=some (.int .i64 Rb):=(ja ya.out 3).trans rfl;have vab:wc.cell? ⟨Ga,4,none⟩=some (.int .i64 tc):=(ja ya.out 4).trans rfl;have uab:wc.cell? ⟨Ga,5,none⟩=some (.int .i64 xd):=(ja ya.out 5).trans rfl;have sab:wc.cell? ⟨Ga,6,none⟩=some (.string Qd):=(ja ya.out 6).trans rfl;have aaa:=aa ya.out 0;have Z_:=aa ya.out 1;have Y_:=aa ya.out 2;have X_:=aa ya.out 3;have V_:=aa ya.out 4;have U_:=aa ya.out 5;have T_:=aa ya.out 6;go_wp2;go_ret;exact ⟨by first|rfl|(simp [Pa,Oa] <;> rfl)|(simp [*,Pa,Oa] <;> rfl),by repeat (first|(with_reducible first|exact HB.out|apply oa|apply ia|apply qa|refine ua ?_ Sa.out|refine ua ?_ uc.out)|exact HB.out)⟩
             ·rw [if_neg KK] at H;have S5:(Qb == 0)=false:=beq_eq_false_iff_ne.mpr KK;have R5:(Qb != 0)=true:=bne_iff_ne.mpr KK;obtain rfl:=Option.some.inj H;have Dao:=Cb.out;have pao:=Db.out;have rab:wc.cell? ⟨Ga,0,none⟩=some (.int .i64 Qc):=(ja ya.out 0).trans rfl;have qab:wc.cell? ⟨Ga,1,none⟩=some (.int .i64 Xb):=(ja ya.out 1).trans rfl;have pab:wc.cell? ⟨Ga,2,none⟩=some (.int .i64 Qb):=(ja ya.out 2).trans rfl;have oab:wc.cell? ⟨Ga,3,none⟩=some (.int .i64 Rb):=(ja ya.out 3).trans rfl;have mab:wc.cell? ⟨Ga,4,none⟩=some (.int .i64 tc):=(ja ya.out 4).trans rfl;have lab:wc.cell? ⟨Ga,5,none⟩=some (.int .i64 xd):=(ja ya.out 5).trans rfl;have kab:wc.cell? ⟨Ga,6,none⟩=some (.string Qd):=(ja ya.out 6).trans rfl;have S_:=aa ya.out 0;have R_:=aa ya.out 1;have Q_:=aa ya.out 2;have O_:=aa ya.out 3;have N_:=aa ya.out 4;have M_:=aa ya.out 5;have L_:=aa ya.out 6;go_wp2;go_ret;exact ⟨by first|rfl|(simp [Pa,Oa] <;> rfl)|(simp [*,Pa,Oa] <;> rfl),by repeat (first|(with_reducible first|exact HB.out|apply oa|apply ia|apply qa|refine ua ?_ Sa.out|refine ua ?_ uc.out)|exact HB.out)⟩
            ·replace cX:=Bool.eq_false_iff.mpr cX;subst cX;have H1:(some false)=some r:=by rw [if_neg (show ¬ (false=true) by decide)] at H;exact H
             clear H;have H:=H1;clear H1;obtain rfl:=Option.some.inj H;have Cao:=Cb.out;have oao:=Db.out;have jab:wc.cell? ⟨Ga,0,none⟩=some (.int .i64 Qc):=(ja ya.out 0).trans rfl;have iab:wc.cell? ⟨Ga,1,none⟩=some (.int .i64 Xb):=(ja ya.out 1).trans rfl;have gab:wc.cell? ⟨Ga,2,none⟩=some (.int .i64 Qb):=(ja ya.out 2).trans rfl;have fab:wc.cell? ⟨Ga,3,none⟩=some (.int .i64 Rb):=(ja ya.out 3).trans rfl;have eab:wc.cell? ⟨Ga,4,none⟩=some (.int .i64 tc):=(ja ya.out 4).trans rfl;have dab:wc.cell? ⟨Ga,5,none⟩=some (.int .i64 xd):=(ja ya.out 5).trans rfl;have cab:wc.cell? ⟨Ga,6,none⟩=some (.string Qd):=(ja ya.out 6).trans rfl;have K_:=aa ya.out 0;have J_:=aa ya.out 1;have I_:=aa ya.out 2;have H_:=aa ya.out 3;have G_:=aa ya.out 4;have F_:=aa ya.out 5;have E_:=aa ya.out 6;go_wp2;go_ret;exact ⟨by first|rfl|(simp [Pa,Oa] <;> rfl)|(simp [*,Pa,Oa] <;> rfl),by repeat (first|(with_reducible first|exact HB.out|apply oa|apply ia|apply qa|refine ua ?_ Sa.out|refine ua ?_ uc.out)|exact HB.out)⟩
           ·rw [if_neg LK] at H;have V5:(Qc == 5)=false:=beq_eq_false_iff_ne.mpr LK;have U5:(Qc != 5)=true:=bne_iff_ne.mpr LK
            by_cases EK:Qc=6
            ·rw [if_pos EK] at H;have O5:(Qc == 6)=true:=beq_iff_eq.mpr EK;have N5:(Qc != 6)=false:=bne_eq_false_iff_eq.mpr EK;clear EK
             by_cases DK:Xb=0
             ·rw [if_pos DK] at H;have M5:(Xb == 0)=true:=beq_iff_eq.mpr DK;have L5:(Xb != 0)=false:=bne_eq_false_iff_eq.mpr DK;clear DK
              by_cases bX:t104=true
              ·subst bX;have H1:(if Rb=0 then (some (xd == 0)) else (some false))=some r:=by rw [if_pos rfl] at H;exact H
               clear H;have H:=H1;clear H1
               by_cases CK:Rb=0
               ·rw [if_pos CK] at H;have K5:(Rb == 0)=true:=beq_iff_eq.mpr CK;have J5:(Rb != 0)=false:=bne_eq_false_iff_eq.mpr CK;clear CK;obtain rfl:=Option.some.inj H;have Bao:=Cb.out;have nao:=Db.out;have bab:wc.cell? ⟨Ga,0,none⟩=some (.int .i64 Qc):=(ja ya.out 0).trans rfl;have aab:wc.cell? ⟨Ga,1,none⟩=some (.int .i64 Xb):=(ja ya.out 1).trans rfl;have Zaa:wc.cell? ⟨Ga,2,none⟩=some (.int .i64 Qb):=(ja ya.out 2).trans rfl;have Yaa:wc.cell? ⟨Ga,3,none⟩=some (.int .i64 Rb):=(ja ya.out 3).trans rfl;have Xaa:wc.cell? ⟨Ga,4,none⟩=some (.int .i64 tc):=(ja ya.out 4).trans rfl;have Waa:wc.cell? ⟨Ga,5,none⟩=some (.int .i64 xd):=(ja ya.out 5).trans rfl;have Vaa:wc.cell? ⟨Ga,6,none⟩=some (.string Qd):=(ja ya.out 6).trans rfl;have D_:=aa ya.out 0;have C_:=aa ya.out 1;have B_:=aa ya.out 2;have A_:=aa ya.out 3;have z_:=aa ya.out 4;have x_:=aa ya.out 5;have w_:=aa ya.out 6;go_wp2;go_ret;exact ⟨by first|rfl|(simp [Pa,Oa] <;> rfl)|(simp [*,Pa,Oa] <;> rfl),by repeat (first|(with_reducible first|exact HB.out|apply oa|apply ia|apply qa|refine ua ?_ Sa.out|refine ua ?_ uc.out)|exact HB.out)⟩
               ·rw [if_neg CK] at H;have K5:(Rb == 0)=false:=beq_eq_false_iff_ne.mpr CK;have J5:(Rb != 0)=true:=bne_iff_ne.mpr CK;obtain rfl:=Option.some.inj H;have Aao:=Cb.out;have mao:=Db.out;have Uaa:wc.cell? ⟨Ga,0,none⟩=some (.int .i64 Qc):=(ja ya.out 0).trans rfl;have Taa:wc.cell? ⟨Ga,1,none⟩=some (.int .i64 Xb):=(ja ya.out 1).trans rfl;have Saa:wc.cell? ⟨Ga,2,none⟩=some (.int .i64 Qb):=(ja ya.out 2).trans rfl;have Raa:wc.cell? ⟨Ga,3,none⟩=some (.int .i64 Rb):=(ja ya.out 3).trans rfl;have Qaa:wc.cell? ⟨Ga,4,none⟩=some (.int .i64 tc):=(ja ya.out 4).trans rfl;have Paa:wc.cell? ⟨Ga,5,none⟩=some (.int .i64 xd):=(ja ya.out 5).trans rfl;have Oaa:wc.cell? ⟨Ga,6,none⟩=some (.string Qd):=(ja ya.out 6).trans rfl;have v_:=aa ya.out 0;have u_:=aa ya.out 1;have t_:=aa ya.out 2;have r_:=aa ya.out 3;have q_:=aa ya.out 4;have p_:=aa ya.out 5;have o_:=aa ya.out 6;go_wp2;go_ret;exact ⟨by first|rfl|(simp [Pa,Oa] <;> rfl)|(simp [*,Pa,Oa] <;> rfl),by repeat (first|(with_reducible first|exact HB.out|apply oa|apply ia|apply qa|refine ua ?_ Sa.out|refine ua ?_ uc.out)|exact HB.out)⟩
              ·replace bX:=Bool.eq_false_iff.mpr bX;subst bX;have H1:(some false)=some r:=by rw [if_neg (show ¬ (false=true) by decide)] at H;exact H
               clear H;have H:=H1;clear H1;obtain rfl:=Option.some.inj H;have zao:=Cb.out;have lao:=Db.out;have Naa:wc.cell? ⟨Ga,0,none⟩=some (.int .i64 Qc):=(ja ya.out 0).trans rfl;have Maa:wc.cell? ⟨Ga,1,none⟩=some (.int .i64 Xb):=(ja ya.out 1).trans rfl;have Laa:wc.cell? ⟨Ga,2,none⟩=some (.int .i64 Qb):=(ja ya.out 2).trans rfl;have Kaa:wc.cell? ⟨Ga,3,none⟩=some (.int .i64 Rb):=(ja ya.out 3).trans rfl;have Jaa:wc.cell? ⟨Ga,4,none⟩=some (.int .i64 tc):=(ja ya.out 4).trans rfl;have Iaa:wc.cell? ⟨Ga,5,none⟩=some (.int .i64 xd):=(ja ya.out 5).trans rfl;have Haa:wc.cell? ⟨Ga,6,none⟩=some (.string Qd):=(ja ya.out 6).trans rfl;have l_:=aa ya.out 0;have i_:=aa ya.out 1;have g_:=aa ya.out 2;have f_:=aa ya.out 3;have d_:=aa ya.out 4;have Z9:=aa ya.out 5;have Y9:=aa ya.out 6;go_wp2;go_ret;exact ⟨by first|rfl|(simp [Pa,Oa] <;> rfl)|(simp [*,Pa,Oa] <;> rfl),by repeat (first|(with_reducible first|exact HB.out|apply oa|apply ia|apply qa|refine ua ?_ Sa.out|refine ua ?_ uc.out)|exact HB.out)⟩
             ·rw [if_neg DK] at H;have M5:(Xb == 0)=false:=beq_eq_false_iff_ne.mpr DK;have L5:(Xb != 0)=true:=bne_iff_ne.mpr DK;obtain rfl:=Option.some.inj H;have yao:=Cb.out;have kao:=Db.out;have Gaa:wc.cell? ⟨Ga,0,none⟩=some (.int .i64 Qc):=(ja ya.out 0).trans rfl;have Faa:wc.cell? ⟨Ga,1,none⟩=some (.int .i64 Xb):=(ja ya.out 1).trans rfl;have Eaa:wc.cell? ⟨Ga,2,none⟩=some (.int .i64 Qb):=(ja ya.out 2).trans rfl;have Daa:wc.cell? ⟨Ga,3,none⟩=some (.int .i64 Rb):=(ja ya.out 3).trans rfl;have Caa:wc.cell? ⟨Ga,4,none⟩=some (.int .i64 tc):=(ja ya.out 4).trans rfl;have Baa:wc.cell? ⟨Ga,5,none⟩=some (.int .i64 xd):=(ja ya.out 5).trans rfl;have Aaa:wc.cell? ⟨Ga,6,none⟩=some (.string Qd):=(ja ya.out 6).trans rfl;have X9:=aa ya.out 0;have W9:=aa ya.out 1;have V9:=aa ya.out 2;have U9:=aa ya.out 3;have T9:=aa ya.out 4;have S9:=aa ya.out 5;have R9:=aa ya.out 6;go_wp2;go_ret;exact ⟨by first|rfl|(simp [Pa,Oa] <;> rfl)|(simp [*,Pa,Oa] <;> rfl),by repeat (first|(with_reducible first|exact HB.out|apply oa|apply ia|apply qa|refine ua ?_ Sa.out|refine ua ?_ uc.out)|exact HB.out)⟩
            ·rw [if_neg EK] at H;have O5:(Qc == 6)=false:=beq_eq_false_iff_ne.mpr EK;have N5:(Qc != 6)=true:=bne_iff_ne.mpr EK;obtain rfl:=Option.some.inj H;have xao:=Cb.out;have jao:=Db.out;have zaa:wc.cell? ⟨Ga,0,none⟩=some (.int .i64 Qc):=(ja ya.out 0).trans rfl;have yaa:wc.cell? ⟨Ga,1,none⟩=some (.int .i64 Xb):=(ja ya.out 1).trans rfl;have xaa:wc.cell? ⟨Ga,2,none⟩=some (.int .i64 Qb):=(ja ya.out 2).trans rfl;have waa:wc.cell? ⟨Ga,3,none⟩=some (.int .i64 Rb):=(ja ya.out 3).trans rfl;have vaa:wc.cell? ⟨Ga,4,none⟩=some (.int .i64 tc):=(ja ya.out 4).trans rfl;have uaa:wc.cell? ⟨Ga,5,none⟩=some (.int .i64 xd):=(ja ya.out 5).trans rfl;have taa:wc.cell? ⟨Ga,6,none⟩=some (.string Qd):=(ja ya.out 6).trans rfl;have Q9:=aa ya.out 0;have P9:=aa ya.out 1;have O9:=aa ya.out 2;have N9:=aa ya.out 3;have M9:=aa ya.out 4;have L9:=aa ya.out 5;have K9:=aa ya.out 6;go_wp2;go_ret;exact ⟨by first|rfl|(simp [Pa,Oa] <;> rfl)|(simp [*,Pa,Oa] <;> rfl),by repeat (first|(with_reducible first|exact HB.out|apply oa|apply ia|apply qa|refine ua ?_ Sa.out|refine ua ?_ uc.out)|exact HB.out)⟩
end Go.Proofs.Ytoomcmaifgkkfaa.P
end
