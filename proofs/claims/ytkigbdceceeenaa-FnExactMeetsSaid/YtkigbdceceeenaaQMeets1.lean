import Derived.Test.YtkigbdceceeenaaProg
import Derived.Below
import Derived.Deep.Draws
import Derived.Deep.AppendLies
import Derived.Maps.AppendAt
import Derived.OwnWalk
import Derived.Laws.BytesArg
import Derived.Laws.MakeOwn
import Derived.Laws.OwnMore
import Derived.Deep.OwnRows
import Derived.Tactics
import Derived.Lib.ConvBytes
import Derived.Laws.Slices
import Derived.WalkKit
import Derived.KernelRfl
import Derived.RowKit3
import Derived.Deep.LoopGhost
import Derived.Deep.QuietTactic
import Derived.BigQuiet
import Derived.WideLaws
import Derived.Deep.DeepCutAuto
import Derived.Deep.CutBlock
import Derived.Deep.RegionHeld3
import Derived.Laws.Rows
import Derived.Lib.AppendStr
import Derived.ArgAppend
import Derived.Laws.IdiomCopy
import Derived.OrdersHeld
import Derived.Laws.BitsLemmas
import Derived.RowKit
import Derived.Test.YtkigbdceceeenaaQMeetsW1
import Derived.Test.YtkigbdceceeenaaQMeetsW2
import Derived.Deep.Slices
import Derived.ChangeArms
import Derived.OpenShut
import Derived.WideShapes
set_option maxHeartbeats 8000000
set_option maxRecDepth 100000
section
namespace Go.Proofs.Ytkigbdceceeenaa.P
open Go.RowKit Go.Proofs.Pa.Ub Go.Proofs.Pa.Sd Go.Proofs.Pa.Xe
set_option linter.unusedVariables false
set_option linter.unusedSimpArgs false
attribute [local go_sem] Jh Bi tj nk wh uh Ci Ai
def dae:Option Int→Value
 | none=>.nilIface
 | some c=>.iface 0 (.int .i64 c)
theorem Oa:dae none = .nilIface:=rfl
theorem Na (c:Int):dae (some c) = .iface 0 (.int .i64 c):=rfl
theorem info3:(Try.prog.info? 3).map (fun i=>(i.zero,i.size,i.bytes))=some (some (.int .i64 0),1,8):=by kernel_rfl
theorem Ew:(Try.prog.info? 4).map (fun i=>(i.zero,i.size,i.bytes))=some (some (.bool false),1,1):=by kernel_rfl
theorem pS:(Try.prog.info? 22).map (fun i=>(i.zero,i.size,i.bytes))=some (some (.slice none 0 0),1,24):=by kernel_rfl
theorem S4:(Try.prog.info? 59).map (fun i=>(i.zero,i.size,i.bytes))=some (some (.agg #[(.slice none 0 0),(.int .i64 0),(.int .i64 0),(.int .i64 0),(.int .i64 0)]),5,56):=by kernel_rfl
theorem YC:(Try.prog.info? 60).map (fun i=>(i.zero,i.size,i.bytes))=some (some (.slice none 0 0),1,24):=by kernel_rfl
theorem R4:(Try.prog.info? 65).map (fun i=>(i.zero,i.size,i.bytes))=some (some (.agg #[(.int .i64 0),(.int .i64 0),(.int .i64 0),(.int .i64 0),(.int .i64 0),(.int .i64 0),(.string ⟨#[]⟩)]),7,64):=by kernel_rfl
structure S7 where
 f0:Int
 f1:Int
 f2:Bool
 f3:Int
def z7:S7:=⟨(0:Int),(0:Int),false,(0:Int)⟩
structure S8 where
 f0:Int
 f1:Int
 f2:Bool
 f3:Int
def z8:S8:=⟨(0:Int),(0:Int),false,(0:Int)⟩
def Lg (xs:List (List Int)) (i:Int):(List Int):=xs.getD i.toNat ([]:List Int)
theorem wA {w:World} {A:Option Addr} {n:Nat} {xs:List (List Int)} (h:Kd.C (Kd.slice 3 (Kd.int .i64)) w A n xs) (i:Int) (h0:0 ≤ i) (h1:i < n):∃ ad A0 c0,A=some ad∧w.cell? (ad.add i.toNat)=some (.slice A0 (Lg xs i).length c0)∧(Lg xs i).length ≤ c0∧(Kd.int .i64).C w A0 (Lg xs i).length (Lg xs i):=by
 obtain ⟨ad,c,e,_,hK,hc0⟩:=Kd.cF h ([]:List Int) i h0 h1;have hc:∀ j u,c[j]? = some u→w.cell? (ad.add (i.toNat * 1 + j))=some u:=hc0;obtain ⟨A0,c0,rfl,l0,g0⟩:=hK;exact ⟨ad,A0,c0,e,by have hq:=hc 0 _ rfl;rwa [Nat.mul_one,Nat.add_zero] at hq,l0,g0⟩
structure Qn where
 f0:Int
 f1:Int
 f2:Int
 f3:Int
 f4:Int
 f5:Int
 f6:ByteArray
def E_:Qn:=⟨(0:Int),(0:Int),(0:Int),(0:Int),(0:Int),(0:Int),(⟨#[]⟩:ByteArray)⟩
def WC:Kd Qn:=Kd.iV (Kd.pair (Kd.int .i64) (Kd.pair (Kd.int .i64) (Kd.pair (Kd.int .i64) (Kd.pair (Kd.int .i64) (Kd.pair (Kd.int .i64) (Kd.pair (Kd.int .i64) Kd.string)))))) (fun x:Qn=>(x.f0,x.f1,x.f2,x.f3,x.f4,x.f5,x.f6))
theorem uQ {w:World} {x:Qn} {cs:List Value} (h:WC.K w x cs):cs=[.int .i64 x.f0,.int .i64 x.f1,.int .i64 x.f2,.int .i64 x.f3,.int .i64 x.f4,.int .i64 x.f5,.string x.f6]:=by
 obtain ⟨_,_,rfl,rfl,⟨_,_,rfl,rfl,⟨_,_,rfl,rfl,⟨_,_,rfl,rfl,⟨_,_,rfl,rfl,⟨_,_,rfl,rfl,rfl⟩⟩⟩⟩⟩⟩:=h;exact rfl
def Jc (xs:List Qn) (i:Int):Qn:=xs.getD i.toNat E_
theorem UH {w:World} {A:Option Addr} {n:Nat} {xs:List Qn} (h:Kd.C WC w A n xs) (i:Int) (h0:0 ≤ i) (h1:i < n):∃ ad , A=some ad∧w.cell? (ad.add (i.toNat * 7))=some (.int .i64 (Jc xs i).f0)∧w.cell? ⟨(ad.add (i.toNat * 7)).block,(ad.add (i.toNat * 7)).off + 1,none⟩=some (.int .i64 (Jc xs i).f1)∧w.cell? ⟨(ad.add (i.toNat * 7)).block,(ad.add (i.toNat * 7)).off + 2,none⟩=some (.int .i64 (Jc xs i).f2)∧w.cell? ⟨(ad.add (i.toNat * 7)).block,(ad.add (i.toNat * 7)).off + 3,none⟩=some (.int .i64 (Jc xs i).f3)∧w.cell? ⟨(ad.add (i.toNat * 7)).block,(ad.add (i.toNat * 7)).off + 4,none⟩=some (.int .i64 (Jc xs i).f4)∧w.cell? ⟨(ad.add (i.toNat * 7)).block,(ad.add (i.toNat * 7)).off + 5,none⟩=some (.int .i64 (Jc xs i).f5)∧w.cell? ⟨(ad.add (i.toNat * 7)).block,(ad.add (i.toNat * 7)).off + 6,none⟩=some (.string (Jc xs i).f6):=by
 obtain ⟨ad,c,e,_,hK,hc0⟩:=Kd.cF h E_ i h0 h1;have hc:∀ j u,c[j]? = some u→w.cell? (ad.add (i.toNat * 7 + j))=some u:=hc0;obtain rfl:=uQ hK;exact ⟨ad,e,hc 0 _ rfl,by rw [← Rf _ _ 1 (by omega)];exact hc 1 _ rfl,by rw [← Rf _ _ 2 (by omega)];exact hc 2 _ rfl,by rw [← Rf _ _ 3 (by omega)];exact hc 3 _ rfl,by rw [← Rf _ _ 4 (by omega)];exact hc 4 _ rfl,by rw [← Rf _ _ 5 (by omega)];exact hc 5 _ rfl,by rw [← Rf _ _ 6 (by omega)];exact hc 6 _ rfl⟩
structure Xw where
 f0:(List Qn)
 f1:Int
 f2:Int
 f3:Int
 f4:Int
def z86:Xw:=⟨([]:List Qn),(0:Int),(0:Int),(0:Int),(0:Int)⟩
def jS:Kd Xw:=Kd.iV (Kd.pair (Kd.slice 124 WC) (Kd.pair (Kd.int .i64) (Kd.pair (Kd.int .i64) (Kd.pair (Kd.int .i64) (Kd.int .i64))))) (fun x:Xw=>(x.f0,x.f1,x.f2,x.f3,x.f4))
theorem iS {w:World} {x:Xw} {cs:List Value} (h:jS.K w x cs):∃ A0 c0,cs=[.slice A0 x.f0.length c0,.int .i64 x.f1,.int .i64 x.f2,.int .i64 x.f3,.int .i64 x.f4]∧x.f0.length ≤ c0∧WC.C w A0 x.f0.length x.f0:=by
 obtain ⟨_,_,rfl,⟨A0,c0,rfl,l0,g0⟩,⟨_,_,rfl,rfl,⟨_,_,rfl,rfl,⟨_,_,rfl,rfl,rfl⟩⟩⟩⟩:=h;exact ⟨A0,c0,rfl,l0,g0⟩
def xe (xs:List Xw) (i:Int):Xw:=xs.getD i.toNat z86
theorem DL {w:World} {A:Option Addr} {n:Nat} {xs:List Xw} (h:Kd.C jS w A n xs) (i:Int) (h0:0 ≤ i) (h1:i < n):∃ ad A0 c0,A=some ad∧w.cell? (ad.add (i.toNat * 5))=some (.slice A0 (xe xs i).f0.length c0)∧w.cell? ⟨(ad.add (i.toNat * 5)).block,(ad.add (i.toNat * 5)).off + 1,none⟩=some (.int .i64 (xe xs i).f1)∧w.cell? ⟨(ad.add (i.toNat * 5)).block,(ad.add (i.toNat * 5)).off + 2,none⟩=some (.int .i64 (xe xs i).f2)∧w.cell? ⟨(ad.add (i.toNat * 5)).block,(ad.add (i.toNat * 5)).off + 3,none⟩=some (.int .i64 (xe xs i).f3)∧w.cell? ⟨(ad.add (i.toNat * 5)).block,(ad.add (i.toNat * 5)).off + 4,none⟩=some (.int .i64 (xe xs i).f4)∧(xe xs i).f0.length ≤ c0∧WC.C w A0 (xe xs i).f0.length (xe xs i).f0:=by
 obtain ⟨ad,c,e,_,hK,hc0⟩:=Kd.cF h z86 i h0 h1;have hc:∀ j u,c[j]? = some u→w.cell? (ad.add (i.toNat * 5 + j))=some u:=hc0;obtain ⟨A0,c0,rfl,l0,g0⟩:=iS hK;exact ⟨ad,A0,c0,e,hc 0 _ rfl,by rw [← Rf _ _ 1 (by omega)];exact hc 1 _ rfl,by rw [← Rf _ _ 2 (by omega)];exact hc 2 _ rfl,by rw [← Rf _ _ 3 (by omega)];exact hc 3 _ rfl,by rw [← Rf _ _ 4 (by omega)];exact hc 4 _ rfl,l0,g0⟩
structure l_ where
 f0:(List Int)
 f1:Int
 f2:Int
 f3:Int
 f4:(List Xw)
def k25:Kd l_:=Kd.iV (Kd.pair (Kd.slice 3 (Kd.int .i64)) (Kd.pair (Kd.int .i64) (Kd.pair (Kd.int .i64) (Kd.pair (Kd.int .i64) (Kd.slice 86 jS))))) (fun x:l_=>(x.f0,x.f1,x.f2,x.f3,x.f4))
theorem oS {w:World} {x:l_} {cs:List Value} (h:k25.K w x cs):∃ A0 c0 A4 c4,cs=[.slice A0 x.f0.length c0,.int .i64 x.f1,.int .i64 x.f2,.int .i64 x.f3,.slice A4 x.f4.length c4]∧x.f0.length ≤ c0∧(Kd.int .i64).C w A0 x.f0.length x.f0∧x.f4.length ≤ c4∧jS.C w A4 x.f4.length x.f4:=by
 obtain ⟨_,_,rfl,⟨A0,c0,rfl,l0,g0⟩,⟨_,_,rfl,rfl,⟨_,_,rfl,rfl,⟨_,_,rfl,rfl,⟨A4,c4,rfl,l4,g4⟩⟩⟩⟩⟩:=h;exact ⟨A0,c0,A4,c4,rfl,l0,g0,l4,g4⟩
structure Be where
 f0:Int
 f1:Int
 f2:Int
 f3:Int
 f4:Int
 f5:Int
 f6:ByteArray
def Du:Be:=⟨(0:Int),(0:Int),(0:Int),(0:Int),(0:Int),(0:Int),(⟨#[]⟩:ByteArray)⟩
def nj:Kd Be:=Kd.iV (Kd.pair (Kd.int .i64) (Kd.pair (Kd.int .i64) (Kd.pair (Kd.int .i64) (Kd.pair (Kd.int .i64) (Kd.pair (Kd.int .i64) (Kd.pair (Kd.int .i64) Kd.string)))))) (fun x:Be=>(x.f0,x.f1,x.f2,x.f3,x.f4,x.f5,x.f6))
theorem lS:Kd.Heap nj:=Kd.eJ _ (Kd.kj (Kd.ak .i64) (Kd.kj (Kd.ak .i64) (Kd.kj (Kd.ak .i64) (Kd.kj (Kd.ak .i64) (Kd.kj (Kd.ak .i64) (Kd.kj (Kd.ak .i64) Kd.dJ))))))
theorem kS {w:World} {x:Be} {cs:List Value} (h:nj.K w x cs):cs=[.int .i64 x.f0,.int .i64 x.f1,.int .i64 x.f2,.int .i64 x.f3,.int .i64 x.f4,.int .i64 x.f5,.string x.f6]:=by
 obtain ⟨_,_,rfl,rfl,⟨_,_,rfl,rfl,⟨_,_,rfl,rfl,⟨_,_,rfl,rfl,⟨_,_,rfl,rfl,⟨_,_,rfl,rfl,rfl⟩⟩⟩⟩⟩⟩:=h;exact rfl
theorem Jg {w:World} {base:Nat} {ok:Nat→Prop} {x:Be} {cs:List Value} (h:nj.M w base ok x cs):cs=[.int .i64 x.f0,.int .i64 x.f1,.int .i64 x.f2,.int .i64 x.f3,.int .i64 x.f4,.int .i64 x.f5,.string x.f6]:=by
 obtain ⟨_,_,rfl,rfl,⟨_,_,rfl,rfl,⟨_,_,rfl,rfl,⟨_,_,rfl,rfl,⟨_,_,rfl,rfl,⟨_,_,rfl,rfl,rfl⟩⟩⟩⟩⟩⟩:=h;exact rfl
theorem Co (w:World) (base:Nat) (ok:Nat→Prop) (x:Be)  : nj.M w base ok x [.int .i64 x.f0,.int .i64 x.f1,.int .i64 x.f2,.int .i64 x.f3,.int .i64 x.f4,.int .i64 x.f5,.string x.f6]:=⟨[.int .i64 x.f0],[.int .i64 x.f1,.int .i64 x.f2,.int .i64 x.f3,.int .i64 x.f4,.int .i64 x.f5,.string x.f6],rfl,rfl,⟨[.int .i64 x.f1],[.int .i64 x.f2,.int .i64 x.f3,.int .i64 x.f4,.int .i64 x.f5,.string x.f6],rfl,rfl,⟨[.int .i64 x.f2],[.int .i64 x.f3,.int .i64 x.f4,.int .i64 x.f5,.string x.f6],rfl,rfl,⟨[.int .i64 x.f3],[.int .i64 x.f4,.int .i64 x.f5,.string x.f6],rfl,rfl,⟨[.int .i64 x.f4],[.int .i64 x.f5,.string x.f6],rfl,rfl,⟨[.int .i64 x.f5],[.string x.f6],rfl,rfl,rfl⟩⟩⟩⟩⟩⟩
def Da (xs:List Be) (i:Int):Be:=xs.getD i.toNat Du
theorem fo {w:World} {A:Option Addr} {n:Nat} {xs:List Be} (h:Kd.C nj w A n xs) (i:Int) (h0:0 ≤ i) (h1:i < n):∃ ad , A=some ad∧w.cell? (ad.add (i.toNat * 7))=some (.int .i64 (Da xs i).f0)∧w.cell? ⟨(ad.add (i.toNat * 7)).block,(ad.add (i.toNat * 7)).off + 1,none⟩=some (.int .i64 (Da xs i).f1)∧w.cell? ⟨(ad.add (i.toNat * 7)).block,(ad.add (i.toNat * 7)).off + 2,none⟩=some (.int .i64 (Da xs i).f2)∧w.cell? ⟨(ad.add (i.toNat * 7)).block,(ad.add (i.toNat * 7)).off + 3,none⟩=some (.int .i64 (Da xs i).f3)∧w.cell? ⟨(ad.add (i.toNat * 7)).block,(ad.add (i.toNat * 7)).off + 4,none⟩=some (.int .i64 (Da xs i).f4)∧w.cell? ⟨(ad.add (i.toNat * 7)).block,(ad.add (i.toNat * 7)).off + 5,none⟩=some (.int .i64 (Da xs i).f5)∧w.cell? ⟨(ad.add (i.toNat * 7)).block,(ad.add (i.toNat * 7)).off + 6,none⟩=some (.string (Da xs i).f6):=by
 obtain ⟨ad,c,e,_,hK,hc0⟩:=Kd.cF h Du i h0 h1;have hc:∀ j u,c[j]? = some u→w.cell? (ad.add (i.toNat * 7 + j))=some u:=hc0;obtain rfl:=kS hK;exact ⟨ad,e,hc 0 _ rfl,by rw [← Rf _ _ 1 (by omega)];exact hc 1 _ rfl,by rw [← Rf _ _ 2 (by omega)];exact hc 2 _ rfl,by rw [← Rf _ _ 3 (by omega)];exact hc 3 _ rfl,by rw [← Rf _ _ 4 (by omega)];exact hc 4 _ rfl,by rw [← Rf _ _ 5 (by omega)];exact hc 5 _ rfl,by rw [← Rf _ _ 6 (by omega)];exact hc 6 _ rfl⟩
structure Re where
 f0:(List Be)
 f1:Int
 f2:Int
 f3:Int
 f4:Int
def iI:Re:=⟨([]:List Be),(0:Int),(0:Int),(0:Int),(0:Int)⟩
def Kp:Kd Re:=Kd.iV (Kd.pair (Kd.slice 65 nj) (Kd.pair (Kd.int .i64) (Kd.pair (Kd.int .i64) (Kd.pair (Kd.int .i64) (Kd.int .i64))))) (fun x:Re=>(x.f0,x.f1,x.f2,x.f3,x.f4))
theorem nS:Kd.Heap Kp:=Kd.eJ _ (Kd.kj (Kd.NK 65 lS) (Kd.kj (Kd.ak .i64) (Kd.kj (Kd.ak .i64) (Kd.kj (Kd.ak .i64) (Kd.ak .i64)))))
theorem mS {w:World} {x:Re} {cs:List Value} (h:Kp.K w x cs):∃ A0 c0,cs=[.slice A0 x.f0.length c0,.int .i64 x.f1,.int .i64 x.f2,.int .i64 x.f3,.int .i64 x.f4]∧x.f0.length ≤ c0∧nj.C w A0 x.f0.length x.f0:=by
 obtain ⟨_,_,rfl,⟨A0,c0,rfl,l0,g0⟩,⟨_,_,rfl,rfl,⟨_,_,rfl,rfl,⟨_,_,rfl,rfl,rfl⟩⟩⟩⟩:=h;exact ⟨A0,c0,rfl,l0,g0⟩
theorem Zz {w:World} {base:Nat} {ok:Nat→Prop} {x:Re} {cs:List Value} (h:Kp.M w base ok x cs):∃ v0,cs=[v0,.int .i64 x.f1,.int .i64 x.f2,.int .i64 x.f3,.int .i64 x.f4]∧nj.R 65 w base ok v0 x.f0:=by
 obtain ⟨_,_,rfl,⟨v0,rfl,g0⟩,⟨_,_,rfl,rfl,⟨_,_,rfl,rfl,⟨_,_,rfl,rfl,rfl⟩⟩⟩⟩:=h;exact ⟨v0,rfl,g0⟩
theorem zF (w:World) (base:Nat) (ok:Nat→Prop) (x:Re) {v0:Value} (g0:nj.R 65 w base ok v0 x.f0):Kp.M w base ok x [v0,.int .i64 x.f1,.int .i64 x.f2,.int .i64 x.f3,.int .i64 x.f4]:=⟨[v0],[.int .i64 x.f1,.int .i64 x.f2,.int .i64 x.f3,.int .i64 x.f4],rfl,⟨v0,rfl,g0⟩,⟨[.int .i64 x.f1],[.int .i64 x.f2,.int .i64 x.f3,.int .i64 x.f4],rfl,rfl,⟨[.int .i64 x.f2],[.int .i64 x.f3,.int .i64 x.f4],rfl,rfl,⟨[.int .i64 x.f3],[.int .i64 x.f4],rfl,rfl,rfl⟩⟩⟩⟩
def Ea (xs:List Re) (i:Int):Re:=xs.getD i.toNat iI
theorem Vi {w:World} {A:Option Addr} {n:Nat} {xs:List Re} (h:Kd.C Kp w A n xs) (i:Int) (h0:0 ≤ i) (h1:i < n):∃ ad A0 c0,A=some ad∧w.cell? (ad.add (i.toNat * 5))=some (.slice A0 (Ea xs i).f0.length c0)∧w.cell? ⟨(ad.add (i.toNat * 5)).block,(ad.add (i.toNat * 5)).off + 1,none⟩=some (.int .i64 (Ea xs i).f1)∧w.cell? ⟨(ad.add (i.toNat * 5)).block,(ad.add (i.toNat * 5)).off + 2,none⟩=some (.int .i64 (Ea xs i).f2)∧w.cell? ⟨(ad.add (i.toNat * 5)).block,(ad.add (i.toNat * 5)).off + 3,none⟩=some (.int .i64 (Ea xs i).f3)∧w.cell? ⟨(ad.add (i.toNat * 5)).block,(ad.add (i.toNat * 5)).off + 4,none⟩=some (.int .i64 (Ea xs i).f4)∧(Ea xs i).f0.length ≤ c0∧nj.C w A0 (Ea xs i).f0.length (Ea xs i).f0:=by
 obtain ⟨ad,c,e,_,hK,hc0⟩:=Kd.cF h iI i h0 h1;have hc:∀ j u,c[j]? = some u→w.cell? (ad.add (i.toNat * 5 + j))=some u:=hc0;obtain ⟨A0,c0,rfl,l0,g0⟩:=mS hK;exact ⟨ad,A0,c0,e,hc 0 _ rfl,by rw [← Rf _ _ 1 (by omega)];exact hc 1 _ rfl,by rw [← Rf _ _ 2 (by omega)];exact hc 2 _ rfl,by rw [← Rf _ _ 3 (by omega)];exact hc 3 _ rfl,by rw [← Rf _ _ 4 (by omega)];exact hc 4 _ rfl,l0,g0⟩
def Pd (xs:List (List Bool)) (i:Int):(List Bool):=xs.getD i.toNat ([]:List Bool)
theorem Vq {w:World} {A:Option Addr} {n:Nat} {xs:List (List Bool)} (h:Kd.C (Kd.slice 4 Kd.bool) w A n xs) (i:Int) (h0:0 ≤ i) (h1:i < n):∃ ad A0 c0,A=some ad∧w.cell? (ad.add i.toNat)=some (.slice A0 (Pd xs i).length c0)∧(Pd xs i).length ≤ c0∧Kd.bool.C w A0 (Pd xs i).length (Pd xs i):=by
 obtain ⟨ad,c,e,_,hK,hc0⟩:=Kd.cF h ([]:List Bool) i h0 h1;have hc:∀ j u,c[j]? = some u→w.cell? (ad.add (i.toNat * 1 + j))=some u:=hc0;obtain ⟨A0,c0,rfl,l0,g0⟩:=hK;exact ⟨ad,A0,c0,e,by have hq:=hc 0 _ rfl;rwa [Nat.mul_one,Nat.add_zero] at hq,l0,g0⟩
structure S78 where
 f0:Int
 f1:Int
 f2:Int
 f3:Int
 f4:Int
def z78:S78:=⟨(0:Int),(0:Int),(0:Int),(0:Int),(0:Int)⟩
structure dR where
 f0:Int
 f1:Int
 f2:Int
 f3:ByteArray
 f4:(List dR)
def N9 (d:Kd dR):Kd dR:=Kd.iV (Kd.pair (Kd.int .i64) (Kd.pair (Kd.int .i64) (Kd.pair (Kd.int .i64) (Kd.pair Kd.string (Kd.slice 134 d))))) (fun x:dR=>(x.f0,x.f1,x.f2,x.f3,x.f4))
theorem D4:Kd.Sub N9 [134]:=Kd.UL _ (Kd.Il (Kd.sub_const _ (by decide)) (Kd.Il (Kd.sub_const _ (by decide)) (Kd.Il (Kd.sub_const _ (by decide)) (Kd.Il (Kd.sub_const _ (by decide)) (Kd.Rz 134 (by decide) Kd.iK)))))
theorem P_:∀ n,(Kd.upto N9 5 [134] n).sz=5:=Kd.SL (fun _=>rfl)
def eap:Kd dR:=Kd.fix N9 5 [134] P_ (Kd.eK D4)
structure yA where
 f0:Int
 f1:Int
 f2:Int
 f3:(List dR)
 f4:(List yA)
 f5:(List yA)
def O9 (d:Kd yA):Kd yA:=Kd.iV (Kd.pair (Kd.int .i64) (Kd.pair (Kd.int .i64) (Kd.pair (Kd.int .i64) (Kd.pair (Kd.slice 134 eap) (Kd.pair (Kd.slice 130 d) (Kd.slice 130 d)))))) (fun x:yA=>(x.f0,x.f1,x.f2,x.f3,x.f4,x.f5))
theorem E4:Kd.Sub O9 [130,134]:=Kd.UL _ (Kd.Il (Kd.sub_const _ (by decide)) (Kd.Il (Kd.sub_const _ (by decide)) (Kd.Il (Kd.sub_const _ (by decide)) (Kd.Il (Kd.sub_const _ (by decide)) (Kd.Il (Kd.Rz 130 (by decide) Kd.iK) (Kd.Rz 130 (by decide) Kd.iK))))))
theorem Q_:∀ n,(Kd.upto O9 6 [130,134] n).sz=6:=Kd.SL (fun _=>rfl)
def iap:Kd yA:=Kd.fix O9 6 [130,134] Q_ (Kd.eK E4)
theorem XR {α:Type} {d:Kd α} {e:Nat} {w:World} {base:Nat} {ok:Nat→Prop} {v:Value} {xs:List α} (h:ga (d.R e w base ok v xs)):v.oneCell' = true:=by
 obtain ⟨A,c,rfl⟩:=Kd.Zd h.out
 rfl
theorem WR {α:Type} {d:Kd α} {e:Nat} {w:World} {base:Nat} {ok:Nat→Prop} {v:Value} {xs:List α} (h:ga (d.S e w base ok v xs)):v.oneCell' = true:=by
 obtain ⟨A,c,rfl⟩:=Kd.Zd (Kd.uI h.out)
 rfl
theorem ZR {α:Type} {d:Kd α} {e:Nat} {w:World} {base:Nat} {ok:Nat→Prop} {v:Value} {xs:List α} (h:ga (Kd.N d e w base ok v xs)):v.oneCell' = true:=by
 obtain ⟨A,c,rfl⟩:=Kd.eZ h.out
 rfl
theorem YR {α:Type} {d:Kd α} {e:Nat} {w:World} {base:Nat} {ok:Nat→Prop} {v:Value} {xs:List α} (h:ga (d.Q e w base ok v xs)):v.oneCell' = true:=by
 obtain ⟨A,c,rfl,_⟩:=Kd.dZ h.out
 rfl
def Sn (P:Program) (t:TypeId) {α:Type} (d:Kd α) (fit:α→Prop):Prop :=
 ∀ {H:Type} {enc:TypeId × Value→H} {w:World} {base:Nat} {spare:Nat→Bool} {held:Bool} {fuel:Nat} {cs:List Value} {x:DataW H × List MemPlace},
  DataW.trod enc P w base spare held fuel t cs=some x→∃ a:α,d.K w a cs∧fit a
theorem nQ {P:Program} {t:TypeId} {k:IntKind} (ht:P.underlying t=some (.int k)):Sn P t (Kd.int k) (fun n=>(Lit.int k n).wf=true):=by
 intro H enc w base spare held fuel cs x h;obtain ⟨n,rfl,_,hw⟩:=DataW.trod_int ht h;exact ⟨n,rfl,hw⟩
def Kt (n:Int):Prop:=-9223372036854775808 ≤ n∧n ≤ 9223372036854775807
theorem wf_i64 {n:Int} (h:(Lit.int .i64 n).wf=true):Kt n:=by
 simp [Lit.wf,IntKind.min,IntKind.max,IntKind.signed,IntKind.bits] at h;unfold Kt;omega
theorem Qg {P:Program} {t:TypeId} (ht:P.underlying t=some (.int .i64)):Sn P t (Kd.int .i64) Kt:=by
 intro H enc w base spare held fuel cs x h;obtain ⟨n,h1,h2⟩:=nQ ht h;exact ⟨n,h1,wf_i64 h2⟩
theorem wF {P:Program} {t:TypeId} (ht:P.underlying t=some .string):Sn P t Kd.string (fun s=>s.size ≤ 9223372036854775807):=by
 intro H enc w base spare held fuel cs x h;obtain ⟨s,rfl,_,hw⟩:=DataW.trod_string ht h;exact ⟨s,rfl,by simpa [maxLen] using hw⟩
theorem LA {α:Type} {p:Nat→α→Prop}:∀ n,(∀ i,i < n→∃ a,p i a)→∃ xs:List α,xs.length=n∧∀ (i:Nat) (a:α),xs[i]? = some a→p i a
 | 0,_=>⟨[],rfl,fun i a h=>by simp at h⟩
 | n + 1,h=>by
  obtain ⟨xs,hl,hx⟩:=LA n (fun i hi=>h i (by omega));obtain ⟨a,ha⟩:=h n (by omega);refine ⟨xs ++ [a],by simp [hl],fun i b hb=>?_⟩
  rcases Nat.lt_or_ge i xs.length with hi|hi
  ·rw [List.getElem?_append_left hi] at hb;exact hx i b hb
  ·have:i=n:=by
    have:=(List.getElem?_eq_some_iff.1 hb).1;simp [hl] at this;omega
   subst this;rw [List.getElem?_append_right hi,hl] at hb;simp at hb;exact hb ▸ ha
theorem Xt {P:Program} {t e e':TypeId} {α:Type} {d:Kd α} {fit:α→Prop} (ht:P.underlying t=some (.slice e)) (hs:P.cellsOf e=d.sz) (h:Sn P e d fit):Sn P t (Kd.slice e' d) (fun l=>l.length ≤ 9223372036854775807∧∀ a ∈ l,fit a):=by
 intro H enc w base spare held fuel cs x hx
 rcases Go.Deep.open_slice ht hx with ⟨rfl,_⟩|⟨a,len,cap,m,n,D,Pl,rfl,hb,hl,hm,hmm,_,hel⟩
 ·exact ⟨[],⟨none,0,rfl,Nat.le_refl _,rfl,by simp,fun hp=>absurd hp (by simp)⟩,by simp,by simp⟩
 ·have hle:len ≤ m:=by rw [hmm];split <;> omega
  have hmx:len ≤ 9223372036854775807:=by simp only [maxLen] at hm;omega
  obtain ⟨xs,hxl,hxs⟩:=LA (α:=α) (p:=fun i y=>∃ c,c.length=d.sz∧d.K w y c∧(∀ j u,c[j]? = some u→w.cell? (a.add (i * d.sz + j))=some u)∧fit y) len (fun i hi=>by
   obtain ⟨cs',h1,h2⟩:=hel i (by omega);obtain ⟨y,hy,hf⟩:=h h2;obtain ⟨_,uw,dx⟩:=World.cells?_some h1;refine ⟨y,cs',by rw [uw,hs],hy,fun j u hu=>?_,hf⟩;have hj:j < P.cellsOf e:=by rw [← uw];exact (List.getElem?_eq_some_iff.1 hu).1
   rw [← hs,← Go.Deep.add_add,dx j hj]
   exact hu)
  refine ⟨xs,⟨some a,cap,by rw [hxl],by omega,rfl,by omega,fun _=>⟨a,rfl,fun j p hj=>?_⟩⟩,by omega,fun y hy=>?_⟩
  ·obtain ⟨c,h1,h2,h3,_⟩:=hxs j p hj;exact ⟨c,h1,h2,h3⟩
  ·obtain ⟨i,hi,rfl⟩:=List.getElem_of_mem hy;obtain ⟨c,_,_,_,h4⟩:=hxs i _ (List.getElem?_eq_getElem hi);exact h4
def YH (P:Program) (fs:List Field) (off:Nat) {α:Type} (d:Kd α) (fit:α→Prop):Prop :=
 ∀ {H:Type} {enc:TypeId × Value→H} {w:World} {base:Nat} {spare:Nat→Bool} {held:Bool} {n:Nat} {cs:List Value},
  (∀ f ∈ fs,∃ y,DataW.trod enc P w base spare held n f.type ((cs.drop f.offset).take (P.cellsOf f.type))=some y)→cs.length=off + d.sz→∃ a:α,d.K w a (cs.drop off)∧fit a
theorem Pw {P:Program} {f:Field} {off:Nat} {α:Type} {d:Kd α} {fit:α→Prop} (ho:f.offset=off) (hs:P.cellsOf f.type=d.sz) (h:Sn P f.type d fit):YH P [f] off d fit:=by
 intro H enc w base spare held n cs hf hl;obtain ⟨y,hy⟩:=hf f (by simp);rw [ho,hs,List.take_of_length_le (by rw [List.length_drop];omega)] at hy;exact h hy
theorem dg {P:Program} {f:Field} {fs:List Field} {off off2:Nat} {α β:Type} {d:Kd α} {d2:Kd β} {fit:α→Prop} {cae:β→Prop} (ho:f.offset=off) (hs:P.cellsOf f.type=d.sz) (ho2:off2=off + d.sz) (h:Sn P f.type d fit) (h2:YH P fs off2 d2 cae):YH P (f :: fs) off (Kd.pair d d2) (fun p=>fit p.1∧cae p.2):=by
 intro H enc w base spare held n cs hf hl;have hl':cs.length=off + (d.sz + d2.sz):=hl;obtain ⟨y,hy⟩:=hf f (by simp);rw [ho,hs] at hy;obtain ⟨a,ha,fa⟩:=h hy;obtain ⟨b,hb,fb⟩:=h2 (fun g hg=>hf g (List.mem_cons_of_mem _ hg)) (by omega);refine ⟨(a,b),⟨(cs.drop off).take d.sz,cs.drop off2,?_,ha,hb⟩,fa,fb⟩;rw [ho2,← List.drop_drop,List.take_append_drop]
theorem Lr {P:Program} {t:TypeId} {fs:Array Field} {α:Type} {d:Kd α} {fit:α→Prop} (ht:P.underlying t=some (.struct fs)) (hs:P.cellsOf t=d.sz) (h:YH P fs.toList 0 d fit):Sn P t d fit:=by
 intro H enc w base spare held fuel cs x hx;obtain ⟨xs,n,_,_,hl,hxl,hf⟩:=DataW.trod_struct ht hx
 have:=h (w:=w) (enc:=enc) (base:=base) (spare:=spare) (held:=held) (n:=n) (cs:=cs) (fun f hfm=>by
  obtain ⟨i,hi,rfl⟩:=List.getElem_of_mem hfm;have hi':i < fs.size:=by simpa using hi
  have h1:=hf i (fs.toList[i]) (by simp [hi']);rw [List.getElem?_eq_getElem (by omega)] at h1
  exact ⟨_,h1⟩) (by omega)
 simpa using this
theorem Xz {P:Program} {t:TypeId} {α β:Type} {d:Kd α} {fit:α→Prop} {g:β→α} (gi:α→β) (hg:∀ a,g (gi a)=a) (h:Sn P t d fit):Sn P t (Kd.iV d g) (fun b=>fit (g b)):=by
 intro H enc w base spare held fuel cs x hx;obtain ⟨a,ha,hf⟩:=h hx;refine ⟨gi a,?_,?_⟩
 ·show d.K w (g (gi a)) cs
  rw [hg];exact ha
 ·show fit (g (gi a))
  rw [hg];exact hf
theorem VR {P:Program} {t:TypeId} {fs:Array Field} {α:Type} {d:Kd α} {fit:α→Prop} {r:Reach} {b0:Nat} {H:Type} {enc:TypeId × Value→H} {w:World} {base:Nat} {spare:Nat→Bool} {held:Bool} {v:Value} {dt:DataW H} {p:List MemPlace}
  (ht:P.underlying t=some (.struct fs)) (h:Sn P t d fit) (hv:Value.okWide P w r b0 t v) (hd:DataW.Trod enc P w base spare held t v dt p) :
  ∃ (a:α) (cs:Array Value),v = .agg cs∧d.K w a cs.toList∧fit a:=by
 obtain ⟨cs,rfl,hsz⟩:=Go.WideShapes.okWide_struct ht hv;obtain ⟨fuel,hf⟩:=hd;obtain ⟨a,ha,hfa⟩:=h hf;exact ⟨a,cs,rfl,by simpa [Value.cells] using ha,hfa⟩
theorem bW:Sn Try.prog 22 (Kd.slice 3 (Kd.int .i64)) (fun l=>l.length ≤ 9223372036854775807∧∀ a ∈ l,Kt a):=Xt Try.underlying22 (by kernel_rfl) (Qg Try.underlying3)
def UK (x:Qn):Prop:=Kt x.f0∧Kt x.f1∧Kt x.f2∧Kt x.f3∧Kt x.f4∧Kt x.f5∧(fun s=>s.size ≤ 9223372036854775807) x.f6
theorem UR:Sn Try.prog 124 WC UK:=Xz (fun p=>⟨p.1,p.2.1,p.2.2.1,p.2.2.2.1,p.2.2.2.2.1,p.2.2.2.2.2.1,p.2.2.2.2.2.2⟩) (fun _=>rfl) (Lr Try.underlying124 (by kernel_rfl) (dg rfl (by kernel_rfl) (by kernel_rfl) (Qg Try.underlying3) (dg rfl (by kernel_rfl) (by kernel_rfl) (Qg Try.underlying3) (dg rfl (by kernel_rfl) (by kernel_rfl) (Qg Try.underlying3) (dg rfl (by kernel_rfl) (by kernel_rfl) (Qg Try.underlying3) (dg rfl (by kernel_rfl) (by kernel_rfl) (Qg Try.underlying3) (dg rfl (by kernel_rfl) (by kernel_rfl) (Qg Try.underlying3) (Pw rfl (by kernel_rfl) (wF Try.underlying9)))))))))
theorem YV:Sn Try.prog 84 (Kd.slice 124 WC) (fun l=>l.length ≤ 9223372036854775807∧∀ a ∈ l,UK a):=Xt Try.underlying84 (by kernel_rfl) UR
def UT (x:Xw):Prop:=(fun l=>l.length ≤ 9223372036854775807∧∀ a ∈ l,UK a) x.f0∧Kt x.f1∧Kt x.f2∧Kt x.f3∧Kt x.f4
theorem XV:Sn Try.prog 86 jS UT:=Xz (fun p=>⟨p.1,p.2.1,p.2.2.1,p.2.2.2.1,p.2.2.2.2⟩) (fun _=>rfl) (Lr Try.underlying86 (by kernel_rfl) (dg rfl (by kernel_rfl) (by kernel_rfl) YV (dg rfl (by kernel_rfl) (by kernel_rfl) (Qg Try.underlying3) (dg rfl (by kernel_rfl) (by kernel_rfl) (Qg Try.underlying3) (dg rfl (by kernel_rfl) (by kernel_rfl) (Qg Try.underlying3) (Pw rfl (by kernel_rfl) (Qg Try.underlying3)))))))
theorem aW:Sn Try.prog 23 (Kd.slice 86 jS) (fun l=>l.length ≤ 9223372036854775807∧∀ a ∈ l,UT a):=Xt Try.underlying23 (by kernel_rfl) XV
def VT (x:l_):Prop:=(fun l=>l.length ≤ 9223372036854775807∧∀ a ∈ l,Kt a) x.f0∧Kt x.f1∧Kt x.f2∧Kt x.f3∧(fun l=>l.length ≤ 9223372036854775807∧∀ a ∈ l,UT a) x.f4
theorem ZV:Sn Try.prog 25 k25 VT:=Xz (fun p=>⟨p.1,p.2.1,p.2.2.1,p.2.2.2.1,p.2.2.2.2⟩) (fun _=>rfl) (Lr Try.underlying25 (by kernel_rfl) (dg rfl (by kernel_rfl) (by kernel_rfl) bW (dg rfl (by kernel_rfl) (by kernel_rfl) (Qg Try.underlying3) (dg rfl (by kernel_rfl) (by kernel_rfl) (Qg Try.underlying3) (dg rfl (by kernel_rfl) (by kernel_rfl) (Qg Try.underlying3) (Pw rfl (by kernel_rfl) aW))))))
def Za.f (a0:Int) (a1:Int) (a2:Int):Option (Bool):=if a0 ≥ a1 then (some (decide (a0 ≤ a2))) else (some false)
theorem Za.calls (a0:Int) (a1:Int) (a2:Int) (r:Bool) (w:World) (h:Za.f a0 a1 a2=some r) :
  Calls Try.prog 53 #[.int .i64 a0,.int .i64 a1,.int .i64 a2] w fun e w'=>e = .returned (.bool r)∧ec w w':=by
 have H:(if a0 ≥ a1 then (some (decide (a0 ≤ a2))) else (some false))=some r:=h;clear h
 by_cases c4:a0 ≥ a1
 ·rw [if_pos c4] at H;have cj:decide (a1 ≤ a0)=true:=decide_eq_true c4;clear c4;obtain rfl:=Option.some.inj H;go_enter Try.func53,Try.ntmps53;go_wp2;go_ret;exact ⟨by first|rfl|(simp;done)|(simp [*];done),by repeat (first|exact ec.refl _|apply ec.step)⟩
 ·rw [if_neg c4] at H;have cj:decide (a1 ≤ a0)=false:=decide_eq_false c4;clear c4;obtain rfl:=Option.some.inj H;go_enter Try.func53,Try.ntmps53;go_wp2;go_ret;exact ⟨by first|rfl|(simp;done)|(simp [*];done),by repeat (first|exact ec.refl _|apply ec.step)⟩
def Pe.l0:Nat→List ByteArray→ByteArray→Int→Option (Bool)
 | 0,_,_,_=>none
 | k + 1,x0,x1,x5=>if x5 < (x0.length:Int) then (if 0 ≤ x5 then (if (lg ByteArray.empty x0 x5).toList=x1.toList then (some true) else (Pe.l0 k x0 x1 (wrap64 (x5 + 1)))) else (none)) else (some false)
def Pe.f (k:Nat) (l0:List ByteArray) (a1:ByteArray):Option (Bool):=Pe.l0 k l0 a1 0
theorem Pe.calls (k:Nat) (A0:Option Addr) (c0:Nat) (l0:List ByteArray) (a1:ByteArray) (r:Bool) (w:World) (Ck:Kd.C Kd.string w A0 l0.length l0) (hc0:l0.length ≤ c0) (h:Pe.f k l0 a1=some r) :
  Calls Try.prog 113 #[.slice A0 l0.length c0,.string a1] w fun e w'=>e = .returned (.bool r)∧ec w w':=by
 have fl:=ga.mk Ck;have dI:=ga.mk hc0;clear Ck hc0;have H:(Pe.l0 k l0 a1 0)=some r:=h;clear h;have H':=ga.mk H;clear H;go_enter Try.func113,Try.ntmps113;go_wp2
 go_loopg [5] k (fun kq v5 w'=>∃ (Ga:Int),v5 = .int .i64 Ga∧ga (Pe.l0 kq l0 a1 Ga=some r)∧ga (kq ≤ k)∧ec w w')
 case atStart=>exact ⟨(0),(by first|rfl|(simp;done)|(simp [*];done)),H',⟨Nat.le_refl _⟩,by repeat (first|exact ec.refl _|apply ec.step)⟩
 case round =>
  clear H'
  try clear c1
  try clear p2
  (try clear HA);(try clear Xf);obtain ⟨Ga,rfl,HA,Xf,⟨m1,rfl⟩⟩:=hrel;cases gk with
  | zero=>exact absurd HA.out (by simp [Pe.l0])
  | succ k1 =>
   have H:=HA.out;clear HA;simp only [Pe.l0] at H
   by_cases c3:Ga < (l0.length:Int)
   ·rw [if_pos c3] at H;have Vg:decide (Ga < (l0.length:Int))=true:=decide_eq_true c3;clear c3
    by_cases c4:0 ≤ Ga
    ·rw [if_pos c4] at H;have cj:decide (0 ≤ Ga)=true:=decide_eq_true c4;clear c4
     by_cases c5:(lg ByteArray.empty l0 Ga).toList=a1.toList
     ·rw [if_pos c5] at H;have Ui:((lg ByteArray.empty l0 Ga).toList == a1.toList)=true:=beq_iff_eq.mpr c5;have Tw:((lg ByteArray.empty l0 Ga).toList != a1.toList)=false:=bne_eq_false_iff_eq.mpr c5;clear c5;obtain rfl:=Option.some.inj H;have We:0 ≤ (Ga:Int):=Ua;have Ve:Ga < (l0.length:Int):=Ua;obtain ⟨Ae,ki,Td⟩:=Kd.dw fl.out Ga We Ve;cases ki;replace We:=eq_true We;replace Ve:=eq_true Ve;go_wp2;go_ret;exact ⟨by first|rfl|(simp;done)|(simp [*];done),by repeat (first|exact ec.refl _|apply ec.step)⟩
     ·rw [if_neg c5] at H;have Ui:((lg ByteArray.empty l0 Ga).toList == a1.toList)=false:=beq_eq_false_iff_ne.mpr c5;have Tw:((lg ByteArray.empty l0 Ga).toList != a1.toList)=true:=bne_iff_ne.mpr c5;have H':=ga.mk H;clear H;have We:0 ≤ (Ga:Int):=Ua;have Ve:Ga < (l0.length:Int):=Ua;obtain ⟨Ae,ki,Td⟩:=Kd.dw fl.out Ga We Ve;cases ki;replace We:=eq_true We;replace Ve:=eq_true Ve;go_wp2
      go_roundg k1
      case measure=>have:=Xf.out;omega
      case rel=>exact ⟨(wrap64 (Ga + 1)),(by first|rfl|(simp;done)|(simp [*];done)),H',⟨by have:=Xf.out;omega⟩,by repeat (first|exact ec.refl _|apply ec.step)⟩
    ·rw [if_neg c4] at H;exact absurd H (by simp)
   ·rw [if_neg c3] at H;have Vg:decide (Ga < (l0.length:Int))=false:=decide_eq_false c3;clear c3;obtain rfl:=Option.some.inj H;go_wp2;go_ret;exact ⟨by first|rfl|(simp;done)|(simp [*];done),by repeat (first|exact ec.refl _|apply ec.step)⟩
mutual
def jb.j0:Nat→Bool→Bool→Bool→Bool→List Int→Int→Int→Int→List (Re)→Int→Int→Int→Int→Int→Int→ByteArray→Option (Bool)
 | 0,_,_,_,_,_,_,_,_,_,_,_,_,_,_,_,_=>none
 | k + 1,x5,x6,x7,x8,Cc,Tc,Ic,Gc,Wb,cg,fk,Rk,sj,rj,Xm,Rp=>if cg=2 then (if cg=4 then (jb.j1 k x5 x6 x7 x8 false Cc Tc Ic Gc Wb cg fk Rk sj rj Xm Rp) else (jb.j1 k x5 x6 x7 x8 (rj != 0) Cc Tc Ic Gc Wb cg fk Rk sj rj Xm Rp)) else (if Rp.toList=([]:List UInt8) then (if cg=4 then (jb.j1 k x5 x6 x7 x8 false Cc Tc Ic Gc Wb cg fk Rk sj rj Xm Rp) else (jb.j1 k x5 x6 x7 x8 (rj != 0) Cc Tc Ic Gc Wb cg fk Rk sj rj Xm Rp)) else (jb.j1 k x5 x6 x7 x8 true Cc Tc Ic Gc Wb cg fk Rk sj rj Xm Rp))
def jb.j1:Nat→Bool→Bool→Bool→Bool→Bool→List Int→Int→Int→Int→List (Re)→Int→Int→Int→Int→Int→Int→ByteArray→Option (Bool)
 | 0,_,_,_,_,_,_,_,_,_,_,_,_,_,_,_,_,_=>none
 | k + 1,x5,x6,x7,x8,x62,Cc,Tc,Ic,Gc,Wb,cg,fk,Rk,sj,rj,Xm,Rp=>if x62=true then (some false) else (if cg=0 then (if x5=true then (if Rk=0 then (some (sj == 0)) else (some false)) else (some false)) else (if cg=1 then (if x5=true then (if x6=true then (if sj=0 then (some (Xm == 0)) else (some false)) else (some false)) else (some false)) else (if cg=2 then (if x5=true then (if x6=true then (if x7=true then (if Xm=0 then ((Pe.f k (([(⟨#[61,61]⟩:ByteArray),(⟨#[60]⟩:ByteArray),(⟨#[38]⟩:ByteArray),(⟨#[43]⟩:ByteArray),(⟨#[45]⟩:ByteArray),(⟨#[42]⟩:ByteArray)]:List ByteArray)) Rp).bind fun t111=>(some t111)) else (some false)) else (some false)) else (some false)) else (some false)) else (if cg=3 then (if x5=true then (some x8) else (some false)) else (if cg=4 then (if fk=0 then (if x8=true then ((Za.f rj 0 (wrap64 (Gc - 1))).bind fun t112=>(some t112)) else (some false)) else (some false)) else (if cg=5 then (if x5=true then (if Rk=0 then (if sj=0 then (some (Xm == 0)) else (some false)) else (some false)) else (some false)) else (if cg=6 then (if fk=0 then (if x6=true then (if sj=0 then (some (Xm == 0)) else (some false)) else (some false)) else (some false)) else (some false))))))))
end
def jb.f (k:Nat) (Ra:List Int) (La:Int) (Ja:Int) (Ma:Int) (Aa:List (Re)) (oc:Int) (Tb:Int) (Kb:Int) (Lb:Int) (Xb:Int) (Lc:Int) (Vc:ByteArray):Option (Bool):=(Za.f Tb 0 (wrap64 (Ma - 1))).bind fun t103=>((Za.f Kb 0 (wrap64 (Ma - 1))).bind fun t104=>((Za.f Lb 0 (wrap64 (Ma - 1))).bind fun t105=>(if t104=true then (if t105=true then ((Za.f Lc 0 (wrap64 ((Ra.length:Int) - 1))).bind fun t106=>(jb.j0 k t103 t104 t105 t106 Ra La Ja Ma Aa oc Tb Kb Lb Xb Lc Vc)) else (jb.j0 k t103 t104 t105 false Ra La Ja Ma Aa oc Tb Kb Lb Xb Lc Vc)) else (if Kb=(-1) then (if t105=true then ((Za.f Lc 0 (wrap64 ((Ra.length:Int) - 1))).bind fun t107=>(jb.j0 k t103 t104 t105 t107 Ra La Ja Ma Aa oc Tb Kb Lb Xb Lc Vc)) else (jb.j0 k t103 t104 t105 false Ra La Ja Ma Aa oc Tb Kb Lb Xb Lc Vc)) else (jb.j0 k t103 t104 t105 false Ra La Ja Ma Aa oc Tb Kb Lb Xb Lc Vc)))))
theorem jb.calls (k:Nat) (Xa:Option Addr) (Ya:Nat) (Ra:List Int) (La:Int) (Ja:Int) (Ma:Int) (Mb:Option Addr) (Fb:Nat) (Aa:List (Re)) (oc:Int) (Tb:Int) (Kb:Int) (Lb:Int) (Xb:Int) (Lc:Int) (Vc:ByteArray) (r:Bool) (w:World) (Xd:Kd.C (Kd.int .i64) w Xa Ra.length Ra) (Vd:Ra.length ≤ Ya) (Ff:Kd.C Kp w Mb Aa.length Aa) (uf:Aa.length ≤ Fb) (h:jb.f k Ra La Ja Ma Aa oc Tb Kb Lb Xb Lc Vc=some r) :
  Calls Try.prog 97 #[.agg #[.slice Xa Ra.length Ya,.int .i64 La,.int .i64 Ja,.int .i64 Ma,.slice Mb Aa.length Fb],.agg #[.int .i64 oc,.int .i64 Tb,.int .i64 Kb,.int .i64 Lb,.int .i64 Xb,.int .i64 Lc,.string Vc]] w fun e w'=>e = .returned (.bool r)∧Below w.heap.size w w':=by
 have eE:=Try.underlying30;have aA:=Try.underlying65;have Ye:=ga.mk Xd;have gf:=ga.mk Vd;clear Xd Vd;have wg:=ga.mk Ff;have ei:=ga.mk uf;clear Ff uf;have HB:=ga.mk (Below.refl w.heap.size w);have H:((Za.f Tb 0 (wrap64 (Ma - 1))).bind fun t103=>((Za.f Kb 0 (wrap64 (Ma - 1))).bind fun t104=>((Za.f Lb 0 (wrap64 (Ma - 1))).bind fun t105=>(if t104=true then (if t105=true then ((Za.f Lc 0 (wrap64 ((Ra.length:Int) - 1))).bind fun t106=>(jb.j0 k t103 t104 t105 t106 Ra La Ja Ma Aa oc Tb Kb Lb Xb Lc Vc)) else (jb.j0 k t103 t104 t105 false Ra La Ja Ma Aa oc Tb Kb Lb Xb Lc Vc)) else (if Kb=(-1) then (if t105=true then ((Za.f Lc 0 (wrap64 ((Ra.length:Int) - 1))).bind fun t107=>(jb.j0 k t103 t104 t105 t107 Ra La Ja Ma Aa oc Tb Kb Lb Xb Lc Vc)) else (jb.j0 k t103 t104 t105 false Ra La Ja Ma Aa oc Tb Kb Lb Xb Lc Vc)) else (jb.j0 k t103 t104 t105 false Ra La Ja Ma Aa oc Tb Kb Lb Xb Lc Vc))))))=some r:=h;clear h;replace H:=Option.bind_eq_some_iff.mp H;obtain ⟨t103,jx,H⟩:=H;replace H:((Za.f Kb 0 (wrap64 (Ma - 1))).bind fun t104=>((Za.f Lb 0 (wrap64 (Ma - 1))).bind fun t105=>(if t104=true then (if t105=true then ((Za.f Lc 0 (wrap64 ((Ra.length:Int) - 1))).bind fun t106=>(jb.j0 k t103 t104 t105 t106 Ra La Ja Ma Aa oc Tb Kb Lb Xb Lc Vc)) else (jb.j0 k t103 t104 t105 false Ra La Ja Ma Aa oc Tb Kb Lb Xb Lc Vc)) else (if Kb=(-1) then (if t105=true then ((Za.f Lc 0 (wrap64 ((Ra.length:Int) - 1))).bind fun t107=>(jb.j0 k t103 t104 t105 t107 Ra La Ja Ma Aa oc Tb Kb Lb Xb Lc Vc)) else (jb.j0 k t103 t104 t105 false Ra La Ja Ma Aa oc Tb Kb Lb Xb Lc Vc)) else (jb.j0 k t103 t104 t105 false Ra La Ja Ma Aa oc Tb Kb Lb Xb Lc Vc)))))=some r:=H;have A3:=ga.mk jx;clear jx;replace H:=Option.bind_eq_some_iff.mp H;obtain ⟨t104,fQ,H⟩:=H;replace H:((Za.f Lb 0 (wrap64 (Ma - 1))).bind fun t105=>(if t104=true then (if t105=true then ((Za.f Lc 0 (wrap64 ((Ra.length:Int) - 1))).bind fun t106=>(jb.j0 k t103 t104 t105 t106 Ra La Ja Ma Aa oc Tb Kb Lb Xb Lc Vc)) else (jb.j0 k t103 t104 t105 false Ra La Ja Ma Aa oc Tb Kb Lb Xb Lc Vc)) else (if Kb=(-1) then (if t105=true then ((Za.f Lc 0 (wrap64 ((Ra.length:Int) - 1))).bind fun t107=>(jb.j0 k t103 t104 t105 t107 Ra La Ja Ma Aa oc Tb Kb Lb Xb Lc Vc)) else (jb.j0 k t103 t104 t105 false Ra La Ja Ma Aa oc Tb Kb Lb Xb Lc Vc)) else (jb.j0 k t103 t104 t105 false Ra La Ja Ma Aa oc Tb Kb Lb Xb Lc Vc))))=some r:=H;have A4:=ga.mk fQ;clear fQ;replace H:=Option.bind_eq_some_iff.mp H;obtain ⟨t105,O3,H⟩:=H;replace H:(if t104=true then (if t105=true then ((Za.f Lc 0 (wrap64 ((Ra.length:Int) - 1))).bind fun t106=>(jb.j0 k t103 t104 t105 t106 Ra La Ja Ma Aa oc Tb Kb Lb Xb Lc Vc)) else (jb.j0 k t103 t104 t105 false Ra La Ja Ma Aa oc Tb Kb Lb Xb Lc Vc)) else (if Kb=(-1) then (if t105=true then ((Za.f Lc 0 (wrap64 ((Ra.length:Int) - 1))).bind fun t107=>(jb.j0 k t103 t104 t105 t107 Ra La Ja Ma Aa oc Tb Kb Lb Xb Lc Vc)) else (jb.j0 k t103 t104 t105 false Ra La Ja Ma Aa oc Tb Kb Lb Xb Lc Vc)) else (jb.j0 k t103 t104 t105 false Ra La Ja Ma Aa oc Tb Kb Lb Xb Lc Vc)))=some r:=H;have A5:=ga.mk O3;clear O3;have HC6:=ga.mk H;clear H;go_enter Try.func97,Try.ntmps97
 go_upto_region 4 with (first|((with_reducible refine qb (N:=2) rfl ?_);(try (refine Ti (by rfl) ?_;dsimp only));refine Gb ?hg (N:=2) ?hd (cs:=#[.slice Xa Ra.length Ya,.int .i64 La,.int .i64 Ja,.int .i64 Ma,.slice Mb Aa.length Fb]) (t:=30) ?hr ?_;(case hd=>rfl);(case hg=>rfl);(case hr=>first|(go_simp;done)|(go_simp;rfl));intro ya hg w7 Ob hb;have yb:=ga.mk (Qa (by repeat (first|(with_reducible first|exact HB.out|apply qa|apply ja|apply ta)|exact HB.out)) hb);have Ib:=ga.mk (Ob);have Nb:=ga.mk ((by rw [hg];exact (Ia (by repeat (first|(with_reducible first|exact HB.out|apply qa|apply ja|apply ta)|exact HB.out))):w.heap.size ≤ ya));have Dc:=ga.mk ((by rw [hg];exact (Ia (by repeat (first|(with_reducible first|exact HB.out|apply qa|apply ja|apply ta)|exact HB.out))):w.heap.size ≤ ya));clear HB;have HB:=yb;have oa:=Ib;have Nd:=Nb;have Ta:=Dc;clear yb Ib Nb Dc hb Ob hg)|((with_reducible refine qb (N:=3) rfl ?_);(try (refine Ti (by rfl) ?_;dsimp only));refine Gb ?hg (N:=3) ?hd (cs:=#[.int .i64 oc,.int .i64 Tb,.int .i64 Kb,.int .i64 Lb,.int .i64 Xb,.int .i64 Lc,.string Vc]) (t:=65) ?hr ?_;(case hd=>rfl);(case hg=>rfl);(case hr=>first|(go_simp;done)|(go_simp;rfl));intro Ka hg w8 Ob hb;have yb:=ga.mk (Va (g:=ya) (o:=.cells #[.slice Xa Ra.length Ya,.int .i64 La,.int .i64 Ja,.int .i64 Ma,.slice Mb Aa.length Fb] 30 (0,0)) (by (with_reducible repeat (first|refine Ba ?_ _|refine Fa ?_|refine Ca ?_ _));exact oa.out) hb);have Ib:=ga.mk (Qa (by repeat (first|(with_reducible first|exact HB.out|apply qa|apply ja|apply ta|refine ua ?_ Ta.out)|exact HB.out)) hb);have Nb:=ga.mk (Ob);have Dc:=ga.mk ((by rw [hg];exact (Ia (by repeat (first|(with_reducible first|exact HB.out|apply qa|apply ja|apply ta|refine ua ?_ Ta.out)|exact HB.out))):w.heap.size ≤ Ka));have Vf:=ga.mk ((by rw [hg];exact (Ia (by repeat (first|(with_reducible first|exact HB.out|apply qa|apply ja|apply ta|refine ua ?_ Ta.out)|exact HB.out))):w.heap.size ≤ Ka));have Kg:=ga.mk ((by rw [hg];exact Nat.ne_of_lt (Ec (g:=ya) (o:=.cells #[.slice Xa Ra.length Ya,.int .i64 La,.int .i64 Ja,.int .i64 Ma,.slice Mb Aa.length Fb] 30 (0,0)) (by (with_reducible repeat (first|refine Ba ?_ _|refine Fa ?_|refine Ca ?_ _));exact oa.out)):ya ≠ Ka));have Rg:=ga.mk ((by rw [hg];exact Nat.ne_of_gt (Ec (g:=ya) (o:=.cells #[.slice Xa Ra.length Ya,.int .i64 La,.int .i64 Ja,.int .i64 Ma,.slice Mb Aa.length Fb] 30 (0,0)) (by (with_reducible repeat (first|refine Ba ?_ _|refine Fa ?_|refine Ca ?_ _));exact oa.out)):Ka ≠ ya));clear oa HB;have oa:=yb;have HB:=Ib;have za:=Nb;have Uj:=Dc;have nc:=Vf;have Db:=Kg;have Cb:=Rg;clear yb Ib Nb Dc Vf Kg Rg hb Ob hg;have Pap:=Cb.out;have zap:=Db.out;have Yh:w8.cell? ⟨Ka,0,none⟩=some (.int .i64 oc):=(ia za.out 0).trans rfl;have Xh:w8.cell? ⟨Ka,1,none⟩=some (.int .i64 Tb):=(ia za.out 1).trans rfl;have Wh:w8.cell? ⟨Ka,2,none⟩=some (.int .i64 Kb):=(ia za.out 2).trans rfl;have Vh:w8.cell? ⟨Ka,3,none⟩=some (.int .i64 Lb):=(ia za.out 3).trans rfl;have Uh:w8.cell? ⟨Ka,4,none⟩=some (.int .i64 Xb):=(ia za.out 4).trans rfl;have uz:w8.cell? ⟨Ka,5,none⟩=some (.int .i64 Lc):=(ia za.out 5).trans rfl;have rz:w8.cell? ⟨Ka,6,none⟩=some (.string Vc):=(ia za.out 6).trans rfl;have Th:=aa za.out 0;have Sh:=aa za.out 1;have Rh:=aa za.out 2;have Qh:=aa za.out 3;have Ph:=aa za.out 4;have Wy:=aa za.out 5;have Vy:=aa za.out 6;have bt:w8.cell? ⟨ya,0,none⟩=some (.slice Xa Ra.length Ya):=(ia oa.out 0).trans rfl;have Zs:w8.cell? ⟨ya,1,none⟩=some (.int .i64 La):=(ia oa.out 1).trans rfl;have Ys:w8.cell? ⟨ya,2,none⟩=some (.int .i64 Ja):=(ia oa.out 2).trans rfl;have Xs:w8.cell? ⟨ya,3,none⟩=some (.int .i64 Ma):=(ia oa.out 3).trans rfl;have Ws:w8.cell? ⟨ya,4,none⟩=some (.slice Mb Aa.length Fb):=(ia oa.out 4).trans rfl;have Gs:=aa oa.out 0;have Fs:=aa oa.out 1;have Es:=aa oa.out 2;have Ds:=aa oa.out 3;have Cs:=aa oa.out 4)|((with_reducible refine mb (f:=53) rfl ?_);refine Fc (some 14) rfl rfl Try.func53 (by kernel_rfl) rfl #[.int .i64 Tb,.int .i64 0,.int .i64 (wrap64 (Ma - 1))] rfl (by (try simp only [List.map_toArray,List.map_cons,List.map_nil]);first|done|rfl|(simp only [List.length_drop,List.length_take];rfl)) ?_;(with_reducible refine (Za.calls Tb 0 (wrap64 (Ma - 1)) t103 _ A3.out).mono ?_);rintro e w' ⟨rfl,⟨nd,rfl⟩⟩;refine ⟨_,rfl,?_⟩)|((with_reducible refine mb (f:=53) rfl ?_);refine Fc (some 20) rfl rfl Try.func53 (by kernel_rfl) rfl #[.int .i64 Kb,.int .i64 0,.int .i64 (wrap64 (Ma - 1))] rfl (by (try simp only [List.map_toArray,List.map_cons,List.map_nil]);first|done|rfl|(simp only [List.length_drop,List.length_take];rfl)) ?_;(with_reducible refine (Za.calls Kb 0 (wrap64 (Ma - 1)) t104 _ A4.out).mono ?_);rintro e w' ⟨rfl,⟨nd,rfl⟩⟩;refine ⟨_,rfl,?_⟩)|((with_reducible refine mb (f:=53) rfl ?_);refine Fc (some 26) rfl rfl Try.func53 (by kernel_rfl) rfl #[.int .i64 Lb,.int .i64 0,.int .i64 (wrap64 (Ma - 1))] rfl (by (try simp only [List.map_toArray,List.map_cons,List.map_nil]);first|done|rfl|(simp only [List.length_drop,List.length_take];rfl)) ?_;(with_reducible refine (Za.calls Lb 0 (wrap64 (Ma - 1)) t105 _ A5.out).mono ?_);rintro e w' ⟨rfl,⟨nd,rfl⟩⟩;refine ⟨_,rfl,?_⟩))
 (try simp only [Act.put,List.setIfInBounds_toArray,List.set_cons_zero,List.set_cons_succ])
 go_cut [8] (fun v8 wc=>∃ (kq:Nat) (zI:Bool),v8 = .bool zI∧ga (jb.j0 kq t103 t104 t105 zI Ra La Ja Ma Aa oc Tb Kb Lb Xb Lc Vc=some r)∧ga (kq ≤ k)∧ga (wc.heap[ya]? = some (.cells #[(.slice Xa Ra.length Ya),.int .i64 La,.int .i64 Ja,.int .i64 Ma,(.slice Mb Aa.length Fb)] 30 (0,0)))∧ga (wc.heap[Ka]? = some (.cells #[.int .i64 oc,.int .i64 Tb,.int .i64 Kb,.int .i64 Lb,.int .i64 Xb,.int .i64 Lc,.string Vc] 65 (0,0)))∧ga (Below w.heap.size w wc))
 case first =>
  have H:=HC6.out;clear HC6
  by_cases wu:t104=true
  ·subst wu;have H1:(if t105=true then ((Za.f Lc 0 (wrap64 ((Ra.length:Int) - 1))).bind fun t106=>(jb.j0 k t103 true t105 t106 Ra La Ja Ma Aa oc Tb Kb Lb Xb Lc Vc)) else (jb.j0 k t103 true t105 false Ra La Ja Ma Aa oc Tb Kb Lb Xb Lc Vc))=some r:=by rw [if_pos rfl] at H;exact H
   clear H;have H:=H1;clear H1
   by_cases nC:t105=true
   ·subst nC;have H1:((Za.f Lc 0 (wrap64 ((Ra.length:Int) - 1))).bind fun t106=>(jb.j0 k t103 true true t106 Ra La Ja Ma Aa oc Tb Kb Lb Xb Lc Vc))=some r:=by rw [if_pos rfl] at H;exact H
    clear H;have H:=H1;clear H1;replace H:=Option.bind_eq_some_iff.mp H;obtain ⟨t106,UJ,H⟩:=H;replace H:(jb.j0 k t103 true true t106 Ra La Ja Ma Aa oc Tb Kb Lb Xb Lc Vc)=some r:=H;have A14:=ga.mk UJ;clear UJ;have H':=ga.mk H;clear H;have Eaa:=Cb.out;have saa:=Db.out;have zn:w8.cell? ⟨Ka,0,none⟩=some (.int .i64 oc):=(ia za.out 0).trans rfl;have vn:w8.cell? ⟨Ka,1,none⟩=some (.int .i64 Tb):=(ia za.out 1).trans rfl;have sn:w8.cell? ⟨Ka,2,none⟩=some (.int .i64 Kb):=(ia za.out 2).trans rfl;have qn:w8.cell? ⟨Ka,3,none⟩=some (.int .i64 Lb):=(ia za.out 3).trans rfl;have pn:w8.cell? ⟨Ka,4,none⟩=some (.int .i64 Xb):=(ia za.out 4).trans rfl;have lC:w8.cell? ⟨Ka,5,none⟩=some (.int .i64 Lc):=(ia za.out 5).trans rfl;have kC:w8.cell? ⟨Ka,6,none⟩=some (.string Vc):=(ia za.out 6).trans rfl;have kn:=aa za.out 0;have jn:=aa za.out 1;have gn:=aa za.out 2;have en:=aa za.out 3;have dn:=aa za.out 4;have MB:=aa za.out 5;have KB:=aa za.out 6;have jC:w8.cell? ⟨ya,0,none⟩=some (.slice Xa Ra.length Ya):=(ia oa.out 0).trans rfl;have iC:w8.cell? ⟨ya,1,none⟩=some (.int .i64 La):=(ia oa.out 1).trans rfl;have gC:w8.cell? ⟨ya,2,none⟩=some (.int .i64 Ja):=(ia oa.out 2).trans rfl;have fC:w8.cell? ⟨ya,3,none⟩=some (.int .i64 Ma):=(ia oa.out 3).trans rfl;have eC:w8.cell? ⟨ya,4,none⟩=some (.slice Mb Aa.length Fb):=(ia oa.out 4).trans rfl;have JB:=aa oa.out 0;have IB:=aa oa.out 1;have FB:=aa oa.out 2;have EB:=aa oa.out 3;have DB:=aa oa.out 4;go_wp2_with (first|(go_at_call 53;(with_reducible refine (Za.calls Lc 0 (wrap64 ((Ra.length:Int) - 1)) t106 _ A14.out).mono ?_);rintro e w' ⟨rfl,⟨nd,rfl⟩⟩))
    go_meet
    case rel=>exact ⟨_,(t106),(by first|rfl|(simp;done)|(simp [*];done)),H',⟨by first|omega|exact Nat.le_refl _⟩,⟨by (with_reducible repeat (first|refine Ba ?_ _|refine Fa ?_|refine Ca ?_ _));exact oa.out⟩,⟨by (with_reducible repeat (first|refine Ba ?_ _|refine Fa ?_|refine Ca ?_ _));exact za.out⟩,⟨by repeat (first|(with_reducible first|exact HB.out|apply qa|apply ja|apply ta|refine ua ?_ Ta.out|refine ua ?_ nc.out)|exact HB.out)⟩⟩
   ·replace nC:=Bool.eq_false_iff.mpr nC;subst nC;have H1:(jb.j0 k t103 true false false Ra La Ja Ma Aa oc Tb Kb Lb Xb Lc Vc)=some r:=by rw [if_neg (show ¬ (false=true) by decide)] at H;exact H
    clear H;have H:=H1;clear H1;have H':=ga.mk H;clear H;go_wp2
    go_meet
    case rel=>exact ⟨_,(false),(by first|rfl|(simp;done)|(simp [*];done)),H',⟨by first|omega|exact Nat.le_refl _⟩,⟨by (with_reducible repeat (first|refine Ba ?_ _|refine Fa ?_|refine Ca ?_ _));exact oa.out⟩,⟨by (with_reducible repeat (first|refine Ba ?_ _|refine Fa ?_|refine Ca ?_ _));exact za.out⟩,⟨by repeat (first|(with_reducible first|exact HB.out|apply qa|apply ja|apply ta|refine ua ?_ Ta.out|refine ua ?_ nc.out)|exact HB.out)⟩⟩
  ·replace wu:=Bool.eq_false_iff.mpr wu;subst wu;have H1:(if Kb=(-1) then (if t105=true then ((Za.f Lc 0 (wrap64 ((Ra.length:Int) - 1))).bind fun t107=>(jb.j0 k t103 false t105 t107 Ra La Ja Ma Aa oc Tb Kb Lb Xb Lc Vc)) else (jb.j0 k t103 false t105 false Ra La Ja Ma Aa oc Tb Kb Lb Xb Lc Vc)) else (jb.j0 k t103 false t105 false Ra La Ja Ma Aa oc Tb Kb Lb Xb Lc Vc))=some r:=by rw [if_neg (show ¬ (false=true) by decide)] at H;exact H
   clear H;have H:=H1;clear H1
   by_cases Pp:Kb=(-1)
   ·rw [if_pos Pp] at H;have qo:(Kb == (-1))=true:=beq_iff_eq.mpr Pp;have kU:(Kb != (-1))=false:=bne_eq_false_iff_eq.mpr Pp;clear Pp;(first|rw [qo]|(simp only [Zb,dc];rw [qo])|skip)
    by_cases Pn:t105=true
    ·subst Pn;have H1:((Za.f Lc 0 (wrap64 ((Ra.length:Int) - 1))).bind fun t107=>(jb.j0 k t103 false true t107 Ra La Ja Ma Aa oc Tb Kb Lb Xb Lc Vc))=some r:=by rw [if_pos rfl] at H;exact H
     clear H;have H:=H1;clear H1;replace H:=Option.bind_eq_some_iff.mp H;obtain ⟨t107,aV,H⟩:=H;replace H:(jb.j0 k t103 false true t107 Ra La Ja Ma Aa oc Tb Kb Lb Xb Lc Vc)=some r:=H;have xI:=ga.mk aV;clear aV;have H':=ga.mk H;clear H;have zav:=Cb.out;have Tau:=Db.out;have Uv:w8.cell? ⟨Ka,0,none⟩=some (.int .i64 oc):=(ia za.out 0).trans rfl;have Tv:w8.cell? ⟨Ka,1,none⟩=some (.int .i64 Tb):=(ia za.out 1).trans rfl;have Sv:w8.cell? ⟨Ka,2,none⟩=some (.int .i64 Kb):=(ia za.out 2).trans rfl;have Rv:w8.cell? ⟨Ka,3,none⟩=some (.int .i64 Lb):=(ia za.out 3).trans rfl;have Qv:w8.cell? ⟨Ka,4,none⟩=some (.int .i64 Xb):=(ia za.out 4).trans rfl;have YO:w8.cell? ⟨Ka,5,none⟩=some (.int .i64 Lc):=(ia za.out 5).trans rfl;have XO:w8.cell? ⟨Ka,6,none⟩=some (.string Vc):=(ia za.out 6).trans rfl;have qv:=aa za.out 0;have ov:=aa za.out 1;have nv:=aa za.out 2;have jv:=aa za.out 3;have gv:=aa za.out 4;have LN:=aa za.out 5;have KN:=aa za.out 6;have Aq:w8.cell? ⟨ya,0,none⟩=some (.slice Xa Ra.length Ya):=(ia oa.out 0).trans rfl;have zq:w8.cell? ⟨ya,1,none⟩=some (.int .i64 La):=(ia oa.out 1).trans rfl;have yq:w8.cell? ⟨ya,2,none⟩=some (.int .i64 Ja):=(ia oa.out 2).trans rfl;have xq:w8.cell? ⟨ya,3,none⟩=some (.int .i64 Ma):=(ia oa.out 3).trans rfl;have wq:w8.cell? ⟨ya,4,none⟩=some (.slice Mb Aa.length Fb):=(ia oa.out 4).trans rfl;have fq:=aa oa.out 0;have cq:=aa oa.out 1;have bq:=aa oa.out 2;have aq:=aa oa.out 3;have Zp:=aa oa.out 4;go_wp2_with (first|(go_at_call 53;(with_reducible refine (Za.calls Lc 0 (wrap64 ((Ra.length:Int) - 1)) t107 _ xI.out).mono ?_);rintro e w' ⟨rfl,⟨nd,rfl⟩⟩))
     go_meet
     case rel=>exact ⟨_,(t107),(by first|rfl|(simp;done)|(simp [*];done)),H',⟨by first|omega|exact Nat.le_refl _⟩,⟨by (with_reducible repeat (first|refine Ba ?_ _|refine Fa ?_|refine Ca ?_ _));exact oa.out⟩,⟨by (with_reducible repeat (first|refine Ba ?_ _|refine Fa ?_|refine Ca ?_ _));exact za.out⟩,⟨by repeat (first|(with_reducible first|exact HB.out|apply qa|apply ja|apply ta|refine ua ?_ Ta.out|refine ua ?_ nc.out)|exact HB.out)⟩⟩
    ·replace Pn:=Bool.eq_false_iff.mpr Pn;subst Pn;have H1:(jb.j0 k t103 false false false Ra La Ja Ma Aa oc Tb Kb Lb Xb Lc Vc)=some r:=by rw [if_neg (show ¬ (false=true) by decide)] at H;exact H
     clear H;have H:=H1;clear H1;have H':=ga.mk H;clear H;have Caa:=Cb.out;have qaa:=Db.out;have Pv:w8.cell? ⟨Ka,0,none⟩=some (.int .i64 oc):=(ia za.out 0).trans rfl;have Ov:w8.cell? ⟨Ka,1,none⟩=some (.int .i64 Tb):=(ia za.out 1).trans rfl;have Nv:w8.cell? ⟨Ka,2,none⟩=some (.int .i64 Kb):=(ia za.out 2).trans rfl;have Mv:w8.cell? ⟨Ka,3,none⟩=some (.int .i64 Lb):=(ia za.out 3).trans rfl;have Lv:w8.cell? ⟨Ka,4,none⟩=some (.int .i64 Xb):=(ia za.out 4).trans rfl;have WO:w8.cell? ⟨Ka,5,none⟩=some (.int .i64 Lc):=(ia za.out 5).trans rfl;have VO:w8.cell? ⟨Ka,6,none⟩=some (.string Vc):=(ia za.out 6).trans rfl;have cv:=aa za.out 0;have av:=aa za.out 1;have Zu:=aa za.out 2;have Yu:=aa za.out 3;have Xu:=aa za.out 4;have JN:=aa za.out 5;have HN:=aa za.out 6;go_wp2
     go_meet
     case rel=>exact ⟨_,(false),(by first|rfl|(simp;done)|(simp [*];done)),H',⟨by first|omega|exact Nat.le_refl _⟩,⟨by (with_reducible repeat (first|refine Ba ?_ _|refine Fa ?_|refine Ca ?_ _));exact oa.out⟩,⟨by (with_reducible repeat (first|refine Ba ?_ _|refine Fa ?_|refine Ca ?_ _));exact za.out⟩,⟨by repeat (first|(with_reducible first|exact HB.out|apply qa|apply ja|apply ta|refine ua ?_ Ta.out|refine ua ?_ nc.out)|exact HB.out)⟩⟩
   ·rw [if_neg Pp] at H;have qo:(Kb == (-1))=false:=beq_eq_false_iff_ne.mpr Pp;have kU:(Kb != (-1))=true:=bne_iff_ne.mpr Pp;(first|rw [qo]|(simp only [Zb,dc];rw [qo])|skip);have H':=ga.mk H;clear H;have Aaa:=Cb.out;have oaa:=Db.out;have Fv:w8.cell? ⟨Ka,0,none⟩=some (.int .i64 oc):=(ia za.out 0).trans rfl;have Dv:w8.cell? ⟨Ka,1,none⟩=some (.int .i64 Tb):=(ia za.out 1).trans rfl;have Cv:w8.cell? ⟨Ka,2,none⟩=some (.int .i64 Kb):=(ia za.out 2).trans rfl;have Bv:w8.cell? ⟨Ka,3,none⟩=some (.int .i64 Lb):=(ia za.out 3).trans rfl;have Av:w8.cell? ⟨Ka,4,none⟩=some (.int .i64 Xb):=(ia za.out 4).trans rfl;have CH:w8.cell? ⟨Ka,5,none⟩=some (.int .i64 Lc):=(ia za.out 5).trans rfl;have BH:w8.cell? ⟨Ka,6,none⟩=some (.string Vc):=(ia za.out 6).trans rfl;have Ru:=aa za.out 0;have Qu:=aa za.out 1;have Pu:=aa za.out 2;have Ou:=aa za.out 3;have Nu:=aa za.out 4;have GG:=aa za.out 5;have FG:=aa za.out 6;go_wp2
    go_meet
    case rel=>exact ⟨_,(false),(by first|rfl|(simp;done)|(simp [*];done)),H',⟨by first|omega|exact Nat.le_refl _⟩,⟨by (with_reducible repeat (first|refine Ba ?_ _|refine Fa ?_|refine Ca ?_ _));exact oa.out⟩,⟨by (with_reducible repeat (first|refine Ba ?_ _|refine Fa ?_|refine Ca ?_ _));exact za.out⟩,⟨by repeat (first|(with_reducible first|exact HB.out|apply qa|apply ja|apply ta|refine ua ?_ Ta.out|refine ua ?_ nc.out)|exact HB.out)⟩⟩
 case rest =>
  clear HC6
  try clear c1
  try clear c2
  try clear p2
  try clear c5
  try clear p6
  try clear c9
  try clear wu
  try clear nC
  try clear yD
  try clear Pp
  try clear qo
  try clear kU
  try clear Pn
  try clear Pt
  try clear YQ
  try clear qR
  try clear Yh
  try clear Xh
  try clear Wh
  try clear Vh
  try clear Uh
  try clear uz
  try clear rz
  try clear bt
  try clear Zs
  try clear Ys
  try clear Xs
  try clear Ws
  try clear zn
  try clear vn
  try clear sn
  try clear qn
  try clear pn
  try clear lC
  try clear kC
  try clear jC
  try clear iC
  try clear gC
  try clear fC
  try clear eC
  try clear Uv
  try clear Tv
  try clear Sv
  try clear Rv
  try clear Qv
  try clear YO
  try clear XO
  try clear Aq
  try clear zq
  try clear yq
  try clear xq
  try clear wq
  try clear Pv
  try clear Ov
  try clear Nv
  try clear Mv
  try clear Lv
  try clear WO
  try clear VO
  try clear Fv
  try clear Dv
  try clear Cv
  try clear Bv
  try clear Av
  try clear CH
  try clear BH
  try clear Th
  try clear Sh
  try clear Rh
  try clear Qh
  try clear Ph
  try clear Wy
  try clear Vy
  try clear Gs
  try clear Fs
  try clear Es
  try clear Ds
  try clear Cs
  try clear kn
  try clear jn
  try clear gn
  try clear en
  try clear dn
  try clear MB
  try clear KB
  try clear JB
  try clear IB
  try clear FB
  try clear EB
  try clear DB
  try clear qv
  try clear ov
  try clear nv
  try clear jv
  try clear gv
  try clear LN
  try clear KN
  try clear fq
  try clear cq
  try clear bq
  try clear aq
  try clear Zp
  try clear cv
  try clear av
  try clear Zu
  try clear Yu
  try clear Xu
  try clear JN
  try clear HN
  try clear Ru
  try clear Qu
  try clear Pu
  try clear Ou
  try clear Nu
  try clear GG
  try clear FG
  obtain ⟨kq,zI,rfl,HA,HJ5,oa,za,HB⟩:=hcut;cases kq with
  | zero=>exact absurd HA.out (by simp [jb.j0])
  | succ kj5 =>
   have H:=HA.out;clear HA;simp only [jb.j0] at H;have F9:=ga.mk H;clear H
   go_upto_region 5 with (fail)
   go_cut [62] (fun v62 wc=>∃ (kq:Nat) (dF:Bool),v62 = .bool dF∧ga (jb.j1 kq t103 t104 t105 zI dF Ra La Ja Ma Aa oc Tb Kb Lb Xb Lc Vc=some r)∧ga (kq ≤ kj5)∧ga (wc.heap[ya]? = some (.cells #[(.slice Xa Ra.length Ya),.int .i64 La,.int .i64 Ja,.int .i64 Ma,(.slice Mb Aa.length Fb)] 30 (0,0)))∧ga (wc.heap[Ka]? = some (.cells #[.int .i64 oc,.int .i64 Tb,.int .i64 Kb,.int .i64 Lb,.int .i64 Xb,.int .i64 Lc,.string Vc] 65 (0,0)))∧ga (Below w.heap.size w wc))
   case first =>
    have H:=F9.out;clear F9
    by_cases XQ:oc=2
    ·rw [if_pos XQ] at H;have wD:(oc == 2)=true:=beq_iff_eq.mpr XQ;have L1:(oc != 2)=false:=bne_eq_false_iff_eq.mpr XQ;clear XQ;(first|rw [wD]|(simp only [Zb,dc];rw [wD])|skip)
     by_cases YJ:oc=4
     ·rw [if_pos YJ] at H;have kP:(oc == 4)=true:=beq_iff_eq.mpr YJ;have K1:(oc != 4)=false:=bne_eq_false_iff_eq.mpr YJ;clear YJ;have H':=ga.mk H;clear H;have vav:=Cb.out;have Pau:=Db.out;have SB:wc.cell? ⟨Ka,0,none⟩=some (.int .i64 oc):=(ia za.out 0).trans rfl;have RB:wc.cell? ⟨Ka,1,none⟩=some (.int .i64 Tb):=(ia za.out 1).trans rfl;have QB:wc.cell? ⟨Ka,2,none⟩=some (.int .i64 Kb):=(ia za.out 2).trans rfl;have OB:wc.cell? ⟨Ka,3,none⟩=some (.int .i64 Lb):=(ia za.out 3).trans rfl;have NB:wc.cell? ⟨Ka,4,none⟩=some (.int .i64 Xb):=(ia za.out 4).trans rfl;have bY:wc.cell? ⟨Ka,5,none⟩=some (.int .i64 Lc):=(ia za.out 5).trans rfl;have aY:wc.cell? ⟨Ka,6,none⟩=some (.string Vc):=(ia za.out 6).trans rfl;have sB:=aa za.out 0;have rB:=aa za.out 1;have qB:=aa za.out 2;have oB:=aa za.out 3;have nB:=aa za.out 4;have QW:=aa za.out 5;have PW:=aa za.out 6;go_wp2
      go_meet
      case rel=>exact ⟨_,(false),(by first|rfl|(simp;done)|(simp [*];done)),H',⟨by have:=HJ5.out;first|omega|exact Nat.le_refl _⟩,⟨by (with_reducible repeat (first|refine Ba ?_ _|refine Fa ?_|refine Ca ?_ _));exact oa.out⟩,⟨by (with_reducible repeat (first|refine Ba ?_ _|refine Fa ?_|refine Ca ?_ _));exact za.out⟩,⟨by repeat (first|(with_reducible first|exact HB.out|apply qa|apply ja|apply ta|refine ua ?_ Ta.out|refine ua ?_ nc.out)|exact HB.out)⟩⟩
     ·rw [if_neg YJ] at H;have kP:(oc == 4)=false:=beq_eq_false_iff_ne.mpr YJ;have K1:(oc != 4)=true:=bne_iff_ne.mpr YJ;have H':=ga.mk H;clear H;have tav:=Cb.out;have Nau:=Db.out;have BO:wc.cell? ⟨Ka,0,none⟩=some (.int .i64 oc):=(ia za.out 0).trans rfl;have AO:wc.cell? ⟨Ka,1,none⟩=some (.int .i64 Tb):=(ia za.out 1).trans rfl;have zO:wc.cell? ⟨Ka,2,none⟩=some (.int .i64 Kb):=(ia za.out 2).trans rfl;have yO:wc.cell? ⟨Ka,3,none⟩=some (.int .i64 Lb):=(ia za.out 3).trans rfl;have xO:wc.cell? ⟨Ka,4,none⟩=some (.int .i64 Xb):=(ia za.out 4).trans rfl;have wO:wc.cell? ⟨Ka,5,none⟩=some (.int .i64 Lc):=(ia za.out 5).trans rfl;have vO:wc.cell? ⟨Ka,6,none⟩=some (.string Vc):=(ia za.out 6).trans rfl;have tN:=aa za.out 0;have sN:=aa za.out 1;have rN:=aa za.out 2;have qN:=aa za.out 3;have pN:=aa za.out 4;have oN:=aa za.out 5;have nN:=aa za.out 6;go_wp2
      go_meet
      case rel=>exact ⟨_,((Xb != 0)),(by first|rfl|(simp;done)|(simp [*];done)),H',⟨by have:=HJ5.out;first|omega|exact Nat.le_refl _⟩,⟨by (with_reducible repeat (first|refine Ba ?_ _|refine Fa ?_|refine Ca ?_ _));exact oa.out⟩,⟨by (with_reducible repeat (first|refine Ba ?_ _|refine Fa ?_|refine Ca ?_ _));exact za.out⟩,⟨by repeat (first|(with_reducible first|exact HB.out|apply qa|apply ja|apply ta|refine ua ?_ Ta.out|refine ua ?_ nc.out)|exact HB.out)⟩⟩
    ·rw [if_neg XQ] at H;have wD:(oc == 2)=false:=beq_eq_false_iff_ne.mpr XQ;have L1:(oc != 2)=true:=bne_iff_ne.mpr XQ;(first|rw [wD]|(simp only [Zb,dc];rw [wD])|skip)
     by_cases qI:Vc.toList=([]:List UInt8)
     ·rw [if_pos qI] at H;have gU:(Vc.toList == ([]:List UInt8))=true:=beq_iff_eq.mpr qI;have G1:(Vc.toList != ([]:List UInt8))=false:=bne_eq_false_iff_eq.mpr qI;clear qI
      by_cases F1:oc=4
      ·rw [if_pos F1] at H;have E1:(oc == 4)=true:=beq_iff_eq.mpr F1;have D1:(oc != 4)=false:=bne_eq_false_iff_eq.mpr F1;clear F1;have H':=ga.mk H;clear H;have xaa:=Cb.out;have laa:=Db.out;have vH:wc.cell? ⟨Ka,0,none⟩=some (.int .i64 oc):=(ia za.out 0).trans rfl;have uH:wc.cell? ⟨Ka,1,none⟩=some (.int .i64 Tb):=(ia za.out 1).trans rfl;have tH:wc.cell? ⟨Ka,2,none⟩=some (.int .i64 Kb):=(ia za.out 2).trans rfl;have sH:wc.cell? ⟨Ka,3,none⟩=some (.int .i64 Lb):=(ia za.out 3).trans rfl;have rH:wc.cell? ⟨Ka,4,none⟩=some (.int .i64 Xb):=(ia za.out 4).trans rfl;have kO:wc.cell? ⟨Ka,5,none⟩=some (.int .i64 Lc):=(ia za.out 5).trans rfl;have jO:wc.cell? ⟨Ka,6,none⟩=some (.string Vc):=(ia za.out 6).trans rfl;have zG:=aa za.out 0;have yG:=aa za.out 1;have xG:=aa za.out 2;have wG:=aa za.out 3;have vG:=aa za.out 4;have bN:=aa za.out 5;have aN:=aa za.out 6;go_wp2
       go_meet
       case rel=>exact ⟨_,(false),(by first|rfl|(simp;done)|(simp [*];done)),H',⟨by have:=HJ5.out;first|omega|exact Nat.le_refl _⟩,⟨by (with_reducible repeat (first|refine Ba ?_ _|refine Fa ?_|refine Ca ?_ _));exact oa.out⟩,⟨by (with_reducible repeat (first|refine Ba ?_ _|refine Fa ?_|refine Ca ?_ _));exact za.out⟩,⟨by repeat (first|(with_reducible first|exact HB.out|apply qa|apply ja|apply ta|refine ua ?_ Ta.out|refine ua ?_ nc.out)|exact HB.out)⟩⟩
      ·rw [if_neg F1] at H;have E1:(oc == 4)=false:=beq_eq_false_iff_ne.mpr F1;have D1:(oc != 4)=true:=bne_iff_ne.mpr F1;have H':=ga.mk H;clear H;have waa:=Cb.out;have kaa:=Db.out;have dz:wc.cell? ⟨Ka,0,none⟩=some (.int .i64 oc):=(ia za.out 0).trans rfl;have bz:wc.cell? ⟨Ka,1,none⟩=some (.int .i64 Tb):=(ia za.out 1).trans rfl;have az:wc.cell? ⟨Ka,2,none⟩=some (.int .i64 Kb):=(ia za.out 2).trans rfl;have Zy:wc.cell? ⟨Ka,3,none⟩=some (.int .i64 Lb):=(ia za.out 3).trans rfl;have Yy:wc.cell? ⟨Ka,4,none⟩=some (.int .i64 Xb):=(ia za.out 4).trans rfl;have iO:wc.cell? ⟨Ka,5,none⟩=some (.int .i64 Lc):=(ia za.out 5).trans rfl;have gO:wc.cell? ⟨Ka,6,none⟩=some (.string Vc):=(ia za.out 6).trans rfl;have Ky:=aa za.out 0;have Jy:=aa za.out 1;have Iy:=aa za.out 2;have Hy:=aa za.out 3;have Gy:=aa za.out 4;have ZM:=aa za.out 5;have YM:=aa za.out 6;go_wp2
       go_meet
       case rel=>exact ⟨_,((Xb != 0)),(by first|rfl|(simp;done)|(simp [*];done)),H',⟨by have:=HJ5.out;first|omega|exact Nat.le_refl _⟩,⟨by (with_reducible repeat (first|refine Ba ?_ _|refine Fa ?_|refine Ca ?_ _));exact oa.out⟩,⟨by (with_reducible repeat (first|refine Ba ?_ _|refine Fa ?_|refine Ca ?_ _));exact za.out⟩,⟨by repeat (first|(with_reducible first|exact HB.out|apply qa|apply ja|apply ta|refine ua ?_ Ta.out|refine ua ?_ nc.out)|exact HB.out)⟩⟩
     ·rw [if_neg qI] at H;have gU:(Vc.toList == ([]:List UInt8))=false:=beq_eq_false_iff_ne.mpr qI;have G1:(Vc.toList != ([]:List UInt8))=true:=bne_iff_ne.mpr qI;have H':=ga.mk H;clear H;have vaa:=Cb.out;have jaa:=Db.out;have lH:wc.cell? ⟨Ka,0,none⟩=some (.int .i64 oc):=(ia za.out 0).trans rfl;have kH:wc.cell? ⟨Ka,1,none⟩=some (.int .i64 Tb):=(ia za.out 1).trans rfl;have jH:wc.cell? ⟨Ka,2,none⟩=some (.int .i64 Kb):=(ia za.out 2).trans rfl;have iH:wc.cell? ⟨Ka,3,none⟩=some (.int .i64 Lb):=(ia za.out 3).trans rfl;have gH:wc.cell? ⟨Ka,4,none⟩=some (.int .i64 Xb):=(ia za.out 4).trans rfl;have ZN:wc.cell? ⟨Ka,5,none⟩=some (.int .i64 Lc):=(ia za.out 5).trans rfl;have YN:wc.cell? ⟨Ka,6,none⟩=some (.string Vc):=(ia za.out 6).trans rfl;have oG:=aa za.out 0;have nG:=aa za.out 1;have mG:=aa za.out 2;have lG:=aa za.out 3;have kG:=aa za.out 4;have RM:=aa za.out 5;have QM:=aa za.out 6;go_wp2
      go_meet
      case rel=>exact ⟨_,(true),(by first|rfl|(simp;done)|(simp [*];done)),H',⟨by have:=HJ5.out;first|omega|exact Nat.le_refl _⟩,⟨by (with_reducible repeat (first|refine Ba ?_ _|refine Fa ?_|refine Ca ?_ _));exact oa.out⟩,⟨by (with_reducible repeat (first|refine Ba ?_ _|refine Fa ?_|refine Ca ?_ _));exact za.out⟩,⟨by repeat (first|(with_reducible first|exact HB.out|apply qa|apply ja|apply ta|refine ua ?_ Ta.out|refine ua ?_ nc.out)|exact HB.out)⟩⟩
   case rest =>
    clear F9
    try clear c1
    try clear c2
    try clear p2
    try clear c3
    try clear c4
    try clear c5
    try clear p6
    try clear c9
    try clear wu
    try clear nC
    try clear yD
    try clear Pp
    try clear qo
    try clear kU
    try clear Pn
    try clear Pt
    try clear YQ
    try clear qR
    try clear XQ
    try clear wD
    try clear L1
    try clear YJ
    try clear kP
    try clear K1
    try clear J1
    try clear pR
    try clear qI
    try clear gU
    try clear G1
    try clear F1
    try clear E1
    try clear D1
    try clear c37
    try clear pV
    try clear c41
    try clear Yh
    try clear Xh
    try clear Wh
    try clear Vh
    try clear Uh
    try clear uz
    try clear rz
    try clear bt
    try clear Zs
    try clear Ys
    try clear Xs
    try clear Ws
    try clear zn
    try clear vn
    try clear sn
    try clear qn
    try clear pn
    try clear lC
    try clear kC
    try clear jC
    try clear iC
    try clear gC
    try clear fC
    try clear eC
    try clear Uv
    try clear Tv
    try clear Sv
    try clear Rv
    try clear Qv
    try clear YO
    try clear XO
    try clear Aq
    try clear zq
    try clear yq
    try clear xq
    try clear wq
    try clear Pv
    try clear Ov
    try clear Nv
    try clear Mv
    try clear Lv
    try clear WO
    try clear VO
    try clear Fv
    try clear Dv
    try clear Cv
    try clear Bv
    try clear Av
    try clear CH
    try clear BH
    try clear SB
    try clear RB
    try clear QB
    try clear OB
    try clear NB
    try clear bY
    try clear aY
    try clear BO
    try clear AO
    try clear zO
    try clear yO
    try clear xO
    try clear wO
    try clear vO
    try clear vH
    try clear uH
    try clear tH
    try clear sH
    try clear rH
    try clear kO
    try clear jO
    try clear dz
    try clear bz
    try clear az
    try clear Zy
    try clear Yy
    try clear iO
    try clear gO
    try clear lH
    try clear kH
    try clear jH
    try clear iH
    try clear gH
    try clear ZN
    try clear YN
    try clear Th
    try clear Sh
    try clear Rh
    try clear Qh
    try clear Ph
    try clear Wy
    try clear Vy
    try clear Gs
    try clear Fs
    try clear Es
    try clear Ds
    try clear Cs
    try clear kn
    try clear jn
    try clear gn
    try clear en
    try clear dn
    try clear MB
    try clear KB
    try clear JB
    try clear IB
    try clear FB
    try clear EB
    try clear DB
    try clear qv
    try clear ov
    try clear nv
    try clear jv
    try clear gv
    try clear LN
    try clear KN
    try clear fq
    try clear cq
    try clear bq
    try clear aq
    try clear Zp
    try clear cv
    try clear av
    try clear Zu
    try clear Yu
    try clear Xu
    try clear JN
    try clear HN
    try clear Ru
    try clear Qu
    try clear Pu
    try clear Ou
    try clear Nu
    try clear GG
    try clear FG
    try clear sB
    try clear rB
    try clear qB
    try clear oB
    try clear nB
    try clear QW
    try clear PW
    try clear tN
    try clear sN
    try clear rN
    try clear qN
    try clear pN
    try clear oN
    try clear nN
    try clear zG
    try clear yG
    try clear xG
    try clear wG
    try clear vG
    try clear bN
    try clear aN
    try clear Ky
    try clear Jy
    try clear Iy
    try clear Hy
    try clear Gy
    try clear ZM
    try clear YM
    try clear oG
    try clear nG
    try clear mG
    try clear lG
    try clear kG
    try clear RM
    try clear QM
    try clear p2
    try clear p6
    obtain ⟨kq,dF,rfl,HA,daA,oa,za,HB⟩:=hcut;cases kq with
    | zero=>exact absurd HA.out (by simp [jb.j1])
    | succ tQ =>
     have H:=HA.out;clear HA;simp only [jb.j1] at H
     by_cases c43:dF=true
     ·subst c43;have H1:(some false)=some r:=by rw [if_pos rfl] at H;exact H
      clear H;have H:=H1;clear H1;obtain rfl:=Option.some.inj H;go_wp2;go_ret;exact ⟨by first|rfl|(simp [Oa,Na] <;> rfl)|(simp [*,Oa,Na] <;> rfl),by repeat (first|(with_reducible first|exact HB.out|apply qa|apply ja|apply ta|refine ua ?_ Ta.out|refine ua ?_ nc.out)|exact HB.out)⟩
     ·replace c43:=Bool.eq_false_iff.mpr c43;subst c43;have H1:(if oc=0 then (if t103=true then (if Kb=0 then (some (Lb == 0)) else (some false)) else (some false)) else (if oc=1 then (if t103=true then (if t104=true then (if Lb=0 then (some (Lc == 0)) else (some false)) else (some false)) else (some false)) else (if oc=2 then (if t103=true then (if t104=true then (if t105=true then (if Lc=0 then ((Pe.f tQ (([(⟨#[61,61]⟩:ByteArray),(⟨#[60]⟩:ByteArray),(⟨#[38]⟩:ByteArray),(⟨#[43]⟩:ByteArray),(⟨#[45]⟩:ByteArray),(⟨#[42]⟩:ByteArray)]:List ByteArray)) Vc).bind fun t111=>(some t111)) else (some false)) else (some false)) else (some false)) else (some false)) else (if oc=3 then (if t103=true then (some zI) else (some false)) else (if oc=4 then (if Tb=0 then (if zI=true then ((Za.f Xb 0 (wrap64 (Ma - 1))).bind fun t112=>(some t112)) else (some false)) else (some false)) else (if oc=5 then (if t103=true then (if Kb=0 then (if Lb=0 then (some (Lc == 0)) else (some false)) else (some false)) else (some false)) else (if oc=6 then (if Tb=0 then (if t104=true then (if Lb=0 then (some (Lc == 0)) else (some false)) else (some false)) else (some false)) else (some false))))))))=some r:=by rw [if_neg (show ¬ (false=true) by decide)] at H;exact H
      clear H;have H:=H1;clear H1
      by_cases sL:oc=0
      ·rw [if_pos sL] at H;have fU:(oc == 0)=true:=beq_iff_eq.mpr sL;have eU:(oc != 0)=false:=bne_eq_false_iff_eq.mpr sL;clear sL
       by_cases WY:t103=true
       ·subst WY;have H1:(if Kb=0 then (some (Lb == 0)) else (some false))=some r:=by rw [if_pos rfl] at H;exact H
        clear H;have H:=H1;clear H1
        by_cases rL:Kb=0
        ·rw [if_pos rL] at H;have dU:(Kb == 0)=true:=beq_iff_eq.mpr rL;have cU:(Kb != 0)=false:=bne_eq_false_iff_eq.mpr rL;clear rL;obtain rfl:=Option.some.inj H;have WZ:=Cb.out;have UZ:=Db.out;have aH:wc.cell? ⟨Ka,0,none⟩=some (.int .i64 oc):=(ia za.out 0).trans rfl;have ZG:wc.cell? ⟨Ka,1,none⟩=some (.int .i64 Tb):=(ia za.out 1).trans rfl;have YG:wc.cell? ⟨Ka,2,none⟩=some (.int .i64 Kb):=(ia za.out 2).trans rfl;have XG:wc.cell? ⟨Ka,3,none⟩=some (.int .i64 Lb):=(ia za.out 3).trans rfl;have WG:wc.cell? ⟨Ka,4,none⟩=some (.int .i64 Xb):=(ia za.out 4).trans rfl;have RX:wc.cell? ⟨Ka,5,none⟩=some (.int .i64 Lc):=(ia za.out 5).trans rfl;have QX:wc.cell? ⟨Ka,6,none⟩=some (.string Vc):=(ia za.out 6).trans rfl;have dG:=aa za.out 0;have cG:=aa za.out 1;have bG:=aa za.out 2;have aG:=aa za.out 3;have ZF:=aa za.out 4;have GW:=aa za.out 5;have FW:=aa za.out 6;go_wp2;go_ret;exact ⟨by first|rfl|(simp [Oa,Na] <;> rfl)|(simp [*,Oa,Na] <;> rfl),by repeat (first|(with_reducible first|exact HB.out|apply qa|apply ja|apply ta|refine ua ?_ Ta.out|refine ua ?_ nc.out)|exact HB.out)⟩
        ·rw [if_neg rL] at H;have dU:(Kb == 0)=false:=beq_eq_false_iff_ne.mpr rL;have cU:(Kb != 0)=true:=bne_iff_ne.mpr rL;obtain rfl:=Option.some.inj H;have oav:=Cb.out;have Iau:=Db.out;have KX:wc.cell? ⟨Ka,0,none⟩=some (.int .i64 oc):=(ia za.out 0).trans rfl;have JX:wc.cell? ⟨Ka,1,none⟩=some (.int .i64 Tb):=(ia za.out 1).trans rfl;have IX:wc.cell? ⟨Ka,2,none⟩=some (.int .i64 Kb):=(ia za.out 2).trans rfl;have GX:wc.cell? ⟨Ka,3,none⟩=some (.int .i64 Lb):=(ia za.out 3).trans rfl;have FX:wc.cell? ⟨Ka,4,none⟩=some (.int .i64 Xb):=(ia za.out 4).trans rfl;have aan:wc.cell? ⟨Ka,5,none⟩=some (.int .i64 Lc):=(ia za.out 5).trans rfl;have Zam:wc.cell? ⟨Ka,6,none⟩=some (.string Vc):=(ia za.out 6).trans rfl;have xW:=aa za.out 0;have wW:=aa za.out 1;have vW:=aa za.out 2;have uW:=aa za.out 3;have tW:=aa za.out 4;have Qaj:=aa za.out 5;have Paj:=aa za.out 6;go_wp2;go_ret;exact ⟨by first|rfl|(simp [Oa,Na] <;> rfl)|(simp [*,Oa,Na] <;> rfl),by repeat (first|(with_reducible first|exact HB.out|apply qa|apply ja|apply ta|refine ua ?_ Ta.out|refine ua ?_ nc.out)|exact HB.out)⟩
       ·replace WY:=Bool.eq_false_iff.mpr WY;subst WY;have H1:(some false)=some r:=by rw [if_neg (show ¬ (false=true) by decide)] at H;exact H
        clear H;have H:=H1;clear H1;obtain rfl:=Option.some.inj H;have uaa:=Cb.out;have iaa:=Db.out;have SG:wc.cell? ⟨Ka,0,none⟩=some (.int .i64 oc):=(ia za.out 0).trans rfl;have RG:wc.cell? ⟨Ka,1,none⟩=some (.int .i64 Tb):=(ia za.out 1).trans rfl;have QG:wc.cell? ⟨Ka,2,none⟩=some (.int .i64 Kb):=(ia za.out 2).trans rfl;have PG:wc.cell? ⟨Ka,3,none⟩=some (.int .i64 Lb):=(ia za.out 3).trans rfl;have OG:wc.cell? ⟨Ka,4,none⟩=some (.int .i64 Xb):=(ia za.out 4).trans rfl;have Tam:wc.cell? ⟨Ka,5,none⟩=some (.int .i64 Lc):=(ia za.out 5).trans rfl;have Sam:wc.cell? ⟨Ka,6,none⟩=some (.string Vc):=(ia za.out 6).trans rfl;have VF:=aa za.out 0;have UF:=aa za.out 1;have SF:=aa za.out 2;have RF:=aa za.out 3;have QF:=aa za.out 4;have Jaj:=aa za.out 5;have Iaj:=aa za.out 6;go_wp2;go_ret;exact ⟨by first|rfl|(simp [Oa,Na] <;> rfl)|(simp [*,Oa,Na] <;> rfl),by repeat (first|(with_reducible first|exact HB.out|apply qa|apply ja|apply ta|refine ua ?_ Ta.out|refine ua ?_ nc.out)|exact HB.out)⟩
      ·rw [if_neg sL] at H;have fU:(oc == 0)=false:=beq_eq_false_iff_ne.mpr sL;have eU:(oc != 0)=true:=bne_iff_ne.mpr sL
       by_cases C7:oc=1
       ·rw [if_pos C7] at H;have Hae:(oc == 1)=true:=beq_iff_eq.mpr C7;have Gae:(oc != 1)=false:=bne_eq_false_iff_eq.mpr C7;clear C7
        by_cases c54:t103=true
        ·subst c54;have H1:(if t104=true then (if Lb=0 then (some (Lc == 0)) else (some false)) else (some false))=some r:=by rw [if_pos rfl] at H;exact H
         clear H;have H:=H1;clear H1
         by_cases c55:t104=true
         ·subst c55;have H1:(if Lb=0 then (some (Lc == 0)) else (some false))=some r:=by rw [if_pos rfl] at H;exact H
          clear H;have H:=H1;clear H1
          by_cases B7:Lb=0
          ·rw [if_pos B7] at H;have Fae:(Lb == 0)=true:=beq_iff_eq.mpr B7;have Eae:(Lb != 0)=false:=bne_eq_false_iff_eq.mpr B7;clear B7;obtain rfl:=Option.some.inj H;have kav:=Cb.out;have Eau:=Db.out;have EX:wc.cell? ⟨Ka,0,none⟩=some (.int .i64 oc):=(ia za.out 0).trans rfl;have DX:wc.cell? ⟨Ka,1,none⟩=some (.int .i64 Tb):=(ia za.out 1).trans rfl;have CX:wc.cell? ⟨Ka,2,none⟩=some (.int .i64 Kb):=(ia za.out 2).trans rfl;have BX:wc.cell? ⟨Ka,3,none⟩=some (.int .i64 Lb):=(ia za.out 3).trans rfl;have AX:wc.cell? ⟨Ka,4,none⟩=some (.int .i64 Xb):=(ia za.out 4).trans rfl;have xam:wc.cell? ⟨Ka,5,none⟩=some (.int .i64 Lc):=(ia za.out 5).trans rfl;have wam:wc.cell? ⟨Ka,6,none⟩=some (.string Vc):=(ia za.out 6).trans rfl;have sW:=aa za.out 0;have rW:=aa za.out 1;have qW:=aa za.out 2;have pW:=aa za.out 3;have oW:=aa za.out 4;have naj:=aa za.out 5;have maj:=aa za.out 6;go_wp2;go_ret;exact ⟨by first|rfl|(simp [Oa,Na] <;> rfl)|(simp [*,Oa,Na] <;> rfl),by repeat (first|(with_reducible first|exact HB.out|apply qa|apply ja|apply ta|refine ua ?_ Ta.out|refine ua ?_ nc.out)|exact HB.out)⟩
          ·rw [if_neg B7] at H;have Fae:(Lb == 0)=false:=beq_eq_false_iff_ne.mpr B7;have Eae:(Lb != 0)=true:=bne_iff_ne.mpr B7;obtain rfl:=Option.some.inj H;have jav:=Cb.out;have Dau:=Db.out;have vam:wc.cell? ⟨Ka,0,none⟩=some (.int .i64 oc):=(ia za.out 0).trans rfl;have uam:wc.cell? ⟨Ka,1,none⟩=some (.int .i64 Tb):=(ia za.out 1).trans rfl;have tam:wc.cell? ⟨Ka,2,none⟩=some (.int .i64 Kb):=(ia za.out 2).trans rfl;have sam:wc.cell? ⟨Ka,3,none⟩=some (.int .i64 Lb):=(ia za.out 3).trans rfl;have ram:wc.cell? ⟨Ka,4,none⟩=some (.int .i64 Xb):=(ia za.out 4).trans rfl;have qam:wc.cell? ⟨Ka,5,none⟩=some (.int .i64 Lc):=(ia za.out 5).trans rfl;have pam:wc.cell? ⟨Ka,6,none⟩=some (.string Vc):=(ia za.out 6).trans rfl;have laj:=aa za.out 0;have kaj:=aa za.out 1;have jaj:=aa za.out 2;have iaj:=aa za.out 3;have haj:=aa za.out 4;have gaj:=aa za.out 5;have faj:=aa za.out 6;go_wp2;go_ret;exact ⟨by first|rfl|(simp [Oa,Na] <;> rfl)|(simp [*,Oa,Na] <;> rfl),by repeat (first|(with_reducible first|exact HB.out|apply qa|apply ja|apply ta|refine ua ?_ Ta.out|refine ua ?_ nc.out)|exact HB.out)⟩
         ·replace c55:=Bool.eq_false_iff.mpr c55;subst c55;have H1:(some false)=some r:=by rw [if_neg (show ¬ (false=true) by decide)] at H;exact H
          clear H;have H:=H1;clear H1;obtain rfl:=Option.some.inj H;have iav:=Cb.out;have Cau:=Db.out;have oam:wc.cell? ⟨Ka,0,none⟩=some (.int .i64 oc):=(ia za.out 0).trans rfl;have nam:wc.cell? ⟨Ka,1,none⟩=some (.int .i64 Tb):=(ia za.out 1).trans rfl;have mam:wc.cell? ⟨Ka,2,none⟩=some (.int .i64 Kb):=(ia za.out 2).trans rfl;have kam:wc.cell? ⟨Ka,3,none⟩=some (.int .i64 Lb):=(ia za.out 3).trans rfl;have jam:wc.cell? ⟨Ka,4,none⟩=some (.int .i64 Xb):=(ia za.out 4).trans rfl;have iam:wc.cell? ⟨Ka,5,none⟩=some (.int .i64 Lc):=(ia za.out 5).trans rfl;have ham:wc.cell? ⟨Ka,6,none⟩=some (.string Vc):=(ia za.out 6).trans rfl;have eaj:=aa za.out 0;have daj:=aa za.out 1;have caj:=aa za.out 2;have baj:=aa za.out 3;have aaj:=aa za.out 4;have Zai:=aa za.out 5;have Yai:=aa za.out 6;go_wp2;go_ret;exact ⟨by first|rfl|(simp [Oa,Na] <;> rfl)|(simp [*,Oa,Na] <;> rfl),by repeat (first|(with_reducible first|exact HB.out|apply qa|apply ja|apply ta|refine ua ?_ Ta.out|refine ua ?_ nc.out)|exact HB.out)⟩
        ·replace c54:=Bool.eq_false_iff.mpr c54;subst c54;have H1:(some false)=some r:=by rw [if_neg (show ¬ (false=true) by decide)] at H;exact H
         clear H;have H:=H1;clear H1;obtain rfl:=Option.some.inj H;have hav:=Cb.out;have Bau:=Db.out;have gam:wc.cell? ⟨Ka,0,none⟩=some (.int .i64 oc):=(ia za.out 0).trans rfl;have fam:wc.cell? ⟨Ka,1,none⟩=some (.int .i64 Tb):=(ia za.out 1).trans rfl;have eam:wc.cell? ⟨Ka,2,none⟩=some (.int .i64 Kb):=(ia za.out 2).trans rfl;have dam:wc.cell? ⟨Ka,3,none⟩=some (.int .i64 Lb):=(ia za.out 3).trans rfl;have cam:wc.cell? ⟨Ka,4,none⟩=some (.int .i64 Xb):=(ia za.out 4).trans rfl;have bam:wc.cell? ⟨Ka,5,none⟩=some (.int .i64 Lc):=(ia za.out 5).trans rfl;have aam:wc.cell? ⟨Ka,6,none⟩=some (.string Vc):=(ia za.out 6).trans rfl;have Xai:=aa za.out 0;have Wai:=aa za.out 1;have Vai:=aa za.out 2;have Uai:=aa za.out 3;have Tai:=aa za.out 4;have Sai:=aa za.out 5;have Rai:=aa za.out 6;go_wp2;go_ret;exact ⟨by first|rfl|(simp [Oa,Na] <;> rfl)|(simp [*,Oa,Na] <;> rfl),by repeat (first|(with_reducible first|exact HB.out|apply qa|apply ja|apply ta|refine ua ?_ Ta.out|refine ua ?_ nc.out)|exact HB.out)⟩
       ·rw [if_neg C7] at H;have Hae:(oc == 1)=false:=beq_eq_false_iff_ne.mpr C7;have Gae:(oc != 1)=true:=bne_iff_ne.mpr C7
        by_cases y7:oc=2
        ·rw [if_pos y7] at H;have Dae:(oc == 2)=true:=beq_iff_eq.mpr y7;have Cae:(oc != 2)=false:=bne_eq_false_iff_eq.mpr y7;clear y7
         by_cases c66:t103=true
         ·subst c66;have H1:(if t104=true then (if t105=true then (if Lc=0 then ((Pe.f tQ (([(⟨#[61,61]⟩:ByteArray),(⟨#[60]⟩:ByteArray),(⟨#[38]⟩:ByteArray),(⟨#[43]⟩:ByteArray),(⟨#[45]⟩:ByteArray),(⟨#[42]⟩:ByteArray)]:List ByteArray)) Vc).bind fun t111=>(some t111)) else (some false)) else (some false)) else (some false))=some r:=by rw [if_pos rfl] at H;exact H
          clear H;have H:=H1;clear H1
          by_cases c67:t104=true
          ·subst c67;have H1:(if t105=true then (if Lc=0 then ((Pe.f tQ (([(⟨#[61,61]⟩:ByteArray),(⟨#[60]⟩:ByteArray),(⟨#[38]⟩:ByteArray),(⟨#[43]⟩:ByteArray),(⟨#[45]⟩:ByteArray),(⟨#[42]⟩:ByteArray)]:List ByteArray)) Vc).bind fun t111=>(some t111)) else (some false)) else (some false))=some r:=by rw [if_pos rfl] at H;exact H
           clear H;have H:=H1;clear H1
           by_cases c68:t105=true
           ·subst c68;have H1:(if Lc=0 then ((Pe.f tQ (([(⟨#[61,61]⟩:ByteArray),(⟨#[60]⟩:ByteArray),(⟨#[38]⟩:ByteArray),(⟨#[43]⟩:ByteArray),(⟨#[45]⟩:ByteArray),(⟨#[42]⟩:ByteArray)]:List ByteArray)) Vc).bind fun t111=>(some t111)) else (some false))=some r:=by rw [if_pos rfl] at H;exact H
            clear H;have H:=H1;clear H1
            by_cases o7:Lc=0
            ·rw [if_pos o7] at H;have Bae:(Lc == 0)=true:=beq_iff_eq.mpr o7;have Aae:(Lc != 0)=false:=bne_eq_false_iff_eq.mpr o7;clear o7;obtain ⟨Bg,kf⟩:∃ y_:List ByteArray,y_=(([(⟨#[61,61]⟩:ByteArray),(⟨#[60]⟩:ByteArray),(⟨#[38]⟩:ByteArray),(⟨#[43]⟩:ByteArray),(⟨#[45]⟩:ByteArray),(⟨#[42]⟩:ByteArray)]:List ByteArray)):=⟨_,rfl⟩;replace H:((Pe.f tQ Bg Vc).bind fun t111=>(some t111))=some r:=by first|(rw [kf];with_reducible exact H)|(have Md:=(Option.bind_some _ _).symm.trans H;rw [kf];with_reducible exact Md)|(have Md:=(Option.bind_some _ _).symm.trans H;with_reducible exact Md)|with_reducible exact H|(rw [kf];exact H)|exact H
             have Hi:=ga.mk kf;clear kf;replace H:=Option.bind_eq_some_iff.mp H;obtain ⟨t111,Zag,H⟩:=H;replace H:(some t111)=some r:=H;have cK:=ga.mk Zag;clear Zag;obtain rfl:=Option.some.inj H;have gav:=Cb.out;have Aau:=Db.out;have Zal:wc.cell? ⟨Ka,0,none⟩=some (.int .i64 oc):=(ia za.out 0).trans rfl;have Yal:wc.cell? ⟨Ka,1,none⟩=some (.int .i64 Tb):=(ia za.out 1).trans rfl;have Xal:wc.cell? ⟨Ka,2,none⟩=some (.int .i64 Kb):=(ia za.out 2).trans rfl;have Wal:wc.cell? ⟨Ka,3,none⟩=some (.int .i64 Lb):=(ia za.out 3).trans rfl;have Ual:wc.cell? ⟨Ka,4,none⟩=some (.int .i64 Xb):=(ia za.out 4).trans rfl;have Tal:wc.cell? ⟨Ka,5,none⟩=some (.int .i64 Lc):=(ia za.out 5).trans rfl;have Sal:wc.cell? ⟨Ka,6,none⟩=some (.string Vc):=(ia za.out 6).trans rfl;have Qai:=aa za.out 0;have Pai:=aa za.out 1;have Oai:=aa za.out 2;have Nai:=aa za.out 3;have Mai:=aa za.out 4;have Lai:=aa za.out 5;have Kai:=aa za.out 6;go_wp2_with (first|((with_reducible refine qb (N:=109) rfl ?_);(try (refine Ti (by rfl) ?_;dsimp only));refine Kd.ej Kd.string _ 9 ?hg (N:=109) ?hd (xs:=([(⟨#[61,61]⟩:ByteArray),(⟨#[60]⟩:ByteArray),(⟨#[38]⟩:ByteArray),(⟨#[43]⟩:ByteArray),(⟨#[45]⟩:ByteArray),(⟨#[42]⟩:ByteArray)]:List ByteArray)) (inner:=[.string (⟨#[61,61]⟩:ByteArray),.string (⟨#[60]⟩:ByteArray),.string (⟨#[38]⟩:ByteArray),.string (⟨#[43]⟩:ByteArray),.string (⟨#[45]⟩:ByteArray),.string (⟨#[42]⟩:ByteArray)]) (ok:=fun _=>True) (Tg:=fun _=>True) ?hr ?hp (fun _ hk=>hk) trivial (Below.refl _ _) (Nat.le_refl _) (by simp) ?_;(case hd=>rfl);(case hg=>rfl);(case hr=>first|(go_simp;done)|(go_simp;rfl));(case hp=>exact (xd.one (show Kd.M Kd.string _ _ _ (⟨#[61,61]⟩:ByteArray) [.string (⟨#[61,61]⟩:ByteArray)] from rfl) (xd.one (show Kd.M Kd.string _ _ _ (⟨#[60]⟩:ByteArray) [.string (⟨#[60]⟩:ByteArray)] from rfl) (xd.one (show Kd.M Kd.string _ _ _ (⟨#[38]⟩:ByteArray) [.string (⟨#[38]⟩:ByteArray)] from rfl) (xd.one (show Kd.M Kd.string _ _ _ (⟨#[43]⟩:ByteArray) [.string (⟨#[43]⟩:ByteArray)] from rfl) (xd.one (show Kd.M Kd.string _ _ _ (⟨#[45]⟩:ByteArray) [.string (⟨#[45]⟩:ByteArray)] from rfl) (xd.one (show Kd.M Kd.string _ _ _ (⟨#[42]⟩:ByteArray) [.string (⟨#[42]⟩:ByteArray)] from rfl) (xd.none _ _))))))));intro ZD U3 LS hb Al He;clear Al He;(first|rw [← Hi.out] at LS|(simp only [Int.reduceToNat] at LS;rw [← Hi.out] at LS));have yb:=ga.mk (Kd.we LS (Ia (by repeat (first|(with_reducible first|exact HB.out|apply qa|apply ja|apply ta|refine ua ?_ Ta.out|refine ua ?_ nc.out)|exact HB.out))));have Ib:=ga.mk (Va (g:=ya) (o:=.cells #[.slice Xa Ra.length Ya,.int .i64 La,.int .i64 Ja,.int .i64 Ma,.slice Mb Aa.length Fb] 30 (0,0)) (by (with_reducible repeat (first|refine Ba ?_ _|refine Fa ?_|refine Ca ?_ _));exact oa.out) hb);have Nb:=ga.mk (Va (g:=Ka) (o:=.cells #[.int .i64 oc,.int .i64 Tb,.int .i64 Kb,.int .i64 Lb,.int .i64 Xb,.int .i64 Lc,.string Vc] 65 (0,0)) (by (with_reducible repeat (first|refine Ba ?_ _|refine Fa ?_|refine Ca ?_ _));exact za.out) hb);have Dc:=ga.mk (Qa (by repeat (first|(with_reducible first|exact HB.out|apply qa|apply ja|apply ta|refine ua ?_ Ta.out|refine ua ?_ nc.out)|exact HB.out)) hb);clear oa za HB;have qi:=yb;have oa:=Ib;have za:=Nb;have HB:=Dc;clear yb Ib Nb Dc hb LS;have Ral:U3.cell? ⟨Ka,0,none⟩=some (.int .i64 oc):=(ia za.out 0).trans rfl;have Qal:U3.cell? ⟨Ka,1,none⟩=some (.int .i64 Tb):=(ia za.out 1).trans rfl;have Pal:U3.cell? ⟨Ka,2,none⟩=some (.int .i64 Kb):=(ia za.out 2).trans rfl;have Oal:U3.cell? ⟨Ka,3,none⟩=some (.int .i64 Lb):=(ia za.out 3).trans rfl;have Nal:U3.cell? ⟨Ka,4,none⟩=some (.int .i64 Xb):=(ia za.out 4).trans rfl;have Mal:U3.cell? ⟨Ka,5,none⟩=some (.int .i64 Lc):=(ia za.out 5).trans rfl;have Lal:U3.cell? ⟨Ka,6,none⟩=some (.string Vc):=(ia za.out 6).trans rfl;have Jai:=aa za.out 0;have Iai:=aa za.out 1;have Hai:=aa za.out 2;have Gai:=aa za.out 3;have Fai:=aa za.out 4;have Eai:=aa za.out 5;have Dai:=aa za.out 6;obtain ⟨DaA,gaz,car⟩:=Kd.Zd qi.out;subst car)|(go_at_call 113;(with_reducible refine (Pe.calls tQ _ _ Bg Vc t111 _ ?yc ?uc cK.out).mono ?_);(case yc=>repeat (first|exact (Kd.Bc qi.out).2.2|(with_reducible refine Kd.Rb ?_ _)|(with_reducible refine Kd.Qb ?_ _)|(with_reducible refine Kd.Yb ?_)));(case uc=>exact (Kd.Bc qi.out).2.1);rintro e w' ⟨rfl,⟨nd,rfl⟩⟩));go_ret;exact ⟨by first|rfl|(simp [Oa,Na] <;> rfl)|(simp [*,Oa,Na] <;> rfl),by repeat (first|(with_reducible first|exact HB.out|apply qa|apply ja|apply ta|refine ua ?_ Ta.out|refine ua ?_ nc.out)|exact HB.out)⟩
            ·rw [if_neg o7] at H;have Bae:(Lc == 0)=false:=beq_eq_false_iff_ne.mpr o7;have Aae:(Lc != 0)=true:=bne_iff_ne.mpr o7;obtain rfl:=Option.some.inj H;have fav:=Cb.out;have zau:=Db.out;have Kal:wc.cell? ⟨Ka,0,none⟩=some (.int .i64 oc):=(ia za.out 0).trans rfl;have Jal:wc.cell? ⟨Ka,1,none⟩=some (.int .i64 Tb):=(ia za.out 1).trans rfl;have Ial:wc.cell? ⟨Ka,2,none⟩=some (.int .i64 Kb):=(ia za.out 2).trans rfl;have Hal:wc.cell? ⟨Ka,3,none⟩=some (.int .i64 Lb):=(ia za.out 3).trans rfl;have Gal:wc.cell? ⟨Ka,4,none⟩=some (.int .i64 Xb):=(ia za.out 4).trans rfl;have Fal:wc.cell? ⟨Ka,5,none⟩=some (.int .i64 Lc):=(ia za.out 5).trans rfl;have Eal:wc.cell? ⟨Ka,6,none⟩=some (.string Vc):=(ia za.out 6).trans rfl;have Cai:=aa za.out 0;have Bai:=aa za.out 1;have Aai:=aa za.out 2;have zai:=aa za.out 3;have yai:=aa za.out 4;have xai:=aa za.out 5;have wai:=aa za.out 6;go_wp2;go_ret;exact ⟨by first|rfl|(simp [Oa,Na] <;> rfl)|(simp [*,Oa,Na] <;> rfl),by repeat (first|(with_reducible first|exact HB.out|apply qa|apply ja|apply ta|refine ua ?_ Ta.out|refine ua ?_ nc.out)|exact HB.out)⟩
           ·replace c68:=Bool.eq_false_iff.mpr c68;subst c68;have H1:(some false)=some r:=by rw [if_neg (show ¬ (false=true) by decide)] at H;exact H
            clear H;have H:=H1;clear H1;obtain rfl:=Option.some.inj H;have eav:=Cb.out;have yau:=Db.out;have Dal:wc.cell? ⟨Ka,0,none⟩=some (.int .i64 oc):=(ia za.out 0).trans rfl;have Cal:wc.cell? ⟨Ka,1,none⟩=some (.int .i64 Tb):=(ia za.out 1).trans rfl;have Bal:wc.cell? ⟨Ka,2,none⟩=some (.int .i64 Kb):=(ia za.out 2).trans rfl;have Aal:wc.cell? ⟨Ka,3,none⟩=some (.int .i64 Lb):=(ia za.out 3).trans rfl;have zal:wc.cell? ⟨Ka,4,none⟩=some (.int .i64 Xb):=(ia za.out 4).trans rfl;have yal:wc.cell? ⟨Ka,5,none⟩=some (.int .i64 Lc):=(ia za.out 5).trans rfl;have xal:wc.cell? ⟨Ka,6,none⟩=some (.string Vc):=(ia za.out 6).trans rfl;have vai:=aa za.out 0;have uai:=aa za.out 1;have tai:=aa za.out 2;have sai:=aa za.out 3;have rai:=aa za.out 4;have qai:=aa za.out 5;have pai:=aa za.out 6;go_wp2;go_ret;exact ⟨by first|rfl|(simp [Oa,Na] <;> rfl)|(simp [*,Oa,Na] <;> rfl),by repeat (first|(with_reducible first|exact HB.out|apply qa|apply ja|apply ta|refine ua ?_ Ta.out|refine ua ?_ nc.out)|exact HB.out)⟩
          ·replace c67:=Bool.eq_false_iff.mpr c67;subst c67;have H1:(some false)=some r:=by rw [if_neg (show ¬ (false=true) by decide)] at H;exact H
           clear H;have H:=H1;clear H1;obtain rfl:=Option.some.inj H;have dav:=Cb.out;have xau:=Db.out;have wal:wc.cell? ⟨Ka,0,none⟩=some (.int .i64 oc):=(ia za.out 0).trans rfl;have ual:wc.cell? ⟨Ka,1,none⟩=some (.int .i64 Tb):=(ia za.out 1).trans rfl;have tal:wc.cell? ⟨Ka,2,none⟩=some (.int .i64 Kb):=(ia za.out 2).trans rfl;have sal:wc.cell? ⟨Ka,3,none⟩=some (.int .i64 Lb):=(ia za.out 3).trans rfl;have ral:wc.cell? ⟨Ka,4,none⟩=some (.int .i64 Xb):=(ia za.out 4).trans rfl;have qal:wc.cell? ⟨Ka,5,none⟩=some (.int .i64 Lc):=(ia za.out 5).trans rfl;have pal:wc.cell? ⟨Ka,6,none⟩=some (.string Vc):=(ia za.out 6).trans rfl;have oai:=aa za.out 0;have nai:=aa za.out 1;have mai:=aa za.out 2;have lai:=aa za.out 3;have kai:=aa za.out 4;have jai:=aa za.out 5;have iai:=aa za.out 6;go_wp2;go_ret;exact ⟨by first|rfl|(simp [Oa,Na] <;> rfl)|(simp [*,Oa,Na] <;> rfl),by repeat (first|(with_reducible first|exact HB.out|apply qa|apply ja|apply ta|refine ua ?_ Ta.out|refine ua ?_ nc.out)|exact HB.out)⟩
         ·replace c66:=Bool.eq_false_iff.mpr c66;subst c66;have H1:(some false)=some r:=by rw [if_neg (show ¬ (false=true) by decide)] at H;exact H
          clear H;have H:=H1;clear H1;obtain rfl:=Option.some.inj H;have cav:=Cb.out;have wau:=Db.out;have oal:wc.cell? ⟨Ka,0,none⟩=some (.int .i64 oc):=(ia za.out 0).trans rfl;have nal:wc.cell? ⟨Ka,1,none⟩=some (.int .i64 Tb):=(ia za.out 1).trans rfl;have mal:wc.cell? ⟨Ka,2,none⟩=some (.int .i64 Kb):=(ia za.out 2).trans rfl;have lal:wc.cell? ⟨Ka,3,none⟩=some (.int .i64 Lb):=(ia za.out 3).trans rfl;have kal:wc.cell? ⟨Ka,4,none⟩=some (.int .i64 Xb):=(ia za.out 4).trans rfl;have jal:wc.cell? ⟨Ka,5,none⟩=some (.int .i64 Lc):=(ia za.out 5).trans rfl;have ial:wc.cell? ⟨Ka,6,none⟩=some (.string Vc):=(ia za.out 6).trans rfl;have hai:=aa za.out 0;have gai:=aa za.out 1;have fai:=aa za.out 2;have eai:=aa za.out 3;have dai:=aa za.out 4;have cai:=aa za.out 5;have bai:=aa za.out 6;go_wp2;go_ret;exact ⟨by first|rfl|(simp [Oa,Na] <;> rfl)|(simp [*,Oa,Na] <;> rfl),by repeat (first|(with_reducible first|exact HB.out|apply qa|apply ja|apply ta|refine ua ?_ Ta.out|refine ua ?_ nc.out)|exact HB.out)⟩
        ·rw [if_neg y7] at H;have Dae:(oc == 2)=false:=beq_eq_false_iff_ne.mpr y7;have Cae:(oc != 2)=true:=bne_iff_ne.mpr y7
         by_cases n7:oc=3
         ·rw [if_pos n7] at H;have zae:(oc == 3)=true:=beq_iff_eq.mpr n7;have yae:(oc != 3)=false:=bne_eq_false_iff_eq.mpr n7;clear n7
          by_cases c86:t103=true
          ·subst c86;have H1:(some zI)=some r:=by rw [if_pos rfl] at H;exact H
           clear H;have H:=H1;clear H1;obtain rfl:=Option.some.inj H;have bav:=Cb.out;have vau:=Db.out;have hal:wc.cell? ⟨Ka,0,none⟩=some (.int .i64 oc):=(ia za.out 0).trans rfl;have gal:wc.cell? ⟨Ka,1,none⟩=some (.int .i64 Tb):=(ia za.out 1).trans rfl;have fal:wc.cell? ⟨Ka,2,none⟩=some (.int .i64 Kb):=(ia za.out 2).trans rfl;have eal:wc.cell? ⟨Ka,3,none⟩=some (.int .i64 Lb):=(ia za.out 3).trans rfl;have dal:wc.cell? ⟨Ka,4,none⟩=some (.int .i64 Xb):=(ia za.out 4).trans rfl;have cal:wc.cell? ⟨Ka,5,none⟩=some (.int .i64 Lc):=(ia za.out 5).trans rfl;have bal:wc.cell? ⟨Ka,6,none⟩=some (.string Vc):=(ia za.out 6).trans rfl;have aai:=aa za.out 0;have Zah:=aa za.out 1;have Yah:=aa za.out 2;have Xah:=aa za.out 3;have Wah:=aa za.out 4;have Vah:=aa za.out 5;have Uah:=aa za.out 6;go_wp2;go_ret;exact ⟨by first|rfl|(simp [Oa,Na] <;> rfl)|(simp [*,Oa,Na] <;> rfl),by repeat (first|(with_reducible first|exact HB.out|apply qa|apply ja|apply ta|refine ua ?_ Ta.out|refine ua ?_ nc.out)|exact HB.out)⟩
          ·replace c86:=Bool.eq_false_iff.mpr c86;subst c86;have H1:(some false)=some r:=by rw [if_neg (show ¬ (false=true) by decide)] at H;exact H
           clear H;have H:=H1;clear H1;obtain rfl:=Option.some.inj H;have aav:=Cb.out;have uau:=Db.out;have aal:wc.cell? ⟨Ka,0,none⟩=some (.int .i64 oc):=(ia za.out 0).trans rfl;have Zak:wc.cell? ⟨Ka,1,none⟩=some (.int .i64 Tb):=(ia za.out 1).trans rfl;have Yak:wc.cell? ⟨Ka,2,none⟩=some (.int .i64 Kb):=(ia za.out 2).trans rfl;have Xak:wc.cell? ⟨Ka,3,none⟩=some (.int .i64 Lb):=(ia za.out 3).trans rfl;have Wak:wc.cell? ⟨Ka,4,none⟩=some (.int .i64 Xb):=(ia za.out 4).trans rfl;have Vak:wc.cell? ⟨Ka,5,none⟩=some (.int .i64 Lc):=(ia za.out 5).trans rfl;have Uak:wc.cell? ⟨Ka,6,none⟩=some (.string Vc):=(ia za.out 6).trans rfl;have Tah:=aa za.out 0;have Sah:=aa za.out 1;have Rah:=aa za.out 2;have Qah:=aa za.out 3;have Pah:=aa za.out 4;have Oah:=aa za.out 5;have Nah:=aa za.out 6;go_wp2;go_ret;exact ⟨by first|rfl|(simp [Oa,Na] <;> rfl)|(simp [*,Oa,Na] <;> rfl),by repeat (first|(with_reducible first|exact HB.out|apply qa|apply ja|apply ta|refine ua ?_ Ta.out|refine ua ?_ nc.out)|exact HB.out)⟩
         ·rw [if_neg n7] at H;have zae:(oc == 3)=false:=beq_eq_false_iff_ne.mpr n7;have yae:(oc != 3)=true:=bne_iff_ne.mpr n7
          by_cases m7:oc=4
          ·rw [if_pos m7] at H;have wae:(oc == 4)=true:=beq_iff_eq.mpr m7;have vae:(oc != 4)=false:=bne_eq_false_iff_eq.mpr m7;clear m7
           by_cases l7:Tb=0
           ·rw [if_pos l7] at H;have uae:(Tb == 0)=true:=beq_iff_eq.mpr l7;have tae:(Tb != 0)=false:=bne_eq_false_iff_eq.mpr l7;clear l7
            by_cases c93:zI=true
            ·subst c93;have H1:((Za.f Xb 0 (wrap64 (Ma - 1))).bind fun t112=>(some t112))=some r:=by rw [if_pos rfl] at H;exact H
             clear H;have H:=H1;clear H1;replace H:=Option.bind_eq_some_iff.mp H;obtain ⟨t112,Yag,H⟩:=H;replace H:(some t112)=some r:=H;have A94:=ga.mk Yag;clear Yag;obtain rfl:=Option.some.inj H;have Zau:=Cb.out;have tau:=Db.out;have Tak:wc.cell? ⟨Ka,0,none⟩=some (.int .i64 oc):=(ia za.out 0).trans rfl;have Sak:wc.cell? ⟨Ka,1,none⟩=some (.int .i64 Tb):=(ia za.out 1).trans rfl;have Rak:wc.cell? ⟨Ka,2,none⟩=some (.int .i64 Kb):=(ia za.out 2).trans rfl;have Qak:wc.cell? ⟨Ka,3,none⟩=some (.int .i64 Lb):=(ia za.out 3).trans rfl;have Pak:wc.cell? ⟨Ka,4,none⟩=some (.int .i64 Xb):=(ia za.out 4).trans rfl;have Oak:wc.cell? ⟨Ka,5,none⟩=some (.int .i64 Lc):=(ia za.out 5).trans rfl;have Nak:wc.cell? ⟨Ka,6,none⟩=some (.string Vc):=(ia za.out 6).trans rfl;have Mah:=aa za.out 0;have Lah:=aa za.out 1;have Kah:=aa za.out 2;have Jah:=aa za.out 3;have Iah:=aa za.out 4;have Hah:=aa za.out 5;have Gah:=aa za.out 6;have Mak:wc.cell? ⟨ya,0,none⟩=some (.slice Xa Ra.length Ya):=(ia oa.out 0).trans rfl;have Lak:wc.cell? ⟨ya,1,none⟩=some (.int .i64 La):=(ia oa.out 1).trans rfl;have Kak:wc.cell? ⟨ya,2,none⟩=some (.int .i64 Ja):=(ia oa.out 2).trans rfl;have Jak:wc.cell? ⟨ya,3,none⟩=some (.int .i64 Ma):=(ia oa.out 3).trans rfl;have Iak:wc.cell? ⟨ya,4,none⟩=some (.slice Mb Aa.length Fb):=(ia oa.out 4).trans rfl;have Fah:=aa oa.out 0;have Eah:=aa oa.out 1;have Dah:=aa oa.out 2;have Cah:=aa oa.out 3;have Bah:=aa oa.out 4;go_wp2_with (first|(go_at_call 53;(with_reducible refine (Za.calls Xb 0 (wrap64 (Ma - 1)) t112 _ A94.out).mono ?_);rintro e w' ⟨rfl,⟨nd,rfl⟩⟩));go_ret;exact ⟨by first|rfl|(simp [Oa,Na] <;> rfl)|(simp [*,Oa,Na] <;> rfl),by repeat (first|(with_reducible first|exact HB.out|apply qa|apply ja|apply ta|refine ua ?_ Ta.out|refine ua ?_ nc.out)|exact HB.out)⟩
            ·replace c93:=Bool.eq_false_iff.mpr c93;subst c93;have H1:(some false)=some r:=by rw [if_neg (show ¬ (false=true) by decide)] at H;exact H
             clear H;have H:=H1;clear H1;obtain rfl:=Option.some.inj H;have Yau:=Cb.out;have sau:=Db.out;have Hak:wc.cell? ⟨Ka,0,none⟩=some (.int .i64 oc):=(ia za.out 0).trans rfl;have Gak:wc.cell? ⟨Ka,1,none⟩=some (.int .i64 Tb):=(ia za.out 1).trans rfl;have Fak:wc.cell? ⟨Ka,2,none⟩=some (.int .i64 Kb):=(ia za.out 2).trans rfl;have Eak:wc.cell? ⟨Ka,3,none⟩=some (.int .i64 Lb):=(ia za.out 3).trans rfl;have Dak:wc.cell? ⟨Ka,4,none⟩=some (.int .i64 Xb):=(ia za.out 4).trans rfl;have Cak:wc.cell? ⟨Ka,5,none⟩=some (.int .i64 Lc):=(ia za.out 5).trans rfl;have Bak:wc.cell? ⟨Ka,6,none⟩=some (.string Vc):=(ia za.out 6).trans rfl;have Aah:=aa za.out 0;have zah:=aa za.out 1;have yah:=aa za.out 2;have xah:=aa za.out 3;have wah:=aa za.out 4;have vah:=aa za.out 5;have uah:=aa za.out 6;go_wp2;go_ret;exact ⟨by first|rfl|(simp [Oa,Na] <;> rfl)|(simp [*,Oa,Na] <;> rfl),by repeat (first|(with_reducible first|exact HB.out|apply qa|apply ja|apply ta|refine ua ?_ Ta.out|refine ua ?_ nc.out)|exact HB.out)⟩
           ·rw [if_neg l7] at H;have uae:(Tb == 0)=false:=beq_eq_false_iff_ne.mpr l7;have tae:(Tb != 0)=true:=bne_iff_ne.mpr l7;obtain rfl:=Option.some.inj H;have caq:=Cb.out;have Oap:=Db.out;have Had:wc.cell? ⟨Ka,0,none⟩=some (.int .i64 oc):=(ia za.out 0).trans rfl;have Gad:wc.cell? ⟨Ka,1,none⟩=some (.int .i64 Tb):=(ia za.out 1).trans rfl;have Fad:wc.cell? ⟨Ka,2,none⟩=some (.int .i64 Kb):=(ia za.out 2).trans rfl;have Ead:wc.cell? ⟨Ka,3,none⟩=some (.int .i64 Lb):=(ia za.out 3).trans rfl;have Dad:wc.cell? ⟨Ka,4,none⟩=some (.int .i64 Xb):=(ia za.out 4).trans rfl;have Cad:wc.cell? ⟨Ka,5,none⟩=some (.int .i64 Lc):=(ia za.out 5).trans rfl;have Bad:wc.cell? ⟨Ka,6,none⟩=some (.string Vc):=(ia za.out 6).trans rfl;have gac:=aa za.out 0;have fac:=aa za.out 1;have eac:=aa za.out 2;have dac:=aa za.out 3;have cac:=aa za.out 4;have bac:=aa za.out 5;have aac:=aa za.out 6;go_wp2;go_ret;exact ⟨by first|rfl|(simp [Oa,Na] <;> rfl)|(simp [*,Oa,Na] <;> rfl),by repeat (first|(with_reducible first|exact HB.out|apply qa|apply ja|apply ta|refine ua ?_ Ta.out|refine ua ?_ nc.out)|exact HB.out)⟩
          ·rw [if_neg m7] at H;have wae:(oc == 4)=false:=beq_eq_false_iff_ne.mpr m7;have vae:(oc != 4)=true:=bne_iff_ne.mpr m7
           by_cases zL:oc=5
           ·rw [if_pos zL] at H;have T7:(oc == 5)=true:=beq_iff_eq.mpr zL;have R7:(oc != 5)=false:=bne_eq_false_iff_eq.mpr zL;clear zL
            by_cases YY:t103=true
            ·subst YY;have H1:(if Kb=0 then (if Lb=0 then (some (Lc == 0)) else (some false)) else (some false))=some r:=by rw [if_pos rfl] at H;exact H
             clear H;have H:=H1;clear H1
             by_cases yL:Kb=0
             ·rw [if_pos yL] at H;have P7:(Kb == 0)=true:=beq_iff_eq.mpr yL;have O7:(Kb != 0)=false:=bne_eq_false_iff_eq.mpr yL;clear yL
              by_cases xL:Lb=0
              ·rw [if_pos xL] at H;have N7:(Lb == 0)=true:=beq_iff_eq.mpr xL;have M7:(Lb != 0)=false:=bne_eq_false_iff_eq.mpr xL;clear xL;obtain rfl:=Option.some.inj H;have baq:=Cb.out;have Nap:=Db.out;have Aad:wc.cell? ⟨Ka,0,none⟩=some (.int .i64 oc):=(ia za.out 0).trans rfl;have zad:wc.cell? ⟨Ka,1,none⟩=some (.int .i64 Tb):=(ia za.out 1).trans rfl;have yad:wc.cell? ⟨Ka,2,none⟩=some (.int .i64 Kb):=(ia za.out 2).trans rfl;have xad:wc.cell? ⟨Ka,3,none⟩=some (.int .i64 Lb):=(ia za.out 3).trans rfl;have wad:wc.cell? ⟨Ka,4,none⟩=some (.int .i64 Xb):=(ia za.out 4).trans rfl;have vad:wc.cell? ⟨Ka,5,none⟩=some (.int .i64 Lc):=(ia za.out 5).trans rfl;have uad:wc.cell? ⟨Ka,6,none⟩=some (.string Vc):=(ia za.out 6).trans rfl;have Zab:=aa za.out 0;have Yab:=aa za.out 1;have Xab:=aa za.out 2;have Wab:=aa za.out 3;have Vab:=aa za.out 4;have Uab:=aa za.out 5;have Tab:=aa za.out 6;go_wp2;go_ret;exact ⟨by first|rfl|(simp [Oa,Na] <;> rfl)|(simp [*,Oa,Na] <;> rfl),by repeat (first|(with_reducible first|exact HB.out|apply qa|apply ja|apply ta|refine ua ?_ Ta.out|refine ua ?_ nc.out)|exact HB.out)⟩
              ·rw [if_neg xL] at H;have N7:(Lb == 0)=false:=beq_eq_false_iff_ne.mpr xL;have M7:(Lb != 0)=true:=bne_iff_ne.mpr xL;obtain rfl:=Option.some.inj H;have aaq:=Cb.out;have Lap:=Db.out;have tad:wc.cell? ⟨Ka,0,none⟩=some (.int .i64 oc):=(ia za.out 0).trans rfl;have sad:wc.cell? ⟨Ka,1,none⟩=some (.int .i64 Tb):=(ia za.out 1).trans rfl;have rad:wc.cell? ⟨Ka,2,none⟩=some (.int .i64 Kb):=(ia za.out 2).trans rfl;have qad:wc.cell? ⟨Ka,3,none⟩=some (.int .i64 Lb):=(ia za.out 3).trans rfl;have oad:wc.cell? ⟨Ka,4,none⟩=some (.int .i64 Xb):=(ia za.out 4).trans rfl;have nad:wc.cell? ⟨Ka,5,none⟩=some (.int .i64 Lc):=(ia za.out 5).trans rfl;have mad:wc.cell? ⟨Ka,6,none⟩=some (.string Vc):=(ia za.out 6).trans rfl;have Sab:=aa za.out 0;have Rab:=aa za.out 1;have Qab:=aa za.out 2;have Pab:=aa za.out 3;have Oab:=aa za.out 4;have Nab:=aa za.out 5;have Mab:=aa za.out 6;go_wp2;go_ret;exact ⟨by first|rfl|(simp [Oa,Na] <;> rfl)|(simp [*,Oa,Na] <;> rfl),by repeat (first|(with_reducible first|exact HB.out|apply qa|apply ja|apply ta|refine ua ?_ Ta.out|refine ua ?_ nc.out)|exact HB.out)⟩
             ·rw [if_neg yL] at H;have P7:(Kb == 0)=false:=beq_eq_false_iff_ne.mpr yL;have O7:(Kb != 0)=true:=bne_iff_ne.mpr yL;obtain rfl:=Option.some.inj H;have Zap:=Cb.out;have Kap:=Db.out;have lad:wc.cell? ⟨Ka,0,none⟩=some (.int .i64 oc):=(ia za.out 0).trans rfl;have kad:wc.cell? ⟨Ka,1,none⟩=some (.int .i64 Tb):=(ia za.out 1).trans rfl;have jad:wc.cell? ⟨Ka,2,none⟩=some (.int .i64 Kb):=(ia za.out 2).trans rfl;have iad:wc.cell? ⟨Ka,3,none⟩=some (.int .i64 Lb):=(ia za.out 3).trans rfl;have gad:wc.cell? ⟨Ka,4,none⟩=some (.int .i64 Xb):=(ia za.out 4).trans rfl;have fad:wc.cell? ⟨Ka,5,none⟩=some (.int .i64 Lc):=(ia za.out 5).trans rfl;have ead:wc.cell? ⟨Ka,6,none⟩=some (.string Vc):=(ia za.out 6).trans rfl;have Lab:=aa za.out 0;have Kab:=aa za.out 1;have Jab:=aa za.out 2;have Iab:=aa za.out 3;have Hab:=aa za.out 4;have Gab:=aa za.out 5;have Fab:=aa za.out 6;go_wp2;go_ret;exact ⟨by first|rfl|(simp [Oa,Na] <;> rfl)|(simp [*,Oa,Na] <;> rfl),by repeat (first|(with_reducible first|exact HB.out|apply qa|apply ja|apply ta|refine ua ?_ Ta.out|refine ua ?_ nc.out)|exact HB.out)⟩
            ·replace YY:=Bool.eq_false_iff.mpr YY;subst YY;have H1:(some false)=some r:=by rw [if_neg (show ¬ (false=true) by decide)] at H;exact H
             clear H;have H:=H1;clear H1;obtain rfl:=Option.some.inj H;have Yap:=Cb.out;have Jap:=Db.out;have dad:wc.cell? ⟨Ka,0,none⟩=some (.int .i64 oc):=(ia za.out 0).trans rfl;have cad:wc.cell? ⟨Ka,1,none⟩=some (.int .i64 Tb):=(ia za.out 1).trans rfl;have aad:wc.cell? ⟨Ka,2,none⟩=some (.int .i64 Kb):=(ia za.out 2).trans rfl;have Zac:wc.cell? ⟨Ka,3,none⟩=some (.int .i64 Lb):=(ia za.out 3).trans rfl;have Yac:wc.cell? ⟨Ka,4,none⟩=some (.int .i64 Xb):=(ia za.out 4).trans rfl;have Xac:wc.cell? ⟨Ka,5,none⟩=some (.int .i64 Lc):=(ia za.out 5).trans rfl;have Wac:wc.cell? ⟨Ka,6,none⟩=some (.string Vc):=(ia za.out 6).trans rfl;have Eab:=aa za.out 0;have Dab:=aa za.out 1;have Cab:=aa za.out 2;have Bab:=aa za.out 3;have Aab:=aa za.out 4;have zab:=aa za.out 5;have yab:=aa za.out 6;go_wp2;go_ret;exact ⟨by first|rfl|(simp [Oa,Na] <;> rfl)|(simp [*,Oa,Na] <;> rfl),by repeat (first|(with_reducible first|exact HB.out|apply qa|apply ja|apply ta|refine ua ?_ Ta.out|refine ua ?_ nc.out)|exact HB.out)⟩
           ·rw [if_neg zL] at H;have T7:(oc == 5)=false:=beq_eq_false_iff_ne.mpr zL;have R7:(oc != 5)=true:=bne_iff_ne.mpr zL
            by_cases wL:oc=6
            ·rw [if_pos wL] at H;have J7:(oc == 6)=true:=beq_iff_eq.mpr wL;have I7:(oc != 6)=false:=bne_eq_false_iff_eq.mpr wL;clear wL
             by_cases vL:Tb=0
             ·rw [if_pos vL] at H;have G7:(Tb == 0)=true:=beq_iff_eq.mpr vL;have F7:(Tb != 0)=false:=bne_eq_false_iff_eq.mpr vL;clear vL
              by_cases XY:t104=true
              ·subst XY;have H1:(if Lb=0 then (some (Lc == 0)) else (some false))=some r:=by rw [if_pos rfl] at H;exact H
               clear H;have H:=H1;clear H1
               by_cases uL:Lb=0
               ·rw [if_pos uL] at H;have E7:(Lb == 0)=true:=beq_iff_eq.mpr uL;have D7:(Lb != 0)=false:=bne_eq_false_iff_eq.mpr uL;clear uL;obtain rfl:=Option.some.inj H;have Xap:=Cb.out;have Iap:=Db.out;have Vac:wc.cell? ⟨Ka,0,none⟩=some (.int .i64 oc):=(ia za.out 0).trans rfl;have Uac:wc.cell? ⟨Ka,1,none⟩=some (.int .i64 Tb):=(ia za.out 1).trans rfl;have Tac:wc.cell? ⟨Ka,2,none⟩=some (.int .i64 Kb):=(ia za.out 2).trans rfl;have Sac:wc.cell? ⟨Ka,3,none⟩=some (.int .i64 Lb):=(ia za.out 3).trans rfl;have Rac:wc.cell? ⟨Ka,4,none⟩=some (.int .i64 Xb):=(ia za.out 4).trans rfl;have Qac:wc.cell? ⟨Ka,5,none⟩=some (.int .i64 Lc):=(ia za.out 5).trans rfl;have Pac:wc.cell? ⟨Ka,6,none⟩=some (.string Vc):=(ia za.out 6).trans rfl;have xab:=aa za.out 0;have wab:=aa za.out 1;have vab:=aa za.out 2;have uab:=aa za.out 3;have sab:=aa za.out 4;have rab:=aa za.out 5;have qab:=aa za.out 6;go_wp2;go_ret;exact ⟨by first|rfl|(simp [Oa,Na] <;> rfl)|(simp [*,Oa,Na] <;> rfl),by repeat (first|(with_reducible first|exact HB.out|apply qa|apply ja|apply ta|refine ua ?_ Ta.out|refine ua ?_ nc.out)|exact HB.out)⟩
               ·rw [if_neg uL] at H;have E7:(Lb == 0)=false:=beq_eq_false_iff_ne.mpr uL;have D7:(Lb != 0)=true:=bne_iff_ne.mpr uL;obtain rfl:=Option.some.inj H;have Wap:=Cb.out;have Hap:=Db.out;have Oac:wc.cell? ⟨Ka,0,none⟩=some (.int .i64 oc):=(ia za.out 0).trans rfl;have Nac:wc.cell? ⟨Ka,1,none⟩=some (.int .i64 Tb):=(ia za.out 1).trans rfl;have Mac:wc.cell? ⟨Ka,2,none⟩=some (.int .i64 Kb):=(ia za.out 2).trans rfl;have Lac:wc.cell? ⟨Ka,3,none⟩=some (.int .i64 Lb):=(ia za.out 3).trans rfl;have Kac:wc.cell? ⟨Ka,4,none⟩=some (.int .i64 Xb):=(ia za.out 4).trans rfl;have Jac:wc.cell? ⟨Ka,5,none⟩=some (.int .i64 Lc):=(ia za.out 5).trans rfl;have Iac:wc.cell? ⟨Ka,6,none⟩=some (.string Vc):=(ia za.out 6).trans rfl;have pab:=aa za.out 0;have oab:=aa za.out 1;have mab:=aa za.out 2;have lab:=aa za.out 3;have kab:=aa za.out 4;have jab:=aa za.out 5;have iab:=aa za.out 6;go_wp2;go_ret;exact ⟨by first|rfl|(simp [Oa,Na] <;> rfl)|(simp [*,Oa,Na] <;> rfl),by repeat (first|(with_reducible first|exact HB.out|apply qa|apply ja|apply ta|refine ua ?_ Ta.out|refine ua ?_ nc.out)|exact HB.out)⟩
              ·replace XY:=Bool.eq_false_iff.mpr XY;subst XY;have H1:(some false)=some r:=by rw [if_neg (show ¬ (false=true) by decide)] at H;exact H
               clear H;have H:=H1;clear H1;obtain rfl:=Option.some.inj H;have Vap:=Cb.out;have Gap:=Db.out;have Hac:wc.cell? ⟨Ka,0,none⟩=some (.int .i64 oc):=(ia za.out 0).trans rfl;have Gac:wc.cell? ⟨Ka,1,none⟩=some (.int .i64 Tb):=(ia za.out 1).trans rfl;have Fac:wc.cell? ⟨Ka,2,none⟩=some (.int .i64 Kb):=(ia za.out 2).trans rfl;have Eac:wc.cell? ⟨Ka,3,none⟩=some (.int .i64 Lb):=(ia za.out 3).trans rfl;have Dac:wc.cell? ⟨Ka,4,none⟩=some (.int .i64 Xb):=(ia za.out 4).trans rfl;have Cac:wc.cell? ⟨Ka,5,none⟩=some (.int .i64 Lc):=(ia za.out 5).trans rfl;have Bac:wc.cell? ⟨Ka,6,none⟩=some (.string Vc):=(ia za.out 6).trans rfl;have gab:=aa za.out 0;have fab:=aa za.out 1;have eab:=aa za.out 2;have dab:=aa za.out 3;have cab:=aa za.out 4;have bab:=aa za.out 5;have aab:=aa za.out 6;go_wp2;go_ret;exact ⟨by first|rfl|(simp [Oa,Na] <;> rfl)|(simp [*,Oa,Na] <;> rfl),by repeat (first|(with_reducible first|exact HB.out|apply qa|apply ja|apply ta|refine ua ?_ Ta.out|refine ua ?_ nc.out)|exact HB.out)⟩
             ·rw [if_neg vL] at H;have G7:(Tb == 0)=false:=beq_eq_false_iff_ne.mpr vL;have F7:(Tb != 0)=true:=bne_iff_ne.mpr vL;obtain rfl:=Option.some.inj H;have Uap:=Cb.out;have Fap:=Db.out;have Aac:wc.cell? ⟨Ka,0,none⟩=some (.int .i64 oc):=(ia za.out 0).trans rfl;have zac:wc.cell? ⟨Ka,1,none⟩=some (.int .i64 Tb):=(ia za.out 1).trans rfl;have yac:wc.cell? ⟨Ka,2,none⟩=some (.int .i64 Kb):=(ia za.out 2).trans rfl;have xac:wc.cell? ⟨Ka,3,none⟩=some (.int .i64 Lb):=(ia za.out 3).trans rfl;have wac:wc.cell? ⟨Ka,4,none⟩=some (.int .i64 Xb):=(ia za.out 4).trans rfl;have vac:wc.cell? ⟨Ka,5,none⟩=some (.int .i64 Lc):=(ia za.out 5).trans rfl;have uac:wc.cell? ⟨Ka,6,none⟩=some (.string Vc):=(ia za.out 6).trans rfl;have Zaa:=aa za.out 0;have Yaa:=aa za.out 1;have Xaa:=aa za.out 2;have Waa:=aa za.out 3;have Vaa:=aa za.out 4;have Uaa:=aa za.out 5;have Taa:=aa za.out 6;go_wp2;go_ret;exact ⟨by first|rfl|(simp [Oa,Na] <;> rfl)|(simp [*,Oa,Na] <;> rfl),by repeat (first|(with_reducible first|exact HB.out|apply qa|apply ja|apply ta|refine ua ?_ Ta.out|refine ua ?_ nc.out)|exact HB.out)⟩
            ·rw [if_neg wL] at H;have J7:(oc == 6)=false:=beq_eq_false_iff_ne.mpr wL;have I7:(oc != 6)=true:=bne_iff_ne.mpr wL;obtain rfl:=Option.some.inj H;have Tap:=Cb.out;have Eap:=Db.out;have sac:wc.cell? ⟨Ka,0,none⟩=some (.int .i64 oc):=(ia za.out 0).trans rfl;have rac:wc.cell? ⟨Ka,1,none⟩=some (.int .i64 Tb):=(ia za.out 1).trans rfl;have qac:wc.cell? ⟨Ka,2,none⟩=some (.int .i64 Kb):=(ia za.out 2).trans rfl;have pac:wc.cell? ⟨Ka,3,none⟩=some (.int .i64 Lb):=(ia za.out 3).trans rfl;have oac:wc.cell? ⟨Ka,4,none⟩=some (.int .i64 Xb):=(ia za.out 4).trans rfl;have nac:wc.cell? ⟨Ka,5,none⟩=some (.int .i64 Lc):=(ia za.out 5).trans rfl;have mac:wc.cell? ⟨Ka,6,none⟩=some (.string Vc):=(ia za.out 6).trans rfl;have Saa:=aa za.out 0;have Raa:=aa za.out 1;have Qaa:=aa za.out 2;have Paa:=aa za.out 3;have Oaa:=aa za.out 4;have Naa:=aa za.out 5;have Maa:=aa za.out 6;go_wp2;go_ret;exact ⟨by first|rfl|(simp [Oa,Na] <;> rfl)|(simp [*,Oa,Na] <;> rfl),by repeat (first|(with_reducible first|exact HB.out|apply qa|apply ja|apply ta|refine ua ?_ Ta.out|refine ua ?_ nc.out)|exact HB.out)⟩
end Go.Proofs.Ytkigbdceceeenaa.P
end
