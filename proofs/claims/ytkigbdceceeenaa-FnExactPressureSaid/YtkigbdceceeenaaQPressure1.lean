import Derived.Test.YtkigbdceceeenaaProg
import Derived.Below
import Derived.Deep.Draws
import Derived.Deep.AppendLies
import Derived.Maps.AppendAt
import Derived.OwnWalk
import Derived.Laws.BytesArg
import Derived.Laws.MakeOwn
import Derived.Laws.OwnMore
import Derived.Deep.OwnRows
import Derived.Tactics
import Derived.Lib.ConvBytes
import Derived.Laws.Slices
import Derived.WalkKit
import Derived.KernelRfl
import Derived.RowKit3
import Derived.Deep.LoopGhost
import Derived.Deep.QuietTactic
import Derived.BigQuiet
import Derived.WideLaws
import Derived.Deep.DeepCutAuto
import Derived.Deep.CutBlock
import Derived.Deep.RegionHeld3
import Derived.Laws.Rows
import Derived.Lib.AppendStr
import Derived.ArgAppend
import Derived.Laws.IdiomCopy
import Derived.OrdersHeld
import Derived.Laws.BitsLemmas
import Derived.RowKit
import Derived.Test.YtkigbdceceeenaaQPressureW1
import Derived.Test.YtkigbdceceeenaaQPressureW2
import Derived.Deep.Slices
import Derived.ChangeArms
import Derived.OpenShut
import Derived.WideShapes
set_option maxHeartbeats 8000000
set_option maxRecDepth 100000
section
namespace Go.Proofs.Ytkigbdceceeenaa.P
open Go.RowKit Go.Proofs.Oa.Wb Go.Proofs.Oa.Vd Go.Proofs.Oa.Xe
set_option linter.unusedVariables false
set_option linter.unusedSimpArgs false
attribute [local go_sem] bh Gh Ki Cj Mg Lg Hh Fh
def m9:Option Int→Value
 | none=>.nilIface
 | some c=>.iface 0 (.int .i64 c)
theorem Ma:m9 none = .nilIface:=rfl
theorem La (c:Int):m9 (some c) = .iface 0 (.int .i64 c):=rfl
theorem info3:(Try.prog.info? 3).map (fun i=>(i.zero,i.size,i.bytes))=some (some (.int .i64 0),1,8):=by kernel_rfl
theorem Wz:(Try.prog.info? 4).map (fun i=>(i.zero,i.size,i.bytes))=some (some (.bool false),1,1):=by kernel_rfl
theorem ZX:(Try.prog.info? 59).map (fun i=>(i.zero,i.size,i.bytes))=some (some (.agg #[(.slice none 0 0),(.int .i64 0),(.int .i64 0),(.int .i64 0),(.int .i64 0)]),5,56):=by kernel_rfl
theorem gJ:(Try.prog.info? 60).map (fun i=>(i.zero,i.size,i.bytes))=some (some (.slice none 0 0),1,24):=by kernel_rfl
theorem YX:(Try.prog.info? 65).map (fun i=>(i.zero,i.size,i.bytes))=some (some (.agg #[(.int .i64 0),(.int .i64 0),(.int .i64 0),(.int .i64 0),(.int .i64 0),(.int .i64 0),(.string ⟨#[]⟩)]),7,64):=by kernel_rfl
structure Xm where
 f0:Int
 f1:Int
 f2:Int
 f3:Int
 f4:Int
 f5:Int
 f6:ByteArray
def P2:Xm:=⟨(0:Int),(0:Int),(0:Int),(0:Int),(0:Int),(0:Int),(⟨#[]⟩:ByteArray)⟩
def EC:Kd Xm:=Kd.zS (Kd.pair (Kd.int .i64) (Kd.pair (Kd.int .i64) (Kd.pair (Kd.int .i64) (Kd.pair (Kd.int .i64) (Kd.pair (Kd.int .i64) (Kd.pair (Kd.int .i64) Kd.string)))))) (fun x:Xm=>(x.f0,x.f1,x.f2,x.f3,x.f4,x.f5,x.f6))
theorem AO {w:World} {x:Xm} {cs:List Value} (h:EC.K w x cs):cs=[.int .i64 x.f0,.int .i64 x.f1,.int .i64 x.f2,.int .i64 x.f3,.int .i64 x.f4,.int .i64 x.f5,.string x.f6]:=by
 obtain ⟨_,_,rfl,rfl,⟨_,_,rfl,rfl,⟨_,_,rfl,rfl,⟨_,_,rfl,rfl,⟨_,_,rfl,rfl,⟨_,_,rfl,rfl,rfl⟩⟩⟩⟩⟩⟩:=h;exact rfl
def Mc (xs:List Xm) (i:Int):Xm:=xs.getD i.toNat P2
theorem NG {w:World} {A:Option Addr} {n:Nat} {xs:List Xm} (h:Kd.C EC w A n xs) (i:Int) (h0:0 ≤ i) (h1:i < n):∃ ad , A=some ad∧w.cell? (ad.add (i.toNat * 7))=some (.int .i64 (Mc xs i).f0)∧w.cell? ⟨(ad.add (i.toNat * 7)).block,(ad.add (i.toNat * 7)).off + 1,none⟩=some (.int .i64 (Mc xs i).f1)∧w.cell? ⟨(ad.add (i.toNat * 7)).block,(ad.add (i.toNat * 7)).off + 2,none⟩=some (.int .i64 (Mc xs i).f2)∧w.cell? ⟨(ad.add (i.toNat * 7)).block,(ad.add (i.toNat * 7)).off + 3,none⟩=some (.int .i64 (Mc xs i).f3)∧w.cell? ⟨(ad.add (i.toNat * 7)).block,(ad.add (i.toNat * 7)).off + 4,none⟩=some (.int .i64 (Mc xs i).f4)∧w.cell? ⟨(ad.add (i.toNat * 7)).block,(ad.add (i.toNat * 7)).off + 5,none⟩=some (.int .i64 (Mc xs i).f5)∧w.cell? ⟨(ad.add (i.toNat * 7)).block,(ad.add (i.toNat * 7)).off + 6,none⟩=some (.string (Mc xs i).f6):=by
 obtain ⟨ad,c,e,_,hK,hc0⟩:=Kd.sI h P2 i h0 h1;have hc:∀ j u,c[j]? = some u→w.cell? (ad.add (i.toNat * 7 + j))=some u:=hc0;obtain rfl:=AO hK;exact ⟨ad,e,hc 0 _ rfl,by rw [← gf _ _ 1 (by omega)];exact hc 1 _ rfl,by rw [← gf _ _ 2 (by omega)];exact hc 2 _ rfl,by rw [← gf _ _ 3 (by omega)];exact hc 3 _ rfl,by rw [← gf _ _ 4 (by omega)];exact hc 4 _ rfl,by rw [← gf _ _ 5 (by omega)];exact hc 5 _ rfl,by rw [← gf _ _ 6 (by omega)];exact hc 6 _ rfl⟩
structure Xv where
 f0:(List Xm)
 f1:Int
 f2:Int
 f3:Int
 f4:Int
def z86:Xv:=⟨([]:List Xm),(0:Int),(0:Int),(0:Int),(0:Int)⟩
def qQ:Kd Xv:=Kd.zS (Kd.pair (Kd.slice 124 EC) (Kd.pair (Kd.int .i64) (Kd.pair (Kd.int .i64) (Kd.pair (Kd.int .i64) (Kd.int .i64))))) (fun x:Xv=>(x.f0,x.f1,x.f2,x.f3,x.f4))
theorem pQ {w:World} {x:Xv} {cs:List Value} (h:qQ.K w x cs):∃ A0 c0,cs=[.slice A0 x.f0.length c0,.int .i64 x.f1,.int .i64 x.f2,.int .i64 x.f3,.int .i64 x.f4]∧x.f0.length ≤ c0∧EC.C w A0 x.f0.length x.f0:=by
 obtain ⟨_,_,rfl,⟨A0,c0,rfl,l0,g0⟩,⟨_,_,rfl,rfl,⟨_,_,rfl,rfl,⟨_,_,rfl,rfl,rfl⟩⟩⟩⟩:=h;exact ⟨A0,c0,rfl,l0,g0⟩
def Xd (xs:List Xv) (i:Int):Xv:=xs.getD i.toNat z86
theorem sK {w:World} {A:Option Addr} {n:Nat} {xs:List Xv} (h:Kd.C qQ w A n xs) (i:Int) (h0:0 ≤ i) (h1:i < n):∃ ad A0 c0,A=some ad∧w.cell? (ad.add (i.toNat * 5))=some (.slice A0 (Xd xs i).f0.length c0)∧w.cell? ⟨(ad.add (i.toNat * 5)).block,(ad.add (i.toNat * 5)).off + 1,none⟩=some (.int .i64 (Xd xs i).f1)∧w.cell? ⟨(ad.add (i.toNat * 5)).block,(ad.add (i.toNat * 5)).off + 2,none⟩=some (.int .i64 (Xd xs i).f2)∧w.cell? ⟨(ad.add (i.toNat * 5)).block,(ad.add (i.toNat * 5)).off + 3,none⟩=some (.int .i64 (Xd xs i).f3)∧w.cell? ⟨(ad.add (i.toNat * 5)).block,(ad.add (i.toNat * 5)).off + 4,none⟩=some (.int .i64 (Xd xs i).f4)∧(Xd xs i).f0.length ≤ c0∧EC.C w A0 (Xd xs i).f0.length (Xd xs i).f0:=by
 obtain ⟨ad,c,e,_,hK,hc0⟩:=Kd.sI h z86 i h0 h1;have hc:∀ j u,c[j]? = some u→w.cell? (ad.add (i.toNat * 5 + j))=some u:=hc0;obtain ⟨A0,c0,rfl,l0,g0⟩:=pQ hK;exact ⟨ad,A0,c0,e,hc 0 _ rfl,by rw [← gf _ _ 1 (by omega)];exact hc 1 _ rfl,by rw [← gf _ _ 2 (by omega)];exact hc 2 _ rfl,by rw [← gf _ _ 3 (by omega)];exact hc 3 _ rfl,by rw [← gf _ _ 4 (by omega)];exact hc 4 _ rfl,l0,g0⟩
structure C2 where
 f0:(List Int)
 f1:Int
 f2:Int
 f3:Int
 f4:(List Xv)
def k25:Kd C2:=Kd.zS (Kd.pair (Kd.slice 3 (Kd.int .i64)) (Kd.pair (Kd.int .i64) (Kd.pair (Kd.int .i64) (Kd.pair (Kd.int .i64) (Kd.slice 86 qQ))))) (fun x:C2=>(x.f0,x.f1,x.f2,x.f3,x.f4))
theorem vQ {w:World} {x:C2} {cs:List Value} (h:k25.K w x cs):∃ A0 c0 A4 c4,cs=[.slice A0 x.f0.length c0,.int .i64 x.f1,.int .i64 x.f2,.int .i64 x.f3,.slice A4 x.f4.length c4]∧x.f0.length ≤ c0∧(Kd.int .i64).C w A0 x.f0.length x.f0∧x.f4.length ≤ c4∧qQ.C w A4 x.f4.length x.f4:=by
 obtain ⟨_,_,rfl,⟨A0,c0,rfl,l0,g0⟩,⟨_,_,rfl,rfl,⟨_,_,rfl,rfl,⟨_,_,rfl,rfl,⟨A4,c4,rfl,l4,g4⟩⟩⟩⟩⟩:=h;exact ⟨A0,c0,A4,c4,rfl,l0,g0,l4,g4⟩
structure Rf where
 f0:Int
 f1:Int
 f2:Int
 f3:Int
 f4:Int
 f5:Int
 f6:ByteArray
def XD:Rf:=⟨(0:Int),(0:Int),(0:Int),(0:Int),(0:Int),(0:Int),(⟨#[]⟩:ByteArray)⟩
def jq:Kd Rf:=Kd.zS (Kd.pair (Kd.int .i64) (Kd.pair (Kd.int .i64) (Kd.pair (Kd.int .i64) (Kd.pair (Kd.int .i64) (Kd.pair (Kd.int .i64) (Kd.pair (Kd.int .i64) Kd.string)))))) (fun x:Rf=>(x.f0,x.f1,x.f2,x.f3,x.f4,x.f5,x.f6))
theorem sQ:Kd.Heap jq:=Kd.GH _ (Kd.Ei (Kd.uj .i64) (Kd.Ei (Kd.uj .i64) (Kd.Ei (Kd.uj .i64) (Kd.Ei (Kd.uj .i64) (Kd.Ei (Kd.uj .i64) (Kd.Ei (Kd.uj .i64) Kd.FH))))))
theorem rQ {w:World} {x:Rf} {cs:List Value} (h:jq.K w x cs):cs=[.int .i64 x.f0,.int .i64 x.f1,.int .i64 x.f2,.int .i64 x.f3,.int .i64 x.f4,.int .i64 x.f5,.string x.f6]:=by
 obtain ⟨_,_,rfl,rfl,⟨_,_,rfl,rfl,⟨_,_,rfl,rfl,⟨_,_,rfl,rfl,⟨_,_,rfl,rfl,⟨_,_,rfl,rfl,rfl⟩⟩⟩⟩⟩⟩:=h;exact rfl
theorem iE {w:World} {base:Nat} {ok:Nat→Prop} {x:Rf} {cs:List Value} (h:jq.M w base ok x cs):cs=[.int .i64 x.f0,.int .i64 x.f1,.int .i64 x.f2,.int .i64 x.f3,.int .i64 x.f4,.int .i64 x.f5,.string x.f6]:=by
 obtain ⟨_,_,rfl,rfl,⟨_,_,rfl,rfl,⟨_,_,rfl,rfl,⟨_,_,rfl,rfl,⟨_,_,rfl,rfl,⟨_,_,rfl,rfl,rfl⟩⟩⟩⟩⟩⟩:=h;exact rfl
theorem SK (w:World) (base:Nat) (ok:Nat→Prop) (x:Rf)  : jq.M w base ok x [.int .i64 x.f0,.int .i64 x.f1,.int .i64 x.f2,.int .i64 x.f3,.int .i64 x.f4,.int .i64 x.f5,.string x.f6]:=⟨[.int .i64 x.f0],[.int .i64 x.f1,.int .i64 x.f2,.int .i64 x.f3,.int .i64 x.f4,.int .i64 x.f5,.string x.f6],rfl,rfl,⟨[.int .i64 x.f1],[.int .i64 x.f2,.int .i64 x.f3,.int .i64 x.f4,.int .i64 x.f5,.string x.f6],rfl,rfl,⟨[.int .i64 x.f2],[.int .i64 x.f3,.int .i64 x.f4,.int .i64 x.f5,.string x.f6],rfl,rfl,⟨[.int .i64 x.f3],[.int .i64 x.f4,.int .i64 x.f5,.string x.f6],rfl,rfl,⟨[.int .i64 x.f4],[.int .i64 x.f5,.string x.f6],rfl,rfl,⟨[.int .i64 x.f5],[.string x.f6],rfl,rfl,rfl⟩⟩⟩⟩⟩⟩
def Ta (xs:List Rf) (i:Int):Rf:=xs.getD i.toNat XD
theorem um {w:World} {A:Option Addr} {n:Nat} {xs:List Rf} (h:Kd.C jq w A n xs) (i:Int) (h0:0 ≤ i) (h1:i < n):∃ ad , A=some ad∧w.cell? (ad.add (i.toNat * 7))=some (.int .i64 (Ta xs i).f0)∧w.cell? ⟨(ad.add (i.toNat * 7)).block,(ad.add (i.toNat * 7)).off + 1,none⟩=some (.int .i64 (Ta xs i).f1)∧w.cell? ⟨(ad.add (i.toNat * 7)).block,(ad.add (i.toNat * 7)).off + 2,none⟩=some (.int .i64 (Ta xs i).f2)∧w.cell? ⟨(ad.add (i.toNat * 7)).block,(ad.add (i.toNat * 7)).off + 3,none⟩=some (.int .i64 (Ta xs i).f3)∧w.cell? ⟨(ad.add (i.toNat * 7)).block,(ad.add (i.toNat * 7)).off + 4,none⟩=some (.int .i64 (Ta xs i).f4)∧w.cell? ⟨(ad.add (i.toNat * 7)).block,(ad.add (i.toNat * 7)).off + 5,none⟩=some (.int .i64 (Ta xs i).f5)∧w.cell? ⟨(ad.add (i.toNat * 7)).block,(ad.add (i.toNat * 7)).off + 6,none⟩=some (.string (Ta xs i).f6):=by
 obtain ⟨ad,c,e,_,hK,hc0⟩:=Kd.sI h XD i h0 h1;have hc:∀ j u,c[j]? = some u→w.cell? (ad.add (i.toNat * 7 + j))=some u:=hc0;obtain rfl:=rQ hK;exact ⟨ad,e,hc 0 _ rfl,by rw [← gf _ _ 1 (by omega)];exact hc 1 _ rfl,by rw [← gf _ _ 2 (by omega)];exact hc 2 _ rfl,by rw [← gf _ _ 3 (by omega)];exact hc 3 _ rfl,by rw [← gf _ _ 4 (by omega)];exact hc 4 _ rfl,by rw [← gf _ _ 5 (by omega)];exact hc 5 _ rfl,by rw [← gf _ _ 6 (by omega)];exact hc 6 _ rfl⟩
structure Ce where
 f0:(List Rf)
 f1:Int
 f2:Int
 f3:Int
 f4:Int
def uI:Ce:=⟨([]:List Rf),(0:Int),(0:Int),(0:Int),(0:Int)⟩
def Mt:Kd Ce:=Kd.zS (Kd.pair (Kd.slice 65 jq) (Kd.pair (Kd.int .i64) (Kd.pair (Kd.int .i64) (Kd.pair (Kd.int .i64) (Kd.int .i64))))) (fun x:Ce=>(x.f0,x.f1,x.f2,x.f3,x.f4))
theorem uQ:Kd.Heap Mt:=Kd.GH _ (Kd.Ei (Kd.zJ 65 sQ) (Kd.Ei (Kd.uj .i64) (Kd.Ei (Kd.uj .i64) (Kd.Ei (Kd.uj .i64) (Kd.uj .i64)))))
theorem tQ {w:World} {x:Ce} {cs:List Value} (h:Mt.K w x cs):∃ A0 c0,cs=[.slice A0 x.f0.length c0,.int .i64 x.f1,.int .i64 x.f2,.int .i64 x.f3,.int .i64 x.f4]∧x.f0.length ≤ c0∧jq.C w A0 x.f0.length x.f0:=by
 obtain ⟨_,_,rfl,⟨A0,c0,rfl,l0,g0⟩,⟨_,_,rfl,rfl,⟨_,_,rfl,rfl,⟨_,_,rfl,rfl,rfl⟩⟩⟩⟩:=h;exact ⟨A0,c0,rfl,l0,g0⟩
theorem jE {w:World} {base:Nat} {ok:Nat→Prop} {x:Ce} {cs:List Value} (h:Mt.M w base ok x cs):∃ v0,cs=[v0,.int .i64 x.f1,.int .i64 x.f2,.int .i64 x.f3,.int .i64 x.f4]∧jq.R 65 w base ok v0 x.f0:=by
 obtain ⟨_,_,rfl,⟨v0,rfl,g0⟩,⟨_,_,rfl,rfl,⟨_,_,rfl,rfl,⟨_,_,rfl,rfl,rfl⟩⟩⟩⟩:=h;exact ⟨v0,rfl,g0⟩
theorem TK (w:World) (base:Nat) (ok:Nat→Prop) (x:Ce) {v0:Value} (g0:jq.R 65 w base ok v0 x.f0):Mt.M w base ok x [v0,.int .i64 x.f1,.int .i64 x.f2,.int .i64 x.f3,.int .i64 x.f4]:=⟨[v0],[.int .i64 x.f1,.int .i64 x.f2,.int .i64 x.f3,.int .i64 x.f4],rfl,⟨v0,rfl,g0⟩,⟨[.int .i64 x.f1],[.int .i64 x.f2,.int .i64 x.f3,.int .i64 x.f4],rfl,rfl,⟨[.int .i64 x.f2],[.int .i64 x.f3,.int .i64 x.f4],rfl,rfl,⟨[.int .i64 x.f3],[.int .i64 x.f4],rfl,rfl,rfl⟩⟩⟩⟩
def Aa (xs:List Ce) (i:Int):Ce:=xs.getD i.toNat uI
theorem ki {w:World} {A:Option Addr} {n:Nat} {xs:List Ce} (h:Kd.C Mt w A n xs) (i:Int) (h0:0 ≤ i) (h1:i < n):∃ ad A0 c0,A=some ad∧w.cell? (ad.add (i.toNat * 5))=some (.slice A0 (Aa xs i).f0.length c0)∧w.cell? ⟨(ad.add (i.toNat * 5)).block,(ad.add (i.toNat * 5)).off + 1,none⟩=some (.int .i64 (Aa xs i).f1)∧w.cell? ⟨(ad.add (i.toNat * 5)).block,(ad.add (i.toNat * 5)).off + 2,none⟩=some (.int .i64 (Aa xs i).f2)∧w.cell? ⟨(ad.add (i.toNat * 5)).block,(ad.add (i.toNat * 5)).off + 3,none⟩=some (.int .i64 (Aa xs i).f3)∧w.cell? ⟨(ad.add (i.toNat * 5)).block,(ad.add (i.toNat * 5)).off + 4,none⟩=some (.int .i64 (Aa xs i).f4)∧(Aa xs i).f0.length ≤ c0∧jq.C w A0 (Aa xs i).f0.length (Aa xs i).f0:=by
 obtain ⟨ad,c,e,_,hK,hc0⟩:=Kd.sI h uI i h0 h1;have hc:∀ j u,c[j]? = some u→w.cell? (ad.add (i.toNat * 5 + j))=some u:=hc0;obtain ⟨A0,c0,rfl,l0,g0⟩:=tQ hK;exact ⟨ad,A0,c0,e,hc 0 _ rfl,by rw [← gf _ _ 1 (by omega)];exact hc 1 _ rfl,by rw [← gf _ _ 2 (by omega)];exact hc 2 _ rfl,by rw [← gf _ _ 3 (by omega)];exact hc 3 _ rfl,by rw [← gf _ _ 4 (by omega)];exact hc 4 _ rfl,l0,g0⟩
def Md (xs:List (List Bool)) (i:Int):(List Bool):=xs.getD i.toNat ([]:List Bool)
theorem Wv {w:World} {A:Option Addr} {n:Nat} {xs:List (List Bool)} (h:Kd.C (Kd.slice 4 Kd.bool) w A n xs) (i:Int) (h0:0 ≤ i) (h1:i < n):∃ ad A0 c0,A=some ad∧w.cell? (ad.add i.toNat)=some (.slice A0 (Md xs i).length c0)∧(Md xs i).length ≤ c0∧Kd.bool.C w A0 (Md xs i).length (Md xs i):=by
 obtain ⟨ad,c,e,_,hK,hc0⟩:=Kd.sI h ([]:List Bool) i h0 h1;have hc:∀ j u,c[j]? = some u→w.cell? (ad.add (i.toNat * 1 + j))=some u:=hc0;obtain ⟨A0,c0,rfl,l0,g0⟩:=hK;exact ⟨ad,A0,c0,e,by have hq:=hc 0 _ rfl;rwa [Nat.mul_one,Nat.add_zero] at hq,l0,g0⟩
structure rP where
 f0:Int
 f1:Int
 f2:Int
 f3:ByteArray
 f4:(List rP)
def E1 (d:Kd rP):Kd rP:=Kd.zS (Kd.pair (Kd.int .i64) (Kd.pair (Kd.int .i64) (Kd.pair (Kd.int .i64) (Kd.pair Kd.string (Kd.slice 134 d))))) (fun x:rP=>(x.f0,x.f1,x.f2,x.f3,x.f4))
theorem PX:Kd.Sub E1 [134]:=Kd.LK _ (Kd.cl (Kd.sub_const _ (by decide)) (Kd.cl (Kd.sub_const _ (by decide)) (Kd.cl (Kd.sub_const _ (by decide)) (Kd.cl (Kd.sub_const _ (by decide)) (Kd.dz 134 (by decide) Kd.JI)))))
theorem j3:∀ n,(Kd.upto E1 5 [134] n).sz=5:=Kd.JK (fun _=>rfl)
def Qai:Kd rP:=Kd.fix E1 5 [134] j3 (Kd.II PX)
structure Kz where
 f0:Int
 f1:Int
 f2:Int
 f3:(List rP)
 f4:(List Kz)
 f5:(List Kz)
def F1 (d:Kd Kz):Kd Kz:=Kd.zS (Kd.pair (Kd.int .i64) (Kd.pair (Kd.int .i64) (Kd.pair (Kd.int .i64) (Kd.pair (Kd.slice 134 Qai) (Kd.pair (Kd.slice 130 d) (Kd.slice 130 d)))))) (fun x:Kz=>(x.f0,x.f1,x.f2,x.f3,x.f4,x.f5))
theorem QX:Kd.Sub F1 [130,134]:=Kd.LK _ (Kd.cl (Kd.sub_const _ (by decide)) (Kd.cl (Kd.sub_const _ (by decide)) (Kd.cl (Kd.sub_const _ (by decide)) (Kd.cl (Kd.sub_const _ (by decide)) (Kd.cl (Kd.dz 130 (by decide) Kd.JI) (Kd.dz 130 (by decide) Kd.JI))))))
theorem m3:∀ n,(Kd.upto F1 6 [130,134] n).sz=6:=Kd.JK (fun _=>rfl)
def Rai:Kd Kz:=Kd.fix F1 6 [130,134] m3 (Kd.II QX)
theorem gQ {α:Type} {d:Kd α} {e:Nat} {w:World} {base:Nat} {ok:Nat→Prop} {v:Value} {xs:List α} (h:ja (d.R e w base ok v xs)):v.oneCell' = true:=by
 obtain ⟨A,c,rfl⟩:=Kd.De h.out
 rfl
theorem fQ {α:Type} {d:Kd α} {e:Nat} {w:World} {base:Nat} {ok:Nat→Prop} {v:Value} {xs:List α} (h:ja (d.S e w base ok v xs)):v.oneCell' = true:=by
 obtain ⟨A,c,rfl⟩:=Kd.De (Kd.xK h.out)
 rfl
theorem jQ {α:Type} {d:Kd α} {e:Nat} {w:World} {base:Nat} {ok:Nat→Prop} {v:Value} {xs:List α} (h:ja (Kd.N d e w base ok v xs)):v.oneCell' = true:=by
 obtain ⟨A,c,rfl⟩:=Kd.PV h.out
 rfl
theorem iQ {α:Type} {d:Kd α} {e:Nat} {w:World} {base:Nat} {ok:Nat→Prop} {v:Value} {xs:List α} (h:ja (d.Q e w base ok v xs)):v.oneCell' = true:=by
 obtain ⟨A,c,rfl,_⟩:=Kd.OV h.out
 rfl
def Ym (P:Program) (t:TypeId) {α:Type} (d:Kd α) (fit:α→Prop):Prop :=
 ∀ {H:Type} {enc:TypeId × Value→H} {w:World} {base:Nat} {spare:Nat→Bool} {held:Bool} {fuel:Nat} {cs:List Value} {x:DataW H × List MemPlace},
  DataW.trod enc P w base spare held fuel t cs=some x→∃ a:α,d.K w a cs∧fit a
theorem wO {P:Program} {t:TypeId} {k:IntKind} (ht:P.underlying t=some (.int k)):Ym P t (Kd.int k) (fun n=>(Lit.int k n).wf=true):=by
 intro H enc w base spare held fuel cs x h;obtain ⟨n,rfl,_,hw⟩:=DataW.trod_int ht h;exact ⟨n,rfl,hw⟩
def Ot (n:Int):Prop:=-9223372036854775808 ≤ n∧n ≤ 9223372036854775807
theorem wf_i64 {n:Int} (h:(Lit.int .i64 n).wf=true):Ot n:=by
 simp [Lit.wf,IntKind.min,IntKind.max,IntKind.signed,IntKind.bits] at h;unfold Ot;omega
theorem wg {P:Program} {t:TypeId} (ht:P.underlying t=some (.int .i64)):Ym P t (Kd.int .i64) Ot:=by
 intro H enc w base spare held fuel cs x h;obtain ⟨n,h1,h2⟩:=wO ht h;exact ⟨n,h1,wf_i64 h2⟩
theorem QE {P:Program} {t:TypeId} (ht:P.underlying t=some .string):Ym P t Kd.string (fun s=>s.size ≤ 9223372036854775807):=by
 intro H enc w base spare held fuel cs x h;obtain ⟨s,rfl,_,hw⟩:=DataW.trod_string ht h;exact ⟨s,rfl,by simpa [maxLen] using hw⟩
theorem Zz {α:Type} {p:Nat→α→Prop}:∀ n,(∀ i,i < n→∃ a,p i a)→∃ xs:List α,xs.length=n∧∀ (i:Nat) (a:α),xs[i]? = some a→p i a
 | 0,_=>⟨[],rfl,fun i a h=>by simp at h⟩
 | n + 1,h=>by
  obtain ⟨xs,hl,hx⟩:=Zz n (fun i hi=>h i (by omega));obtain ⟨a,ha⟩:=h n (by omega);refine ⟨xs ++ [a],by simp [hl],fun i b hb=>?_⟩
  rcases Nat.lt_or_ge i xs.length with hi|hi
  ·rw [List.getElem?_append_left hi] at hb;exact hx i b hb
  ·have:i=n:=by
    have:=(List.getElem?_eq_some_iff.1 hb).1;simp [hl] at this;omega
   subst this;rw [List.getElem?_append_right hi,hl] at hb;simp at hb;exact hb ▸ ha
theorem Zt {P:Program} {t e e':TypeId} {α:Type} {d:Kd α} {fit:α→Prop} (ht:P.underlying t=some (.slice e)) (hs:P.cellsOf e=d.sz) (h:Ym P e d fit):Ym P t (Kd.slice e' d) (fun l=>l.length ≤ 9223372036854775807∧∀ a ∈ l,fit a):=by
 intro H enc w base spare held fuel cs x hx
 rcases Go.Deep.open_slice ht hx with ⟨rfl,_⟩|⟨a,len,cap,m,n,D,Pl,rfl,hb,hl,hm,hmm,_,hel⟩
 ·exact ⟨[],⟨none,0,rfl,Nat.le_refl _,rfl,by simp,fun hp=>absurd hp (by simp)⟩,by simp,by simp⟩
 ·have hle:len ≤ m:=by rw [hmm];split <;> omega
  have wT:len ≤ 9223372036854775807:=by simp only [maxLen] at hm;omega
  obtain ⟨xs,hxl,hxs⟩:=Zz (α:=α) (p:=fun i y=>∃ c,c.length=d.sz∧d.K w y c∧(∀ j u,c[j]? = some u→w.cell? (a.add (i * d.sz + j))=some u)∧fit y) len (fun i hi=>by
   obtain ⟨cs',h1,h2⟩:=hel i (by omega);obtain ⟨y,hy,hf⟩:=h h2;obtain ⟨_,Yz,lE⟩:=World.cells?_some h1;refine ⟨y,cs',by rw [Yz,hs],hy,fun j u hu=>?_,hf⟩;have hj:j < P.cellsOf e:=by rw [← Yz];exact (List.getElem?_eq_some_iff.1 hu).1
   rw [← hs,← Go.Deep.add_add,lE j hj]
   exact hu)
  refine ⟨xs,⟨some a,cap,by rw [hxl],by omega,rfl,by omega,fun _=>⟨a,rfl,fun j p hj=>?_⟩⟩,by omega,fun y hy=>?_⟩
  ·obtain ⟨c,h1,h2,h3,_⟩:=hxs j p hj;exact ⟨c,h1,h2,h3⟩
  ·obtain ⟨i,hi,rfl⟩:=List.getElem_of_mem hy;obtain ⟨c,_,_,_,h4⟩:=hxs i _ (List.getElem?_eq_getElem hi);exact h4
def UG (P:Program) (fs:List Field) (off:Nat) {α:Type} (d:Kd α) (fit:α→Prop):Prop :=
 ∀ {H:Type} {enc:TypeId × Value→H} {w:World} {base:Nat} {spare:Nat→Bool} {held:Bool} {n:Nat} {cs:List Value},
  (∀ f ∈ fs,∃ y,DataW.trod enc P w base spare held n f.type ((cs.drop f.offset).take (P.cellsOf f.type))=some y)→cs.length=off + d.sz→∃ a:α,d.K w a (cs.drop off)∧fit a
theorem Pv {P:Program} {f:Field} {off:Nat} {α:Type} {d:Kd α} {fit:α→Prop} (ho:f.offset=off) (hs:P.cellsOf f.type=d.sz) (h:Ym P f.type d fit):UG P [f] off d fit:=by
 intro H enc w base spare held n cs hf hl;obtain ⟨y,hy⟩:=hf f (by simp);rw [ho,hs,List.take_of_length_le (by rw [List.length_drop];omega)] at hy;exact h hy
theorem Ff {P:Program} {f:Field} {fs:List Field} {off off2:Nat} {α β:Type} {d:Kd α} {d2:Kd β} {fit:α→Prop} {l9:β→Prop} (ho:f.offset=off) (hs:P.cellsOf f.type=d.sz) (ho2:off2=off + d.sz) (h:Ym P f.type d fit) (h2:UG P fs off2 d2 l9):UG P (f :: fs) off (Kd.pair d d2) (fun p=>fit p.1∧l9 p.2):=by
 intro H enc w base spare held n cs hf hl;have hl':cs.length=off + (d.sz + d2.sz):=hl;obtain ⟨y,hy⟩:=hf f (by simp);rw [ho,hs] at hy;obtain ⟨a,ha,fa⟩:=h hy;obtain ⟨b,hb,fb⟩:=h2 (fun g hg=>hf g (List.mem_cons_of_mem _ hg)) (by omega);refine ⟨(a,b),⟨(cs.drop off).take d.sz,cs.drop off2,?_,ha,hb⟩,fa,fb⟩;rw [ho2,← List.drop_drop,List.take_append_drop]
theorem Zq {P:Program} {t:TypeId} {fs:Array Field} {α:Type} {d:Kd α} {fit:α→Prop} (ht:P.underlying t=some (.struct fs)) (hs:P.cellsOf t=d.sz) (h:UG P fs.toList 0 d fit):Ym P t d fit:=by
 intro H enc w base spare held fuel cs x hx;obtain ⟨xs,n,_,_,hl,hxl,hf⟩:=DataW.trod_struct ht hx
 have:=h (w:=w) (enc:=enc) (base:=base) (spare:=spare) (held:=held) (n:=n) (cs:=cs) (fun f hfm=>by
  obtain ⟨i,hi,rfl⟩:=List.getElem_of_mem hfm;have hi':i < fs.size:=by simpa using hi
  have h1:=hf i (fs.toList[i]) (by simp [hi']);rw [List.getElem?_eq_getElem (by omega)] at h1
  exact ⟨_,h1⟩) (by omega)
 simpa using this
theorem iz {P:Program} {t:TypeId} {α β:Type} {d:Kd α} {fit:α→Prop} {g:β→α} (gi:α→β) (hg:∀ a,g (gi a)=a) (h:Ym P t d fit):Ym P t (Kd.zS d g) (fun b=>fit (g b)):=by
 intro H enc w base spare held fuel cs x hx;obtain ⟨a,ha,hf⟩:=h hx;refine ⟨gi a,?_,?_⟩
 ·show d.K w (g (gi a)) cs
  rw [hg];exact ha
 ·show fit (g (gi a))
  rw [hg];exact hf
theorem dQ {P:Program} {t:TypeId} {fs:Array Field} {α:Type} {d:Kd α} {fit:α→Prop} {r:Reach} {b0:Nat} {H:Type} {enc:TypeId × Value→H} {w:World} {base:Nat} {spare:Nat→Bool} {held:Bool} {v:Value} {dt:DataW H} {p:List MemPlace}
  (ht:P.underlying t=some (.struct fs)) (h:Ym P t d fit) (hv:Value.okWide P w r b0 t v) (hd:DataW.Trod enc P w base spare held t v dt p) :
  ∃ (a:α) (cs:Array Value),v = .agg cs∧d.K w a cs.toList∧fit a:=by
 obtain ⟨cs,rfl,hsz⟩:=Go.WideShapes.okWide_struct ht hv;obtain ⟨fuel,hf⟩:=hd;obtain ⟨a,ha,Y6⟩:=h hf;exact ⟨a,cs,rfl,by simpa [Value.cells] using ha,Y6⟩
theorem kT:Ym Try.prog 22 (Kd.slice 3 (Kd.int .i64)) (fun l=>l.length ≤ 9223372036854775807∧∀ a ∈ l,Ot a):=Zt Try.underlying22 (by kernel_rfl) (wg Try.underlying3)
def JJ (x:Xm):Prop:=Ot x.f0∧Ot x.f1∧Ot x.f2∧Ot x.f3∧Ot x.f4∧Ot x.f5∧(fun s=>s.size ≤ 9223372036854775807) x.f6
theorem cQ:Ym Try.prog 124 EC JJ:=iz (fun p=>⟨p.1,p.2.1,p.2.2.1,p.2.2.2.1,p.2.2.2.2.1,p.2.2.2.2.2.1,p.2.2.2.2.2.2⟩) (fun _=>rfl) (Zq Try.underlying124 (by kernel_rfl) (Ff rfl (by kernel_rfl) (by kernel_rfl) (wg Try.underlying3) (Ff rfl (by kernel_rfl) (by kernel_rfl) (wg Try.underlying3) (Ff rfl (by kernel_rfl) (by kernel_rfl) (wg Try.underlying3) (Ff rfl (by kernel_rfl) (by kernel_rfl) (wg Try.underlying3) (Ff rfl (by kernel_rfl) (by kernel_rfl) (wg Try.underlying3) (Ff rfl (by kernel_rfl) (by kernel_rfl) (wg Try.underlying3) (Pv rfl (by kernel_rfl) (QE Try.underlying9)))))))))
theorem gT:Ym Try.prog 84 (Kd.slice 124 EC) (fun l=>l.length ≤ 9223372036854775807∧∀ a ∈ l,JJ a):=Zt Try.underlying84 (by kernel_rfl) cQ
def dR (x:Xv):Prop:=(fun l=>l.length ≤ 9223372036854775807∧∀ a ∈ l,JJ a) x.f0∧Ot x.f1∧Ot x.f2∧Ot x.f3∧Ot x.f4
theorem fT:Ym Try.prog 86 qQ dR:=iz (fun p=>⟨p.1,p.2.1,p.2.2.1,p.2.2.2.1,p.2.2.2.2⟩) (fun _=>rfl) (Zq Try.underlying86 (by kernel_rfl) (Ff rfl (by kernel_rfl) (by kernel_rfl) gT (Ff rfl (by kernel_rfl) (by kernel_rfl) (wg Try.underlying3) (Ff rfl (by kernel_rfl) (by kernel_rfl) (wg Try.underlying3) (Ff rfl (by kernel_rfl) (by kernel_rfl) (wg Try.underlying3) (Pv rfl (by kernel_rfl) (wg Try.underlying3)))))))
theorem jT:Ym Try.prog 23 (Kd.slice 86 qQ) (fun l=>l.length ≤ 9223372036854775807∧∀ a ∈ l,dR a):=Zt Try.underlying23 (by kernel_rfl) fT
def eR (x:C2):Prop:=(fun l=>l.length ≤ 9223372036854775807∧∀ a ∈ l,Ot a) x.f0∧Ot x.f1∧Ot x.f2∧Ot x.f3∧(fun l=>l.length ≤ 9223372036854775807∧∀ a ∈ l,dR a) x.f4
theorem iT:Ym Try.prog 25 k25 eR:=iz (fun p=>⟨p.1,p.2.1,p.2.2.1,p.2.2.2.1,p.2.2.2.2⟩) (fun _=>rfl) (Zq Try.underlying25 (by kernel_rfl) (Ff rfl (by kernel_rfl) (by kernel_rfl) kT (Ff rfl (by kernel_rfl) (by kernel_rfl) (wg Try.underlying3) (Ff rfl (by kernel_rfl) (by kernel_rfl) (wg Try.underlying3) (Ff rfl (by kernel_rfl) (by kernel_rfl) (wg Try.underlying3) (Pv rfl (by kernel_rfl) jT))))))
def dh.f (l0:List Int) (a1:Int):Option (Int):=if (wrap64 (a1 - (l0.length:Int))) < 0 then (some (-1)) else (some (wrap64 (a1 - (l0.length:Int))))
theorem dh.calls (A0:Option Addr) (c0:Nat) (l0:List Int) (a1:Int) (r:Int) (w:World) (Rk:Kd.C (Kd.int .i64) w A0 l0.length l0) (hc0:l0.length ≤ c0) (h:dh.f l0 a1=some r) :
  Calls Try.prog 38 #[.slice A0 l0.length c0,.int .i64 a1] w fun e w'=>e = .returned (.int .i64 r)∧Oc w w':=by
 have sn:=ja.mk Rk;have rI:=ja.mk hc0;clear Rk hc0;have H:(if (wrap64 (a1 - (l0.length:Int))) < 0 then (some (-1)) else (some (wrap64 (a1 - (l0.length:Int)))))=some r:=h;clear h
 by_cases c3:(wrap64 (a1 - (l0.length:Int))) < 0
 ·rw [if_pos c3] at H;have Nh:decide ((wrap64 (a1 - (l0.length:Int))) < 0)=true:=decide_eq_true c3;clear c3;obtain rfl:=Option.some.inj H;go_enter Try.func38,Try.ntmps38;go_wp2;go_ret;exact ⟨by first|rfl|(simp;done)|(simp [*];done),by repeat (first|exact Oc.refl _|apply Oc.step)⟩
 ·rw [if_neg c3] at H;have Nh:decide ((wrap64 (a1 - (l0.length:Int))) < 0)=false:=decide_eq_false c3;clear c3;obtain rfl:=Option.some.inj H;go_enter Try.func38,Try.ntmps38;go_wp2;go_ret;exact ⟨by first|rfl|(simp;done)|(simp [*];done),by repeat (first|exact Oc.refl _|apply Oc.step)⟩
def Ph.f (Eb:Int) (Ka:Int) (Ga:Int) (Ia:Int) (xb:Int) (oc:Int) (ic:ByteArray) (a1:Int):Option (Int):=if (wrap64 (a1 - (ic.size:Int))) < 0 then (some (-1)) else (some (wrap64 (a1 - (ic.size:Int))))
theorem Ph.calls (Eb:Int) (Ka:Int) (Ga:Int) (Ia:Int) (xb:Int) (oc:Int) (ic:ByteArray) (a1:Int) (r:Int) (w:World) (h:Ph.f Eb Ka Ga Ia xb oc ic a1=some r) :
  Calls Try.prog 112 #[.agg #[.int .i64 Eb,.int .i64 Ka,.int .i64 Ga,.int .i64 Ia,.int .i64 xb,.int .i64 oc,.string ic],.int .i64 a1] w fun e w'=>e = .returned (.int .i64 r)∧Below w.heap.size w w':=by
 have AQ:=Try.underlying124;have HB:=ja.mk (Below.refl w.heap.size w);have H:(if (wrap64 (a1 - (ic.size:Int))) < 0 then (some (-1)) else (some (wrap64 (a1 - (ic.size:Int)))))=some r:=h;clear h
 by_cases c3:(wrap64 (a1 - (ic.size:Int))) < 0
 ·rw [if_pos c3] at H;have Nh:decide ((wrap64 (a1 - (ic.size:Int))) < 0)=true:=decide_eq_true c3;clear c3;obtain rfl:=Option.some.inj H;go_enter Try.func112,Try.ntmps112;go_wp2_with (first|((with_reducible refine yb (N:=2) rfl ?_);refine Gb ?hg (N:=2) ?hd (cs:=#[.int .i64 Eb,.int .i64 Ka,.int .i64 Ga,.int .i64 Ia,.int .i64 xb,.int .i64 oc,.string ic]) (t:=124) ?hr ?_;(case hd=>rfl);(case hg=>rfl);(case hr=>first|(go_simp;done)|(go_simp;rfl));intro ya hg w4 Qb hb;have Fb:=ja.mk (Qa (by repeat (first|(with_reducible first|exact HB.out|apply qa|apply ia|apply ta)|exact HB.out)) hb);have Ib:=ja.mk (Qb);have Sb:=ja.mk ((by rw [hg];exact (Fa (by repeat (first|(with_reducible first|exact HB.out|apply qa|apply ia|apply ta)|exact HB.out))):w.heap.size ≤ ya));have Ec:=ja.mk ((by rw [hg];exact (Fa (by repeat (first|(with_reducible first|exact HB.out|apply qa|apply ia|apply ta)|exact HB.out))):w.heap.size ≤ ya));clear HB;have HB:=Fb;have oa:=Ib;have yd:=Sb;have Sa:=Ec;clear Fb Ib Sb Ec hb Qb hg;have EJ:w4.cell? ⟨ya,0,none⟩=some (.int .i64 Eb):=(ga oa.out 0).trans rfl;have DJ:w4.cell? ⟨ya,1,none⟩=some (.int .i64 Ka):=(ga oa.out 1).trans rfl;have CJ:w4.cell? ⟨ya,2,none⟩=some (.int .i64 Ga):=(ga oa.out 2).trans rfl;have BJ:w4.cell? ⟨ya,3,none⟩=some (.int .i64 Ia):=(ga oa.out 3).trans rfl;have AJ:w4.cell? ⟨ya,4,none⟩=some (.int .i64 xb):=(ga oa.out 4).trans rfl;have dak:w4.cell? ⟨ya,5,none⟩=some (.int .i64 oc):=(ga oa.out 5).trans rfl;have cak:w4.cell? ⟨ya,6,none⟩=some (.string ic):=(ga oa.out 6).trans rfl;have tJ:=aa oa.out 0;have sJ:=aa oa.out 1;have rJ:=aa oa.out 2;have qJ:=aa oa.out 3;have pJ:=aa oa.out 4;have Raj:=aa oa.out 5;have Qaj:=aa oa.out 6));go_ret;exact ⟨by first|rfl|(simp [Ma,La] <;> rfl)|(simp [*,Ma,La] <;> rfl),by repeat (first|(with_reducible first|exact HB.out|apply qa|apply ia|apply ta|refine ua ?_ Sa.out)|exact HB.out)⟩
 ·rw [if_neg c3] at H;have Nh:decide ((wrap64 (a1 - (ic.size:Int))) < 0)=false:=decide_eq_false c3;clear c3;obtain rfl:=Option.some.inj H;go_enter Try.func112,Try.ntmps112;go_wp2_with (first|((with_reducible refine yb (N:=2) rfl ?_);refine Gb ?hg (N:=2) ?hd (cs:=#[.int .i64 Eb,.int .i64 Ka,.int .i64 Ga,.int .i64 Ia,.int .i64 xb,.int .i64 oc,.string ic]) (t:=124) ?hr ?_;(case hd=>rfl);(case hg=>rfl);(case hr=>first|(go_simp;done)|(go_simp;rfl));intro ya hg w6 Qb hb;have Fb:=ja.mk (Qa (by repeat (first|(with_reducible first|exact HB.out|apply qa|apply ia|apply ta)|exact HB.out)) hb);have Ib:=ja.mk (Qb);have Sb:=ja.mk ((by rw [hg];exact (Fa (by repeat (first|(with_reducible first|exact HB.out|apply qa|apply ia|apply ta)|exact HB.out))):w.heap.size ≤ ya));have Ec:=ja.mk ((by rw [hg];exact (Fa (by repeat (first|(with_reducible first|exact HB.out|apply qa|apply ia|apply ta)|exact HB.out))):w.heap.size ≤ ya));clear HB;have HB:=Fb;have oa:=Ib;have yd:=Sb;have Sa:=Ec;clear Fb Ib Sb Ec hb Qb hg;have Yr:w6.cell? ⟨ya,0,none⟩=some (.int .i64 Eb):=(ga oa.out 0).trans rfl;have Xr:w6.cell? ⟨ya,1,none⟩=some (.int .i64 Ka):=(ga oa.out 1).trans rfl;have Wr:w6.cell? ⟨ya,2,none⟩=some (.int .i64 Ga):=(ga oa.out 2).trans rfl;have Vr:w6.cell? ⟨ya,3,none⟩=some (.int .i64 Ia):=(ga oa.out 3).trans rfl;have Ur:w6.cell? ⟨ya,4,none⟩=some (.int .i64 xb):=(ga oa.out 4).trans rfl;have PF:w6.cell? ⟨ya,5,none⟩=some (.int .i64 oc):=(ga oa.out 5).trans rfl;have NF:w6.cell? ⟨ya,6,none⟩=some (.string ic):=(ga oa.out 6).trans rfl;have kr:=aa oa.out 0;have jr:=aa oa.out 1;have ir:=aa oa.out 2;have gr:=aa oa.out 3;have er:=aa oa.out 4;have ZE:=aa oa.out 5;have YE:=aa oa.out 6));go_ret;exact ⟨by first|rfl|(simp [Ma,La] <;> rfl)|(simp [*,Ma,La] <;> rfl),by repeat (first|(with_reducible first|exact HB.out|apply qa|apply ia|apply ta|refine ua ?_ Sa.out)|exact HB.out)⟩
def Cd.l0:Nat→List (Xm)→Int→Int→Option (Int)
 | 0,_,_,_=>none
 | k + 1,x0,x1,x5=>if x5 < (x0.length:Int) then (if 0 ≤ x5 then ((Ph.f ((Mc x0 x5).f0) ((Mc x0 x5).f1) ((Mc x0 x5).f2) ((Mc x0 x5).f3) ((Mc x0 x5).f4) ((Mc x0 x5).f5) ((Mc x0 x5).f6) x1).bind fun t102=>(if t102 < 0 then (some (-1)) else (Cd.l0 k x0 t102 (wrap64 (x5 + 1))))) else (none)) else (some x1)
def Cd.f (k:Nat) (l0:List (Xm)) (a1:Int):Option (Int):=if (wrap64 (a1 - (l0.length:Int))) < 0 then (some (-1)) else (Cd.l0 k l0 (wrap64 (a1 - (l0.length:Int))) 0)
theorem Cd.calls (k:Nat) (A0:Option Addr) (c0:Nat) (l0:List (Xm)) (a1:Int) (r:Int) (w:World) (Rk:Kd.C EC w A0 l0.length l0) (hc0:l0.length ≤ c0) (h:Cd.f k l0 a1=some r) :
  Calls Try.prog 96 #[.slice A0 l0.length c0,.int .i64 a1] w fun e w'=>e = .returned (.int .i64 r)∧Below w.heap.size w w':=by
 have AQ:=Try.underlying124;have sn:=ja.mk Rk;have rI:=ja.mk hc0;clear Rk hc0;have HB:=ja.mk (Below.refl w.heap.size w);have H:(if (wrap64 (a1 - (l0.length:Int))) < 0 then (some (-1)) else (Cd.l0 k l0 (wrap64 (a1 - (l0.length:Int))) 0))=some r:=h;clear h
 by_cases c3:(wrap64 (a1 - (l0.length:Int))) < 0
 ·rw [if_pos c3] at H;have Nh:decide ((wrap64 (a1 - (l0.length:Int))) < 0)=true:=decide_eq_true c3;clear c3;obtain rfl:=Option.some.inj H;go_enter Try.func96,Try.ntmps96;go_wp2;go_ret;exact ⟨by first|rfl|(simp [Ma,La] <;> rfl)|(simp [*,Ma,La] <;> rfl),by repeat (first|(with_reducible first|exact HB.out|apply qa|apply ia|apply ta)|exact HB.out)⟩
 ·rw [if_neg c3] at H;have Nh:decide ((wrap64 (a1 - (l0.length:Int))) < 0)=false:=decide_eq_false c3;clear c3;have H':=ja.mk H;clear H;go_enter Try.func96,Try.ntmps96;go_wp2
  go_loopg [1,5] k (fun kq v1 v5 w'=>∃ (Lv:Int) (Ra:Int),v1 = .int .i64 Lv∧v5 = .int .i64 Ra∧ja (Cd.l0 kq l0 Lv Ra=some r)∧ja (kq ≤ k)∧ja (Below w.heap.size w w'))
  case atStart=>exact ⟨(wrap64 (a1 - (l0.length:Int))),(0),(by first|rfl|(simp;done)|(simp [*];done)),(by first|rfl|(simp;done)|(simp [*];done)),H',⟨Nat.le_refl _⟩,⟨by repeat (first|(with_reducible first|exact HB.out|apply qa|apply ia|apply ta)|exact HB.out)⟩⟩
  case round =>
   clear H'
   try clear p2
   try clear c3
   try clear Nh
   (try clear HA);(try clear lg);(try clear HB);obtain ⟨Lv,Ra,rfl,rfl,HA,lg,HB⟩:=hrel;cases gk with
   | zero=>exact absurd HA.out (by simp [Cd.l0])
   | succ k1 =>
    have H:=HA.out;clear HA;simp only [Cd.l0] at H
    by_cases c4:Ra < (l0.length:Int)
    ·rw [if_pos c4] at H;have Mk:decide (Ra < (l0.length:Int))=true:=decide_eq_true c4;clear c4
     by_cases c5:0 ≤ Ra
     ·rw [if_pos c5] at H;have sj:decide (0 ≤ Ra)=true:=decide_eq_true c5;clear c5;replace H:=Option.bind_eq_some_iff.mp H;obtain ⟨t102,yX,H⟩:=H;replace H:(if t102 < 0 then (some (-1)) else (Cd.l0 k1 l0 t102 (wrap64 (Ra + 1))))=some r:=H;have A6:=ja.mk yX;clear yX
      by_cases c7:t102 < 0
      ·rw [if_pos c7] at H;have Tj:decide (t102 < 0)=true:=decide_eq_true c7;clear c7;obtain rfl:=Option.some.inj H;have lf:0 ≤ (Ra:Int):=Wa;have kf:Ra < (l0.length:Int):=Wa;obtain ⟨ie,wj,Nd,Pe,Oe,Me,Le,Th,Sh⟩:=NG sn.out Ra lf kf;cases wj;replace Nd:=Na HB.out Nd;replace Pe:=Na HB.out Pe;replace Oe:=Na HB.out Oe;replace Me:=Na HB.out Me;replace Le:=Na HB.out Le;replace Th:=Na HB.out Th;replace Sh:=Na HB.out Sh;replace lf:=eq_true lf;replace kf:=eq_true kf;go_wp2_with (first|((with_reducible refine jb (f:=112) rfl ?_);refine Fc (some 23) rfl rfl Try.func112 (by kernel_rfl) rfl #[.agg #[.int .i64 ((Mc l0 Ra).f0),.int .i64 ((Mc l0 Ra).f1),.int .i64 ((Mc l0 Ra).f2),.int .i64 ((Mc l0 Ra).f3),.int .i64 ((Mc l0 Ra).f4),.int .i64 ((Mc l0 Ra).f5),.string ((Mc l0 Ra).f6)],.int .i64 Lv] rfl (by (try simp only [List.map_toArray,List.map_cons,List.map_nil]);first|done|rfl|(simp only [List.length_drop,List.length_take];rfl)) ?_;(with_reducible refine (Ph.calls ((Mc l0 Ra).f0) ((Mc l0 Ra).f1) ((Mc l0 Ra).f2) ((Mc l0 Ra).f3) ((Mc l0 Ra).f4) ((Mc l0 Ra).f5) ((Mc l0 Ra).f6) Lv t102 _ A6.out).mono ?_);rintro e w8 ⟨rfl,hb⟩;refine ⟨_,rfl,?_⟩;have Fb:=ja.mk (Qa (by repeat (first|(with_reducible first|exact HB.out|apply qa|apply ia|apply ta)|exact HB.out)) hb);clear HB;have HB:=Fb;clear Fb;(try clear hb);(try clear Hi);(try clear hk);(try clear hi)));go_ret;exact ⟨by first|rfl|(simp [Ma,La] <;> rfl)|(simp [*,Ma,La] <;> rfl),by repeat (first|(with_reducible first|exact HB.out|apply qa|apply ia|apply ta)|exact HB.out)⟩
      ·rw [if_neg c7] at H;have Tj:decide (t102 < 0)=false:=decide_eq_false c7;clear c7;have H':=ja.mk H;clear H;have lf:0 ≤ (Ra:Int):=Wa;have kf:Ra < (l0.length:Int):=Wa;obtain ⟨ie,wj,Nd,Pe,Oe,Me,Le,Th,Sh⟩:=NG sn.out Ra lf kf;cases wj;replace Nd:=Na HB.out Nd;replace Pe:=Na HB.out Pe;replace Oe:=Na HB.out Oe;replace Me:=Na HB.out Me;replace Le:=Na HB.out Le;replace Th:=Na HB.out Th;replace Sh:=Na HB.out Sh;replace lf:=eq_true lf;replace kf:=eq_true kf;go_wp2_with (first|((with_reducible refine jb (f:=112) rfl ?_);refine Fc (some 23) rfl rfl Try.func112 (by kernel_rfl) rfl #[.agg #[.int .i64 ((Mc l0 Ra).f0),.int .i64 ((Mc l0 Ra).f1),.int .i64 ((Mc l0 Ra).f2),.int .i64 ((Mc l0 Ra).f3),.int .i64 ((Mc l0 Ra).f4),.int .i64 ((Mc l0 Ra).f5),.string ((Mc l0 Ra).f6)],.int .i64 Lv] rfl (by (try simp only [List.map_toArray,List.map_cons,List.map_nil]);first|done|rfl|(simp only [List.length_drop,List.length_take];rfl)) ?_;(with_reducible refine (Ph.calls ((Mc l0 Ra).f0) ((Mc l0 Ra).f1) ((Mc l0 Ra).f2) ((Mc l0 Ra).f3) ((Mc l0 Ra).f4) ((Mc l0 Ra).f5) ((Mc l0 Ra).f6) Lv t102 _ A6.out).mono ?_);rintro e w9 ⟨rfl,hb⟩;refine ⟨_,rfl,?_⟩;have Fb:=ja.mk (Qa (by repeat (first|(with_reducible first|exact HB.out|apply qa|apply ia|apply ta)|exact HB.out)) hb);clear HB;have HB:=Fb;clear Fb;(try clear hb);(try clear Hi);(try clear hk);(try clear hi)))
       go_roundg k1
       case measure=>have:=lg.out;omega
       case rel=>exact ⟨(t102),(wrap64 (Ra + 1)),(by first|rfl|(simp;done)|(simp [*];done)),(by first|rfl|(simp;done)|(simp [*];done)),H',⟨by have:=lg.out;omega⟩,⟨by repeat (first|(with_reducible first|exact HB.out|apply qa|apply ia|apply ta)|exact HB.out)⟩⟩
     ·rw [if_neg c5] at H;exact absurd H (by simp)
    ·rw [if_neg c4] at H;have Mk:decide (Ra < (l0.length:Int))=false:=decide_eq_false c4;clear c4;obtain rfl:=Option.some.inj H;go_wp2;go_ret;exact ⟨by first|rfl|(simp [Ma,La] <;> rfl)|(simp [*,Ma,La] <;> rfl),by repeat (first|(with_reducible first|exact HB.out|apply qa|apply ia|apply ta)|exact HB.out)⟩
def Qh.f (k:Nat) (Pa:List (Xm)) (Ka:Int) (Ga:Int) (Ia:Int) (xb:Int) (a1:Int):Option (Int):=(Cd.f k Pa a1).bind fun t102=>(if t102 < 0 then (some (-1)) else (some t102))
theorem Qh.calls (k:Nat) (Ya:Option Addr) (Za:Nat) (Pa:List (Xm)) (Ka:Int) (Ga:Int) (Ia:Int) (xb:Int) (a1:Int) (r:Int) (w:World) (Wd:Kd.C EC w Ya Pa.length Pa) (Sd:Pa.length ≤ Za) (h:Qh.f k Pa Ka Ga Ia xb a1=some r) :
  Calls Try.prog 70 #[.agg #[.slice Ya Pa.length Za,.int .i64 Ka,.int .i64 Ga,.int .i64 Ia,.int .i64 xb],.int .i64 a1] w fun e w'=>e = .returned (.int .i64 r)∧Below w.heap.size w w':=by
 have lY:=Try.underlying86;have qe:=ja.mk Wd;have Be:=ja.mk Sd;clear Wd Sd;have HB:=ja.mk (Below.refl w.heap.size w);have H:((Cd.f k Pa a1).bind fun t102=>(if t102 < 0 then (some (-1)) else (some t102)))=some r:=h;clear h;replace H:=Option.bind_eq_some_iff.mp H;obtain ⟨t102,dw,H⟩:=H;replace H:(if t102 < 0 then (some (-1)) else (some t102))=some r:=H;have A3:=ja.mk dw;clear dw
 by_cases c4:t102 < 0
 ·rw [if_pos c4] at H;have Mk:decide (t102 < 0)=true:=decide_eq_true c4;clear c4;obtain rfl:=Option.some.inj H;go_enter Try.func70,Try.ntmps70;go_wp2_with (first|((with_reducible refine yb (N:=2) rfl ?_);refine Gb ?hg (N:=2) ?hd (cs:=#[.slice Ya Pa.length Za,.int .i64 Ka,.int .i64 Ga,.int .i64 Ia,.int .i64 xb]) (t:=86) ?hr ?_;(case hd=>rfl);(case hg=>rfl);(case hr=>first|(go_simp;done)|(go_simp;rfl));intro ya hg w5 Qb hb;have Fb:=ja.mk (Qa (by repeat (first|(with_reducible first|exact HB.out|apply qa|apply ia|apply ta)|exact HB.out)) hb);have Ib:=ja.mk (Qb);have Sb:=ja.mk ((by rw [hg];exact (Fa (by repeat (first|(with_reducible first|exact HB.out|apply qa|apply ia|apply ta)|exact HB.out))):w.heap.size ≤ ya));have Ec:=ja.mk ((by rw [hg];exact (Fa (by repeat (first|(with_reducible first|exact HB.out|apply qa|apply ia|apply ta)|exact HB.out))):w.heap.size ≤ ya));clear HB;have HB:=Fb;have oa:=Ib;have yd:=Sb;have Sa:=Ec;clear Fb Ib Sb Ec hb Qb hg;have Sj:w5.cell? ⟨ya,0,none⟩=some (.slice Ya Pa.length Za):=(ga oa.out 0).trans rfl;have Rj:w5.cell? ⟨ya,1,none⟩=some (.int .i64 Ka):=(ga oa.out 1).trans rfl;have Qj:w5.cell? ⟨ya,2,none⟩=some (.int .i64 Ga):=(ga oa.out 2).trans rfl;have Pj:w5.cell? ⟨ya,3,none⟩=some (.int .i64 Ia):=(ga oa.out 3).trans rfl;have Oj:w5.cell? ⟨ya,4,none⟩=some (.int .i64 xb):=(ga oa.out 4).trans rfl;have Nj:=aa oa.out 0;have Mj:=aa oa.out 1;have Lj:=aa oa.out 2;have Kj:=aa oa.out 3;have Jj:=aa oa.out 4)|((with_reducible refine jb (f:=96) rfl ?_);refine Fc (some 8) rfl rfl Try.func96 (by kernel_rfl) rfl #[.slice Ya Pa.length Za,.int .i64 a1] rfl (by (try simp only [List.map_toArray,List.map_cons,List.map_nil]);first|done|rfl|(simp only [List.length_drop,List.length_take];rfl)) ?_;(with_reducible refine (Cd.calls k _ _ Pa a1 t102 _ ?yc ?uc A3.out).mono ?_);(case yc=>repeat (first|exact (Kd.Ob qe.out HB.out)|(with_reducible refine Kd.Pb ?_ _)|(with_reducible refine Kd.Nb ?_ _)|(with_reducible refine Kd.Zb ?_)));(case uc=>exact Be.out);rintro e w7 ⟨rfl,hb⟩;refine ⟨_,rfl,?_⟩;have Fb:=ja.mk (Ua (g:=ya) (o:=.cells #[.slice Ya Pa.length Za,.int .i64 Ka,.int .i64 Ga,.int .i64 Ia,.int .i64 xb] 86 (0,0)) (by (with_reducible repeat (first|refine Ba ?_ _|refine Ea ?_|refine Ca ?_ _));exact oa.out) hb);have Ib:=ja.mk (Qa (by repeat (first|(with_reducible first|exact HB.out|apply qa|apply ia|apply ta|refine ua ?_ Sa.out)|exact HB.out)) hb);clear oa HB;have oa:=Fb;have HB:=Ib;clear Fb Ib;(try clear hb);(try clear Hi);(try clear hk);(try clear hi)));go_ret;exact ⟨by first|rfl|(simp [Ma,La] <;> rfl)|(simp [*,Ma,La] <;> rfl),by repeat (first|(with_reducible first|exact HB.out|apply qa|apply ia|apply ta|refine ua ?_ Sa.out)|exact HB.out)⟩
 ·rw [if_neg c4] at H;have Mk:decide (t102 < 0)=false:=decide_eq_false c4;clear c4;obtain rfl:=Option.some.inj H;go_enter Try.func70,Try.ntmps70;go_wp2_with (first|((with_reducible refine yb (N:=2) rfl ?_);refine Gb ?hg (N:=2) ?hd (cs:=#[.slice Ya Pa.length Za,.int .i64 Ka,.int .i64 Ga,.int .i64 Ia,.int .i64 xb]) (t:=86) ?hr ?_;(case hd=>rfl);(case hg=>rfl);(case hr=>first|(go_simp;done)|(go_simp;rfl));intro ya hg w8 Qb hb;have Fb:=ja.mk (Qa (by repeat (first|(with_reducible first|exact HB.out|apply qa|apply ia|apply ta)|exact HB.out)) hb);have Ib:=ja.mk (Qb);have Sb:=ja.mk ((by rw [hg];exact (Fa (by repeat (first|(with_reducible first|exact HB.out|apply qa|apply ia|apply ta)|exact HB.out))):w.heap.size ≤ ya));have Ec:=ja.mk ((by rw [hg];exact (Fa (by repeat (first|(with_reducible first|exact HB.out|apply qa|apply ia|apply ta)|exact HB.out))):w.heap.size ≤ ya));clear HB;have HB:=Fb;have oa:=Ib;have yd:=Sb;have Sa:=Ec;clear Fb Ib Sb Ec hb Qb hg;have Vl:w8.cell? ⟨ya,0,none⟩=some (.slice Ya Pa.length Za):=(ga oa.out 0).trans rfl;have Ul:w8.cell? ⟨ya,1,none⟩=some (.int .i64 Ka):=(ga oa.out 1).trans rfl;have Tl:w8.cell? ⟨ya,2,none⟩=some (.int .i64 Ga):=(ga oa.out 2).trans rfl;have Sl:w8.cell? ⟨ya,3,none⟩=some (.int .i64 Ia):=(ga oa.out 3).trans rfl;have Rl:w8.cell? ⟨ya,4,none⟩=some (.int .i64 xb):=(ga oa.out 4).trans rfl;have Ql:=aa oa.out 0;have Ol:=aa oa.out 1;have Nl:=aa oa.out 2;have Ml:=aa oa.out 3;have Ll:=aa oa.out 4)|((with_reducible refine jb (f:=96) rfl ?_);refine Fc (some 8) rfl rfl Try.func96 (by kernel_rfl) rfl #[.slice Ya Pa.length Za,.int .i64 a1] rfl (by (try simp only [List.map_toArray,List.map_cons,List.map_nil]);first|done|rfl|(simp only [List.length_drop,List.length_take];rfl)) ?_;(with_reducible refine (Cd.calls k _ _ Pa a1 t102 _ ?yc ?uc A3.out).mono ?_);(case yc=>repeat (first|exact (Kd.Ob qe.out HB.out)|(with_reducible refine Kd.Pb ?_ _)|(with_reducible refine Kd.Nb ?_ _)|(with_reducible refine Kd.Zb ?_)));(case uc=>exact Be.out);rintro e Lt ⟨rfl,hb⟩;refine ⟨_,rfl,?_⟩;have Fb:=ja.mk (Ua (g:=ya) (o:=.cells #[.slice Ya Pa.length Za,.int .i64 Ka,.int .i64 Ga,.int .i64 Ia,.int .i64 xb] 86 (0,0)) (by (with_reducible repeat (first|refine Ba ?_ _|refine Ea ?_|refine Ca ?_ _));exact oa.out) hb);have Ib:=ja.mk (Qa (by repeat (first|(with_reducible first|exact HB.out|apply qa|apply ia|apply ta|refine ua ?_ Sa.out)|exact HB.out)) hb);clear oa HB;have oa:=Fb;have HB:=Ib;clear Fb Ib;(try clear hb);(try clear Hi);(try clear hk);(try clear hi)));go_ret;exact ⟨by first|rfl|(simp [Ma,La] <;> rfl)|(simp [*,Ma,La] <;> rfl),by repeat (first|(with_reducible first|exact HB.out|apply qa|apply ia|apply ta|refine ua ?_ Sa.out)|exact HB.out)⟩
def qd.l0:Nat→List (Xv)→Int→Int→Option (Int)
 | 0,_,_,_=>none
 | k + 1,x0,x1,x5=>if x5 < (x0.length:Int) then (if 0 ≤ x5 then ((Qh.f k ((Xd x0 x5).f0) ((Xd x0 x5).f1) ((Xd x0 x5).f2) ((Xd x0 x5).f3) ((Xd x0 x5).f4) x1).bind fun t102=>(if t102 < 0 then (some (-1)) else (qd.l0 k x0 t102 (wrap64 (x5 + 1))))) else (none)) else (some x1)
def qd.f (k:Nat) (l0:List (Xv)) (a1:Int):Option (Int):=if (wrap64 (a1 - (l0.length:Int))) < 0 then (some (-1)) else (qd.l0 k l0 (wrap64 (a1 - (l0.length:Int))) 0)
theorem qd.calls (k:Nat) (A0:Option Addr) (c0:Nat) (l0:List (Xv)) (a1:Int) (r:Int) (w:World) (Rk:Kd.C qQ w A0 l0.length l0) (hc0:l0.length ≤ c0) (h:qd.f k l0 a1=some r) :
  Calls Try.prog 39 #[.slice A0 l0.length c0,.int .i64 a1] w fun e w'=>e = .returned (.int .i64 r)∧Below w.heap.size w w':=by
 have lY:=Try.underlying86;have sn:=ja.mk Rk;have rI:=ja.mk hc0;clear Rk hc0;have HB:=ja.mk (Below.refl w.heap.size w);have H:(if (wrap64 (a1 - (l0.length:Int))) < 0 then (some (-1)) else (qd.l0 k l0 (wrap64 (a1 - (l0.length:Int))) 0))=some r:=h;clear h
 by_cases c3:(wrap64 (a1 - (l0.length:Int))) < 0
 ·rw [if_pos c3] at H;have Nh:decide ((wrap64 (a1 - (l0.length:Int))) < 0)=true:=decide_eq_true c3;clear c3;obtain rfl:=Option.some.inj H;go_enter Try.func39,Try.ntmps39;go_wp2;go_ret;exact ⟨by first|rfl|(simp [Ma,La] <;> rfl)|(simp [*,Ma,La] <;> rfl),by repeat (first|(with_reducible first|exact HB.out|apply qa|apply ia|apply ta)|exact HB.out)⟩
 ·rw [if_neg c3] at H;have Nh:decide ((wrap64 (a1 - (l0.length:Int))) < 0)=false:=decide_eq_false c3;clear c3;have H':=ja.mk H;clear H;go_enter Try.func39,Try.ntmps39;go_wp2
  go_loopg [1,5] k (fun kq v1 v5 w'=>∃ (Lv:Int) (Ra:Int),v1 = .int .i64 Lv∧v5 = .int .i64 Ra∧ja (qd.l0 kq l0 Lv Ra=some r)∧ja (kq ≤ k)∧ja (Below w.heap.size w w'))
  case atStart=>exact ⟨(wrap64 (a1 - (l0.length:Int))),(0),(by first|rfl|(simp;done)|(simp [*];done)),(by first|rfl|(simp;done)|(simp [*];done)),H',⟨Nat.le_refl _⟩,⟨by repeat (first|(with_reducible first|exact HB.out|apply qa|apply ia|apply ta)|exact HB.out)⟩⟩
  case round =>
   clear H'
   try clear p2
   try clear c3
   try clear Nh
   (try clear HA);(try clear lg);(try clear HB);obtain ⟨Lv,Ra,rfl,rfl,HA,lg,HB⟩:=hrel;cases gk with
   | zero=>exact absurd HA.out (by simp [qd.l0])
   | succ k1 =>
    have H:=HA.out;clear HA;simp only [qd.l0] at H
    by_cases c4:Ra < (l0.length:Int)
    ·rw [if_pos c4] at H;have Mk:decide (Ra < (l0.length:Int))=true:=decide_eq_true c4;clear c4
     by_cases c5:0 ≤ Ra
     ·rw [if_pos c5] at H;have sj:decide (0 ≤ Ra)=true:=decide_eq_true c5;clear c5;replace H:=Option.bind_eq_some_iff.mp H;obtain ⟨t102,yX,H⟩:=H;replace H:(if t102 < 0 then (some (-1)) else (qd.l0 k1 l0 t102 (wrap64 (Ra + 1))))=some r:=H;have A6:=ja.mk yX;clear yX
      by_cases c7:t102 < 0
      ·rw [if_pos c7] at H;have Tj:decide (t102 < 0)=true:=decide_eq_true c7;clear c7;obtain rfl:=Option.some.inj H;have lf:0 ≤ (Ra:Int):=Wa;have kf:Ra < (l0.length:Int):=Wa;obtain ⟨ie,Ft,jt,wj,Nd,Pe,Oe,Me,Le,Jl,Kl⟩:=sK sn.out Ra lf kf;cases wj;replace Nd:=Na HB.out Nd;replace Pe:=Na HB.out Pe;replace Oe:=Na HB.out Oe;replace Me:=Na HB.out Me;replace Le:=Na HB.out Le;have wo:=ja.mk Kl;have Dt:=ja.mk Jl;clear Kl Jl;replace lf:=eq_true lf;replace kf:=eq_true kf;go_wp2_with (first|((with_reducible refine jb (f:=70) rfl ?_);refine Fc (some 23) rfl rfl Try.func70 (by kernel_rfl) rfl #[.agg #[.slice Ft ((Xd l0 Ra).f0).length jt,.int .i64 ((Xd l0 Ra).f1),.int .i64 ((Xd l0 Ra).f2),.int .i64 ((Xd l0 Ra).f3),.int .i64 ((Xd l0 Ra).f4)],.int .i64 Lv] rfl (by (try simp only [List.map_toArray,List.map_cons,List.map_nil]);first|done|rfl|(simp only [List.length_drop,List.length_take];rfl)) ?_;(with_reducible refine (Qh.calls k1 _ _ ((Xd l0 Ra).f0) ((Xd l0 Ra).f1) ((Xd l0 Ra).f2) ((Xd l0 Ra).f3) ((Xd l0 Ra).f4) Lv t102 _ ?yc ?uc A6.out).mono ?_);(case yc=>repeat (first|exact (Kd.Ob wo.out HB.out)|(with_reducible refine Kd.Pb ?_ _)|(with_reducible refine Kd.Nb ?_ _)|(with_reducible refine Kd.Zb ?_)));(case uc=>exact Dt.out);rintro e w8 ⟨rfl,hb⟩;refine ⟨_,rfl,?_⟩;have Fb:=ja.mk (Qa (by repeat (first|(with_reducible first|exact HB.out|apply qa|apply ia|apply ta)|exact HB.out)) hb);clear HB;have HB:=Fb;clear Fb;(try clear hb);(try clear Hi);(try clear hk);(try clear hi)));go_ret;exact ⟨by first|rfl|(simp [Ma,La] <;> rfl)|(simp [*,Ma,La] <;> rfl),by repeat (first|(with_reducible first|exact HB.out|apply qa|apply ia|apply ta)|exact HB.out)⟩
      ·rw [if_neg c7] at H;have Tj:decide (t102 < 0)=false:=decide_eq_false c7;clear c7;have H':=ja.mk H;clear H;have lf:0 ≤ (Ra:Int):=Wa;have kf:Ra < (l0.length:Int):=Wa;obtain ⟨ie,Ft,jt,wj,Nd,Pe,Oe,Me,Le,Jl,Kl⟩:=sK sn.out Ra lf kf;cases wj;replace Nd:=Na HB.out Nd;replace Pe:=Na HB.out Pe;replace Oe:=Na HB.out Oe;replace Me:=Na HB.out Me;replace Le:=Na HB.out Le;have wo:=ja.mk Kl;have Dt:=ja.mk Jl;clear Kl Jl;replace lf:=eq_true lf;replace kf:=eq_true kf;go_wp2_with (first|((with_reducible refine jb (f:=70) rfl ?_);refine Fc (some 23) rfl rfl Try.func70 (by kernel_rfl) rfl #[.agg #[.slice Ft ((Xd l0 Ra).f0).length jt,.int .i64 ((Xd l0 Ra).f1),.int .i64 ((Xd l0 Ra).f2),.int .i64 ((Xd l0 Ra).f3),.int .i64 ((Xd l0 Ra).f4)],.int .i64 Lv] rfl (by (try simp only [List.map_toArray,List.map_cons,List.map_nil]);first|done|rfl|(simp only [List.length_drop,List.length_take];rfl)) ?_;(with_reducible refine (Qh.calls k1 _ _ ((Xd l0 Ra).f0) ((Xd l0 Ra).f1) ((Xd l0 Ra).f2) ((Xd l0 Ra).f3) ((Xd l0 Ra).f4) Lv t102 _ ?yc ?uc A6.out).mono ?_);(case yc=>repeat (first|exact (Kd.Ob wo.out HB.out)|(with_reducible refine Kd.Pb ?_ _)|(with_reducible refine Kd.Nb ?_ _)|(with_reducible refine Kd.Zb ?_)));(case uc=>exact Dt.out);rintro e w9 ⟨rfl,hb⟩;refine ⟨_,rfl,?_⟩;have Fb:=ja.mk (Qa (by repeat (first|(with_reducible first|exact HB.out|apply qa|apply ia|apply ta)|exact HB.out)) hb);clear HB;have HB:=Fb;clear Fb;(try clear hb);(try clear Hi);(try clear hk);(try clear hi)))
       go_roundg k1
       case measure=>have:=lg.out;omega
       case rel=>exact ⟨(t102),(wrap64 (Ra + 1)),(by first|rfl|(simp;done)|(simp [*];done)),(by first|rfl|(simp;done)|(simp [*];done)),H',⟨by have:=lg.out;omega⟩,⟨by repeat (first|(with_reducible first|exact HB.out|apply qa|apply ia|apply ta)|exact HB.out)⟩⟩
     ·rw [if_neg c5] at H;exact absurd H (by simp)
    ·rw [if_neg c4] at H;have Mk:decide (Ra < (l0.length:Int))=false:=decide_eq_false c4;clear c4;obtain rfl:=Option.some.inj H;go_wp2;go_ret;exact ⟨by first|rfl|(simp [Ma,La] <;> rfl)|(simp [*,Ma,La] <;> rfl),by repeat (first|(with_reducible first|exact HB.out|apply qa|apply ia|apply ta)|exact HB.out)⟩
def Cg.f (k:Nat) (Pa:List Int) (Ka:Int) (Ga:Int) (Ia:Int) (Da:List (Xv)) (a1:Int):Option (Int):=(dh.f Pa a1).bind fun t102=>(if t102 < 0 then (some (-1)) else ((qd.f k Da t102).bind fun t103=>(if t103 < 0 then (some (-1)) else (some t103))))
theorem Cg.calls (k:Nat) (Ya:Option Addr) (Za:Nat) (Pa:List Int) (Ka:Int) (Ga:Int) (Ia:Int) (Vb:Option Addr) (Jb:Nat) (Da:List (Xv)) (a1:Int) (r:Int) (w:World) (Wd:Kd.C (Kd.int .i64) w Ya Pa.length Pa) (Sd:Pa.length ≤ Za) (zf:Kd.C qQ w Vb Da.length Da) (uf:Da.length ≤ Jb) (h:Cg.f k Pa Ka Ga Ia Da a1=some r) :
  Calls Try.prog 10 #[.agg #[.slice Ya Pa.length Za,.int .i64 Ka,.int .i64 Ga,.int .i64 Ia,.slice Vb Da.length Jb],.int .i64 a1] w fun e w'=>e = .returned (.int .i64 r)∧Below w.heap.size w w':=by
 have K3:=Try.underlying25;have qe:=ja.mk Wd;have Be:=ja.mk Sd;clear Wd Sd;have Hf:=ja.mk zf;have Tg:=ja.mk uf;clear zf uf;have HB:=ja.mk (Below.refl w.heap.size w);have H:((dh.f Pa a1).bind fun t102=>(if t102 < 0 then (some (-1)) else ((qd.f k Da t102).bind fun t103=>(if t103 < 0 then (some (-1)) else (some t103)))))=some r:=h;clear h;replace H:=Option.bind_eq_some_iff.mp H;obtain ⟨t102,dw,H⟩:=H;replace H:(if t102 < 0 then (some (-1)) else ((qd.f k Da t102).bind fun t103=>(if t103 < 0 then (some (-1)) else (some t103))))=some r:=H;have A3:=ja.mk dw;clear dw
 by_cases c4:t102 < 0
 ·rw [if_pos c4] at H;have Mk:decide (t102 < 0)=true:=decide_eq_true c4;clear c4;obtain rfl:=Option.some.inj H;go_enter Try.func10,Try.ntmps10;go_wp2_with (first|((with_reducible refine yb (N:=2) rfl ?_);refine Gb ?hg (N:=2) ?hd (cs:=#[.slice Ya Pa.length Za,.int .i64 Ka,.int .i64 Ga,.int .i64 Ia,.slice Vb Da.length Jb]) (t:=25) ?hr ?_;(case hd=>rfl);(case hg=>rfl);(case hr=>first|(go_simp;done)|(go_simp;rfl));intro ya hg w5 Qb hb;have Fb:=ja.mk (Qa (by repeat (first|(with_reducible first|exact HB.out|apply qa|apply ia|apply ta)|exact HB.out)) hb);have Ib:=ja.mk (Qb);have Sb:=ja.mk ((by rw [hg];exact (Fa (by repeat (first|(with_reducible first|exact HB.out|apply qa|apply ia|apply ta)|exact HB.out))):w.heap.size ≤ ya));have Ec:=ja.mk ((by rw [hg];exact (Fa (by repeat (first|(with_reducible first|exact HB.out|apply qa|apply ia|apply ta)|exact HB.out))):w.heap.size ≤ ya));clear HB;have HB:=Fb;have oa:=Ib;have yd:=Sb;have Sa:=Ec;clear Fb Ib Sb Ec hb Qb hg;have Sj:w5.cell? ⟨ya,0,none⟩=some (.slice Ya Pa.length Za):=(ga oa.out 0).trans rfl;have Rj:w5.cell? ⟨ya,1,none⟩=some (.int .i64 Ka):=(ga oa.out 1).trans rfl;have Qj:w5.cell? ⟨ya,2,none⟩=some (.int .i64 Ga):=(ga oa.out 2).trans rfl;have Pj:w5.cell? ⟨ya,3,none⟩=some (.int .i64 Ia):=(ga oa.out 3).trans rfl;have Oj:w5.cell? ⟨ya,4,none⟩=some (.slice Vb Da.length Jb):=(ga oa.out 4).trans rfl;have Nj:=aa oa.out 0;have Mj:=aa oa.out 1;have Lj:=aa oa.out 2;have Kj:=aa oa.out 3;have Jj:=aa oa.out 4)|((with_reducible refine jb (f:=38) rfl ?_);refine Fc (some 8) rfl rfl Try.func38 (by kernel_rfl) rfl #[.slice Ya Pa.length Za,.int .i64 a1] rfl (by (try simp only [List.map_toArray,List.map_cons,List.map_nil]);first|done|rfl|(simp only [List.length_drop,List.length_take];rfl)) ?_;(with_reducible refine (dh.calls _ _ Pa a1 t102 _ ?yc ?uc A3.out).mono ?_);(case yc=>repeat (first|exact (Kd.Ob qe.out HB.out)|(with_reducible refine Kd.Pb ?_ _)|(with_reducible refine Kd.Nb ?_ _)|(with_reducible refine Kd.Zb ?_)));(case uc=>exact Be.out);rintro e w' ⟨rfl,⟨nd,rfl⟩⟩;refine ⟨_,rfl,?_⟩));go_ret;exact ⟨by first|rfl|(simp [Ma,La] <;> rfl)|(simp [*,Ma,La] <;> rfl),by repeat (first|(with_reducible first|exact HB.out|apply qa|apply ia|apply ta|refine ua ?_ Sa.out)|exact HB.out)⟩
 ·rw [if_neg c4] at H;have Mk:decide (t102 < 0)=false:=decide_eq_false c4;clear c4;replace H:=Option.bind_eq_some_iff.mp H;obtain ⟨t103,CI,H⟩:=H;replace H:(if t103 < 0 then (some (-1)) else (some t103))=some r:=H;have A7:=ja.mk CI;clear CI
  by_cases c8:t103 < 0
  ·rw [if_pos c8] at H;have Gq:decide (t103 < 0)=true:=decide_eq_true c8;clear c8;obtain rfl:=Option.some.inj H;go_enter Try.func10,Try.ntmps10;go_wp2_with (first|((with_reducible refine yb (N:=2) rfl ?_);refine Gb ?hg (N:=2) ?hd (cs:=#[.slice Ya Pa.length Za,.int .i64 Ka,.int .i64 Ga,.int .i64 Ia,.slice Vb Da.length Jb]) (t:=25) ?hr ?_;(case hd=>rfl);(case hg=>rfl);(case hr=>first|(go_simp;done)|(go_simp;rfl));intro ya hg w9 Qb hb;have Fb:=ja.mk (Qa (by repeat (first|(with_reducible first|exact HB.out|apply qa|apply ia|apply ta)|exact HB.out)) hb);have Ib:=ja.mk (Qb);have Sb:=ja.mk ((by rw [hg];exact (Fa (by repeat (first|(with_reducible first|exact HB.out|apply qa|apply ia|apply ta)|exact HB.out))):w.heap.size ≤ ya));have Ec:=ja.mk ((by rw [hg];exact (Fa (by repeat (first|(with_reducible first|exact HB.out|apply qa|apply ia|apply ta)|exact HB.out))):w.heap.size ≤ ya));clear HB;have HB:=Fb;have oa:=Ib;have yd:=Sb;have Sa:=Ec;clear Fb Ib Sb Ec hb Qb hg;have Fk:w9.cell? ⟨ya,0,none⟩=some (.slice Ya Pa.length Za):=(ga oa.out 0).trans rfl;have Ek:w9.cell? ⟨ya,1,none⟩=some (.int .i64 Ka):=(ga oa.out 1).trans rfl;have Dk:w9.cell? ⟨ya,2,none⟩=some (.int .i64 Ga):=(ga oa.out 2).trans rfl;have Ck:w9.cell? ⟨ya,3,none⟩=some (.int .i64 Ia):=(ga oa.out 3).trans rfl;have Bk:w9.cell? ⟨ya,4,none⟩=some (.slice Vb Da.length Jb):=(ga oa.out 4).trans rfl;have Ak:=aa oa.out 0;have zk:=aa oa.out 1;have xk:=aa oa.out 2;have vk:=aa oa.out 3;have uk:=aa oa.out 4)|((with_reducible refine jb (f:=38) rfl ?_);refine Fc (some 8) rfl rfl Try.func38 (by kernel_rfl) rfl #[.slice Ya Pa.length Za,.int .i64 a1] rfl (by (try simp only [List.map_toArray,List.map_cons,List.map_nil]);first|done|rfl|(simp only [List.length_drop,List.length_take];rfl)) ?_;(with_reducible refine (dh.calls _ _ Pa a1 t102 _ ?yc ?uc A3.out).mono ?_);(case yc=>repeat (first|exact (Kd.Ob qe.out HB.out)|(with_reducible refine Kd.Pb ?_ _)|(with_reducible refine Kd.Nb ?_ _)|(with_reducible refine Kd.Zb ?_)));(case uc=>exact Be.out);rintro e w' ⟨rfl,⟨nd,rfl⟩⟩;refine ⟨_,rfl,?_⟩)|((with_reducible refine jb (f:=39) rfl ?_);refine Fc (some 14) rfl rfl Try.func39 (by kernel_rfl) rfl #[.slice Vb Da.length Jb,.int .i64 t102] rfl (by (try simp only [List.map_toArray,List.map_cons,List.map_nil]);first|done|rfl|(simp only [List.length_drop,List.length_take];rfl)) ?_;(with_reducible refine (qd.calls k _ _ Da t102 t103 _ ?yc ?uc A7.out).mono ?_);(case yc=>repeat (first|exact (Kd.Ob Hf.out (by repeat (first|(with_reducible first|exact HB.out|apply qa|apply ia|apply ta|refine ua ?_ Sa.out)|exact HB.out)))|(with_reducible refine Kd.Pb ?_ _)|(with_reducible refine Kd.Nb ?_ _)|(with_reducible refine Kd.Zb ?_)));(case uc=>exact Tg.out);rintro e Xj ⟨rfl,hb⟩;refine ⟨_,rfl,?_⟩;have Fb:=ja.mk (Ua (g:=ya) (o:=.cells #[.slice Ya Pa.length Za,.int .i64 Ka,.int .i64 Ga,.int .i64 Ia,.slice Vb Da.length Jb] 25 (0,0)) (by (with_reducible repeat (first|refine Ba ?_ _|refine Ea ?_|refine Ca ?_ _));exact oa.out) hb);have Ib:=ja.mk (Qa (by repeat (first|(with_reducible first|exact HB.out|apply qa|apply ia|apply ta|refine ua ?_ Sa.out)|exact HB.out)) hb);clear oa HB;have oa:=Fb;have HB:=Ib;clear Fb Ib;(try clear hb);(try clear Hi);(try clear hk);(try clear hi)));go_ret;exact ⟨by first|rfl|(simp [Ma,La] <;> rfl)|(simp [*,Ma,La] <;> rfl),by repeat (first|(with_reducible first|exact HB.out|apply qa|apply ia|apply ta|refine ua ?_ Sa.out)|exact HB.out)⟩
  ·rw [if_neg c8] at H;have Gq:decide (t103 < 0)=false:=decide_eq_false c8;clear c8;obtain rfl:=Option.some.inj H;go_enter Try.func10,Try.ntmps10;go_wp2_with (first|((with_reducible refine yb (N:=2) rfl ?_);refine Gb ?hg (N:=2) ?hd (cs:=#[.slice Ya Pa.length Za,.int .i64 Ka,.int .i64 Ga,.int .i64 Ia,.slice Vb Da.length Jb]) (t:=25) ?hr ?_;(case hd=>rfl);(case hg=>rfl);(case hr=>first|(go_simp;done)|(go_simp;rfl));intro ya hg Vt Qb hb;have Fb:=ja.mk (Qa (by repeat (first|(with_reducible first|exact HB.out|apply qa|apply ia|apply ta)|exact HB.out)) hb);have Ib:=ja.mk (Qb);have Sb:=ja.mk ((by rw [hg];exact (Fa (by repeat (first|(with_reducible first|exact HB.out|apply qa|apply ia|apply ta)|exact HB.out))):w.heap.size ≤ ya));have Ec:=ja.mk ((by rw [hg];exact (Fa (by repeat (first|(with_reducible first|exact HB.out|apply qa|apply ia|apply ta)|exact HB.out))):w.heap.size ≤ ya));clear HB;have HB:=Fb;have oa:=Ib;have yd:=Sb;have Sa:=Ec;clear Fb Ib Sb Ec hb Qb hg;have Mp:Vt.cell? ⟨ya,0,none⟩=some (.slice Ya Pa.length Za):=(ga oa.out 0).trans rfl;have Lp:Vt.cell? ⟨ya,1,none⟩=some (.int .i64 Ka):=(ga oa.out 1).trans rfl;have Kp:Vt.cell? ⟨ya,2,none⟩=some (.int .i64 Ga):=(ga oa.out 2).trans rfl;have Jp:Vt.cell? ⟨ya,3,none⟩=some (.int .i64 Ia):=(ga oa.out 3).trans rfl;have Ip:Vt.cell? ⟨ya,4,none⟩=some (.slice Vb Da.length Jb):=(ga oa.out 4).trans rfl;have Cp:=aa oa.out 0;have Bp:=aa oa.out 1;have Ap:=aa oa.out 2;have zp:=aa oa.out 3;have yp:=aa oa.out 4)|((with_reducible refine jb (f:=38) rfl ?_);refine Fc (some 8) rfl rfl Try.func38 (by kernel_rfl) rfl #[.slice Ya Pa.length Za,.int .i64 a1] rfl (by (try simp only [List.map_toArray,List.map_cons,List.map_nil]);first|done|rfl|(simp only [List.length_drop,List.length_take];rfl)) ?_;(with_reducible refine (dh.calls _ _ Pa a1 t102 _ ?yc ?uc A3.out).mono ?_);(case yc=>repeat (first|exact (Kd.Ob qe.out HB.out)|(with_reducible refine Kd.Pb ?_ _)|(with_reducible refine Kd.Nb ?_ _)|(with_reducible refine Kd.Zb ?_)));(case uc=>exact Be.out);rintro e w' ⟨rfl,⟨nd,rfl⟩⟩;refine ⟨_,rfl,?_⟩)|((with_reducible refine jb (f:=39) rfl ?_);refine Fc (some 14) rfl rfl Try.func39 (by kernel_rfl) rfl #[.slice Vb Da.length Jb,.int .i64 t102] rfl (by (try simp only [List.map_toArray,List.map_cons,List.map_nil]);first|done|rfl|(simp only [List.length_drop,List.length_take];rfl)) ?_;(with_reducible refine (qd.calls k _ _ Da t102 t103 _ ?yc ?uc A7.out).mono ?_);(case yc=>repeat (first|exact (Kd.Ob Hf.out (by repeat (first|(with_reducible first|exact HB.out|apply qa|apply ia|apply ta|refine ua ?_ Sa.out)|exact HB.out)))|(with_reducible refine Kd.Pb ?_ _)|(with_reducible refine Kd.Nb ?_ _)|(with_reducible refine Kd.Zb ?_)));(case uc=>exact Tg.out);rintro e rA ⟨rfl,hb⟩;refine ⟨_,rfl,?_⟩;have Fb:=ja.mk (Ua (g:=ya) (o:=.cells #[.slice Ya Pa.length Za,.int .i64 Ka,.int .i64 Ga,.int .i64 Ia,.slice Vb Da.length Jb] 25 (0,0)) (by (with_reducible repeat (first|refine Ba ?_ _|refine Ea ?_|refine Ca ?_ _));exact oa.out) hb);have Ib:=ja.mk (Qa (by repeat (first|(with_reducible first|exact HB.out|apply qa|apply ia|apply ta|refine ua ?_ Sa.out)|exact HB.out)) hb);clear oa HB;have oa:=Fb;have HB:=Ib;clear Fb Ib;(try clear hb);(try clear Hi);(try clear hk);(try clear hi)));go_ret;exact ⟨by first|rfl|(simp [Ma,La] <;> rfl)|(simp [*,Ma,La] <;> rfl),by repeat (first|(with_reducible first|exact HB.out|apply qa|apply ia|apply ta|refine ua ?_ Sa.out)|exact HB.out)⟩
def Xa.f (a0:Int) (a1:Int) (a2:Int):Option (Bool):=if a0 ≥ a1 then (some (decide (a0 ≤ a2))) else (some false)
theorem Xa.calls (a0:Int) (a1:Int) (a2:Int) (r:Bool) (w:World) (h:Xa.f a0 a1 a2=some r) :
  Calls Try.prog 53 #[.int .i64 a0,.int .i64 a1,.int .i64 a2] w fun e w'=>e = .returned (.bool r)∧Oc w w':=by
 have H:(if a0 ≥ a1 then (some (decide (a0 ≤ a2))) else (some false))=some r:=h;clear h
 by_cases c4:a0 ≥ a1
 ·rw [if_pos c4] at H;have Mk:decide (a1 ≤ a0)=true:=decide_eq_true c4;clear c4;obtain rfl:=Option.some.inj H;go_enter Try.func53,Try.ntmps53;go_wp2;go_ret;exact ⟨by first|rfl|(simp;done)|(simp [*];done),by repeat (first|exact Oc.refl _|apply Oc.step)⟩
 ·rw [if_neg c4] at H;have Mk:decide (a1 ≤ a0)=false:=decide_eq_false c4;clear c4;obtain rfl:=Option.some.inj H;go_enter Try.func53,Try.ntmps53;go_wp2;go_ret;exact ⟨by first|rfl|(simp;done)|(simp [*];done),by repeat (first|exact Oc.refl _|apply Oc.step)⟩
def me.l0:Nat→List ByteArray→ByteArray→Int→Option (Bool)
 | 0,_,_,_=>none
 | k + 1,x0,x1,x5=>if x5 < (x0.length:Int) then (if 0 ≤ x5 then (if (Kf ByteArray.empty x0 x5).toList=x1.toList then (some true) else (me.l0 k x0 x1 (wrap64 (x5 + 1)))) else (none)) else (some false)
def me.f (k:Nat) (l0:List ByteArray) (a1:ByteArray):Option (Bool):=me.l0 k l0 a1 0
theorem me.calls (k:Nat) (A0:Option Addr) (c0:Nat) (l0:List ByteArray) (a1:ByteArray) (r:Bool) (w:World) (Rk:Kd.C Kd.string w A0 l0.length l0) (hc0:l0.length ≤ c0) (h:me.f k l0 a1=some r) :
  Calls Try.prog 113 #[.slice A0 l0.length c0,.string a1] w fun e w'=>e = .returned (.bool r)∧Oc w w':=by
 have sn:=ja.mk Rk;have rI:=ja.mk hc0;clear Rk hc0;have H:(me.l0 k l0 a1 0)=some r:=h;clear h;have H':=ja.mk H;clear H;go_enter Try.func113,Try.ntmps113;go_wp2
 go_loopg [5] k (fun kq v5 w'=>∃ (Ra:Int),v5 = .int .i64 Ra∧ja (me.l0 kq l0 a1 Ra=some r)∧ja (kq ≤ k)∧Oc w w')
 case atStart=>exact ⟨(0),(by first|rfl|(simp;done)|(simp [*];done)),H',⟨Nat.le_refl _⟩,by repeat (first|exact Oc.refl _|apply Oc.step)⟩
 case round =>
  clear H'
  try clear c1
  try clear p2
  (try clear HA);(try clear lg);obtain ⟨Ra,rfl,HA,lg,⟨m1,rfl⟩⟩:=hrel;cases gk with
  | zero=>exact absurd HA.out (by simp [me.l0])
  | succ k1 =>
   have H:=HA.out;clear HA;simp only [me.l0] at H
   by_cases c3:Ra < (l0.length:Int)
   ·rw [if_pos c3] at H;have Nh:decide (Ra < (l0.length:Int))=true:=decide_eq_true c3;clear c3
    by_cases c4:0 ≤ Ra
    ·rw [if_pos c4] at H;have Mk:decide (0 ≤ Ra)=true:=decide_eq_true c4;clear c4
     by_cases c5:(Kf ByteArray.empty l0 Ra).toList=a1.toList
     ·rw [if_pos c5] at H;have sj:((Kf ByteArray.empty l0 Ra).toList == a1.toList)=true:=beq_iff_eq.mpr c5;have Fz:((Kf ByteArray.empty l0 Ra).toList != a1.toList)=false:=bne_eq_false_iff_eq.mpr c5;clear c5;obtain rfl:=Option.some.inj H;have lf:0 ≤ (Ra:Int):=Wa;have kf:Ra < (l0.length:Int):=Wa;obtain ⟨ie,wj,Nd⟩:=Kd.cv sn.out Ra lf kf;cases wj;replace lf:=eq_true lf;replace kf:=eq_true kf;go_wp2;go_ret;exact ⟨by first|rfl|(simp;done)|(simp [*];done),by repeat (first|exact Oc.refl _|apply Oc.step)⟩
     ·rw [if_neg c5] at H;have sj:((Kf ByteArray.empty l0 Ra).toList == a1.toList)=false:=beq_eq_false_iff_ne.mpr c5;have Fz:((Kf ByteArray.empty l0 Ra).toList != a1.toList)=true:=bne_iff_ne.mpr c5;have H':=ja.mk H;clear H;have lf:0 ≤ (Ra:Int):=Wa;have kf:Ra < (l0.length:Int):=Wa;obtain ⟨ie,wj,Nd⟩:=Kd.cv sn.out Ra lf kf;cases wj;replace lf:=eq_true lf;replace kf:=eq_true kf;go_wp2
      go_roundg k1
      case measure=>have:=lg.out;omega
      case rel=>exact ⟨(wrap64 (Ra + 1)),(by first|rfl|(simp;done)|(simp [*];done)),H',⟨by have:=lg.out;omega⟩,by repeat (first|exact Oc.refl _|apply Oc.step)⟩
    ·rw [if_neg c4] at H;exact absurd H (by simp)
   ·rw [if_neg c3] at H;have Nh:decide (Ra < (l0.length:Int))=false:=decide_eq_false c3;clear c3;obtain rfl:=Option.some.inj H;go_wp2;go_ret;exact ⟨by first|rfl|(simp;done)|(simp [*];done),by repeat (first|exact Oc.refl _|apply Oc.step)⟩
end Go.Proofs.Ytkigbdceceeenaa.P
end
