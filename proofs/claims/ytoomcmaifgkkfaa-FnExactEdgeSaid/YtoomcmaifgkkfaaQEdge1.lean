import Derived.Test.YtoomcmaifgkkfaaProg
import Derived.Below
import Derived.Deep.Draws
import Derived.Deep.AppendLies
import Derived.Maps.AppendAt
import Derived.OwnWalk
import Derived.Laws.BytesArg
import Derived.Laws.MakeOwn
import Derived.Laws.OwnMore
import Derived.Deep.OwnRows
import Derived.Tactics
import Derived.Lib.ConvBytes
import Derived.Laws.Slices
import Derived.WalkKit
import Derived.KernelRfl
import Derived.RowKit3
import Derived.Deep.LoopGhost
import Derived.Deep.QuietTactic
import Derived.BigQuiet
import Derived.WideLaws
import Derived.Deep.DeepCutAuto
import Derived.Deep.CutBlock
import Derived.Deep.RegionHeld3
import Derived.Laws.Rows
import Derived.Lib.AppendStr
import Derived.ArgAppend
import Derived.Laws.IdiomCopy
import Derived.OrdersHeld
import Derived.Laws.BitsLemmas
import Derived.RowKit
import Derived.Test.YtoomcmaifgkkfaaQEdgeW1
import Derived.Test.YtoomcmaifgkkfaaQEdgeW2
import Derived.Deep.Slices
import Derived.ChangeArms
import Derived.OpenShut
import Derived.WideShapes
set_option maxHeartbeats 8000000
set_option maxRecDepth 100000
section
namespace Go.Proofs.Ytoomcmaifgkkfaa.P
open Go.RowKit Go.Proofs.Ia.Zb Go.Proofs.Ia.Qd Go.Proofs.Ia.Me
set_option linter.unusedVariables false
set_option linter.unusedSimpArgs false
attribute [local go_sem] Wi Ui jk fk Ch Bh Vi Ti
def yae:Option Int→Value
 | none=>.nilIface
 | some c=>.iface 0 (.int .i64 c)
theorem Ra:yae none = .nilIface:=rfl
theorem Qa (c:Int):yae (some c) = .iface 0 (.int .i64 c):=rfl
theorem info3:(Try.prog.info? 3).map (fun i=>(i.zero,i.size,i.bytes))=some (some (.int .i64 0),1,8):=by kernel_rfl
theorem nN:(Try.prog.info? 4).map (fun i=>(i.zero,i.size,i.bytes))=some (some (.bool false),1,1):=by kernel_rfl
theorem PC:(Try.prog.info? 22).map (fun i=>(i.zero,i.size,i.bytes))=some (some (.slice none 0 0),1,24):=by kernel_rfl
theorem o6:(Try.prog.info? 73).map (fun i=>(i.zero,i.size,i.bytes))=some (some (.slice none 0 0),1,24):=by kernel_rfl
theorem n6:(Try.prog.info? 83).map (fun i=>(i.zero,i.size,i.bytes))=some (some (.agg #[(.slice none 0 0),(.int .i64 0),(.int .i64 0),(.int .i64 0),(.int .i64 0)]),5,56):=by kernel_rfl
theorem jW:(Try.prog.info? 122).map (fun i=>(i.zero,i.size,i.bytes))=some (some (.agg #[(.int .i64 0),(.int .i64 0),(.int .i64 0),(.int .i64 0),(.int .i64 0),(.int .i64 0),(.string ⟨#[]⟩)]),7,64):=by kernel_rfl
structure S7 where
 f0:Int
 f1:Int
 f2:Bool
 f3:Int
def z7:S7:=⟨(0:Int),(0:Int),false,(0:Int)⟩
structure S8 where
 f0:Int
 f1:Int
 f2:Bool
 f3:Int
def z8:S8:=⟨(0:Int),(0:Int),false,(0:Int)⟩
def Je (xs:List (List Int)) (i:Int):(List Int):=xs.getD i.toNat ([]:List Int)
theorem Jp {w:World} {A:Option Addr} {n:Nat} {xs:List (List Int)} (h:Kd.C (Kd.slice 3 (Kd.int .i64)) w A n xs) (i:Int) (h0:0 ≤ i) (h1:i < n):∃ ad A0 c0,A=some ad∧w.cell? (ad.add i.toNat)=some (.slice A0 (Je xs i).length c0)∧(Je xs i).length ≤ c0∧(Kd.int .i64).C w A0 (Je xs i).length (Je xs i):=by
 obtain ⟨ad,c,e,_,hK,hc0⟩:=Kd.VE h ([]:List Int) i h0 h1;have hc:∀ j u,c[j]? = some u→w.cell? (ad.add (i.toNat * 1 + j))=some u:=hc0;obtain ⟨A0,c0,rfl,l0,g0⟩:=hK;exact ⟨ad,A0,c0,e,by have hq:=hc 0 _ rfl;rwa [Nat.mul_one,Nat.add_zero] at hq,l0,g0⟩
structure S67 where
 f0:Int
 f1:Int
 f2:Int
 f3:Int
 f4:Int
def z67:S67:=⟨(0:Int),(0:Int),(0:Int),(0:Int),(0:Int)⟩
structure Wo where
 f0:Int
 f1:Int
 f2:Int
 f3:Int
 f4:Int
 f5:Int
 f6:ByteArray
def z141:Wo:=⟨(0:Int),(0:Int),(0:Int),(0:Int),(0:Int),(0:Int),(⟨#[]⟩:ByteArray)⟩
def LC:Kd Wo:=Kd.tV (Kd.pair (Kd.int .i64) (Kd.pair (Kd.int .i64) (Kd.pair (Kd.int .i64) (Kd.pair (Kd.int .i64) (Kd.pair (Kd.int .i64) (Kd.pair (Kd.int .i64) Kd.string)))))) (fun x:Wo=>(x.f0,x.f1,x.f2,x.f3,x.f4,x.f5,x.f6))
theorem CQ {w:World} {x:Wo} {cs:List Value} (h:LC.K w x cs):cs=[.int .i64 x.f0,.int .i64 x.f1,.int .i64 x.f2,.int .i64 x.f3,.int .i64 x.f4,.int .i64 x.f5,.string x.f6]:=by
 obtain ⟨_,_,rfl,rfl,⟨_,_,rfl,rfl,⟨_,_,rfl,rfl,⟨_,_,rfl,rfl,⟨_,_,rfl,rfl,⟨_,_,rfl,rfl,rfl⟩⟩⟩⟩⟩⟩:=h;exact rfl
def Wc (xs:List Wo) (i:Int):Wo:=xs.getD i.toNat z141
theorem nI {w:World} {A:Option Addr} {n:Nat} {xs:List Wo} (h:Kd.C LC w A n xs) (i:Int) (h0:0 ≤ i) (h1:i < n):∃ ad , A=some ad∧w.cell? (ad.add (i.toNat * 7))=some (.int .i64 (Wc xs i).f0)∧w.cell? ⟨(ad.add (i.toNat * 7)).block,(ad.add (i.toNat * 7)).off + 1,none⟩=some (.int .i64 (Wc xs i).f1)∧w.cell? ⟨(ad.add (i.toNat * 7)).block,(ad.add (i.toNat * 7)).off + 2,none⟩=some (.int .i64 (Wc xs i).f2)∧w.cell? ⟨(ad.add (i.toNat * 7)).block,(ad.add (i.toNat * 7)).off + 3,none⟩=some (.int .i64 (Wc xs i).f3)∧w.cell? ⟨(ad.add (i.toNat * 7)).block,(ad.add (i.toNat * 7)).off + 4,none⟩=some (.int .i64 (Wc xs i).f4)∧w.cell? ⟨(ad.add (i.toNat * 7)).block,(ad.add (i.toNat * 7)).off + 5,none⟩=some (.int .i64 (Wc xs i).f5)∧w.cell? ⟨(ad.add (i.toNat * 7)).block,(ad.add (i.toNat * 7)).off + 6,none⟩=some (.string (Wc xs i).f6):=by
 obtain ⟨ad,c,e,_,hK,hc0⟩:=Kd.VE h z141 i h0 h1;have hc:∀ j u,c[j]? = some u→w.cell? (ad.add (i.toNat * 7 + j))=some u:=hc0;obtain rfl:=CQ hK;exact ⟨ad,e,hc 0 _ rfl,by rw [← ug _ _ 1 (by omega)];exact hc 1 _ rfl,by rw [← ug _ _ 2 (by omega)];exact hc 2 _ rfl,by rw [← ug _ _ 3 (by omega)];exact hc 3 _ rfl,by rw [← ug _ _ 4 (by omega)];exact hc 4 _ rfl,by rw [← ug _ _ 5 (by omega)];exact hc 5 _ rfl,by rw [← ug _ _ 6 (by omega)];exact hc 6 _ rfl⟩
structure dm where
 f0:(List Wo)
 f1:Int
 f2:Int
 f3:Int
 f4:Int
def faa:dm:=⟨([]:List Wo),(0:Int),(0:Int),(0:Int),(0:Int)⟩
def MC:Kd dm:=Kd.tV (Kd.pair (Kd.slice 141 LC) (Kd.pair (Kd.int .i64) (Kd.pair (Kd.int .i64) (Kd.pair (Kd.int .i64) (Kd.int .i64))))) (fun x:dm=>(x.f0,x.f1,x.f2,x.f3,x.f4))
theorem GQ {w:World} {x:dm} {cs:List Value} (h:MC.K w x cs):∃ A0 c0,cs=[.slice A0 x.f0.length c0,.int .i64 x.f1,.int .i64 x.f2,.int .i64 x.f3,.int .i64 x.f4]∧x.f0.length ≤ c0∧LC.C w A0 x.f0.length x.f0:=by
 obtain ⟨_,_,rfl,⟨A0,c0,rfl,l0,g0⟩,⟨_,_,rfl,rfl,⟨_,_,rfl,rfl,⟨_,_,rfl,rfl,rfl⟩⟩⟩⟩:=h;exact ⟨A0,c0,rfl,l0,g0⟩
def Nd (xs:List dm) (i:Int):dm:=xs.getD i.toNat faa
theorem oI {w:World} {A:Option Addr} {n:Nat} {xs:List dm} (h:Kd.C MC w A n xs) (i:Int) (h0:0 ≤ i) (h1:i < n):∃ ad A0 c0,A=some ad∧w.cell? (ad.add (i.toNat * 5))=some (.slice A0 (Nd xs i).f0.length c0)∧w.cell? ⟨(ad.add (i.toNat * 5)).block,(ad.add (i.toNat * 5)).off + 1,none⟩=some (.int .i64 (Nd xs i).f1)∧w.cell? ⟨(ad.add (i.toNat * 5)).block,(ad.add (i.toNat * 5)).off + 2,none⟩=some (.int .i64 (Nd xs i).f2)∧w.cell? ⟨(ad.add (i.toNat * 5)).block,(ad.add (i.toNat * 5)).off + 3,none⟩=some (.int .i64 (Nd xs i).f3)∧w.cell? ⟨(ad.add (i.toNat * 5)).block,(ad.add (i.toNat * 5)).off + 4,none⟩=some (.int .i64 (Nd xs i).f4)∧(Nd xs i).f0.length ≤ c0∧LC.C w A0 (Nd xs i).f0.length (Nd xs i).f0:=by
 obtain ⟨ad,c,e,_,hK,hc0⟩:=Kd.VE h faa i h0 h1;have hc:∀ j u,c[j]? = some u→w.cell? (ad.add (i.toNat * 5 + j))=some u:=hc0;obtain ⟨A0,c0,rfl,l0,g0⟩:=GQ hK;exact ⟨ad,A0,c0,e,hc 0 _ rfl,by rw [← ug _ _ 1 (by omega)];exact hc 1 _ rfl,by rw [← ug _ _ 2 (by omega)];exact hc 2 _ rfl,by rw [← ug _ _ 3 (by omega)];exact hc 3 _ rfl,by rw [← ug _ _ 4 (by omega)];exact hc 4 _ rfl,l0,g0⟩
structure X_ where
 f0:(List Int)
 f1:Int
 f2:Int
 f3:Int
 f4:(List dm)
def k40:Kd X_:=Kd.tV (Kd.pair (Kd.slice 3 (Kd.int .i64)) (Kd.pair (Kd.int .i64) (Kd.pair (Kd.int .i64) (Kd.pair (Kd.int .i64) (Kd.slice 106 MC))))) (fun x:X_=>(x.f0,x.f1,x.f2,x.f3,x.f4))
theorem GS {w:World} {x:X_} {cs:List Value} (h:k40.K w x cs):∃ A0 c0 A4 c4,cs=[.slice A0 x.f0.length c0,.int .i64 x.f1,.int .i64 x.f2,.int .i64 x.f3,.slice A4 x.f4.length c4]∧x.f0.length ≤ c0∧(Kd.int .i64).C w A0 x.f0.length x.f0∧x.f4.length ≤ c4∧MC.C w A4 x.f4.length x.f4:=by
 obtain ⟨_,_,rfl,⟨A0,c0,rfl,l0,g0⟩,⟨_,_,rfl,rfl,⟨_,_,rfl,rfl,⟨_,_,rfl,rfl,⟨A4,c4,rfl,l4,g4⟩⟩⟩⟩⟩:=h;exact ⟨A0,c0,A4,c4,rfl,l0,g0,l4,g4⟩
structure ud where
 f0:Int
 f1:Int
 f2:Int
 f3:Int
 f4:Int
 f5:Int
 f6:ByteArray
def Rk:ud:=⟨(0:Int),(0:Int),(0:Int),(0:Int),(0:Int),(0:Int),(⟨#[]⟩:ByteArray)⟩
def sg:Kd ud:=Kd.tV (Kd.pair (Kd.int .i64) (Kd.pair (Kd.int .i64) (Kd.pair (Kd.int .i64) (Kd.pair (Kd.int .i64) (Kd.pair (Kd.int .i64) (Kd.pair (Kd.int .i64) Kd.string)))))) (fun x:ud=>(x.f0,x.f1,x.f2,x.f3,x.f4,x.f5,x.f6))
theorem FQ:Kd.Heap sg:=Kd.KJ _ (Kd.Wj (Kd.Sj .i64) (Kd.Wj (Kd.Sj .i64) (Kd.Wj (Kd.Sj .i64) (Kd.Wj (Kd.Sj .i64) (Kd.Wj (Kd.Sj .i64) (Kd.Wj (Kd.Sj .i64) Kd.JJ))))))
theorem DQ {w:World} {x:ud} {cs:List Value} (h:sg.K w x cs):cs=[.int .i64 x.f0,.int .i64 x.f1,.int .i64 x.f2,.int .i64 x.f3,.int .i64 x.f4,.int .i64 x.f5,.string x.f6]:=by
 obtain ⟨_,_,rfl,rfl,⟨_,_,rfl,rfl,⟨_,_,rfl,rfl,⟨_,_,rfl,rfl,⟨_,_,rfl,rfl,⟨_,_,rfl,rfl,rfl⟩⟩⟩⟩⟩⟩:=h;exact rfl
theorem Gg {w:World} {base:Nat} {ok:Nat→Prop} {x:ud} {cs:List Value} (h:sg.M w base ok x cs):cs=[.int .i64 x.f0,.int .i64 x.f1,.int .i64 x.f2,.int .i64 x.f3,.int .i64 x.f4,.int .i64 x.f5,.string x.f6]:=by
 obtain ⟨_,_,rfl,rfl,⟨_,_,rfl,rfl,⟨_,_,rfl,rfl,⟨_,_,rfl,rfl,⟨_,_,rfl,rfl,⟨_,_,rfl,rfl,rfl⟩⟩⟩⟩⟩⟩:=h;exact rfl
theorem ym (w:World) (base:Nat) (ok:Nat→Prop) (x:ud)  : sg.M w base ok x [.int .i64 x.f0,.int .i64 x.f1,.int .i64 x.f2,.int .i64 x.f3,.int .i64 x.f4,.int .i64 x.f5,.string x.f6]:=⟨[.int .i64 x.f0],[.int .i64 x.f1,.int .i64 x.f2,.int .i64 x.f3,.int .i64 x.f4,.int .i64 x.f5,.string x.f6],rfl,rfl,⟨[.int .i64 x.f1],[.int .i64 x.f2,.int .i64 x.f3,.int .i64 x.f4,.int .i64 x.f5,.string x.f6],rfl,rfl,⟨[.int .i64 x.f2],[.int .i64 x.f3,.int .i64 x.f4,.int .i64 x.f5,.string x.f6],rfl,rfl,⟨[.int .i64 x.f3],[.int .i64 x.f4,.int .i64 x.f5,.string x.f6],rfl,rfl,⟨[.int .i64 x.f4],[.int .i64 x.f5,.string x.f6],rfl,rfl,⟨[.int .i64 x.f5],[.string x.f6],rfl,rfl,rfl⟩⟩⟩⟩⟩⟩
def Da (xs:List ud) (i:Int):ud:=xs.getD i.toNat Rk
theorem au {w:World} {A:Option Addr} {n:Nat} {xs:List ud} (h:Kd.C sg w A n xs) (i:Int) (h0:0 ≤ i) (h1:i < n):∃ ad , A=some ad∧w.cell? (ad.add (i.toNat * 7))=some (.int .i64 (Da xs i).f0)∧w.cell? ⟨(ad.add (i.toNat * 7)).block,(ad.add (i.toNat * 7)).off + 1,none⟩=some (.int .i64 (Da xs i).f1)∧w.cell? ⟨(ad.add (i.toNat * 7)).block,(ad.add (i.toNat * 7)).off + 2,none⟩=some (.int .i64 (Da xs i).f2)∧w.cell? ⟨(ad.add (i.toNat * 7)).block,(ad.add (i.toNat * 7)).off + 3,none⟩=some (.int .i64 (Da xs i).f3)∧w.cell? ⟨(ad.add (i.toNat * 7)).block,(ad.add (i.toNat * 7)).off + 4,none⟩=some (.int .i64 (Da xs i).f4)∧w.cell? ⟨(ad.add (i.toNat * 7)).block,(ad.add (i.toNat * 7)).off + 5,none⟩=some (.int .i64 (Da xs i).f5)∧w.cell? ⟨(ad.add (i.toNat * 7)).block,(ad.add (i.toNat * 7)).off + 6,none⟩=some (.string (Da xs i).f6):=by
 obtain ⟨ad,c,e,_,hK,hc0⟩:=Kd.VE h Rk i h0 h1;have hc:∀ j u,c[j]? = some u→w.cell? (ad.add (i.toNat * 7 + j))=some u:=hc0;obtain rfl:=DQ hK;exact ⟨ad,e,hc 0 _ rfl,by rw [← ug _ _ 1 (by omega)];exact hc 1 _ rfl,by rw [← ug _ _ 2 (by omega)];exact hc 2 _ rfl,by rw [← ug _ _ 3 (by omega)];exact hc 3 _ rfl,by rw [← ug _ _ 4 (by omega)];exact hc 4 _ rfl,by rw [← ug _ _ 5 (by omega)];exact hc 5 _ rfl,by rw [← ug _ _ 6 (by omega)];exact hc 6 _ rfl⟩
structure Df where
 f0:(List ud)
 f1:Int
 f2:Int
 f3:Int
 f4:Int
def II:Df:=⟨([]:List ud),(0:Int),(0:Int),(0:Int),(0:Int)⟩
def Pr:Kd Df:=Kd.tV (Kd.pair (Kd.slice 122 sg) (Kd.pair (Kd.int .i64) (Kd.pair (Kd.int .i64) (Kd.pair (Kd.int .i64) (Kd.int .i64))))) (fun x:Df=>(x.f0,x.f1,x.f2,x.f3,x.f4))
theorem ES:Kd.Heap Pr:=Kd.KJ _ (Kd.Wj (Kd.YL 122 FQ) (Kd.Wj (Kd.Sj .i64) (Kd.Wj (Kd.Sj .i64) (Kd.Wj (Kd.Sj .i64) (Kd.Sj .i64)))))
theorem DS {w:World} {x:Df} {cs:List Value} (h:Pr.K w x cs):∃ A0 c0,cs=[.slice A0 x.f0.length c0,.int .i64 x.f1,.int .i64 x.f2,.int .i64 x.f3,.int .i64 x.f4]∧x.f0.length ≤ c0∧sg.C w A0 x.f0.length x.f0:=by
 obtain ⟨_,_,rfl,⟨A0,c0,rfl,l0,g0⟩,⟨_,_,rfl,rfl,⟨_,_,rfl,rfl,⟨_,_,rfl,rfl,rfl⟩⟩⟩⟩:=h;exact ⟨A0,c0,rfl,l0,g0⟩
theorem cA {w:World} {base:Nat} {ok:Nat→Prop} {x:Df} {cs:List Value} (h:Pr.M w base ok x cs):∃ v0,cs=[v0,.int .i64 x.f1,.int .i64 x.f2,.int .i64 x.f3,.int .i64 x.f4]∧sg.R 122 w base ok v0 x.f0:=by
 obtain ⟨_,_,rfl,⟨v0,rfl,g0⟩,⟨_,_,rfl,rfl,⟨_,_,rfl,rfl,⟨_,_,rfl,rfl,rfl⟩⟩⟩⟩:=h;exact ⟨v0,rfl,g0⟩
theorem mF (w:World) (base:Nat) (ok:Nat→Prop) (x:Df) {v0:Value} (g0:sg.R 122 w base ok v0 x.f0):Pr.M w base ok x [v0,.int .i64 x.f1,.int .i64 x.f2,.int .i64 x.f3,.int .i64 x.f4]:=⟨[v0],[.int .i64 x.f1,.int .i64 x.f2,.int .i64 x.f3,.int .i64 x.f4],rfl,⟨v0,rfl,g0⟩,⟨[.int .i64 x.f1],[.int .i64 x.f2,.int .i64 x.f3,.int .i64 x.f4],rfl,rfl,⟨[.int .i64 x.f2],[.int .i64 x.f3,.int .i64 x.f4],rfl,rfl,⟨[.int .i64 x.f3],[.int .i64 x.f4],rfl,rfl,rfl⟩⟩⟩⟩
def Ta (xs:List Df) (i:Int):Df:=xs.getD i.toNat II
theorem Nk {w:World} {A:Option Addr} {n:Nat} {xs:List Df} (h:Kd.C Pr w A n xs) (i:Int) (h0:0 ≤ i) (h1:i < n):∃ ad A0 c0,A=some ad∧w.cell? (ad.add (i.toNat * 5))=some (.slice A0 (Ta xs i).f0.length c0)∧w.cell? ⟨(ad.add (i.toNat * 5)).block,(ad.add (i.toNat * 5)).off + 1,none⟩=some (.int .i64 (Ta xs i).f1)∧w.cell? ⟨(ad.add (i.toNat * 5)).block,(ad.add (i.toNat * 5)).off + 2,none⟩=some (.int .i64 (Ta xs i).f2)∧w.cell? ⟨(ad.add (i.toNat * 5)).block,(ad.add (i.toNat * 5)).off + 3,none⟩=some (.int .i64 (Ta xs i).f3)∧w.cell? ⟨(ad.add (i.toNat * 5)).block,(ad.add (i.toNat * 5)).off + 4,none⟩=some (.int .i64 (Ta xs i).f4)∧(Ta xs i).f0.length ≤ c0∧sg.C w A0 (Ta xs i).f0.length (Ta xs i).f0:=by
 obtain ⟨ad,c,e,_,hK,hc0⟩:=Kd.VE h II i h0 h1;have hc:∀ j u,c[j]? = some u→w.cell? (ad.add (i.toNat * 5 + j))=some u:=hc0;obtain ⟨A0,c0,rfl,l0,g0⟩:=DS hK;exact ⟨ad,A0,c0,e,hc 0 _ rfl,by rw [← ug _ _ 1 (by omega)];exact hc 1 _ rfl,by rw [← ug _ _ 2 (by omega)];exact hc 2 _ rfl,by rw [← ug _ _ 3 (by omega)];exact hc 3 _ rfl,by rw [← ug _ _ 4 (by omega)];exact hc 4 _ rfl,l0,g0⟩
structure S45 where
 f0:(List Int)
 f1:Int
 f2:Int
 f3:Int
 f4:(List Df)
def z45:S45:=⟨([]:List Int),(0:Int),(0:Int),(0:Int),([]:List Df)⟩
def Fg (xs:List (List Bool)) (i:Int):(List Bool):=xs.getD i.toNat ([]:List Bool)
theorem dx {w:World} {A:Option Addr} {n:Nat} {xs:List (List Bool)} (h:Kd.C (Kd.slice 4 Kd.bool) w A n xs) (i:Int) (h0:0 ≤ i) (h1:i < n):∃ ad A0 c0,A=some ad∧w.cell? (ad.add i.toNat)=some (.slice A0 (Fg xs i).length c0)∧(Fg xs i).length ≤ c0∧Kd.bool.C w A0 (Fg xs i).length (Fg xs i):=by
 obtain ⟨ad,c,e,_,hK,hc0⟩:=Kd.VE h ([]:List Bool) i h0 h1;have hc:∀ j u,c[j]? = some u→w.cell? (ad.add (i.toNat * 1 + j))=some u:=hc0;obtain ⟨A0,c0,rfl,l0,g0⟩:=hK;exact ⟨ad,A0,c0,e,by have hq:=hc 0 _ rfl;rwa [Nat.mul_one,Nat.add_zero] at hq,l0,g0⟩
structure tR where
 f0:Int
 f1:Int
 f2:Int
 f3:ByteArray
 f4:(List tR)
def G_ (d:Kd tR):Kd tR:=Kd.tV (Kd.pair (Kd.int .i64) (Kd.pair (Kd.int .i64) (Kd.pair (Kd.int .i64) (Kd.pair Kd.string (Kd.slice 137 d))))) (fun x:tR=>(x.f0,x.f1,x.f2,x.f3,x.f4))
theorem O5:Kd.Sub G_ [137]:=Kd.gN _ (Kd.vm (Kd.sub_const _ (by decide)) (Kd.vm (Kd.sub_const _ (by decide)) (Kd.vm (Kd.sub_const _ (by decide)) (Kd.vm (Kd.sub_const _ (by decide)) (Kd.Uz 137 (by decide) Kd.uL)))))
theorem oaa:∀ n,(Kd.upto G_ 5 [137] n).sz=5:=Kd.eN (fun _=>rfl)
def Lap:Kd tR:=Kd.fix G_ 5 [137] oaa (Kd.qL O5)
structure tA where
 f0:Int
 f1:Int
 f2:Int
 f3:(List tR)
 f4:(List tA)
 f5:(List tA)
def H_ (d:Kd tA):Kd tA:=Kd.tV (Kd.pair (Kd.int .i64) (Kd.pair (Kd.int .i64) (Kd.pair (Kd.int .i64) (Kd.pair (Kd.slice 137 Lap) (Kd.pair (Kd.slice 133 d) (Kd.slice 133 d)))))) (fun x:tA=>(x.f0,x.f1,x.f2,x.f3,x.f4,x.f5))
theorem P5:Kd.Sub H_ [133,137]:=Kd.gN _ (Kd.vm (Kd.sub_const _ (by decide)) (Kd.vm (Kd.sub_const _ (by decide)) (Kd.vm (Kd.sub_const _ (by decide)) (Kd.vm (Kd.sub_const _ (by decide)) (Kd.vm (Kd.Uz 133 (by decide) Kd.uL) (Kd.Uz 133 (by decide) Kd.uL))))))
theorem paa:∀ n,(Kd.upto H_ 6 [133,137] n).sz=6:=Kd.eN (fun _=>rfl)
def Nap:Kd tA:=Kd.fix H_ 6 [133,137] paa (Kd.qL P5)
theorem vS {α:Type} {d:Kd α} {e:Nat} {w:World} {base:Nat} {ok:Nat→Prop} {v:Value} {xs:List α} (h:aa (d.R e w base ok v xs)):v.oneCell' = true:=by
 obtain ⟨A,c,rfl⟩:=Kd.xd h.out
 rfl
theorem uS {α:Type} {d:Kd α} {e:Nat} {w:World} {base:Nat} {ok:Nat→Prop} {v:Value} {xs:List α} (h:aa (d.S e w base ok v xs)):v.oneCell' = true:=by
 obtain ⟨A,c,rfl⟩:=Kd.xd (Kd.sR h.out)
 rfl
theorem xS {α:Type} {d:Kd α} {e:Nat} {w:World} {base:Nat} {ok:Nat→Prop} {v:Value} {xs:List α} (h:aa (Kd.N d e w base ok v xs)):v.oneCell' = true:=by
 obtain ⟨A,c,rfl⟩:=Kd.sZ h.out
 rfl
theorem wS {α:Type} {d:Kd α} {e:Nat} {w:World} {base:Nat} {ok:Nat→Prop} {v:Value} {xs:List α} (h:aa (d.Q e w base ok v xs)):v.oneCell' = true:=by
 obtain ⟨A,c,rfl,_⟩:=Kd.Lz h.out
 rfl
def Yo (P:Program) (t:TypeId) {α:Type} (d:Kd α) (fit:α→Prop):Prop :=
 ∀ {H:Type} {enc:TypeId × Value→H} {w:World} {base:Nat} {spare:Nat→Bool} {held:Bool} {fuel:Nat} {cs:List Value} {x:DataW H × List MemPlace},
  DataW.trod enc P w base spare held fuel t cs=some x→∃ a:α,d.K w a cs∧fit a
theorem yQ {P:Program} {t:TypeId} {k:IntKind} (ht:P.underlying t=some (.int k)):Yo P t (Kd.int k) (fun n=>(Lit.int k n).wf=true):=by
 intro H enc w base spare held fuel cs x h;obtain ⟨n,rfl,_,hw⟩:=DataW.trod_int ht h;exact ⟨n,rfl,hw⟩
def ru (n:Int):Prop:=-9223372036854775808 ≤ n∧n ≤ 9223372036854775807
theorem wf_i64 {n:Int} (h:(Lit.int .i64 n).wf=true):ru n:=by
 simp [Lit.wf,IntKind.min,IntKind.max,IntKind.signed,IntKind.bits] at h;unfold ru;omega
theorem zh {P:Program} {t:TypeId} (ht:P.underlying t=some (.int .i64)):Yo P t (Kd.int .i64) ru:=by
 intro H enc w base spare held fuel cs x h;obtain ⟨n,h1,h2⟩:=yQ ht h;exact ⟨n,h1,wf_i64 h2⟩
theorem iF {P:Program} {t:TypeId} (ht:P.underlying t=some .string):Yo P t Kd.string (fun s=>s.size ≤ 9223372036854775807):=by
 intro H enc w base spare held fuel cs x h;obtain ⟨s,rfl,_,hw⟩:=DataW.trod_string ht h;exact ⟨s,rfl,by simpa [maxLen] using hw⟩
theorem IA {α:Type} {p:Nat→α→Prop}:∀ n,(∀ i,i < n→∃ a,p i a)→∃ xs:List α,xs.length=n∧∀ (i:Nat) (a:α),xs[i]? = some a→p i a
 | 0,_=>⟨[],rfl,fun i a h=>by simp at h⟩
 | n + 1,h=>by
  obtain ⟨xs,hl,hx⟩:=IA n (fun i hi=>h i (by omega));obtain ⟨a,ha⟩:=h n (by omega);refine ⟨xs ++ [a],by simp [hl],fun i b hb=>?_⟩
  rcases Nat.lt_or_ge i xs.length with hi|hi
  ·rw [List.getElem?_append_left hi] at hb;exact hx i b hb
  ·have:i=n:=by
    have:=(List.getElem?_eq_some_iff.1 hb).1;simp [hl] at this;omega
   subst this;rw [List.getElem?_append_right hi,hl] at hb;simp at hb;exact hb ▸ ha
theorem Fu {P:Program} {t e e':TypeId} {α:Type} {d:Kd α} {fit:α→Prop} (ht:P.underlying t=some (.slice e)) (hs:P.cellsOf e=d.sz) (h:Yo P e d fit):Yo P t (Kd.slice e' d) (fun l=>l.length ≤ 9223372036854775807∧∀ a ∈ l,fit a):=by
 intro H enc w base spare held fuel cs x hx
 rcases Go.Deep.open_slice ht hx with ⟨rfl,_⟩|⟨a,len,cap,m,n,D,Pl,rfl,hb,hl,hm,hmm,_,hel⟩
 ·exact ⟨[],⟨none,0,rfl,Nat.le_refl _,rfl,by simp,fun hp=>absurd hp (by simp)⟩,by simp,by simp⟩
 ·have hle:len ≤ m:=by rw [hmm];split <;> omega
  have hmx:len ≤ 9223372036854775807:=by simp only [maxLen] at hm;omega
  obtain ⟨xs,hxl,hxs⟩:=IA (α:=α) (p:=fun i y=>∃ c,c.length=d.sz∧d.K w y c∧(∀ j u,c[j]? = some u→w.cell? (a.add (i * d.sz + j))=some u)∧fit y) len (fun i hi=>by
   obtain ⟨cs',h1,h2⟩:=hel i (by omega);obtain ⟨y,hy,hf⟩:=h h2;obtain ⟨_,LD,gB⟩:=World.cells?_some h1;refine ⟨y,cs',by rw [LD,hs],hy,fun j u hu=>?_,hf⟩;have hj:j < P.cellsOf e:=by rw [← LD];exact (List.getElem?_eq_some_iff.1 hu).1
   rw [← hs,← Go.Deep.add_add,gB j hj]
   exact hu)
  refine ⟨xs,⟨some a,cap,by rw [hxl],by omega,rfl,by omega,fun _=>⟨a,rfl,fun j p hj=>?_⟩⟩,by omega,fun y hy=>?_⟩
  ·obtain ⟨c,h1,h2,h3,_⟩:=hxs j p hj;exact ⟨c,h1,h2,h3⟩
  ·obtain ⟨i,hi,rfl⟩:=List.getElem_of_mem hy;obtain ⟨c,_,_,_,h4⟩:=hxs i _ (List.getElem?_eq_getElem hi);exact h4
def vI (P:Program) (fs:List Field) (off:Nat) {α:Type} (d:Kd α) (fit:α→Prop):Prop :=
 ∀ {H:Type} {enc:TypeId × Value→H} {w:World} {base:Nat} {spare:Nat→Bool} {held:Bool} {n:Nat} {cs:List Value},
  (∀ f ∈ fs,∃ y,DataW.trod enc P w base spare held n f.type ((cs.drop f.offset).take (P.cellsOf f.type))=some y)→cs.length=off + d.sz→∃ a:α,d.K w a (cs.drop off)∧fit a
theorem Nw {P:Program} {f:Field} {off:Nat} {α:Type} {d:Kd α} {fit:α→Prop} (ho:f.offset=off) (hs:P.cellsOf f.type=d.sz) (h:Yo P f.type d fit):vI P [f] off d fit:=by
 intro H enc w base spare held n cs hf hl;obtain ⟨y,hy⟩:=hf f (by simp);rw [ho,hs,List.take_of_length_le (by rw [List.length_drop];omega)] at hy;exact h hy
theorem Jg {P:Program} {f:Field} {fs:List Field} {off off2:Nat} {α β:Type} {d:Kd α} {d2:Kd β} {fit:α→Prop} {xae:β→Prop} (ho:f.offset=off) (hs:P.cellsOf f.type=d.sz) (ho2:off2=off + d.sz) (h:Yo P f.type d fit) (h2:vI P fs off2 d2 xae):vI P (f :: fs) off (Kd.pair d d2) (fun p=>fit p.1∧xae p.2):=by
 intro H enc w base spare held n cs hf hl;have hl':cs.length=off + (d.sz + d2.sz):=hl;obtain ⟨y,hy⟩:=hf f (by simp);rw [ho,hs] at hy;obtain ⟨a,ha,fa⟩:=h hy;obtain ⟨b,hb,fb⟩:=h2 (fun g hg=>hf g (List.mem_cons_of_mem _ hg)) (by omega);refine ⟨(a,b),⟨(cs.drop off).take d.sz,cs.drop off2,?_,ha,hb⟩,fa,fb⟩;rw [ho2,← List.drop_drop,List.take_append_drop]
theorem vt {P:Program} {t:TypeId} {fs:Array Field} {α:Type} {d:Kd α} {fit:α→Prop} (ht:P.underlying t=some (.struct fs)) (hs:P.cellsOf t=d.sz) (h:vI P fs.toList 0 d fit):Yo P t d fit:=by
 intro H enc w base spare held fuel cs x hx;obtain ⟨xs,n,_,_,hl,hxl,hf⟩:=DataW.trod_struct ht hx
 have:=h (w:=w) (enc:=enc) (base:=base) (spare:=spare) (held:=held) (n:=n) (cs:=cs) (fun f hfm=>by
  obtain ⟨i,hi,rfl⟩:=List.getElem_of_mem hfm;have hi':i < fs.size:=by simpa using hi
  have h1:=hf i (fs.toList[i]) (by simp [hi']);rw [List.getElem?_eq_getElem (by omega)] at h1
  exact ⟨_,h1⟩) (by omega)
 simpa using this
theorem Yz {P:Program} {t:TypeId} {α β:Type} {d:Kd α} {fit:α→Prop} {g:β→α} (gi:α→β) (hg:∀ a,g (gi a)=a) (h:Yo P t d fit):Yo P t (Kd.tV d g) (fun b=>fit (g b)):=by
 intro H enc w base spare held fuel cs x hx;obtain ⟨a,ha,hf⟩:=h hx;refine ⟨gi a,?_,?_⟩
 ·show d.K w (g (gi a)) cs
  rw [hg];exact ha
 ·show fit (g (gi a))
  rw [hg];exact hf
theorem tS {P:Program} {t:TypeId} {fs:Array Field} {α:Type} {d:Kd α} {fit:α→Prop} {r:Reach} {b0:Nat} {H:Type} {enc:TypeId × Value→H} {w:World} {base:Nat} {spare:Nat→Bool} {held:Bool} {v:Value} {dt:DataW H} {p:List MemPlace}
  (ht:P.underlying t=some (.struct fs)) (h:Yo P t d fit) (hv:Value.okWide P w r b0 t v) (hd:DataW.Trod enc P w base spare held t v dt p) :
  ∃ (a:α) (cs:Array Value),v = .agg cs∧d.K w a cs.toList∧fit a:=by
 obtain ⟨cs,rfl,hsz⟩:=Go.WideShapes.okWide_struct ht hv;obtain ⟨fuel,hf⟩:=hd;obtain ⟨a,ha,hfa⟩:=h hf;exact ⟨a,cs,rfl,by simpa [Value.cells] using ha,hfa⟩
theorem dW:Yo Try.prog 22 (Kd.slice 3 (Kd.int .i64)) (fun l=>l.length ≤ 9223372036854775807∧∀ a ∈ l,ru a):=Fu Try.underlying22 (by kernel_rfl) (zh Try.underlying3)
def eM (x:Wo):Prop:=ru x.f0∧ru x.f1∧ru x.f2∧ru x.f3∧ru x.f4∧ru x.f5∧(fun s=>s.size ≤ 9223372036854775807) x.f6
theorem pS:Yo Try.prog 141 LC eM:=Yz (fun p=>⟨p.1,p.2.1,p.2.2.1,p.2.2.2.1,p.2.2.2.2.1,p.2.2.2.2.2.1,p.2.2.2.2.2.2⟩) (fun _=>rfl) (vt Try.underlying141 (by kernel_rfl) (Jg rfl (by kernel_rfl) (by kernel_rfl) (zh Try.underlying3) (Jg rfl (by kernel_rfl) (by kernel_rfl) (zh Try.underlying3) (Jg rfl (by kernel_rfl) (by kernel_rfl) (zh Try.underlying3) (Jg rfl (by kernel_rfl) (by kernel_rfl) (zh Try.underlying3) (Jg rfl (by kernel_rfl) (by kernel_rfl) (zh Try.underlying3) (Jg rfl (by kernel_rfl) (by kernel_rfl) (zh Try.underlying3) (Nw rfl (by kernel_rfl) (iF Try.underlying9)))))))))
theorem sS:Yo Try.prog 104 (Kd.slice 141 LC) (fun l=>l.length ≤ 9223372036854775807∧∀ a ∈ l,eM a):=Fu Try.underlying104 (by kernel_rfl) pS
def fM (x:dm):Prop:=(fun l=>l.length ≤ 9223372036854775807∧∀ a ∈ l,eM a) x.f0∧ru x.f1∧ru x.f2∧ru x.f3∧ru x.f4
theorem rS:Yo Try.prog 106 MC fM:=Yz (fun p=>⟨p.1,p.2.1,p.2.2.1,p.2.2.2.1,p.2.2.2.2⟩) (fun _=>rfl) (vt Try.underlying106 (by kernel_rfl) (Jg rfl (by kernel_rfl) (by kernel_rfl) sS (Jg rfl (by kernel_rfl) (by kernel_rfl) (zh Try.underlying3) (Jg rfl (by kernel_rfl) (by kernel_rfl) (zh Try.underlying3) (Jg rfl (by kernel_rfl) (by kernel_rfl) (zh Try.underlying3) (Nw rfl (by kernel_rfl) (zh Try.underlying3)))))))
theorem cW:Yo Try.prog 38 (Kd.slice 106 MC) (fun l=>l.length ≤ 9223372036854775807∧∀ a ∈ l,fM a):=Fu Try.underlying38 (by kernel_rfl) rS
def aU (x:X_):Prop:=(fun l=>l.length ≤ 9223372036854775807∧∀ a ∈ l,ru a) x.f0∧ru x.f1∧ru x.f2∧ru x.f3∧(fun l=>l.length ≤ 9223372036854775807∧∀ a ∈ l,fM a) x.f4
theorem bW:Yo Try.prog 40 k40 aU:=Yz (fun p=>⟨p.1,p.2.1,p.2.2.1,p.2.2.2.1,p.2.2.2.2⟩) (fun _=>rfl) (vt Try.underlying40 (by kernel_rfl) (Jg rfl (by kernel_rfl) (by kernel_rfl) dW (Jg rfl (by kernel_rfl) (by kernel_rfl) (zh Try.underlying3) (Jg rfl (by kernel_rfl) (by kernel_rfl) (zh Try.underlying3) (Jg rfl (by kernel_rfl) (by kernel_rfl) (zh Try.underlying3) (Nw rfl (by kernel_rfl) cW))))))
def lf.l0:Nat→List ByteArray→ByteArray→Int→Option (Bool)
 | 0,_,_,_=>none
 | k + 1,x0,x1,x5=>if x5 < (x0.length:Int) then (if 0 ≤ x5 then (if (qg ByteArray.empty x0 x5).toList=x1.toList then (some true) else (lf.l0 k x0 x1 (wrap64 (x5 + 1)))) else (none)) else (some false)
def lf.f (k:Nat) (l0:List ByteArray) (a1:ByteArray):Option (Bool):=lf.l0 k l0 a1 0
theorem lf.calls (k:Nat) (A0:Option Addr) (c0:Nat) (l0:List ByteArray) (a1:ByteArray) (r:Bool) (w:World) (Qj:Kd.C Kd.string w A0 l0.length l0) (hc0:l0.length ≤ c0) (h:lf.f k l0 a1=some r) :
  Calls Try.prog 135 #[.slice A0 l0.length c0,.string a1] w fun e w'=>e = .returned (.bool r)∧Fc w w':=by
 have en:=aa.mk Qj;have kE:=aa.mk hc0;clear Qj hc0;have H:(lf.l0 k l0 a1 0)=some r:=h;clear h;have H':=aa.mk H;clear H;go_enter Try.func135,Try.ntmps135;go_wp2
 go_loopg [5] k (fun kq v5 w'=>∃ (Ca:Int),v5 = .int .i64 Ca∧aa (lf.l0 kq l0 a1 Ca=some r)∧aa (kq ≤ k)∧Fc w w')
 case atStart=>exact ⟨(0),(by first|rfl|(simp;done)|(simp [*];done)),H',⟨Nat.le_refl _⟩,by repeat (first|exact Fc.refl _|apply Fc.step)⟩
 case round =>
  clear H'
  try clear c1
  try clear p2
  (try clear HA);(try clear Cf);obtain ⟨Ca,rfl,HA,Cf,⟨m1,rfl⟩⟩:=hrel;cases gk with
  | zero=>exact absurd HA.out (by simp [lf.l0])
  | succ k1 =>
   have H:=HA.out;clear HA;simp only [lf.l0] at H
   by_cases c3:Ca < (l0.length:Int)
   ·rw [if_pos c3] at H;have bh:decide (Ca < (l0.length:Int))=true:=decide_eq_true c3;clear c3
    by_cases c4:0 ≤ Ca
    ·rw [if_pos c4] at H;have Mk:decide (0 ≤ Ca)=true:=decide_eq_true c4;clear c4
     by_cases c5:(qg ByteArray.empty l0 Ca).toList=a1.toList
     ·rw [if_pos c5] at H;have Sn:((qg ByteArray.empty l0 Ca).toList == a1.toList)=true:=beq_iff_eq.mpr c5;have nA:((qg ByteArray.empty l0 Ca).toList != a1.toList)=false:=bne_eq_false_iff_eq.mpr c5;clear c5;obtain rfl:=Option.some.inj H;have jf:0 ≤ (Ca:Int):=Pa;have gf:Ca < (l0.length:Int):=Pa;obtain ⟨Fe,Qi,Sd⟩:=Kd.iw en.out Ca jf gf;cases Qi;replace jf:=eq_true jf;replace gf:=eq_true gf;go_wp2;go_ret;exact ⟨by first|rfl|(simp;done)|(simp [*];done),by repeat (first|exact Fc.refl _|apply Fc.step)⟩
     ·rw [if_neg c5] at H;have Sn:((qg ByteArray.empty l0 Ca).toList == a1.toList)=false:=beq_eq_false_iff_ne.mpr c5;have nA:((qg ByteArray.empty l0 Ca).toList != a1.toList)=true:=bne_iff_ne.mpr c5;have H':=aa.mk H;clear H;have jf:0 ≤ (Ca:Int):=Pa;have gf:Ca < (l0.length:Int):=Pa;obtain ⟨Fe,Qi,Sd⟩:=Kd.iw en.out Ca jf gf;cases Qi;replace jf:=eq_true jf;replace gf:=eq_true gf;go_wp2
      go_roundg k1
      case measure=>have:=Cf.out;omega
      case rel=>exact ⟨(wrap64 (Ca + 1)),(by first|rfl|(simp;done)|(simp [*];done)),H',⟨by have:=Cf.out;omega⟩,by repeat (first|exact Fc.refl _|apply Fc.step)⟩
    ·rw [if_neg c4] at H;exact absurd H (by simp)
   ·rw [if_neg c3] at H;have bh:decide (Ca < (l0.length:Int))=false:=decide_eq_false c3;clear c3;obtain rfl:=Option.some.inj H;go_wp2;go_ret;exact ⟨by first|rfl|(simp;done)|(simp [*];done),by repeat (first|exact Fc.refl _|apply Fc.step)⟩
def mb.f (a0:Int) (a1:Int) (a2:Int):Option (Bool):=if a0 ≥ a1 then (some (decide (a0 ≤ a2))) else (some false)
theorem mb.calls (a0:Int) (a1:Int) (a2:Int) (r:Bool) (w:World) (h:mb.f a0 a1 a2=some r) :
  Calls Try.prog 81 #[.int .i64 a0,.int .i64 a1,.int .i64 a2] w fun e w'=>e = .returned (.bool r)∧Fc w w':=by
 have H:(if a0 ≥ a1 then (some (decide (a0 ≤ a2))) else (some false))=some r:=h;clear h
 by_cases c4:a0 ≥ a1
 ·rw [if_pos c4] at H;have Mk:decide (a1 ≤ a0)=true:=decide_eq_true c4;clear c4;obtain rfl:=Option.some.inj H;go_enter Try.func81,Try.ntmps81;go_wp2;go_ret;exact ⟨by first|rfl|(simp;done)|(simp [*];done),by repeat (first|exact Fc.refl _|apply Fc.step)⟩
 ·rw [if_neg c4] at H;have Mk:decide (a1 ≤ a0)=false:=decide_eq_false c4;clear c4;obtain rfl:=Option.some.inj H;go_enter Try.func81,Try.ntmps81;go_wp2;go_ret;exact ⟨by first|rfl|(simp;done)|(simp [*];done),by repeat (first|exact Fc.refl _|apply Fc.step)⟩
mutual
def zb.j0:Nat→Bool→Bool→Bool→Bool→List Int→Int→Int→Int→List (Df)→Int→Int→Int→Int→Int→Int→ByteArray→Option (Bool)
 | 0,_,_,_,_,_,_,_,_,_,_,_,_,_,_,_,_=>none
 | k + 1,x5,x6,x7,x8,Mc,Nc,Lc,Jc,Nb,Ig,Sk,El,ek,bk,Yn,Rq=>if Ig=2 then (if Ig=4 then (zb.j1 k x5 x6 x7 x8 false Mc Nc Lc Jc Nb Ig Sk El ek bk Yn Rq) else (zb.j1 k x5 x6 x7 x8 (bk != 0) Mc Nc Lc Jc Nb Ig Sk El ek bk Yn Rq)) else (if Rq.toList=([]:List UInt8) then (if Ig=4 then (zb.j1 k x5 x6 x7 x8 false Mc Nc Lc Jc Nb Ig Sk El ek bk Yn Rq) else (zb.j1 k x5 x6 x7 x8 (bk != 0) Mc Nc Lc Jc Nb Ig Sk El ek bk Yn Rq)) else (zb.j1 k x5 x6 x7 x8 true Mc Nc Lc Jc Nb Ig Sk El ek bk Yn Rq))
def zb.j1:Nat→Bool→Bool→Bool→Bool→Bool→List Int→Int→Int→Int→List (Df)→Int→Int→Int→Int→Int→Int→ByteArray→Option (Bool)
 | 0,_,_,_,_,_,_,_,_,_,_,_,_,_,_,_,_,_=>none
 | k + 1,x5,x6,x7,x8,x62,Mc,Nc,Lc,Jc,Nb,Ig,Sk,El,ek,bk,Yn,Rq=>if x62=true then (some false) else (if Ig=0 then (if x5=true then (if El=0 then (some (ek == 0)) else (some false)) else (some false)) else (if Ig=1 then (if x5=true then (if x6=true then (if ek=0 then (some (Yn == 0)) else (some false)) else (some false)) else (some false)) else (if Ig=2 then (if x5=true then (if x6=true then (if x7=true then (if Yn=0 then ((lf.f k (([(⟨#[61,61]⟩:ByteArray),(⟨#[60]⟩:ByteArray),(⟨#[38]⟩:ByteArray),(⟨#[43]⟩:ByteArray),(⟨#[45]⟩:ByteArray),(⟨#[42]⟩:ByteArray)]:List ByteArray)) Rq).bind fun t111=>(some t111)) else (some false)) else (some false)) else (some false)) else (some false)) else (if Ig=3 then (if x5=true then (some x8) else (some false)) else (if Ig=4 then (if Sk=0 then (if x8=true then ((mb.f bk 0 (wrap64 (Jc - 1))).bind fun t112=>(some t112)) else (some false)) else (some false)) else (if Ig=5 then (if x5=true then (if El=0 then (if ek=0 then (some (Yn == 0)) else (some false)) else (some false)) else (some false)) else (if Ig=6 then (if Sk=0 then (if x6=true then (if ek=0 then (some (Yn == 0)) else (some false)) else (some false)) else (some false)) else (some false))))))))
end
def zb.f (k:Nat) (Ma:List Int) (La:Int) (Na:Int) (Ka:Int) (Ea:List (Df)) (Yc:Int) (qc:Int) (ec:Int) (fc:Int) (Qc:Int) (Cd:Int) (Zd:ByteArray):Option (Bool):=(mb.f qc 0 (wrap64 (Ka - 1))).bind fun t103=>((mb.f ec 0 (wrap64 (Ka - 1))).bind fun t104=>((mb.f fc 0 (wrap64 (Ka - 1))).bind fun t105=>(if t104=true then (if t105=true then ((mb.f Cd 0 (wrap64 ((Ma.length:Int) - 1))).bind fun t106=>(zb.j0 k t103 t104 t105 t106 Ma La Na Ka Ea Yc qc ec fc Qc Cd Zd)) else (zb.j0 k t103 t104 t105 false Ma La Na Ka Ea Yc qc ec fc Qc Cd Zd)) else (if ec=(-1) then (if t105=true then ((mb.f Cd 0 (wrap64 ((Ma.length:Int) - 1))).bind fun t107=>(zb.j0 k t103 t104 t105 t107 Ma La Na Ka Ea Yc qc ec fc Qc Cd Zd)) else (zb.j0 k t103 t104 t105 false Ma La Na Ka Ea Yc qc ec fc Qc Cd Zd)) else (zb.j0 k t103 t104 t105 false Ma La Na Ka Ea Yc qc ec fc Qc Cd Zd)))))
theorem zb.calls (k:Nat) (xb:Option Addr) (qb:Nat) (Ma:List Int) (La:Int) (Na:Int) (Ka:Int) (Qb:Option Addr) (Kb:Nat) (Ea:List (Df)) (Yc:Int) (qc:Int) (ec:Int) (fc:Int) (Qc:Int) (Cd:Int) (Zd:ByteArray) (r:Bool) (w:World) (Re:Kd.C (Kd.int .i64) w xb Ma.length Ma) (Pe:Ma.length ≤ qb) (Cg:Kd.C Pr w Qb Ea.length Ea) (zg:Ea.length ≤ Kb) (h:zb.f k Ma La Na Ka Ea Yc qc ec fc Qc Cd Zd=some r) :
  Calls Try.prog 121 #[.agg #[.slice xb Ma.length qb,.int .i64 La,.int .i64 Na,.int .i64 Ka,.slice Qb Ea.length Kb],.agg #[.int .i64 Yc,.int .i64 qc,.int .i64 ec,.int .i64 fc,.int .i64 Qc,.int .i64 Cd,.string Zd]] w fun e w'=>e = .returned (.bool r)∧Below w.heap.size w w':=by
 have RC:=Try.underlying45;have xJ:=Try.underlying122;have Ue:=aa.mk Re;have af:=aa.mk Pe;clear Re Pe;have Xf:=aa.mk Cg;have Zg:=aa.mk zg;clear Cg zg;have HB:=aa.mk (Below.refl w.heap.size w);have H:((mb.f qc 0 (wrap64 (Ka - 1))).bind fun t103=>((mb.f ec 0 (wrap64 (Ka - 1))).bind fun t104=>((mb.f fc 0 (wrap64 (Ka - 1))).bind fun t105=>(if t104=true then (if t105=true then ((mb.f Cd 0 (wrap64 ((Ma.length:Int) - 1))).bind fun t106=>(zb.j0 k t103 t104 t105 t106 Ma La Na Ka Ea Yc qc ec fc Qc Cd Zd)) else (zb.j0 k t103 t104 t105 false Ma La Na Ka Ea Yc qc ec fc Qc Cd Zd)) else (if ec=(-1) then (if t105=true then ((mb.f Cd 0 (wrap64 ((Ma.length:Int) - 1))).bind fun t107=>(zb.j0 k t103 t104 t105 t107 Ma La Na Ka Ea Yc qc ec fc Qc Cd Zd)) else (zb.j0 k t103 t104 t105 false Ma La Na Ka Ea Yc qc ec fc Qc Cd Zd)) else (zb.j0 k t103 t104 t105 false Ma La Na Ka Ea Yc qc ec fc Qc Cd Zd))))))=some r:=h;clear h;replace H:=Option.bind_eq_some_iff.mp H;obtain ⟨t103,GD,H⟩:=H;replace H:((mb.f ec 0 (wrap64 (Ka - 1))).bind fun t104=>((mb.f fc 0 (wrap64 (Ka - 1))).bind fun t105=>(if t104=true then (if t105=true then ((mb.f Cd 0 (wrap64 ((Ma.length:Int) - 1))).bind fun t106=>(zb.j0 k t103 t104 t105 t106 Ma La Na Ka Ea Yc qc ec fc Qc Cd Zd)) else (zb.j0 k t103 t104 t105 false Ma La Na Ka Ea Yc qc ec fc Qc Cd Zd)) else (if ec=(-1) then (if t105=true then ((mb.f Cd 0 (wrap64 ((Ma.length:Int) - 1))).bind fun t107=>(zb.j0 k t103 t104 t105 t107 Ma La Na Ka Ea Yc qc ec fc Qc Cd Zd)) else (zb.j0 k t103 t104 t105 false Ma La Na Ka Ea Yc qc ec fc Qc Cd Zd)) else (zb.j0 k t103 t104 t105 false Ma La Na Ka Ea Yc qc ec fc Qc Cd Zd)))))=some r:=H;have A3:=aa.mk GD;clear GD;replace H:=Option.bind_eq_some_iff.mp H;obtain ⟨t104,mE,H⟩:=H;replace H:((mb.f fc 0 (wrap64 (Ka - 1))).bind fun t105=>(if t104=true then (if t105=true then ((mb.f Cd 0 (wrap64 ((Ma.length:Int) - 1))).bind fun t106=>(zb.j0 k t103 t104 t105 t106 Ma La Na Ka Ea Yc qc ec fc Qc Cd Zd)) else (zb.j0 k t103 t104 t105 false Ma La Na Ka Ea Yc qc ec fc Qc Cd Zd)) else (if ec=(-1) then (if t105=true then ((mb.f Cd 0 (wrap64 ((Ma.length:Int) - 1))).bind fun t107=>(zb.j0 k t103 t104 t105 t107 Ma La Na Ka Ea Yc qc ec fc Qc Cd Zd)) else (zb.j0 k t103 t104 t105 false Ma La Na Ka Ea Yc qc ec fc Qc Cd Zd)) else (zb.j0 k t103 t104 t105 false Ma La Na Ka Ea Yc qc ec fc Qc Cd Zd))))=some r:=H;have A4:=aa.mk mE;clear mE;replace H:=Option.bind_eq_some_iff.mp H;obtain ⟨t105,n5,H⟩:=H;replace H:(if t104=true then (if t105=true then ((mb.f Cd 0 (wrap64 ((Ma.length:Int) - 1))).bind fun t106=>(zb.j0 k t103 t104 t105 t106 Ma La Na Ka Ea Yc qc ec fc Qc Cd Zd)) else (zb.j0 k t103 t104 t105 false Ma La Na Ka Ea Yc qc ec fc Qc Cd Zd)) else (if ec=(-1) then (if t105=true then ((mb.f Cd 0 (wrap64 ((Ma.length:Int) - 1))).bind fun t107=>(zb.j0 k t103 t104 t105 t107 Ma La Na Ka Ea Yc qc ec fc Qc Cd Zd)) else (zb.j0 k t103 t104 t105 false Ma La Na Ka Ea Yc qc ec fc Qc Cd Zd)) else (zb.j0 k t103 t104 t105 false Ma La Na Ka Ea Yc qc ec fc Qc Cd Zd)))=some r:=H;have A5:=aa.mk n5;clear n5;have HC6:=aa.mk H;clear H;go_enter Try.func121,Try.ntmps121
 go_upto_region 4 with (first|((with_reducible refine Bb (N:=2) rfl ?_);(try (refine Jj (by rfl) ?_;dsimp only));refine Ob ?hg (N:=2) ?hd (cs:=#[.slice xb Ma.length qb,.int .i64 La,.int .i64 Na,.int .i64 Ka,.slice Qb Ea.length Kb]) (t:=45) ?hr ?_;(case hd=>rfl);(case hg=>rfl);(case hr=>first|(go_simp;done)|(go_simp;rfl));intro za hg w7 oc hb;have Cb:=aa.mk (Oa (by repeat (first|(with_reducible first|exact HB.out|apply oa|apply ia|apply qa)|exact HB.out)) hb);have Lb:=aa.mk (oc);have Pb:=aa.mk ((by rw [hg];exact (Ja (by repeat (first|(with_reducible first|exact HB.out|apply oa|apply ia|apply qa)|exact HB.out))):w.heap.size ≤ za));have Ec:=aa.mk ((by rw [hg];exact (Ja (by repeat (first|(with_reducible first|exact HB.out|apply oa|apply ia|apply qa)|exact HB.out))):w.heap.size ≤ za));clear HB;have HB:=Cb;have ta:=Lb;have He:=Pb;have Ua:=Ec;clear Cb Lb Pb Ec hb oc hg)|((with_reducible refine Bb (N:=3) rfl ?_);(try (refine Jj (by rfl) ?_;dsimp only));refine Ob ?hg (N:=3) ?hd (cs:=#[.int .i64 Yc,.int .i64 qc,.int .i64 ec,.int .i64 fc,.int .i64 Qc,.int .i64 Cd,.string Zd]) (t:=122) ?hr ?_;(case hd=>rfl);(case hg=>rfl);(case hr=>first|(go_simp;done)|(go_simp;rfl));intro Ga hg w8 oc hb;have Cb:=aa.mk (Xa (g:=za) (o:=.cells #[.slice xb Ma.length qb,.int .i64 La,.int .i64 Na,.int .i64 Ka,.slice Qb Ea.length Kb] 45 (0,0)) (by (with_reducible repeat (first|refine Aa ?_ _|refine Fa ?_|refine Ba ?_ _));exact ta.out) hb);have Lb:=aa.mk (Oa (by repeat (first|(with_reducible first|exact HB.out|apply oa|apply ia|apply qa|refine ua ?_ Ua.out)|exact HB.out)) hb);have Pb:=aa.mk (oc);have Ec:=aa.mk ((by rw [hg];exact (Ja (by repeat (first|(with_reducible first|exact HB.out|apply oa|apply ia|apply qa|refine ua ?_ Ua.out)|exact HB.out))):w.heap.size ≤ Ga));have fe:=aa.mk ((by rw [hg];exact (Ja (by repeat (first|(with_reducible first|exact HB.out|apply oa|apply ia|apply qa|refine ua ?_ Ua.out)|exact HB.out))):w.heap.size ≤ Ga));have Af:=aa.mk ((by rw [hg];exact Nat.ne_of_lt (qd (g:=za) (o:=.cells #[.slice xb Ma.length qb,.int .i64 La,.int .i64 Na,.int .i64 Ka,.slice Qb Ea.length Kb] 45 (0,0)) (by (with_reducible repeat (first|refine Aa ?_ _|refine Fa ?_|refine Ba ?_ _));exact ta.out)):za ≠ Ga));have Ah:=aa.mk ((by rw [hg];exact Nat.ne_of_gt (qd (g:=za) (o:=.cells #[.slice xb Ma.length qb,.int .i64 La,.int .i64 Na,.int .i64 Ka,.slice Qb Ea.length Kb] 45 (0,0)) (by (with_reducible repeat (first|refine Aa ?_ _|refine Fa ?_|refine Ba ?_ _));exact ta.out)):Ga ≠ za));clear ta HB;have ta:=Cb;have HB:=Lb;have ya:=Pb;have zk:=Ec;have Rc:=fe;have Fb:=Af;have Eb:=Ah;clear Cb Lb Pb Ec fe Af Ah hb oc hg;have xaq:=Eb.out;have jaq:=Fb.out;have Ei:w8.cell? ⟨Ga,0,none⟩=some (.int .i64 Yc):=(ja ya.out 0).trans rfl;have Di:w8.cell? ⟨Ga,1,none⟩=some (.int .i64 qc):=(ja ya.out 1).trans rfl;have Ci:w8.cell? ⟨Ga,2,none⟩=some (.int .i64 ec):=(ja ya.out 2).trans rfl;have Bi:w8.cell? ⟨Ga,3,none⟩=some (.int .i64 fc):=(ja ya.out 3).trans rfl;have Ai:w8.cell? ⟨Ga,4,none⟩=some (.int .i64 Qc):=(ja ya.out 4).trans rfl;have NH:w8.cell? ⟨Ga,5,none⟩=some (.int .i64 Cd):=(ja ya.out 5).trans rfl;have MH:w8.cell? ⟨Ga,6,none⟩=some (.string Zd):=(ja ya.out 6).trans rfl;have zi:=ga ya.out 0;have si:=ga ya.out 1;have qi:=ga ya.out 2;have ni:=ga ya.out 3;have ki:=ga ya.out 4;have JG:=ga ya.out 5;have IG:=ga ya.out 6;have yz:w8.cell? ⟨za,0,none⟩=some (.slice xb Ma.length qb):=(ja ta.out 0).trans rfl;have xz:w8.cell? ⟨za,1,none⟩=some (.int .i64 La):=(ja ta.out 1).trans rfl;have wz:w8.cell? ⟨za,2,none⟩=some (.int .i64 Na):=(ja ta.out 2).trans rfl;have uz:w8.cell? ⟨za,3,none⟩=some (.int .i64 Ka):=(ja ta.out 3).trans rfl;have rz:w8.cell? ⟨za,4,none⟩=some (.slice Qb Ea.length Kb):=(ja ta.out 4).trans rfl;have Xy:=ga ta.out 0;have Wy:=ga ta.out 1;have Vy:=ga ta.out 2;have Uy:=ga ta.out 3;have Ty:=ga ta.out 4)|((with_reducible refine Ab (f:=81) rfl ?_);refine Uc (some 14) rfl rfl Try.func81 (by kernel_rfl) rfl #[.int .i64 qc,.int .i64 0,.int .i64 (wrap64 (Ka - 1))] rfl (by (try simp only [List.map_toArray,List.map_cons,List.map_nil]);first|done|rfl|(simp only [List.length_drop,List.length_take];rfl)) ?_;(with_reducible refine (mb.calls qc 0 (wrap64 (Ka - 1)) t103 _ A3.out).mono ?_);rintro e w' ⟨rfl,⟨nd,rfl⟩⟩;refine ⟨_,rfl,?_⟩)|((with_reducible refine Ab (f:=81) rfl ?_);refine Uc (some 20) rfl rfl Try.func81 (by kernel_rfl) rfl #[.int .i64 ec,.int .i64 0,.int .i64 (wrap64 (Ka - 1))] rfl (by (try simp only [List.map_toArray,List.map_cons,List.map_nil]);first|done|rfl|(simp only [List.length_drop,List.length_take];rfl)) ?_;(with_reducible refine (mb.calls ec 0 (wrap64 (Ka - 1)) t104 _ A4.out).mono ?_);rintro e w' ⟨rfl,⟨nd,rfl⟩⟩;refine ⟨_,rfl,?_⟩)|((with_reducible refine Ab (f:=81) rfl ?_);refine Uc (some 26) rfl rfl Try.func81 (by kernel_rfl) rfl #[.int .i64 fc,.int .i64 0,.int .i64 (wrap64 (Ka - 1))] rfl (by (try simp only [List.map_toArray,List.map_cons,List.map_nil]);first|done|rfl|(simp only [List.length_drop,List.length_take];rfl)) ?_;(with_reducible refine (mb.calls fc 0 (wrap64 (Ka - 1)) t105 _ A5.out).mono ?_);rintro e w' ⟨rfl,⟨nd,rfl⟩⟩;refine ⟨_,rfl,?_⟩))
 (try simp only [Act.put,List.setIfInBounds_toArray,List.set_cons_zero,List.set_cons_succ])
 go_cut [8] (fun v8 wc=>∃ (kq:Nat) (QI:Bool),v8 = .bool QI∧aa (zb.j0 kq t103 t104 t105 QI Ma La Na Ka Ea Yc qc ec fc Qc Cd Zd=some r)∧aa (kq ≤ k)∧aa (wc.heap[za]? = some (.cells #[(.slice xb Ma.length qb),.int .i64 La,.int .i64 Na,.int .i64 Ka,(.slice Qb Ea.length Kb)] 45 (0,0)))∧aa (wc.heap[Ga]? = some (.cells #[.int .i64 Yc,.int .i64 qc,.int .i64 ec,.int .i64 fc,.int .i64 Qc,.int .i64 Cd,.string Zd] 122 (0,0)))∧aa (Below w.heap.size w wc))
 case first =>
  have H:=HC6.out;clear HC6
  by_cases uu:t104=true
  ·subst uu;have H1:(if t105=true then ((mb.f Cd 0 (wrap64 ((Ma.length:Int) - 1))).bind fun t106=>(zb.j0 k t103 true t105 t106 Ma La Na Ka Ea Yc qc ec fc Qc Cd Zd)) else (zb.j0 k t103 true t105 false Ma La Na Ka Ea Yc qc ec fc Qc Cd Zd))=some r:=by rw [if_pos rfl] at H;exact H
   clear H;have H:=H1;clear H1
   by_cases ax:t105=true
   ·subst ax;have H1:((mb.f Cd 0 (wrap64 ((Ma.length:Int) - 1))).bind fun t106=>(zb.j0 k t103 true true t106 Ma La Na Ka Ea Yc qc ec fc Qc Cd Zd))=some r:=by rw [if_pos rfl] at H;exact H
    clear H;have H:=H1;clear H1;replace H:=Option.bind_eq_some_iff.mp H;obtain ⟨t106,mah,H⟩:=H;replace H:(zb.j0 k t103 true true t106 Ma La Na Ka Ea Yc qc ec fc Qc Cd Zd)=some r:=H;have A14:=aa.mk mah;clear mah;have H':=aa.mk H;clear H;have Sav:=Eb.out;have kav:=Fb.out;have cw:w8.cell? ⟨Ga,0,none⟩=some (.int .i64 Yc):=(ja ya.out 0).trans rfl;have bw:w8.cell? ⟨Ga,1,none⟩=some (.int .i64 qc):=(ja ya.out 1).trans rfl;have Zv:w8.cell? ⟨Ga,2,none⟩=some (.int .i64 ec):=(ja ya.out 2).trans rfl;have Yv:w8.cell? ⟨Ga,3,none⟩=some (.int .i64 fc):=(ja ya.out 3).trans rfl;have Xv:w8.cell? ⟨Ga,4,none⟩=some (.int .i64 Qc):=(ja ya.out 4).trans rfl;have AP:w8.cell? ⟨Ga,5,none⟩=some (.int .i64 Cd):=(ja ya.out 5).trans rfl;have zP:w8.cell? ⟨Ga,6,none⟩=some (.string Zd):=(ja ya.out 6).trans rfl;have Mv:=ga ya.out 0;have Lv:=ga ya.out 1;have Kv:=ga ya.out 2;have Jv:=ga ya.out 3;have Iv:=ga ya.out 4;have KO:=ga ya.out 5;have JO:=ga ya.out 6;have EH:w8.cell? ⟨za,0,none⟩=some (.slice xb Ma.length qb):=(ja ta.out 0).trans rfl;have DH:w8.cell? ⟨za,1,none⟩=some (.int .i64 La):=(ja ta.out 1).trans rfl;have CH:w8.cell? ⟨za,2,none⟩=some (.int .i64 Na):=(ja ta.out 2).trans rfl;have BH:w8.cell? ⟨za,3,none⟩=some (.int .i64 Ka):=(ja ta.out 3).trans rfl;have AH:w8.cell? ⟨za,4,none⟩=some (.slice Qb Ea.length Kb):=(ja ta.out 4).trans rfl;have BG:=ga ta.out 0;have AG:=ga ta.out 1;have zG:=ga ta.out 2;have yG:=ga ta.out 3;have xG:=ga ta.out 4;go_wp2_with (first|(go_at_call 81;(with_reducible refine (mb.calls Cd 0 (wrap64 ((Ma.length:Int) - 1)) t106 _ A14.out).mono ?_);rintro e w' ⟨rfl,⟨nd,rfl⟩⟩))
    go_meet
    case rel=>exact ⟨_,(t106),(by first|rfl|(simp;done)|(simp [*];done)),H',⟨by first|omega|exact Nat.le_refl _⟩,⟨by (with_reducible repeat (first|refine Aa ?_ _|refine Fa ?_|refine Ba ?_ _));exact ta.out⟩,⟨by (with_reducible repeat (first|refine Aa ?_ _|refine Fa ?_|refine Ba ?_ _));exact ya.out⟩,⟨by repeat (first|(with_reducible first|exact HB.out|apply oa|apply ia|apply qa|refine ua ?_ Ua.out|refine ua ?_ Rc.out)|exact HB.out)⟩⟩
   ·replace ax:=Bool.eq_false_iff.mpr ax;subst ax;have H1:(zb.j0 k t103 true false false Ma La Na Ka Ea Yc qc ec fc Qc Cd Zd)=some r:=by rw [if_neg (show ¬ (false=true) by decide)] at H;exact H
    clear H;have H:=H1;clear H1;have H':=aa.mk H;clear H;go_wp2
    go_meet
    case rel=>exact ⟨_,(false),(by first|rfl|(simp;done)|(simp [*];done)),H',⟨by first|omega|exact Nat.le_refl _⟩,⟨by (with_reducible repeat (first|refine Aa ?_ _|refine Fa ?_|refine Ba ?_ _));exact ta.out⟩,⟨by (with_reducible repeat (first|refine Aa ?_ _|refine Fa ?_|refine Ba ?_ _));exact ya.out⟩,⟨by repeat (first|(with_reducible first|exact HB.out|apply oa|apply ia|apply qa|refine ua ?_ Ua.out|refine ua ?_ Rc.out)|exact HB.out)⟩⟩
  ·replace uu:=Bool.eq_false_iff.mpr uu;subst uu;have H1:(if ec=(-1) then (if t105=true then ((mb.f Cd 0 (wrap64 ((Ma.length:Int) - 1))).bind fun t107=>(zb.j0 k t103 false t105 t107 Ma La Na Ka Ea Yc qc ec fc Qc Cd Zd)) else (zb.j0 k t103 false t105 false Ma La Na Ka Ea Yc qc ec fc Qc Cd Zd)) else (zb.j0 k t103 false t105 false Ma La Na Ka Ea Yc qc ec fc Qc Cd Zd))=some r:=by rw [if_neg (show ¬ (false=true) by decide)] at H;exact H
   clear H;have H:=H1;clear H1
   by_cases Gs:ec=(-1)
   ·rw [if_pos Gs] at H;have vn:(ec == (-1))=true:=beq_iff_eq.mpr Gs;have Fz:(ec != (-1))=false:=bne_eq_false_iff_eq.mpr Gs;clear Gs;(first|rw [vn]|(simp only [Vb,Wb];rw [vn])|skip)
    by_cases gw:t105=true
    ·subst gw;have H1:((mb.f Cd 0 (wrap64 ((Ma.length:Int) - 1))).bind fun t107=>(zb.j0 k t103 false true t107 Ma La Na Ka Ea Yc qc ec fc Qc Cd Zd))=some r:=by rw [if_pos rfl] at H;exact H
     clear H;have H:=H1;clear H1;replace H:=Option.bind_eq_some_iff.mp H;obtain ⟨t107,jV,H⟩:=H;replace H:(zb.j0 k t103 false true t107 Ma La Na Ka Ea Yc qc ec fc Qc Cd Zd)=some r:=H;have nE:=aa.mk jV;clear jV;have H':=aa.mk H;clear H;have Oav:=Eb.out;have gav:=Fb.out;have qz:w8.cell? ⟨Ga,0,none⟩=some (.int .i64 Yc):=(ja ya.out 0).trans rfl;have pz:w8.cell? ⟨Ga,1,none⟩=some (.int .i64 qc):=(ja ya.out 1).trans rfl;have oz:w8.cell? ⟨Ga,2,none⟩=some (.int .i64 ec):=(ja ya.out 2).trans rfl;have mz:w8.cell? ⟨Ga,3,none⟩=some (.int .i64 fc):=(ja ya.out 3).trans rfl;have kz:w8.cell? ⟨Ga,4,none⟩=some (.int .i64 Qc):=(ja ya.out 4).trans rfl;have yP:w8.cell? ⟨Ga,5,none⟩=some (.int .i64 Cd):=(ja ya.out 5).trans rfl;have xP:w8.cell? ⟨Ga,6,none⟩=some (.string Zd):=(ja ya.out 6).trans rfl;have Sy:=ga ya.out 0;have Ry:=ga ya.out 1;have Qy:=ga ya.out 2;have Py:=ga ya.out 3;have Oy:=ga ya.out 4;have FO:=ga ya.out 5;have EO:=ga ya.out 6;have Eo:w8.cell? ⟨za,0,none⟩=some (.slice xb Ma.length qb):=(ja ta.out 0).trans rfl;have Co:w8.cell? ⟨za,1,none⟩=some (.int .i64 La):=(ja ta.out 1).trans rfl;have Bo:w8.cell? ⟨za,2,none⟩=some (.int .i64 Na):=(ja ta.out 2).trans rfl;have zo:w8.cell? ⟨za,3,none⟩=some (.int .i64 Ka):=(ja ta.out 3).trans rfl;have yo:w8.cell? ⟨za,4,none⟩=some (.slice Qb Ea.length Kb):=(ja ta.out 4).trans rfl;have xo:=ga ta.out 0;have vo:=ga ta.out 1;have uo:=ga ta.out 2;have qo:=ga ta.out 3;have oo:=ga ta.out 4;go_wp2_with (first|(go_at_call 81;(with_reducible refine (mb.calls Cd 0 (wrap64 ((Ma.length:Int) - 1)) t107 _ nE.out).mono ?_);rintro e w' ⟨rfl,⟨nd,rfl⟩⟩))
     go_meet
     case rel=>exact ⟨_,(t107),(by first|rfl|(simp;done)|(simp [*];done)),H',⟨by first|omega|exact Nat.le_refl _⟩,⟨by (with_reducible repeat (first|refine Aa ?_ _|refine Fa ?_|refine Ba ?_ _));exact ta.out⟩,⟨by (with_reducible repeat (first|refine Aa ?_ _|refine Fa ?_|refine Ba ?_ _));exact ya.out⟩,⟨by repeat (first|(with_reducible first|exact HB.out|apply oa|apply ia|apply qa|refine ua ?_ Ua.out|refine ua ?_ Rc.out)|exact HB.out)⟩⟩
    ·replace gw:=Bool.eq_false_iff.mpr gw;subst gw;have H1:(zb.j0 k t103 false false false Ma La Na Ka Ea Yc qc ec fc Qc Cd Zd)=some r:=by rw [if_neg (show ¬ (false=true) by decide)] at H;exact H
     clear H;have H:=H1;clear H1;have H':=aa.mk H;clear H;have Xaa:=Eb.out;have Oaa:=Fb.out;have Rv:w8.cell? ⟨Ga,0,none⟩=some (.int .i64 Yc):=(ja ya.out 0).trans rfl;have Qv:w8.cell? ⟨Ga,1,none⟩=some (.int .i64 qc):=(ja ya.out 1).trans rfl;have Pv:w8.cell? ⟨Ga,2,none⟩=some (.int .i64 ec):=(ja ya.out 2).trans rfl;have Ov:w8.cell? ⟨Ga,3,none⟩=some (.int .i64 fc):=(ja ya.out 3).trans rfl;have Nv:w8.cell? ⟨Ga,4,none⟩=some (.int .i64 Qc):=(ja ya.out 4).trans rfl;have wP:w8.cell? ⟨Ga,5,none⟩=some (.int .i64 Cd):=(ja ya.out 5).trans rfl;have vP:w8.cell? ⟨Ga,6,none⟩=some (.string Zd):=(ja ya.out 6).trans rfl;have Bv:=ga ya.out 0;have Av:=ga ya.out 1;have wv:=ga ya.out 2;have vv:=ga ya.out 3;have uv:=ga ya.out 4;have CO:=ga ya.out 5;have BO:=ga ya.out 6;go_wp2
     go_meet
     case rel=>exact ⟨_,(false),(by first|rfl|(simp;done)|(simp [*];done)),H',⟨by first|omega|exact Nat.le_refl _⟩,⟨by (with_reducible repeat (first|refine Aa ?_ _|refine Fa ?_|refine Ba ?_ _));exact ta.out⟩,⟨by (with_reducible repeat (first|refine Aa ?_ _|refine Fa ?_|refine Ba ?_ _));exact ya.out⟩,⟨by repeat (first|(with_reducible first|exact HB.out|apply oa|apply ia|apply qa|refine ua ?_ Ua.out|refine ua ?_ Rc.out)|exact HB.out)⟩⟩
   ·rw [if_neg Gs] at H;have vn:(ec == (-1))=false:=beq_eq_false_iff_ne.mpr Gs;have Fz:(ec != (-1))=true:=bne_iff_ne.mpr Gs;(first|rw [vn]|(simp only [Vb,Wb];rw [vn])|skip);have H':=aa.mk H;clear H;have Nav:=Eb.out;have fav:=Fb.out;have lC:w8.cell? ⟨Ga,0,none⟩=some (.int .i64 Yc):=(ja ya.out 0).trans rfl;have kC:w8.cell? ⟨Ga,1,none⟩=some (.int .i64 qc):=(ja ya.out 1).trans rfl;have jC:w8.cell? ⟨Ga,2,none⟩=some (.int .i64 ec):=(ja ya.out 2).trans rfl;have iC:w8.cell? ⟨Ga,3,none⟩=some (.int .i64 fc):=(ja ya.out 3).trans rfl;have fC:w8.cell? ⟨Ga,4,none⟩=some (.int .i64 Qc):=(ja ya.out 4).trans rfl;have uP:w8.cell? ⟨Ga,5,none⟩=some (.int .i64 Cd):=(ja ya.out 5).trans rfl;have tP:w8.cell? ⟨Ga,6,none⟩=some (.string Zd):=(ja ya.out 6).trans rfl;have OB:=ga ya.out 0;have NB:=ga ya.out 1;have MB:=ga ya.out 2;have LB:=ga ya.out 3;have KB:=ga ya.out 4;have AO:=ga ya.out 5;have zO:=ga ya.out 6;go_wp2
    go_meet
    case rel=>exact ⟨_,(false),(by first|rfl|(simp;done)|(simp [*];done)),H',⟨by first|omega|exact Nat.le_refl _⟩,⟨by (with_reducible repeat (first|refine Aa ?_ _|refine Fa ?_|refine Ba ?_ _));exact ta.out⟩,⟨by (with_reducible repeat (first|refine Aa ?_ _|refine Fa ?_|refine Ba ?_ _));exact ya.out⟩,⟨by repeat (first|(with_reducible first|exact HB.out|apply oa|apply ia|apply qa|refine ua ?_ Ua.out|refine ua ?_ Rc.out)|exact HB.out)⟩⟩
 case rest =>
  clear HC6
  try clear c1
  try clear c2
  try clear p2
  try clear p6
  try clear c8
  try clear c9
  try clear uu
  try clear ax
  try clear JR
  try clear Gs
  try clear vn
  try clear Fz
  try clear gw
  try clear fE
  try clear lI
  try clear MI
  try clear Ei
  try clear Di
  try clear Ci
  try clear Bi
  try clear Ai
  try clear NH
  try clear MH
  try clear yz
  try clear xz
  try clear wz
  try clear uz
  try clear rz
  try clear cw
  try clear bw
  try clear Zv
  try clear Yv
  try clear Xv
  try clear AP
  try clear zP
  try clear EH
  try clear DH
  try clear CH
  try clear BH
  try clear AH
  try clear qz
  try clear pz
  try clear oz
  try clear mz
  try clear kz
  try clear yP
  try clear xP
  try clear Eo
  try clear Co
  try clear Bo
  try clear zo
  try clear yo
  try clear Rv
  try clear Qv
  try clear Pv
  try clear Ov
  try clear Nv
  try clear wP
  try clear vP
  try clear lC
  try clear kC
  try clear jC
  try clear iC
  try clear fC
  try clear uP
  try clear tP
  try clear zi
  try clear si
  try clear qi
  try clear ni
  try clear ki
  try clear JG
  try clear IG
  try clear Xy
  try clear Wy
  try clear Vy
  try clear Uy
  try clear Ty
  try clear Mv
  try clear Lv
  try clear Kv
  try clear Jv
  try clear Iv
  try clear KO
  try clear JO
  try clear BG
  try clear AG
  try clear zG
  try clear yG
  try clear xG
  try clear Sy
  try clear Ry
  try clear Qy
  try clear Py
  try clear Oy
  try clear FO
  try clear EO
  try clear xo
  try clear vo
  try clear uo
  try clear qo
  try clear oo
  try clear Bv
  try clear Av
  try clear wv
  try clear vv
  try clear uv
  try clear CO
  try clear BO
  try clear OB
  try clear NB
  try clear MB
  try clear LB
  try clear KB
  try clear AO
  try clear zO
  obtain ⟨kq,QI,rfl,HA,HJ5,ta,ya,HB⟩:=hcut;cases kq with
  | zero=>exact absurd HA.out (by simp [zb.j0])
  | succ kj5 =>
   have H:=HA.out;clear HA;simp only [zb.j0] at H;have D_:=aa.mk H;clear H
   go_upto_region 5 with (fail)
   go_cut [62] (fun v62 wc=>∃ (kq:Nat) (WE:Bool),v62 = .bool WE∧aa (zb.j1 kq t103 t104 t105 QI WE Ma La Na Ka Ea Yc qc ec fc Qc Cd Zd=some r)∧aa (kq ≤ kj5)∧aa (wc.heap[za]? = some (.cells #[(.slice xb Ma.length qb),.int .i64 La,.int .i64 Na,.int .i64 Ka,(.slice Qb Ea.length Kb)] 45 (0,0)))∧aa (wc.heap[Ga]? = some (.cells #[.int .i64 Yc,.int .i64 qc,.int .i64 ec,.int .i64 fc,.int .i64 Qc,.int .i64 Cd,.string Zd] 122 (0,0)))∧aa (Below w.heap.size w wc))
   case first =>
    have H:=D_.out;clear D_
    by_cases ew:Yc=2
    ·rw [if_pos ew] at H;have Vu:(Yc == 2)=true:=beq_iff_eq.mpr ew;have V2:(Yc != 2)=false:=bne_eq_false_iff_eq.mpr ew;clear ew;(first|rw [Vu]|(simp only [Vb,Wb];rw [Vu])|skip)
     by_cases yu:Yc=4
     ·rw [if_pos yu] at H;have OA:(Yc == 4)=true:=beq_iff_eq.mpr yu;have U2:(Yc != 4)=false:=bne_eq_false_iff_eq.mpr yu;clear yu;have H':=aa.mk H;clear H;have Jav:=Eb.out;have bav:=Fb.out;have pH:wc.cell? ⟨Ga,0,none⟩=some (.int .i64 Yc):=(ja ya.out 0).trans rfl;have oH:wc.cell? ⟨Ga,1,none⟩=some (.int .i64 qc):=(ja ya.out 1).trans rfl;have nH:wc.cell? ⟨Ga,2,none⟩=some (.int .i64 ec):=(ja ya.out 2).trans rfl;have mH:wc.cell? ⟨Ga,3,none⟩=some (.int .i64 fc):=(ja ya.out 3).trans rfl;have lH:wc.cell? ⟨Ga,4,none⟩=some (.int .i64 Qc):=(ja ya.out 4).trans rfl;have DY:wc.cell? ⟨Ga,5,none⟩=some (.int .i64 Cd):=(ja ya.out 5).trans rfl;have CY:wc.cell? ⟨Ga,6,none⟩=some (.string Zd):=(ja ya.out 6).trans rfl;have lG:=ga ya.out 0;have kG:=ga ya.out 1;have jG:=ga ya.out 2;have iG:=ga ya.out 3;have gG:=ga ya.out 4;have qX:=ga ya.out 5;have pX:=ga ya.out 6;go_wp2
      go_meet
      case rel=>exact ⟨_,(false),(by first|rfl|(simp;done)|(simp [*];done)),H',⟨by have:=HJ5.out;first|omega|exact Nat.le_refl _⟩,⟨by (with_reducible repeat (first|refine Aa ?_ _|refine Fa ?_|refine Ba ?_ _));exact ta.out⟩,⟨by (with_reducible repeat (first|refine Aa ?_ _|refine Fa ?_|refine Ba ?_ _));exact ya.out⟩,⟨by repeat (first|(with_reducible first|exact HB.out|apply oa|apply ia|apply qa|refine ua ?_ Ua.out|refine ua ?_ Rc.out)|exact HB.out)⟩⟩
     ·rw [if_neg yu] at H;have OA:(Yc == 4)=false:=beq_eq_false_iff_ne.mpr yu;have U2:(Yc != 4)=true:=bne_iff_ne.mpr yu;have H':=aa.mk H;clear H;have Hav:=Eb.out;have Zau:=Fb.out;have nP:wc.cell? ⟨Ga,0,none⟩=some (.int .i64 Yc):=(ja ya.out 0).trans rfl;have mP:wc.cell? ⟨Ga,1,none⟩=some (.int .i64 qc):=(ja ya.out 1).trans rfl;have lP:wc.cell? ⟨Ga,2,none⟩=some (.int .i64 ec):=(ja ya.out 2).trans rfl;have kP:wc.cell? ⟨Ga,3,none⟩=some (.int .i64 fc):=(ja ya.out 3).trans rfl;have jP:wc.cell? ⟨Ga,4,none⟩=some (.int .i64 Qc):=(ja ya.out 4).trans rfl;have iP:wc.cell? ⟨Ga,5,none⟩=some (.int .i64 Cd):=(ja ya.out 5).trans rfl;have gP:wc.cell? ⟨Ga,6,none⟩=some (.string Zd):=(ja ya.out 6).trans rfl;have tO:=ga ya.out 0;have sO:=ga ya.out 1;have rO:=ga ya.out 2;have qO:=ga ya.out 3;have pO:=ga ya.out 4;have oO:=ga ya.out 5;have nO:=ga ya.out 6;go_wp2
      go_meet
      case rel=>exact ⟨_,((Qc != 0)),(by first|rfl|(simp;done)|(simp [*];done)),H',⟨by have:=HJ5.out;first|omega|exact Nat.le_refl _⟩,⟨by (with_reducible repeat (first|refine Aa ?_ _|refine Fa ?_|refine Ba ?_ _));exact ta.out⟩,⟨by (with_reducible repeat (first|refine Aa ?_ _|refine Fa ?_|refine Ba ?_ _));exact ya.out⟩,⟨by repeat (first|(with_reducible first|exact HB.out|apply oa|apply ia|apply qa|refine ua ?_ Ua.out|refine ua ?_ Rc.out)|exact HB.out)⟩⟩
    ·rw [if_neg ew] at H;have Vu:(Yc == 2)=false:=beq_eq_false_iff_ne.mpr ew;have V2:(Yc != 2)=true:=bne_iff_ne.mpr ew;(first|rw [Vu]|(simp only [Vb,Wb];rw [Vu])|skip)
     by_cases L2:Zd.toList=([]:List UInt8)
     ·rw [if_pos L2] at H;have K2:(Zd.toList == ([]:List UInt8))=true:=beq_iff_eq.mpr L2;have I2:(Zd.toList != ([]:List UInt8))=false:=bne_eq_false_iff_eq.mpr L2;clear L2
      by_cases G2:Yc=4
      ·rw [if_pos G2] at H;have F2:(Yc == 4)=true:=beq_iff_eq.mpr G2;have E2:(Yc != 4)=false:=bne_eq_false_iff_eq.mpr G2;clear G2;have H':=aa.mk H;clear H;have Taa:=Eb.out;have Kaa:=Fb.out;have eH:wc.cell? ⟨Ga,0,none⟩=some (.int .i64 Yc):=(ja ya.out 0).trans rfl;have dH:wc.cell? ⟨Ga,1,none⟩=some (.int .i64 qc):=(ja ya.out 1).trans rfl;have cH:wc.cell? ⟨Ga,2,none⟩=some (.int .i64 ec):=(ja ya.out 2).trans rfl;have bH:wc.cell? ⟨Ga,3,none⟩=some (.int .i64 fc):=(ja ya.out 3).trans rfl;have aH:wc.cell? ⟨Ga,4,none⟩=some (.int .i64 Qc):=(ja ya.out 4).trans rfl;have fP:wc.cell? ⟨Ga,5,none⟩=some (.int .i64 Cd):=(ja ya.out 5).trans rfl;have eP:wc.cell? ⟨Ga,6,none⟩=some (.string Zd):=(ja ya.out 6).trans rfl;have aG:=ga ya.out 0;have ZF:=ga ya.out 1;have YF:=ga ya.out 2;have XF:=ga ya.out 3;have VF:=ga ya.out 4;have mO:=ga ya.out 5;have kO:=ga ya.out 6;go_wp2
       go_meet
       case rel=>exact ⟨_,(false),(by first|rfl|(simp;done)|(simp [*];done)),H',⟨by have:=HJ5.out;first|omega|exact Nat.le_refl _⟩,⟨by (with_reducible repeat (first|refine Aa ?_ _|refine Fa ?_|refine Ba ?_ _));exact ta.out⟩,⟨by (with_reducible repeat (first|refine Aa ?_ _|refine Fa ?_|refine Ba ?_ _));exact ya.out⟩,⟨by repeat (first|(with_reducible first|exact HB.out|apply oa|apply ia|apply qa|refine ua ?_ Ua.out|refine ua ?_ Rc.out)|exact HB.out)⟩⟩
      ·rw [if_neg G2] at H;have F2:(Yc == 4)=false:=beq_eq_false_iff_ne.mpr G2;have E2:(Yc != 4)=true:=bne_iff_ne.mpr G2;have H':=aa.mk H;clear H;have Saa:=Eb.out;have Jaa:=Fb.out;have YB:wc.cell? ⟨Ga,0,none⟩=some (.int .i64 Yc):=(ja ya.out 0).trans rfl;have XB:wc.cell? ⟨Ga,1,none⟩=some (.int .i64 qc):=(ja ya.out 1).trans rfl;have WB:wc.cell? ⟨Ga,2,none⟩=some (.int .i64 ec):=(ja ya.out 2).trans rfl;have VB:wc.cell? ⟨Ga,3,none⟩=some (.int .i64 fc):=(ja ya.out 3).trans rfl;have UB:wc.cell? ⟨Ga,4,none⟩=some (.int .i64 Qc):=(ja ya.out 4).trans rfl;have pY:wc.cell? ⟨Ga,5,none⟩=some (.int .i64 Cd):=(ja ya.out 5).trans rfl;have oY:wc.cell? ⟨Ga,6,none⟩=some (.string Zd):=(ja ya.out 6).trans rfl;have CB:=ga ya.out 0;have BB:=ga ya.out 1;have AB:=ga ya.out 2;have zB:=ga ya.out 3;have yB:=ga ya.out 4;have dX:=ga ya.out 5;have cX:=ga ya.out 6;go_wp2
       go_meet
       case rel=>exact ⟨_,((Qc != 0)),(by first|rfl|(simp;done)|(simp [*];done)),H',⟨by have:=HJ5.out;first|omega|exact Nat.le_refl _⟩,⟨by (with_reducible repeat (first|refine Aa ?_ _|refine Fa ?_|refine Ba ?_ _));exact ta.out⟩,⟨by (with_reducible repeat (first|refine Aa ?_ _|refine Fa ?_|refine Ba ?_ _));exact ya.out⟩,⟨by repeat (first|(with_reducible first|exact HB.out|apply oa|apply ia|apply qa|refine ua ?_ Ua.out|refine ua ?_ Rc.out)|exact HB.out)⟩⟩
     ·rw [if_neg L2] at H;have K2:(Zd.toList == ([]:List UInt8))=false:=beq_eq_false_iff_ne.mpr L2;have I2:(Zd.toList != ([]:List UInt8))=true:=bne_iff_ne.mpr L2;have H':=aa.mk H;clear H;have Raa:=Eb.out;have Iaa:=Fb.out;have XO:wc.cell? ⟨Ga,0,none⟩=some (.int .i64 Yc):=(ja ya.out 0).trans rfl;have WO:wc.cell? ⟨Ga,1,none⟩=some (.int .i64 qc):=(ja ya.out 1).trans rfl;have VO:wc.cell? ⟨Ga,2,none⟩=some (.int .i64 ec):=(ja ya.out 2).trans rfl;have UO:wc.cell? ⟨Ga,3,none⟩=some (.int .i64 fc):=(ja ya.out 3).trans rfl;have RO:wc.cell? ⟨Ga,4,none⟩=some (.int .i64 Qc):=(ja ya.out 4).trans rfl;have iY:wc.cell? ⟨Ga,5,none⟩=some (.int .i64 Cd):=(ja ya.out 5).trans rfl;have hY:wc.cell? ⟨Ga,6,none⟩=some (.string Zd):=(ja ya.out 6).trans rfl;have cO:=ga ya.out 0;have bO:=ga ya.out 1;have ZN:=ga ya.out 2;have YN:=ga ya.out 3;have XN:=ga ya.out 4;have WW:=ga ya.out 5;have VW:=ga ya.out 6;go_wp2
      go_meet
      case rel=>exact ⟨_,(true),(by first|rfl|(simp;done)|(simp [*];done)),H',⟨by have:=HJ5.out;first|omega|exact Nat.le_refl _⟩,⟨by (with_reducible repeat (first|refine Aa ?_ _|refine Fa ?_|refine Ba ?_ _));exact ta.out⟩,⟨by (with_reducible repeat (first|refine Aa ?_ _|refine Fa ?_|refine Ba ?_ _));exact ya.out⟩,⟨by repeat (first|(with_reducible first|exact HB.out|apply oa|apply ia|apply qa|refine ua ?_ Ua.out|refine ua ?_ Rc.out)|exact HB.out)⟩⟩
   case rest =>
    clear D_
    try clear c1
    try clear c2
    try clear p2
    try clear c3
    try clear c4
    try clear p6
    try clear c8
    try clear c9
    try clear uu
    try clear ax
    try clear JR
    try clear Gs
    try clear vn
    try clear Fz
    try clear gw
    try clear fE
    try clear lI
    try clear MI
    try clear ew
    try clear Vu
    try clear V2
    try clear yu
    try clear OA
    try clear U2
    try clear kI
    try clear xx
    try clear L2
    try clear K2
    try clear I2
    try clear G2
    try clear F2
    try clear E2
    try clear GR
    try clear c39
    try clear c41
    try clear Ei
    try clear Di
    try clear Ci
    try clear Bi
    try clear Ai
    try clear NH
    try clear MH
    try clear yz
    try clear xz
    try clear wz
    try clear uz
    try clear rz
    try clear cw
    try clear bw
    try clear Zv
    try clear Yv
    try clear Xv
    try clear AP
    try clear zP
    try clear EH
    try clear DH
    try clear CH
    try clear BH
    try clear AH
    try clear qz
    try clear pz
    try clear oz
    try clear mz
    try clear kz
    try clear yP
    try clear xP
    try clear Eo
    try clear Co
    try clear Bo
    try clear zo
    try clear yo
    try clear Rv
    try clear Qv
    try clear Pv
    try clear Ov
    try clear Nv
    try clear wP
    try clear vP
    try clear lC
    try clear kC
    try clear jC
    try clear iC
    try clear fC
    try clear uP
    try clear tP
    try clear pH
    try clear oH
    try clear nH
    try clear mH
    try clear lH
    try clear DY
    try clear CY
    try clear nP
    try clear mP
    try clear lP
    try clear kP
    try clear jP
    try clear iP
    try clear gP
    try clear eH
    try clear dH
    try clear cH
    try clear bH
    try clear aH
    try clear fP
    try clear eP
    try clear YB
    try clear XB
    try clear WB
    try clear VB
    try clear UB
    try clear pY
    try clear oY
    try clear XO
    try clear WO
    try clear VO
    try clear UO
    try clear RO
    try clear iY
    try clear hY
    try clear zi
    try clear si
    try clear qi
    try clear ni
    try clear ki
    try clear JG
    try clear IG
    try clear Xy
    try clear Wy
    try clear Vy
    try clear Uy
    try clear Ty
    try clear Mv
    try clear Lv
    try clear Kv
    try clear Jv
    try clear Iv
    try clear KO
    try clear JO
    try clear BG
    try clear AG
    try clear zG
    try clear yG
    try clear xG
    try clear Sy
    try clear Ry
    try clear Qy
    try clear Py
    try clear Oy
    try clear FO
    try clear EO
    try clear xo
    try clear vo
    try clear uo
    try clear qo
    try clear oo
    try clear Bv
    try clear Av
    try clear wv
    try clear vv
    try clear uv
    try clear CO
    try clear BO
    try clear OB
    try clear NB
    try clear MB
    try clear LB
    try clear KB
    try clear AO
    try clear zO
    try clear lG
    try clear kG
    try clear jG
    try clear iG
    try clear gG
    try clear qX
    try clear pX
    try clear tO
    try clear sO
    try clear rO
    try clear qO
    try clear pO
    try clear oO
    try clear nO
    try clear aG
    try clear ZF
    try clear YF
    try clear XF
    try clear VF
    try clear mO
    try clear kO
    try clear CB
    try clear BB
    try clear AB
    try clear zB
    try clear yB
    try clear dX
    try clear cX
    try clear cO
    try clear bO
    try clear ZN
    try clear YN
    try clear XN
    try clear WW
    try clear VW
    try clear p2
    try clear p6
    obtain ⟨kq,WE,rfl,HA,jaA,ta,ya,HB⟩:=hcut;cases kq with
    | zero=>exact absurd HA.out (by simp [zb.j1])
    | succ BQ =>
     have H:=HA.out;clear HA;simp only [zb.j1] at H
     by_cases GP:WE=true
     ·subst GP;have H1:(some false)=some r:=by rw [if_pos rfl] at H;exact H
      clear H;have H:=H1;clear H1;obtain rfl:=Option.some.inj H;go_wp2;go_ret;exact ⟨by first|rfl|(simp [Ra,Qa] <;> rfl)|(simp [*,Ra,Qa] <;> rfl),by repeat (first|(with_reducible first|exact HB.out|apply oa|apply ia|apply qa|refine ua ?_ Ua.out|refine ua ?_ Rc.out)|exact HB.out)⟩
     ·replace GP:=Bool.eq_false_iff.mpr GP;subst GP;have H1:(if Yc=0 then (if t103=true then (if ec=0 then (some (fc == 0)) else (some false)) else (some false)) else (if Yc=1 then (if t103=true then (if t104=true then (if fc=0 then (some (Cd == 0)) else (some false)) else (some false)) else (some false)) else (if Yc=2 then (if t103=true then (if t104=true then (if t105=true then (if Cd=0 then ((lf.f BQ (([(⟨#[61,61]⟩:ByteArray),(⟨#[60]⟩:ByteArray),(⟨#[38]⟩:ByteArray),(⟨#[43]⟩:ByteArray),(⟨#[45]⟩:ByteArray),(⟨#[42]⟩:ByteArray)]:List ByteArray)) Zd).bind fun t111=>(some t111)) else (some false)) else (some false)) else (some false)) else (some false)) else (if Yc=3 then (if t103=true then (some QI) else (some false)) else (if Yc=4 then (if qc=0 then (if QI=true then ((mb.f Qc 0 (wrap64 (Ka - 1))).bind fun t112=>(some t112)) else (some false)) else (some false)) else (if Yc=5 then (if t103=true then (if ec=0 then (if fc=0 then (some (Cd == 0)) else (some false)) else (some false)) else (some false)) else (if Yc=6 then (if qc=0 then (if t104=true then (if fc=0 then (some (Cd == 0)) else (some false)) else (some false)) else (some false)) else (some false))))))))=some r:=by rw [if_neg (show ¬ (false=true) by decide)] at H;exact H
      clear H;have H:=H1;clear H1
      by_cases oD:Yc=0
      ·rw [if_pos oD] at H;have rK:(Yc == 0)=true:=beq_iff_eq.mpr oD;have qK:(Yc != 0)=false:=bne_eq_false_iff_eq.mpr oD;clear oD
       by_cases jI:t103=true
       ·subst jI;have H1:(if ec=0 then (some (fc == 0)) else (some false))=some r:=by rw [if_pos rfl] at H;exact H
        clear H;have H:=H1;clear H1
        by_cases jB:ec=0
        ·rw [if_pos jB] at H;have FP:(ec == 0)=true:=beq_iff_eq.mpr jB;have pU:(ec != 0)=false:=bne_eq_false_iff_eq.mpr jB;clear jB;obtain rfl:=Option.some.inj H;have M0:=Eb.out;have I0:=Fb.out;have ZG:wc.cell? ⟨Ga,0,none⟩=some (.int .i64 Yc):=(ja ya.out 0).trans rfl;have YG:wc.cell? ⟨Ga,1,none⟩=some (.int .i64 qc):=(ja ya.out 1).trans rfl;have XG:wc.cell? ⟨Ga,2,none⟩=some (.int .i64 ec):=(ja ya.out 2).trans rfl;have WG:wc.cell? ⟨Ga,3,none⟩=some (.int .i64 fc):=(ja ya.out 3).trans rfl;have VG:wc.cell? ⟨Ga,4,none⟩=some (.int .i64 Qc):=(ja ya.out 4).trans rfl;have WX:wc.cell? ⟨Ga,5,none⟩=some (.int .i64 Cd):=(ja ya.out 5).trans rfl;have VX:wc.cell? ⟨Ga,6,none⟩=some (.string Zd):=(ja ya.out 6).trans rfl;have UF:=ga ya.out 0;have SF:=ga ya.out 1;have RF:=ga ya.out 2;have QF:=ga ya.out 3;have PF:=ga ya.out 4;have KW:=ga ya.out 5;have JW:=ga ya.out 6;go_wp2;go_ret;exact ⟨by first|rfl|(simp [Ra,Qa] <;> rfl)|(simp [*,Ra,Qa] <;> rfl),by repeat (first|(with_reducible first|exact HB.out|apply oa|apply ia|apply qa|refine ua ?_ Ua.out|refine ua ?_ Rc.out)|exact HB.out)⟩
        ·rw [if_neg jB] at H;have FP:(ec == 0)=false:=beq_eq_false_iff_ne.mpr jB;have pU:(ec != 0)=true:=bne_iff_ne.mpr jB;obtain rfl:=Option.some.inj H;have Cav:=Eb.out;have Uau:=Fb.out;have OX:wc.cell? ⟨Ga,0,none⟩=some (.int .i64 Yc):=(ja ya.out 0).trans rfl;have NX:wc.cell? ⟨Ga,1,none⟩=some (.int .i64 qc):=(ja ya.out 1).trans rfl;have MX:wc.cell? ⟨Ga,2,none⟩=some (.int .i64 ec):=(ja ya.out 2).trans rfl;have LX:wc.cell? ⟨Ga,3,none⟩=some (.int .i64 fc):=(ja ya.out 3).trans rfl;have KX:wc.cell? ⟨Ga,4,none⟩=some (.int .i64 Qc):=(ja ya.out 4).trans rfl;have oan:wc.cell? ⟨Ga,5,none⟩=some (.int .i64 Cd):=(ja ya.out 5).trans rfl;have man:wc.cell? ⟨Ga,6,none⟩=some (.string Zd):=(ja ya.out 6).trans rfl;have CW:=ga ya.out 0;have AW:=ga ya.out 1;have zW:=ga ya.out 2;have xW:=ga ya.out 3;have wW:=ga ya.out 4;have Waj:=ga ya.out 5;have Vaj:=ga ya.out 6;go_wp2;go_ret;exact ⟨by first|rfl|(simp [Ra,Qa] <;> rfl)|(simp [*,Ra,Qa] <;> rfl),by repeat (first|(with_reducible first|exact HB.out|apply oa|apply ia|apply qa|refine ua ?_ Ua.out|refine ua ?_ Rc.out)|exact HB.out)⟩
       ·replace jI:=Bool.eq_false_iff.mpr jI;subst jI;have H1:(some false)=some r:=by rw [if_neg (show ¬ (false=true) by decide)] at H;exact H
        clear H;have H:=H1;clear H1;obtain rfl:=Option.some.inj H;have Qaa:=Eb.out;have Haa:=Fb.out;have QO:wc.cell? ⟨Ga,0,none⟩=some (.int .i64 Yc):=(ja ya.out 0).trans rfl;have PO:wc.cell? ⟨Ga,1,none⟩=some (.int .i64 qc):=(ja ya.out 1).trans rfl;have OO:wc.cell? ⟨Ga,2,none⟩=some (.int .i64 ec):=(ja ya.out 2).trans rfl;have MO:wc.cell? ⟨Ga,3,none⟩=some (.int .i64 fc):=(ja ya.out 3).trans rfl;have LO:wc.cell? ⟨Ga,4,none⟩=some (.int .i64 Qc):=(ja ya.out 4).trans rfl;have gan:wc.cell? ⟨Ga,5,none⟩=some (.int .i64 Cd):=(ja ya.out 5).trans rfl;have fan:wc.cell? ⟨Ga,6,none⟩=some (.string Zd):=(ja ya.out 6).trans rfl;have WN:=ga ya.out 0;have VN:=ga ya.out 1;have UN:=ga ya.out 2;have TN:=ga ya.out 3;have SN:=ga ya.out 4;have Paj:=ga ya.out 5;have Oaj:=ga ya.out 6;go_wp2;go_ret;exact ⟨by first|rfl|(simp [Ra,Qa] <;> rfl)|(simp [*,Ra,Qa] <;> rfl),by repeat (first|(with_reducible first|exact HB.out|apply oa|apply ia|apply qa|refine ua ?_ Ua.out|refine ua ?_ Rc.out)|exact HB.out)⟩
      ·rw [if_neg oD] at H;have rK:(Yc == 0)=false:=beq_eq_false_iff_ne.mpr oD;have qK:(Yc != 0)=true:=bne_iff_ne.mpr oD
       by_cases FR:Yc=1
       ·rw [if_pos FR] at H;have Z1:(Yc == 1)=true:=beq_iff_eq.mpr FR;have Wae:(Yc != 1)=false:=bne_eq_false_iff_eq.mpr FR;clear FR
        by_cases c54:t103=true
        ·subst c54;have H1:(if t104=true then (if fc=0 then (some (Cd == 0)) else (some false)) else (some false))=some r:=by rw [if_pos rfl] at H;exact H
         clear H;have H:=H1;clear H1
         by_cases c55:t104=true
         ·subst c55;have H1:(if fc=0 then (some (Cd == 0)) else (some false))=some r:=by rw [if_pos rfl] at H;exact H
          clear H;have H:=H1;clear H1
          by_cases X8:fc=0
          ·rw [if_pos X8] at H;have Vae:(fc == 0)=true:=beq_iff_eq.mpr X8;have Uae:(fc != 0)=false:=bne_eq_false_iff_eq.mpr X8;clear X8;obtain rfl:=Option.some.inj H;have yav:=Eb.out;have Qau:=Fb.out;have JX:wc.cell? ⟨Ga,0,none⟩=some (.int .i64 Yc):=(ja ya.out 0).trans rfl;have IX:wc.cell? ⟨Ga,1,none⟩=some (.int .i64 qc):=(ja ya.out 1).trans rfl;have GX:wc.cell? ⟨Ga,2,none⟩=some (.int .i64 ec):=(ja ya.out 2).trans rfl;have FX:wc.cell? ⟨Ga,3,none⟩=some (.int .i64 fc):=(ja ya.out 3).trans rfl;have EX:wc.cell? ⟨Ga,4,none⟩=some (.int .i64 Qc):=(ja ya.out 4).trans rfl;have Oam:wc.cell? ⟨Ga,5,none⟩=some (.int .i64 Cd):=(ja ya.out 5).trans rfl;have Nam:wc.cell? ⟨Ga,6,none⟩=some (.string Zd):=(ja ya.out 6).trans rfl;have vW:=ga ya.out 0;have uW:=ga ya.out 1;have tW:=ga ya.out 2;have sW:=ga ya.out 3;have rW:=ga ya.out 4;have yaj:=ga ya.out 5;have xaj:=ga ya.out 6;go_wp2;go_ret;exact ⟨by first|rfl|(simp [Ra,Qa] <;> rfl)|(simp [*,Ra,Qa] <;> rfl),by repeat (first|(with_reducible first|exact HB.out|apply oa|apply ia|apply qa|refine ua ?_ Ua.out|refine ua ?_ Rc.out)|exact HB.out)⟩
          ·rw [if_neg X8] at H;have Vae:(fc == 0)=false:=beq_eq_false_iff_ne.mpr X8;have Uae:(fc != 0)=true:=bne_iff_ne.mpr X8;obtain rfl:=Option.some.inj H;have xav:=Eb.out;have Pau:=Fb.out;have Mam:wc.cell? ⟨Ga,0,none⟩=some (.int .i64 Yc):=(ja ya.out 0).trans rfl;have Lam:wc.cell? ⟨Ga,1,none⟩=some (.int .i64 qc):=(ja ya.out 1).trans rfl;have Kam:wc.cell? ⟨Ga,2,none⟩=some (.int .i64 ec):=(ja ya.out 2).trans rfl;have Jam:wc.cell? ⟨Ga,3,none⟩=some (.int .i64 fc):=(ja ya.out 3).trans rfl;have Iam:wc.cell? ⟨Ga,4,none⟩=some (.int .i64 Qc):=(ja ya.out 4).trans rfl;have Ham:wc.cell? ⟨Ga,5,none⟩=some (.int .i64 Cd):=(ja ya.out 5).trans rfl;have Gam:wc.cell? ⟨Ga,6,none⟩=some (.string Zd):=(ja ya.out 6).trans rfl;have waj:=ga ya.out 0;have vaj:=ga ya.out 1;have uaj:=ga ya.out 2;have taj:=ga ya.out 3;have saj:=ga ya.out 4;have raj:=ga ya.out 5;have qaj:=ga ya.out 6;go_wp2;go_ret;exact ⟨by first|rfl|(simp [Ra,Qa] <;> rfl)|(simp [*,Ra,Qa] <;> rfl),by repeat (first|(with_reducible first|exact HB.out|apply oa|apply ia|apply qa|refine ua ?_ Ua.out|refine ua ?_ Rc.out)|exact HB.out)⟩
         ·replace c55:=Bool.eq_false_iff.mpr c55;subst c55;have H1:(some false)=some r:=by rw [if_neg (show ¬ (false=true) by decide)] at H;exact H
          clear H;have H:=H1;clear H1;obtain rfl:=Option.some.inj H;have wav:=Eb.out;have Oau:=Fb.out;have Fam:wc.cell? ⟨Ga,0,none⟩=some (.int .i64 Yc):=(ja ya.out 0).trans rfl;have Eam:wc.cell? ⟨Ga,1,none⟩=some (.int .i64 qc):=(ja ya.out 1).trans rfl;have Dam:wc.cell? ⟨Ga,2,none⟩=some (.int .i64 ec):=(ja ya.out 2).trans rfl;have Cam:wc.cell? ⟨Ga,3,none⟩=some (.int .i64 fc):=(ja ya.out 3).trans rfl;have Bam:wc.cell? ⟨Ga,4,none⟩=some (.int .i64 Qc):=(ja ya.out 4).trans rfl;have Aam:wc.cell? ⟨Ga,5,none⟩=some (.int .i64 Cd):=(ja ya.out 5).trans rfl;have zam:wc.cell? ⟨Ga,6,none⟩=some (.string Zd):=(ja ya.out 6).trans rfl;have paj:=ga ya.out 0;have oaj:=ga ya.out 1;have naj:=ga ya.out 2;have maj:=ga ya.out 3;have laj:=ga ya.out 4;have kaj:=ga ya.out 5;have jaj:=ga ya.out 6;go_wp2;go_ret;exact ⟨by first|rfl|(simp [Ra,Qa] <;> rfl)|(simp [*,Ra,Qa] <;> rfl),by repeat (first|(with_reducible first|exact HB.out|apply oa|apply ia|apply qa|refine ua ?_ Ua.out|refine ua ?_ Rc.out)|exact HB.out)⟩
        ·replace c54:=Bool.eq_false_iff.mpr c54;subst c54;have H1:(some false)=some r:=by rw [if_neg (show ¬ (false=true) by decide)] at H;exact H
         clear H;have H:=H1;clear H1;obtain rfl:=Option.some.inj H;have vav:=Eb.out;have Nau:=Fb.out;have yam:wc.cell? ⟨Ga,0,none⟩=some (.int .i64 Yc):=(ja ya.out 0).trans rfl;have xam:wc.cell? ⟨Ga,1,none⟩=some (.int .i64 qc):=(ja ya.out 1).trans rfl;have wam:wc.cell? ⟨Ga,2,none⟩=some (.int .i64 ec):=(ja ya.out 2).trans rfl;have vam:wc.cell? ⟨Ga,3,none⟩=some (.int .i64 fc):=(ja ya.out 3).trans rfl;have uam:wc.cell? ⟨Ga,4,none⟩=some (.int .i64 Qc):=(ja ya.out 4).trans rfl;have tam:wc.cell? ⟨Ga,5,none⟩=some (.int .i64 Cd):=(ja ya.out 5).trans rfl;have sam:wc.cell? ⟨Ga,6,none⟩=some (.string Zd):=(ja ya.out 6).trans rfl;have iaj:=ga ya.out 0;have gaj:=ga ya.out 1;have faj:=ga ya.out 2;have eaj:=ga ya.out 3;have daj:=ga ya.out 4;have caj:=ga ya.out 5;have baj:=ga ya.out 6;go_wp2;go_ret;exact ⟨by first|rfl|(simp [Ra,Qa] <;> rfl)|(simp [*,Ra,Qa] <;> rfl),by repeat (first|(with_reducible first|exact HB.out|apply oa|apply ia|apply qa|refine ua ?_ Ua.out|refine ua ?_ Rc.out)|exact HB.out)⟩
       ·rw [if_neg FR] at H;have Z1:(Yc == 1)=false:=beq_eq_false_iff_ne.mpr FR;have Wae:(Yc != 1)=true:=bne_iff_ne.mpr FR
        by_cases W8:Yc=2
        ·rw [if_pos W8] at H;have Tae:(Yc == 2)=true:=beq_iff_eq.mpr W8;have Sae:(Yc != 2)=false:=bne_eq_false_iff_eq.mpr W8;clear W8
         by_cases c66:t103=true
         ·subst c66;have H1:(if t104=true then (if t105=true then (if Cd=0 then ((lf.f BQ (([(⟨#[61,61]⟩:ByteArray),(⟨#[60]⟩:ByteArray),(⟨#[38]⟩:ByteArray),(⟨#[43]⟩:ByteArray),(⟨#[45]⟩:ByteArray),(⟨#[42]⟩:ByteArray)]:List ByteArray)) Zd).bind fun t111=>(some t111)) else (some false)) else (some false)) else (some false))=some r:=by rw [if_pos rfl] at H;exact H
          clear H;have H:=H1;clear H1
          by_cases c67:t104=true
          ·subst c67;have H1:(if t105=true then (if Cd=0 then ((lf.f BQ (([(⟨#[61,61]⟩:ByteArray),(⟨#[60]⟩:ByteArray),(⟨#[38]⟩:ByteArray),(⟨#[43]⟩:ByteArray),(⟨#[45]⟩:ByteArray),(⟨#[42]⟩:ByteArray)]:List ByteArray)) Zd).bind fun t111=>(some t111)) else (some false)) else (some false))=some r:=by rw [if_pos rfl] at H;exact H
           clear H;have H:=H1;clear H1
           by_cases c68:t105=true
           ·subst c68;have H1:(if Cd=0 then ((lf.f BQ (([(⟨#[61,61]⟩:ByteArray),(⟨#[60]⟩:ByteArray),(⟨#[38]⟩:ByteArray),(⟨#[43]⟩:ByteArray),(⟨#[45]⟩:ByteArray),(⟨#[42]⟩:ByteArray)]:List ByteArray)) Zd).bind fun t111=>(some t111)) else (some false))=some r:=by rw [if_pos rfl] at H;exact H
            clear H;have H:=H1;clear H1
            by_cases V8:Cd=0
            ·rw [if_pos V8] at H;have Rae:(Cd == 0)=true:=beq_iff_eq.mpr V8;have Qae:(Cd != 0)=false:=bne_eq_false_iff_eq.mpr V8;clear V8;obtain ⟨sC,Kk⟩:∃ y_:List ByteArray,y_=(([(⟨#[61,61]⟩:ByteArray),(⟨#[60]⟩:ByteArray),(⟨#[38]⟩:ByteArray),(⟨#[43]⟩:ByteArray),(⟨#[45]⟩:ByteArray),(⟨#[42]⟩:ByteArray)]:List ByteArray)):=⟨_,rfl⟩;replace H:((lf.f BQ sC Zd).bind fun t111=>(some t111))=some r:=by first|(rw [Kk];with_reducible exact H)|(have Ud:=(Option.bind_some _ _).symm.trans H;rw [Kk];with_reducible exact Ud)|(have Ud:=(Option.bind_some _ _).symm.trans H;with_reducible exact Ud)|with_reducible exact H|(rw [Kk];exact H)|exact H
             have Hw:=aa.mk Kk;clear Kk;replace H:=Option.bind_eq_some_iff.mp H;obtain ⟨t111,Yag,H⟩:=H;replace H:(some t111)=some r:=H;have jL:=aa.mk Yag;clear Yag;obtain rfl:=Option.some.inj H;have uav:=Eb.out;have Mau:=Fb.out;have ram:wc.cell? ⟨Ga,0,none⟩=some (.int .i64 Yc):=(ja ya.out 0).trans rfl;have qam:wc.cell? ⟨Ga,1,none⟩=some (.int .i64 qc):=(ja ya.out 1).trans rfl;have pam:wc.cell? ⟨Ga,2,none⟩=some (.int .i64 ec):=(ja ya.out 2).trans rfl;have oam:wc.cell? ⟨Ga,3,none⟩=some (.int .i64 fc):=(ja ya.out 3).trans rfl;have nam:wc.cell? ⟨Ga,4,none⟩=some (.int .i64 Qc):=(ja ya.out 4).trans rfl;have mam:wc.cell? ⟨Ga,5,none⟩=some (.int .i64 Cd):=(ja ya.out 5).trans rfl;have kam:wc.cell? ⟨Ga,6,none⟩=some (.string Zd):=(ja ya.out 6).trans rfl;have aaj:=ga ya.out 0;have Zai:=ga ya.out 1;have Yai:=ga ya.out 2;have Xai:=ga ya.out 3;have Wai:=ga ya.out 4;have Vai:=ga ya.out 5;have Uai:=ga ya.out 6;go_wp2_with (first|((with_reducible refine Bb (N:=109) rfl ?_);(try (refine Jj (by rfl) ?_;dsimp only));refine Kd.Bl Kd.string _ 9 ?hg (N:=109) ?hd (xs:=([(⟨#[61,61]⟩:ByteArray),(⟨#[60]⟩:ByteArray),(⟨#[38]⟩:ByteArray),(⟨#[43]⟩:ByteArray),(⟨#[45]⟩:ByteArray),(⟨#[42]⟩:ByteArray)]:List ByteArray)) (inner:=[.string (⟨#[61,61]⟩:ByteArray),.string (⟨#[60]⟩:ByteArray),.string (⟨#[38]⟩:ByteArray),.string (⟨#[43]⟩:ByteArray),.string (⟨#[45]⟩:ByteArray),.string (⟨#[42]⟩:ByteArray)]) (ok:=fun _=>True) (Oh:=fun _=>True) ?hr ?hp (fun _ hk=>hk) trivial (Below.refl _ _) (Nat.le_refl _) (by simp) ?_;(case hd=>rfl);(case hg=>rfl);(case hr=>first|(go_simp;done)|(go_simp;rfl));(case hp=>exact (Td.one (show Kd.M Kd.string _ _ _ (⟨#[61,61]⟩:ByteArray) [.string (⟨#[61,61]⟩:ByteArray)] from rfl) (Td.one (show Kd.M Kd.string _ _ _ (⟨#[60]⟩:ByteArray) [.string (⟨#[60]⟩:ByteArray)] from rfl) (Td.one (show Kd.M Kd.string _ _ _ (⟨#[38]⟩:ByteArray) [.string (⟨#[38]⟩:ByteArray)] from rfl) (Td.one (show Kd.M Kd.string _ _ _ (⟨#[43]⟩:ByteArray) [.string (⟨#[43]⟩:ByteArray)] from rfl) (Td.one (show Kd.M Kd.string _ _ _ (⟨#[45]⟩:ByteArray) [.string (⟨#[45]⟩:ByteArray)] from rfl) (Td.one (show Kd.M Kd.string _ _ _ (⟨#[42]⟩:ByteArray) [.string (⟨#[42]⟩:ByteArray)] from rfl) (Td.none _ _))))))));intro v109 D5 aT hb gl Ee;clear gl Ee;(first|rw [← Hw.out] at aT|(simp only [Int.reduceToNat] at aT;rw [← Hw.out] at aT));have Cb:=aa.mk (Kd.xe aT (Ja (by repeat (first|(with_reducible first|exact HB.out|apply oa|apply ia|apply qa|refine ua ?_ Ua.out|refine ua ?_ Rc.out)|exact HB.out))));have Lb:=aa.mk (Xa (g:=za) (o:=.cells #[.slice xb Ma.length qb,.int .i64 La,.int .i64 Na,.int .i64 Ka,.slice Qb Ea.length Kb] 45 (0,0)) (by (with_reducible repeat (first|refine Aa ?_ _|refine Fa ?_|refine Ba ?_ _));exact ta.out) hb);have Pb:=aa.mk (Xa (g:=Ga) (o:=.cells #[.int .i64 Yc,.int .i64 qc,.int .i64 ec,.int .i64 fc,.int .i64 Qc,.int .i64 Cd,.string Zd] 122 (0,0)) (by (with_reducible repeat (first|refine Aa ?_ _|refine Fa ?_|refine Ba ?_ _));exact ya.out) hb);have Ec:=aa.mk (Oa (by repeat (first|(with_reducible first|exact HB.out|apply oa|apply ia|apply qa|refine ua ?_ Ua.out|refine ua ?_ Rc.out)|exact HB.out)) hb);clear ta ya HB;have nu:=Cb;have ta:=Lb;have ya:=Pb;have HB:=Ec;clear Cb Lb Pb Ec hb aT;have jam:D5.cell? ⟨Ga,0,none⟩=some (.int .i64 Yc):=(ja ya.out 0).trans rfl;have iam:D5.cell? ⟨Ga,1,none⟩=some (.int .i64 qc):=(ja ya.out 1).trans rfl;have ham:D5.cell? ⟨Ga,2,none⟩=some (.int .i64 ec):=(ja ya.out 2).trans rfl;have gam:D5.cell? ⟨Ga,3,none⟩=some (.int .i64 fc):=(ja ya.out 3).trans rfl;have fam:D5.cell? ⟨Ga,4,none⟩=some (.int .i64 Qc):=(ja ya.out 4).trans rfl;have eam:D5.cell? ⟨Ga,5,none⟩=some (.int .i64 Cd):=(ja ya.out 5).trans rfl;have dam:D5.cell? ⟨Ga,6,none⟩=some (.string Zd):=(ja ya.out 6).trans rfl;have Tai:=ga ya.out 0;have Sai:=ga ya.out 1;have Rai:=ga ya.out 2;have Qai:=ga ya.out 3;have Pai:=ga ya.out 4;have Oai:=ga ya.out 5;have Nai:=ga ya.out 6;obtain ⟨waA,Aaz,Mar⟩:=Kd.xd nu.out;subst Mar)|(go_at_call 135;(with_reducible refine (lf.calls BQ _ _ sC Zd t111 _ ?jc ?ic jL.out).mono ?_);(case jc=>repeat (first|exact (Kd.Rb nu.out).2.2|(with_reducible refine Kd.Jb ?_ _)|(with_reducible refine Kd.Gb ?_ _)|(with_reducible refine Kd.dc ?_)));(case ic=>exact (Kd.Rb nu.out).2.1);rintro e w' ⟨rfl,⟨nd,rfl⟩⟩));go_ret;exact ⟨by first|rfl|(simp [Ra,Qa] <;> rfl)|(simp [*,Ra,Qa] <;> rfl),by repeat (first|(with_reducible first|exact HB.out|apply oa|apply ia|apply qa|refine ua ?_ Ua.out|refine ua ?_ Rc.out)|exact HB.out)⟩
            ·rw [if_neg V8] at H;have Rae:(Cd == 0)=false:=beq_eq_false_iff_ne.mpr V8;have Qae:(Cd != 0)=true:=bne_iff_ne.mpr V8;obtain rfl:=Option.some.inj H;have tav:=Eb.out;have Lau:=Fb.out;have cam:wc.cell? ⟨Ga,0,none⟩=some (.int .i64 Yc):=(ja ya.out 0).trans rfl;have bam:wc.cell? ⟨Ga,1,none⟩=some (.int .i64 qc):=(ja ya.out 1).trans rfl;have aam:wc.cell? ⟨Ga,2,none⟩=some (.int .i64 ec):=(ja ya.out 2).trans rfl;have Zal:wc.cell? ⟨Ga,3,none⟩=some (.int .i64 fc):=(ja ya.out 3).trans rfl;have Yal:wc.cell? ⟨Ga,4,none⟩=some (.int .i64 Qc):=(ja ya.out 4).trans rfl;have Xal:wc.cell? ⟨Ga,5,none⟩=some (.int .i64 Cd):=(ja ya.out 5).trans rfl;have Wal:wc.cell? ⟨Ga,6,none⟩=some (.string Zd):=(ja ya.out 6).trans rfl;have Mai:=ga ya.out 0;have Lai:=ga ya.out 1;have Kai:=ga ya.out 2;have Jai:=ga ya.out 3;have Iai:=ga ya.out 4;have Hai:=ga ya.out 5;have Gai:=ga ya.out 6;go_wp2;go_ret;exact ⟨by first|rfl|(simp [Ra,Qa] <;> rfl)|(simp [*,Ra,Qa] <;> rfl),by repeat (first|(with_reducible first|exact HB.out|apply oa|apply ia|apply qa|refine ua ?_ Ua.out|refine ua ?_ Rc.out)|exact HB.out)⟩
           ·replace c68:=Bool.eq_false_iff.mpr c68;subst c68;have H1:(some false)=some r:=by rw [if_neg (show ¬ (false=true) by decide)] at H;exact H
            clear H;have H:=H1;clear H1;obtain rfl:=Option.some.inj H;have sav:=Eb.out;have Kau:=Fb.out;have Ual:wc.cell? ⟨Ga,0,none⟩=some (.int .i64 Yc):=(ja ya.out 0).trans rfl;have Tal:wc.cell? ⟨Ga,1,none⟩=some (.int .i64 qc):=(ja ya.out 1).trans rfl;have Sal:wc.cell? ⟨Ga,2,none⟩=some (.int .i64 ec):=(ja ya.out 2).trans rfl;have Ral:wc.cell? ⟨Ga,3,none⟩=some (.int .i64 fc):=(ja ya.out 3).trans rfl;have Qal:wc.cell? ⟨Ga,4,none⟩=some (.int .i64 Qc):=(ja ya.out 4).trans rfl;have Pal:wc.cell? ⟨Ga,5,none⟩=some (.int .i64 Cd):=(ja ya.out 5).trans rfl;have Oal:wc.cell? ⟨Ga,6,none⟩=some (.string Zd):=(ja ya.out 6).trans rfl;have Fai:=ga ya.out 0;have Eai:=ga ya.out 1;have Dai:=ga ya.out 2;have Cai:=ga ya.out 3;have Bai:=ga ya.out 4;have Aai:=ga ya.out 5;have zai:=ga ya.out 6;go_wp2;go_ret;exact ⟨by first|rfl|(simp [Ra,Qa] <;> rfl)|(simp [*,Ra,Qa] <;> rfl),by repeat (first|(with_reducible first|exact HB.out|apply oa|apply ia|apply qa|refine ua ?_ Ua.out|refine ua ?_ Rc.out)|exact HB.out)⟩
          ·replace c67:=Bool.eq_false_iff.mpr c67;subst c67;have H1:(some false)=some r:=by rw [if_neg (show ¬ (false=true) by decide)] at H;exact H
           clear H;have H:=H1;clear H1;obtain rfl:=Option.some.inj H;have rav:=Eb.out;have Jau:=Fb.out;have Nal:wc.cell? ⟨Ga,0,none⟩=some (.int .i64 Yc):=(ja ya.out 0).trans rfl;have Mal:wc.cell? ⟨Ga,1,none⟩=some (.int .i64 qc):=(ja ya.out 1).trans rfl;have Lal:wc.cell? ⟨Ga,2,none⟩=some (.int .i64 ec):=(ja ya.out 2).trans rfl;have Kal:wc.cell? ⟨Ga,3,none⟩=some (.int .i64 fc):=(ja ya.out 3).trans rfl;have Jal:wc.cell? ⟨Ga,4,none⟩=some (.int .i64 Qc):=(ja ya.out 4).trans rfl;have Ial:wc.cell? ⟨Ga,5,none⟩=some (.int .i64 Cd):=(ja ya.out 5).trans rfl;have Hal:wc.cell? ⟨Ga,6,none⟩=some (.string Zd):=(ja ya.out 6).trans rfl;have yai:=ga ya.out 0;have xai:=ga ya.out 1;have wai:=ga ya.out 2;have vai:=ga ya.out 3;have uai:=ga ya.out 4;have tai:=ga ya.out 5;have sai:=ga ya.out 6;go_wp2;go_ret;exact ⟨by first|rfl|(simp [Ra,Qa] <;> rfl)|(simp [*,Ra,Qa] <;> rfl),by repeat (first|(with_reducible first|exact HB.out|apply oa|apply ia|apply qa|refine ua ?_ Ua.out|refine ua ?_ Rc.out)|exact HB.out)⟩
         ·replace c66:=Bool.eq_false_iff.mpr c66;subst c66;have H1:(some false)=some r:=by rw [if_neg (show ¬ (false=true) by decide)] at H;exact H
          clear H;have H:=H1;clear H1;obtain rfl:=Option.some.inj H;have qav:=Eb.out;have Iau:=Fb.out;have Gal:wc.cell? ⟨Ga,0,none⟩=some (.int .i64 Yc):=(ja ya.out 0).trans rfl;have Fal:wc.cell? ⟨Ga,1,none⟩=some (.int .i64 qc):=(ja ya.out 1).trans rfl;have Eal:wc.cell? ⟨Ga,2,none⟩=some (.int .i64 ec):=(ja ya.out 2).trans rfl;have Dal:wc.cell? ⟨Ga,3,none⟩=some (.int .i64 fc):=(ja ya.out 3).trans rfl;have Cal:wc.cell? ⟨Ga,4,none⟩=some (.int .i64 Qc):=(ja ya.out 4).trans rfl;have Bal:wc.cell? ⟨Ga,5,none⟩=some (.int .i64 Cd):=(ja ya.out 5).trans rfl;have Aal:wc.cell? ⟨Ga,6,none⟩=some (.string Zd):=(ja ya.out 6).trans rfl;have rai:=ga ya.out 0;have qai:=ga ya.out 1;have pai:=ga ya.out 2;have oai:=ga ya.out 3;have nai:=ga ya.out 4;have mai:=ga ya.out 5;have lai:=ga ya.out 6;go_wp2;go_ret;exact ⟨by first|rfl|(simp [Ra,Qa] <;> rfl)|(simp [*,Ra,Qa] <;> rfl),by repeat (first|(with_reducible first|exact HB.out|apply oa|apply ia|apply qa|refine ua ?_ Ua.out|refine ua ?_ Rc.out)|exact HB.out)⟩
        ·rw [if_neg W8] at H;have Tae:(Yc == 2)=false:=beq_eq_false_iff_ne.mpr W8;have Sae:(Yc != 2)=true:=bne_iff_ne.mpr W8
         by_cases U8:Yc=3
         ·rw [if_pos U8] at H;have Pae:(Yc == 3)=true:=beq_iff_eq.mpr U8;have Oae:(Yc != 3)=false:=bne_eq_false_iff_eq.mpr U8;clear U8
          by_cases c86:t103=true
          ·subst c86;have H1:(some QI)=some r:=by rw [if_pos rfl] at H;exact H
           clear H;have H:=H1;clear H1;obtain rfl:=Option.some.inj H;have pav:=Eb.out;have Hau:=Fb.out;have zal:wc.cell? ⟨Ga,0,none⟩=some (.int .i64 Yc):=(ja ya.out 0).trans rfl;have yal:wc.cell? ⟨Ga,1,none⟩=some (.int .i64 qc):=(ja ya.out 1).trans rfl;have xal:wc.cell? ⟨Ga,2,none⟩=some (.int .i64 ec):=(ja ya.out 2).trans rfl;have wal:wc.cell? ⟨Ga,3,none⟩=some (.int .i64 fc):=(ja ya.out 3).trans rfl;have ual:wc.cell? ⟨Ga,4,none⟩=some (.int .i64 Qc):=(ja ya.out 4).trans rfl;have tal:wc.cell? ⟨Ga,5,none⟩=some (.int .i64 Cd):=(ja ya.out 5).trans rfl;have sal:wc.cell? ⟨Ga,6,none⟩=some (.string Zd):=(ja ya.out 6).trans rfl;have kai:=ga ya.out 0;have jai:=ga ya.out 1;have iai:=ga ya.out 2;have gai:=ga ya.out 3;have fai:=ga ya.out 4;have eai:=ga ya.out 5;have dai:=ga ya.out 6;go_wp2;go_ret;exact ⟨by first|rfl|(simp [Ra,Qa] <;> rfl)|(simp [*,Ra,Qa] <;> rfl),by repeat (first|(with_reducible first|exact HB.out|apply oa|apply ia|apply qa|refine ua ?_ Ua.out|refine ua ?_ Rc.out)|exact HB.out)⟩
          ·replace c86:=Bool.eq_false_iff.mpr c86;subst c86;have H1:(some false)=some r:=by rw [if_neg (show ¬ (false=true) by decide)] at H;exact H
           clear H;have H:=H1;clear H1;obtain rfl:=Option.some.inj H;have oav:=Eb.out;have Gau:=Fb.out;have ral:wc.cell? ⟨Ga,0,none⟩=some (.int .i64 Yc):=(ja ya.out 0).trans rfl;have qal:wc.cell? ⟨Ga,1,none⟩=some (.int .i64 qc):=(ja ya.out 1).trans rfl;have pal:wc.cell? ⟨Ga,2,none⟩=some (.int .i64 ec):=(ja ya.out 2).trans rfl;have oal:wc.cell? ⟨Ga,3,none⟩=some (.int .i64 fc):=(ja ya.out 3).trans rfl;have nal:wc.cell? ⟨Ga,4,none⟩=some (.int .i64 Qc):=(ja ya.out 4).trans rfl;have mal:wc.cell? ⟨Ga,5,none⟩=some (.int .i64 Cd):=(ja ya.out 5).trans rfl;have lal:wc.cell? ⟨Ga,6,none⟩=some (.string Zd):=(ja ya.out 6).trans rfl;have cai:=ga ya.out 0;have bai:=ga ya.out 1;have aai:=ga ya.out 2;have Zah:=ga ya.out 3;have Yah:=ga ya.out 4;have Xah:=ga ya.out 5;have Wah:=ga ya.out 6;go_wp2;go_ret;exact ⟨by first|rfl|(simp [Ra,Qa] <;> rfl)|(simp [*,Ra,Qa] <;> rfl),by repeat (first|(with_reducible first|exact HB.out|apply oa|apply ia|apply qa|refine ua ?_ Ua.out|refine ua ?_ Rc.out)|exact HB.out)⟩
         ·rw [if_neg U8] at H;have Pae:(Yc == 3)=false:=beq_eq_false_iff_ne.mpr U8;have Oae:(Yc != 3)=true:=bne_iff_ne.mpr U8
          by_cases R8:Yc=4
          ·rw [if_pos R8] at H;have Nae:(Yc == 4)=true:=beq_iff_eq.mpr R8;have Mae:(Yc != 4)=false:=bne_eq_false_iff_eq.mpr R8;clear R8
           by_cases Q8:qc=0
           ·rw [if_pos Q8] at H;have Lae:(qc == 0)=true:=beq_iff_eq.mpr Q8;have Kae:(qc != 0)=false:=bne_eq_false_iff_eq.mpr Q8;clear Q8
            by_cases c93:QI=true
            ·subst c93;have H1:((mb.f Qc 0 (wrap64 (Ka - 1))).bind fun t112=>(some t112))=some r:=by rw [if_pos rfl] at H;exact H
             clear H;have H:=H1;clear H1;replace H:=Option.bind_eq_some_iff.mp H;obtain ⟨t112,Xag,H⟩:=H;replace H:(some t112)=some r:=H;have A94:=aa.mk Xag;clear Xag;obtain rfl:=Option.some.inj H;have nav:=Eb.out;have Fau:=Fb.out;have kal:wc.cell? ⟨Ga,0,none⟩=some (.int .i64 Yc):=(ja ya.out 0).trans rfl;have jal:wc.cell? ⟨Ga,1,none⟩=some (.int .i64 qc):=(ja ya.out 1).trans rfl;have ial:wc.cell? ⟨Ga,2,none⟩=some (.int .i64 ec):=(ja ya.out 2).trans rfl;have gal:wc.cell? ⟨Ga,3,none⟩=some (.int .i64 fc):=(ja ya.out 3).trans rfl;have fal:wc.cell? ⟨Ga,4,none⟩=some (.int .i64 Qc):=(ja ya.out 4).trans rfl;have eal:wc.cell? ⟨Ga,5,none⟩=some (.int .i64 Cd):=(ja ya.out 5).trans rfl;have dal:wc.cell? ⟨Ga,6,none⟩=some (.string Zd):=(ja ya.out 6).trans rfl;have Vah:=ga ya.out 0;have Uah:=ga ya.out 1;have Tah:=ga ya.out 2;have Sah:=ga ya.out 3;have Rah:=ga ya.out 4;have Qah:=ga ya.out 5;have Pah:=ga ya.out 6;have cal:wc.cell? ⟨za,0,none⟩=some (.slice xb Ma.length qb):=(ja ta.out 0).trans rfl;have bal:wc.cell? ⟨za,1,none⟩=some (.int .i64 La):=(ja ta.out 1).trans rfl;have aal:wc.cell? ⟨za,2,none⟩=some (.int .i64 Na):=(ja ta.out 2).trans rfl;have Zak:wc.cell? ⟨za,3,none⟩=some (.int .i64 Ka):=(ja ta.out 3).trans rfl;have Yak:wc.cell? ⟨za,4,none⟩=some (.slice Qb Ea.length Kb):=(ja ta.out 4).trans rfl;have Oah:=ga ta.out 0;have Nah:=ga ta.out 1;have Mah:=ga ta.out 2;have Lah:=ga ta.out 3;have Kah:=ga ta.out 4;go_wp2_with (first|(go_at_call 81;(with_reducible refine (mb.calls Qc 0 (wrap64 (Ka - 1)) t112 _ A94.out).mono ?_);rintro e w' ⟨rfl,⟨nd,rfl⟩⟩));go_ret;exact ⟨by first|rfl|(simp [Ra,Qa] <;> rfl)|(simp [*,Ra,Qa] <;> rfl),by repeat (first|(with_reducible first|exact HB.out|apply oa|apply ia|apply qa|refine ua ?_ Ua.out|refine ua ?_ Rc.out)|exact HB.out)⟩
            ·replace c93:=Bool.eq_false_iff.mpr c93;subst c93;have H1:(some false)=some r:=by rw [if_neg (show ¬ (false=true) by decide)] at H;exact H
             clear H;have H:=H1;clear H1;obtain rfl:=Option.some.inj H;have mav:=Eb.out;have Eau:=Fb.out;have Xak:wc.cell? ⟨Ga,0,none⟩=some (.int .i64 Yc):=(ja ya.out 0).trans rfl;have Wak:wc.cell? ⟨Ga,1,none⟩=some (.int .i64 qc):=(ja ya.out 1).trans rfl;have Vak:wc.cell? ⟨Ga,2,none⟩=some (.int .i64 ec):=(ja ya.out 2).trans rfl;have Uak:wc.cell? ⟨Ga,3,none⟩=some (.int .i64 fc):=(ja ya.out 3).trans rfl;have Tak:wc.cell? ⟨Ga,4,none⟩=some (.int .i64 Qc):=(ja ya.out 4).trans rfl;have Sak:wc.cell? ⟨Ga,5,none⟩=some (.int .i64 Cd):=(ja ya.out 5).trans rfl;have Rak:wc.cell? ⟨Ga,6,none⟩=some (.string Zd):=(ja ya.out 6).trans rfl;have Jah:=ga ya.out 0;have Iah:=ga ya.out 1;have Hah:=ga ya.out 2;have Gah:=ga ya.out 3;have Fah:=ga ya.out 4;have Eah:=ga ya.out 5;have Dah:=ga ya.out 6;go_wp2;go_ret;exact ⟨by first|rfl|(simp [Ra,Qa] <;> rfl)|(simp [*,Ra,Qa] <;> rfl),by repeat (first|(with_reducible first|exact HB.out|apply oa|apply ia|apply qa|refine ua ?_ Ua.out|refine ua ?_ Rc.out)|exact HB.out)⟩
           ·rw [if_neg Q8] at H;have Lae:(qc == 0)=false:=beq_eq_false_iff_ne.mpr Q8;have Kae:(qc != 0)=true:=bne_iff_ne.mpr Q8;obtain rfl:=Option.some.inj H;have Kaq:=Eb.out;have waq:=Fb.out;have aae:wc.cell? ⟨Ga,0,none⟩=some (.int .i64 Yc):=(ja ya.out 0).trans rfl;have Zad:wc.cell? ⟨Ga,1,none⟩=some (.int .i64 qc):=(ja ya.out 1).trans rfl;have Yad:wc.cell? ⟨Ga,2,none⟩=some (.int .i64 ec):=(ja ya.out 2).trans rfl;have Xad:wc.cell? ⟨Ga,3,none⟩=some (.int .i64 fc):=(ja ya.out 3).trans rfl;have Wad:wc.cell? ⟨Ga,4,none⟩=some (.int .i64 Qc):=(ja ya.out 4).trans rfl;have Vad:wc.cell? ⟨Ga,5,none⟩=some (.int .i64 Cd):=(ja ya.out 5).trans rfl;have Uad:wc.cell? ⟨Ga,6,none⟩=some (.string Zd):=(ja ya.out 6).trans rfl;have Bac:=ga ya.out 0;have Aac:=ga ya.out 1;have zac:=ga ya.out 2;have yac:=ga ya.out 3;have xac:=ga ya.out 4;have wac:=ga ya.out 5;have vac:=ga ya.out 6;go_wp2;go_ret;exact ⟨by first|rfl|(simp [Ra,Qa] <;> rfl)|(simp [*,Ra,Qa] <;> rfl),by repeat (first|(with_reducible first|exact HB.out|apply oa|apply ia|apply qa|refine ua ?_ Ua.out|refine ua ?_ Rc.out)|exact HB.out)⟩
          ·rw [if_neg R8] at H;have Nae:(Yc == 4)=false:=beq_eq_false_iff_ne.mpr R8;have Mae:(Yc != 4)=true:=bne_iff_ne.mpr R8
           by_cases CM:Yc=5
           ·rw [if_pos CM] at H;have D9:(Yc == 5)=true:=beq_iff_eq.mpr CM;have C9:(Yc != 5)=false:=bne_eq_false_iff_eq.mpr CM;clear CM
            by_cases jZ:t103=true
            ·subst jZ;have H1:(if ec=0 then (if fc=0 then (some (Cd == 0)) else (some false)) else (some false))=some r:=by rw [if_pos rfl] at H;exact H
             clear H;have H:=H1;clear H1
             by_cases BM:ec=0
             ·rw [if_pos BM] at H;have A9:(ec == 0)=true:=beq_iff_eq.mpr BM;have y9:(ec != 0)=false:=bne_eq_false_iff_eq.mpr BM;clear BM
              by_cases zM:fc=0
              ·rw [if_pos zM] at H;have u9:(fc == 0)=true:=beq_iff_eq.mpr zM;have r9:(fc != 0)=false:=bne_eq_false_iff_eq.mpr zM;clear zM;obtain rfl:=Option.some.inj H;have Jaq:=Eb.out;have vaq:=Fb.out;have Tad:wc.cell? ⟨Ga,0,none⟩=some (.int .i64 Yc):=(ja ya.out 0).trans rfl;have Sad:wc.cell? ⟨Ga,1,none⟩=some (.int .i64 qc):=(ja ya.out 1).trans rfl;have Rad:wc.cell? ⟨Ga,2,none⟩=some (.int .i64 ec):=(ja ya.out 2).trans rfl;have Qad:wc.cell? ⟨Ga,3,none⟩=some (.int .i64 fc):=(ja ya.out 3).trans rfl;have Pad:wc.cell? ⟨Ga,4,none⟩=some (.int .i64 Qc):=(ja ya.out 4).trans rfl;have Oad:wc.cell? ⟨Ga,5,none⟩=some (.int .i64 Cd):=(ja ya.out 5).trans rfl;have Nad:wc.cell? ⟨Ga,6,none⟩=some (.string Zd):=(ja ya.out 6).trans rfl;have uac:=ga ya.out 0;have sac:=ga ya.out 1;have rac:=ga ya.out 2;have qac:=ga ya.out 3;have pac:=ga ya.out 4;have oac:=ga ya.out 5;have nac:=ga ya.out 6;go_wp2;go_ret;exact ⟨by first|rfl|(simp [Ra,Qa] <;> rfl)|(simp [*,Ra,Qa] <;> rfl),by repeat (first|(with_reducible first|exact HB.out|apply oa|apply ia|apply qa|refine ua ?_ Ua.out|refine ua ?_ Rc.out)|exact HB.out)⟩
              ·rw [if_neg zM] at H;have u9:(fc == 0)=false:=beq_eq_false_iff_ne.mpr zM;have r9:(fc != 0)=true:=bne_iff_ne.mpr zM;obtain rfl:=Option.some.inj H;have Iaq:=Eb.out;have uaq:=Fb.out;have Mad:wc.cell? ⟨Ga,0,none⟩=some (.int .i64 Yc):=(ja ya.out 0).trans rfl;have Lad:wc.cell? ⟨Ga,1,none⟩=some (.int .i64 qc):=(ja ya.out 1).trans rfl;have Kad:wc.cell? ⟨Ga,2,none⟩=some (.int .i64 ec):=(ja ya.out 2).trans rfl;have Jad:wc.cell? ⟨Ga,3,none⟩=some (.int .i64 fc):=(ja ya.out 3).trans rfl;have Iad:wc.cell? ⟨Ga,4,none⟩=some (.int .i64 Qc):=(ja ya.out 4).trans rfl;have Had:wc.cell? ⟨Ga,5,none⟩=some (.int .i64 Cd):=(ja ya.out 5).trans rfl;have Gad:wc.cell? ⟨Ga,6,none⟩=some (.string Zd):=(ja ya.out 6).trans rfl;have mac:=ga ya.out 0;have lac:=ga ya.out 1;have kac:=ga ya.out 2;have jac:=ga ya.out 3;have iac:=ga ya.out 4;have gac:=ga ya.out 5;have fac:=ga ya.out 6;go_wp2;go_ret;exact ⟨by first|rfl|(simp [Ra,Qa] <;> rfl)|(simp [*,Ra,Qa] <;> rfl),by repeat (first|(with_reducible first|exact HB.out|apply oa|apply ia|apply qa|refine ua ?_ Ua.out|refine ua ?_ Rc.out)|exact HB.out)⟩
             ·rw [if_neg BM] at H;have A9:(ec == 0)=false:=beq_eq_false_iff_ne.mpr BM;have y9:(ec != 0)=true:=bne_iff_ne.mpr BM;obtain rfl:=Option.some.inj H;have Haq:=Eb.out;have taq:=Fb.out;have Fad:wc.cell? ⟨Ga,0,none⟩=some (.int .i64 Yc):=(ja ya.out 0).trans rfl;have Ead:wc.cell? ⟨Ga,1,none⟩=some (.int .i64 qc):=(ja ya.out 1).trans rfl;have Dad:wc.cell? ⟨Ga,2,none⟩=some (.int .i64 ec):=(ja ya.out 2).trans rfl;have Cad:wc.cell? ⟨Ga,3,none⟩=some (.int .i64 fc):=(ja ya.out 3).trans rfl;have Bad:wc.cell? ⟨Ga,4,none⟩=some (.int .i64 Qc):=(ja ya.out 4).trans rfl;have Aad:wc.cell? ⟨Ga,5,none⟩=some (.int .i64 Cd):=(ja ya.out 5).trans rfl;have zad:wc.cell? ⟨Ga,6,none⟩=some (.string Zd):=(ja ya.out 6).trans rfl;have eac:=ga ya.out 0;have dac:=ga ya.out 1;have cac:=ga ya.out 2;have bac:=ga ya.out 3;have aac:=ga ya.out 4;have Zab:=ga ya.out 5;have Yab:=ga ya.out 6;go_wp2;go_ret;exact ⟨by first|rfl|(simp [Ra,Qa] <;> rfl)|(simp [*,Ra,Qa] <;> rfl),by repeat (first|(with_reducible first|exact HB.out|apply oa|apply ia|apply qa|refine ua ?_ Ua.out|refine ua ?_ Rc.out)|exact HB.out)⟩
            ·replace jZ:=Bool.eq_false_iff.mpr jZ;subst jZ;have H1:(some false)=some r:=by rw [if_neg (show ¬ (false=true) by decide)] at H;exact H
             clear H;have H:=H1;clear H1;obtain rfl:=Option.some.inj H;have Gaq:=Eb.out;have saq:=Fb.out;have yad:wc.cell? ⟨Ga,0,none⟩=some (.int .i64 Yc):=(ja ya.out 0).trans rfl;have xad:wc.cell? ⟨Ga,1,none⟩=some (.int .i64 qc):=(ja ya.out 1).trans rfl;have wad:wc.cell? ⟨Ga,2,none⟩=some (.int .i64 ec):=(ja ya.out 2).trans rfl;have vad:wc.cell? ⟨Ga,3,none⟩=some (.int .i64 fc):=(ja ya.out 3).trans rfl;have uad:wc.cell? ⟨Ga,4,none⟩=some (.int .i64 Qc):=(ja ya.out 4).trans rfl;have tad:wc.cell? ⟨Ga,5,none⟩=some (.int .i64 Cd):=(ja ya.out 5).trans rfl;have sad:wc.cell? ⟨Ga,6,none⟩=some (.string Zd):=(ja ya.out 6).trans rfl;have Xab:=ga ya.out 0;have Wab:=ga ya.out 1;have Vab:=ga ya.out 2;have Uab:=ga ya.out 3;have Tab:=ga ya.out 4;have Sab:=ga ya.out 5;have Rab:=ga ya.out 6;go_wp2;go_ret;exact ⟨by first|rfl|(simp [Ra,Qa] <;> rfl)|(simp [*,Ra,Qa] <;> rfl),by repeat (first|(with_reducible first|exact HB.out|apply oa|apply ia|apply qa|refine ua ?_ Ua.out|refine ua ?_ Rc.out)|exact HB.out)⟩
           ·rw [if_neg CM] at H;have D9:(Yc == 5)=false:=beq_eq_false_iff_ne.mpr CM;have C9:(Yc != 5)=true:=bne_iff_ne.mpr CM
            by_cases yM:Yc=6
            ·rw [if_pos yM] at H;have o9:(Yc == 6)=true:=beq_iff_eq.mpr yM;have n9:(Yc != 6)=false:=bne_eq_false_iff_eq.mpr yM;clear yM
             by_cases xM:qc=0
             ·rw [if_pos xM] at H;have l9:(qc == 0)=true:=beq_iff_eq.mpr xM;have k9:(qc != 0)=false:=bne_eq_false_iff_eq.mpr xM;clear xM
              by_cases iZ:t104=true
              ·subst iZ;have H1:(if fc=0 then (some (Cd == 0)) else (some false))=some r:=by rw [if_pos rfl] at H;exact H
               clear H;have H:=H1;clear H1
               by_cases wM:fc=0
               ·rw [if_pos wM] at H;have j9:(fc == 0)=true:=beq_iff_eq.mpr wM;have e9:(fc != 0)=false:=bne_eq_false_iff_eq.mpr wM;clear wM;obtain rfl:=Option.some.inj H;have Faq:=Eb.out;have raq:=Fb.out;have rad:wc.cell? ⟨Ga,0,none⟩=some (.int .i64 Yc):=(ja ya.out 0).trans rfl;have qad:wc.cell? ⟨Ga,1,none⟩=some (.int .i64 qc):=(ja ya.out 1).trans rfl;have oad:wc.cell? ⟨Ga,2,none⟩=some (.int .i64 ec):=(ja ya.out 2).trans rfl;have nad:wc.cell? ⟨Ga,3,none⟩=some (.int .i64 fc):=(ja ya.out 3).trans rfl;have mad:wc.cell? ⟨Ga,4,none⟩=some (.int .i64 Qc):=(ja ya.out 4).trans rfl;have lad:wc.cell? ⟨Ga,5,none⟩=some (.int .i64 Cd):=(ja ya.out 5).trans rfl;have kad:wc.cell? ⟨Ga,6,none⟩=some (.string Zd):=(ja ya.out 6).trans rfl;have Qab:=ga ya.out 0;have Pab:=ga ya.out 1;have Oab:=ga ya.out 2;have Nab:=ga ya.out 3;have Mab:=ga ya.out 4;have Lab:=ga ya.out 5;have Kab:=ga ya.out 6;go_wp2;go_ret;exact ⟨by first|rfl|(simp [Ra,Qa] <;> rfl)|(simp [*,Ra,Qa] <;> rfl),by repeat (first|(with_reducible first|exact HB.out|apply oa|apply ia|apply qa|refine ua ?_ Ua.out|refine ua ?_ Rc.out)|exact HB.out)⟩
               ·rw [if_neg wM] at H;have j9:(fc == 0)=false:=beq_eq_false_iff_ne.mpr wM;have e9:(fc != 0)=true:=bne_iff_ne.mpr wM;obtain rfl:=Option.some.inj H;have Eaq:=Eb.out;have qaq:=Fb.out;have jad:wc.cell? ⟨Ga,0,none⟩=some (.int .i64 Yc):=(ja ya.out 0).trans rfl;have iad:wc.cell? ⟨Ga,1,none⟩=some (.int .i64 qc):=(ja ya.out 1).trans rfl;have gad:wc.cell? ⟨Ga,2,none⟩=some (.int .i64 ec):=(ja ya.out 2).trans rfl;have fad:wc.cell? ⟨Ga,3,none⟩=some (.int .i64 fc):=(ja ya.out 3).trans rfl;have ead:wc.cell? ⟨Ga,4,none⟩=some (.int .i64 Qc):=(ja ya.out 4).trans rfl;have dad:wc.cell? ⟨Ga,5,none⟩=some (.int .i64 Cd):=(ja ya.out 5).trans rfl;have cad:wc.cell? ⟨Ga,6,none⟩=some (.string Zd):=(ja ya.out 6).trans rfl;have Jab:=ga ya.out 0;have Iab:=ga ya.out 1;have Hab:=ga ya.out 2;have Gab:=ga ya.out 3;have Fab:=ga ya.out 4;have Eab:=ga ya.out 5;have Dab:=ga ya.out 6;go_wp2;go_ret;exact ⟨by first|rfl|(simp [Ra,Qa] <;> rfl)|(simp [*,Ra,Qa] <;> rfl),by repeat (first|(with_reducible first|exact HB.out|apply oa|apply ia|apply qa|refine ua ?_ Ua.out|refine ua ?_ Rc.out)|exact HB.out)⟩
              ·replace iZ:=Bool.eq_false_iff.mpr iZ;subst iZ;have H1:(some false)=some r:=by rw [if_neg (show ¬ (false=true) by decide)] at H;exact H
               clear H;have H:=H1;clear H1;obtain rfl:=Option.some.inj H;have Daq:=Eb.out;have paq:=Fb.out;have aad:wc.cell? ⟨Ga,0,none⟩=some (.int .i64 Yc):=(ja ya.out 0).trans rfl;have Zac:wc.cell? ⟨Ga,1,none⟩=some (.int .i64 qc):=(ja ya.out 1).trans rfl;have Yac:wc.cell? ⟨Ga,2,none⟩=some (.int .i64 ec):=(ja ya.out 2).trans rfl;have Xac:wc.cell? ⟨Ga,3,none⟩=some (.int .i64 fc):=(ja ya.out 3).trans rfl;have Wac:wc.cell? ⟨Ga,4,none⟩=some (.int .i64 Qc):=(ja ya.out 4).trans rfl;have Vac:wc.cell? ⟨Ga,5,none⟩=some (.int .i64 Cd):=(ja ya.out 5).trans rfl;have Uac:wc.cell? ⟨Ga,6,none⟩=some (.string Zd):=(ja ya.out 6).trans rfl;have Cab:=ga ya.out 0;have Bab:=ga ya.out 1;have Aab:=ga ya.out 2;have zab:=ga ya.out 3;have yab:=ga ya.out 4;have xab:=ga ya.out 5;have wab:=ga ya.out 6;go_wp2;go_ret;exact ⟨by first|rfl|(simp [Ra,Qa] <;> rfl)|(simp [*,Ra,Qa] <;> rfl),by repeat (first|(with_reducible first|exact HB.out|apply oa|apply ia|apply qa|refine ua ?_ Ua.out|refine ua ?_ Rc.out)|exact HB.out)⟩
             ·rw [if_neg xM] at H;have l9:(qc == 0)=false:=beq_eq_false_iff_ne.mpr xM;have k9:(qc != 0)=true:=bne_iff_ne.mpr xM;obtain rfl:=Option.some.inj H;have Caq:=Eb.out;have oaq:=Fb.out;have Tac:wc.cell? ⟨Ga,0,none⟩=some (.int .i64 Yc):=(ja ya.out 0).trans rfl;have Sac:wc.cell? ⟨Ga,1,none⟩=some (.int .i64 qc):=(ja ya.out 1).trans rfl;have Rac:wc.cell? ⟨Ga,2,none⟩=some (.int .i64 ec):=(ja ya.out 2).trans rfl;have Qac:wc.cell? ⟨Ga,3,none⟩=some (.int .i64 fc):=(ja ya.out 3).trans rfl;have Pac:wc.cell? ⟨Ga,4,none⟩=some (.int .i64 Qc):=(ja ya.out 4).trans rfl;have Oac:wc.cell? ⟨Ga,5,none⟩=some (.int .i64 Cd):=(ja ya.out 5).trans rfl;have Nac:wc.cell? ⟨Ga,6,none⟩=some (.string Zd):=(ja ya.out 6).trans rfl;have vab:=ga ya.out 0;have uab:=ga ya.out 1;have sab:=ga ya.out 2;have rab:=ga ya.out 3;have qab:=ga ya.out 4;have pab:=ga ya.out 5;have oab:=ga ya.out 6;go_wp2;go_ret;exact ⟨by first|rfl|(simp [Ra,Qa] <;> rfl)|(simp [*,Ra,Qa] <;> rfl),by repeat (first|(with_reducible first|exact HB.out|apply oa|apply ia|apply qa|refine ua ?_ Ua.out|refine ua ?_ Rc.out)|exact HB.out)⟩
            ·rw [if_neg yM] at H;have o9:(Yc == 6)=false:=beq_eq_false_iff_ne.mpr yM;have n9:(Yc != 6)=true:=bne_iff_ne.mpr yM;obtain rfl:=Option.some.inj H;have Baq:=Eb.out;have naq:=Fb.out;have Mac:wc.cell? ⟨Ga,0,none⟩=some (.int .i64 Yc):=(ja ya.out 0).trans rfl;have Lac:wc.cell? ⟨Ga,1,none⟩=some (.int .i64 qc):=(ja ya.out 1).trans rfl;have Kac:wc.cell? ⟨Ga,2,none⟩=some (.int .i64 ec):=(ja ya.out 2).trans rfl;have Jac:wc.cell? ⟨Ga,3,none⟩=some (.int .i64 fc):=(ja ya.out 3).trans rfl;have Iac:wc.cell? ⟨Ga,4,none⟩=some (.int .i64 Qc):=(ja ya.out 4).trans rfl;have Hac:wc.cell? ⟨Ga,5,none⟩=some (.int .i64 Cd):=(ja ya.out 5).trans rfl;have Gac:wc.cell? ⟨Ga,6,none⟩=some (.string Zd):=(ja ya.out 6).trans rfl;have mab:=ga ya.out 0;have lab:=ga ya.out 1;have kab:=ga ya.out 2;have jab:=ga ya.out 3;have iab:=ga ya.out 4;have gab:=ga ya.out 5;have fab:=ga ya.out 6;go_wp2;go_ret;exact ⟨by first|rfl|(simp [Ra,Qa] <;> rfl)|(simp [*,Ra,Qa] <;> rfl),by repeat (first|(with_reducible first|exact HB.out|apply oa|apply ia|apply qa|refine ua ?_ Ua.out|refine ua ?_ Rc.out)|exact HB.out)⟩
end Go.Proofs.Ytoomcmaifgkkfaa.P
end
