import Derived.Test.YtkigbdceceeenaaProg
import Derived.Below
import Derived.Deep.Draws
import Derived.Deep.AppendLies
import Derived.Maps.AppendAt
import Derived.OwnWalk
import Derived.Laws.BytesArg
import Derived.Laws.MakeOwn
import Derived.Laws.OwnMore
import Derived.Deep.OwnRows
import Derived.Tactics
import Derived.Lib.ConvBytes
import Derived.Laws.Slices
import Derived.WalkKit
import Derived.KernelRfl
import Derived.RowKit3
import Derived.Deep.LoopGhost
import Derived.Deep.QuietTactic
import Derived.BigQuiet
import Derived.WideLaws
import Derived.Deep.DeepCutAuto
import Derived.Deep.CutBlock
import Derived.Deep.RegionHeld3
import Derived.Laws.Rows
import Derived.Lib.AppendStr
import Derived.ArgAppend
import Derived.Laws.IdiomCopy
import Derived.OrdersHeld
import Derived.Laws.BitsLemmas
import Derived.RowKit
import Derived.Test.YtkigbdceceeenaaQSpilledW1
import Derived.Test.YtkigbdceceeenaaQSpilledW2
import Derived.Deep.Slices
import Derived.ChangeArms
import Derived.OpenShut
import Derived.WideShapes
set_option maxHeartbeats 8000000
set_option maxRecDepth 100000
section
namespace Go.Proofs.Ytkigbdceceeenaa.P
open Go.RowKit Go.Proofs.Ma.Wb Go.Proofs.Ma.Jd Go.Proofs.Ma.Fe
theorem BaH {P:Prop} (h:P:=by repeat (first|(with_reducible first|exact HB.out|apply qa|apply ja|apply ta|refine ua ?_ Ta.out)|exact HB.out)):P:=h
theorem CaH {P:Prop} (h:P:=by repeat (first|(with_reducible first|exact HB.out|apply qa|apply ja|apply ta)|exact HB.out)):P:=h
theorem DaH {P:Prop} (h:P:=by (with_reducible repeat (first|refine Ba ?_ _|refine Fa ?_|refine Ca ?_ _));exact oa.out):P:=h
theorem EaH {P:Prop} (h:P:=by repeat (first|(with_reducible first|exact HB.out|apply qa|apply ja|apply ta|refine ua ?_ Ta.out)|exact HB.out)):P:=h
theorem FaH {P:Prop} (h:P:=by (try simp only [List.map_toArray,List.map_cons,List.map_nil]);first|done|rfl|(simp only [List.length_drop,List.length_take];rfl)):P:=h
theorem GaH {P:Prop} (h:P:=by repeat (first|(with_reducible first|exact HB.out|apply qa|apply ja|apply ta|refine ua ?_ Ta.out|refine ua ?_ Jc.out)|exact HB.out)):P:=h
theorem HaH {P:Prop} (h:P:=by (with_reducible repeat (first|refine Ba ?_ _|refine Fa ?_|refine Ca ?_ _));exact oa.out):P:=h
theorem IaH {P:Prop} (h:P:=by first|rfl|(simp;done)|(simp [*];done)):P:=h
theorem JaH {P:Prop} (h:P:=by repeat (first|(with_reducible first|exact HB.out|apply qa|apply ja|apply ta)|exact HB.out)):P:=h
theorem KaH {P:Prop} (h:P:=by repeat (first|(with_reducible first|exact HB.out|apply qa|apply ja|apply ta|refine ua ?_ Ta.out|refine ua ?_ Jc.out)|exact HB.out)):P:=h
theorem LaH {P:Prop} (h:P:=by (with_reducible repeat (first|refine Ba ?_ _|refine Fa ?_|refine Ca ?_ _));exact Da.out):P:=h
theorem MaH {P:Prop} (h:P:=by repeat (first|(with_reducible first|exact HK.out|apply Kept.alloc|apply Kept.drewN|apply Kept.drew|refine Kept.setCell ?_ (.inr Nd.out) _)|exact HK.out)):P:=h
theorem NaH {P:Prop} (h:P:=by repeat (first|(with_reducible first|exact HB.out|apply qa|apply ja|apply ta|refine ua ?_ Ta.out|refine ua ?_ Zj.out)|exact HB.out)):P:=h
theorem OaH {P:Prop} (h:P:=by repeat (first|exact Xc.refl _|apply Xc.step)):P:=h
theorem PaH {P:Prop} (h:P:=by (with_reducible repeat (first|apply Kd.mb|apply Kd.jb|apply Kd.Gb));exact Qc.out):P:=h
theorem QaH {P:Prop} (h:P:=by repeat (first|(with_reducible first|exact HK.out|apply Kept.alloc|apply Kept.drewN|apply Kept.drew)|exact HK.out)):P:=h
theorem RaH {P:Prop} (h:P:=by (with_reducible repeat (first|refine Ba ?_ _|refine Fa ?_|refine Ca ?_ _));refine Vd (cs:=#[.slice Yh ((za Aa De).f0).length yg,.int .i64 ((za Aa De).f1),.int .i64 ((za Aa De).f2),.int .i64 ((za Aa De).f3),.int .i64 0]) ?_ 4 _ rfl;(with_reducible repeat (first|refine Ba ?_ _|refine Fa ?_|refine Ca ?_ _));refine Vd (cs:=#[.slice Yh ((za Aa De).f0).length yg,.int .i64 ((za Aa De).f1),.int .i64 ((za Aa De).f2),.int .i64 0,.int .i64 0]) ?_ 3 _ rfl;(with_reducible repeat (first|refine Ba ?_ _|refine Fa ?_|refine Ca ?_ _));refine Vd (cs:=#[.slice Yh ((za Aa De).f0).length yg,.int .i64 ((za Aa De).f1),.int .i64 0,.int .i64 0,.int .i64 0]) ?_ 2 _ rfl;(with_reducible repeat (first|refine Ba ?_ _|refine Fa ?_|refine Ca ?_ _));refine Vd (cs:=#[.slice Yh ((za Aa De).f0).length yg,.int .i64 0,.int .i64 0,.int .i64 0,.int .i64 0]) ?_ 1 _ rfl;(with_reducible repeat (first|refine Ba ?_ _|refine Fa ?_|refine Ca ?_ _));refine Vd (cs:=#[.slice none 0 0,.int .i64 0,.int .i64 0,.int .i64 0,.int .i64 0]) ?_ 0 _ rfl;(with_reducible repeat (first|refine Ba ?_ _|refine Fa ?_|refine Ca ?_ _));exact Cd.out):P:=h
theorem SaH {P:Prop} (h:P:=by repeat (first|(with_reducible first|exact HK.out|apply Kept.alloc|apply Kept.drewN|apply Kept.drew|refine Kept.setCell ?_ (.inr Nd.out) _)|exact HK.out)):P:=h
theorem TaH {P:Prop} (h:P:=by (with_reducible repeat (first|apply Kd.mb|apply Kd.jb|apply Kd.Gb));exact Qc.out):P:=h
theorem UaH {P:Prop} (h:P:=by (with_reducible repeat (first|refine Ba ?_ _|refine Fa ?_|refine Ca ?_ _));exact Da.out):P:=h
theorem VaH {P:Prop} (h:P:=by repeat (first|exact HB.out|(refine Na ?_ uu.out)|apply ja|apply ta|apply qa|refine ua ?_ (by first|omega|(simp;done)|(simp;omega)))):P:=h
theorem WaH {P:Prop} (h:P:=by repeat (first|(with_reducible first|exact HB.out|apply qa|apply ja|apply ta|refine ua ?_ Ta.out|refine ua ?_ Jc.out|refine ua ?_ Tv.out)|exact HB.out)):P:=h
theorem XaH {P:Prop} (h:P:=by (with_reducible repeat (first|apply Kd.mb|apply Kd.jb|apply Kd.Gb));exact Cg.out):P:=h
theorem YaH {P:Prop} (h:P:=by (with_reducible repeat (first|apply Kd.mb|apply Kd.jb|apply Kd.Gb));exact gf.out):P:=h
theorem ZaH {P:Prop} (h:P:=by (with_reducible repeat (first|refine Ba ?_ _|refine Fa ?_|refine Ca ?_ _));exact Cd.out):P:=h
theorem aaI {P:Prop} (h:P:=by (with_reducible repeat (first|refine Ba ?_ _|refine Fa ?_|refine Ca ?_ _));refine Ed ?_ Jf.out _;(with_reducible repeat (first|refine Ba ?_ _|refine Fa ?_|refine Ca ?_ _));refine Ed ?_ Jf.out _;(with_reducible repeat (first|refine Ba ?_ _|refine Fa ?_|refine Ca ?_ _));refine Ed ?_ Jf.out _;(with_reducible repeat (first|refine Ba ?_ _|refine Fa ?_|refine Ca ?_ _));refine Ed ?_ Jf.out _;(with_reducible repeat (first|refine Ba ?_ _|refine Fa ?_|refine Ca ?_ _));refine Ed ?_ Jf.out _;(with_reducible repeat (first|refine Ba ?_ _|refine Fa ?_|refine Ca ?_ _));exact oa.out):P:=h
theorem baI {P:Prop} (h:P:=by repeat (first|(with_reducible first|exact HK.out|apply Kept.alloc|apply Kept.drewN|apply Kept.drew)|exact HK.out)):P:=h
theorem caI {P:Prop} (h:P:=by (with_reducible repeat (first|apply Kd.uf|apply Kd.tf|apply Kd.dg));exact Qc.out):P:=h
theorem daI {P:Prop} (h:P:=by (with_reducible repeat (first|apply Kd.mb|apply Kd.jb|apply Kd.Gb));exact Zh.out):P:=h
theorem eaI {P:Prop} (h:P:=by repeat (first|(with_reducible first|exact HB.out|apply qa|apply ja|apply ta|refine ua ?_ Ta.out|refine ua ?_ Zj.out)|exact HB.out)):P:=h
theorem faI {P:Prop} (h:P:=by (with_reducible repeat (first|apply Kd.mb|apply Kd.jb|apply Kd.Gb));exact Cg.out):P:=h
theorem gaI {P:Prop} (h:P:=by repeat (first|(with_reducible exact Ao.out)|(with_reducible refine Kd.Lb ?_ _)|(with_reducible refine Kd.Kb ?_ _)|(with_reducible refine Kd.Xb ?_)|exact Ao.out)):P:=h
theorem haI {P:Prop} (h:P:=by repeat (first|(with_reducible exact Jk.out)|(with_reducible refine Kd.Lb ?_ _)|(with_reducible refine Kd.Kb ?_ _)|(with_reducible refine Kd.Xb ?_)|exact Jk.out)):P:=h
theorem iaI {P:Prop} (h:P:=by (with_reducible repeat (first|apply Kd.mb|apply Kd.jb|apply Kd.Gb));exact gf.out):P:=h
theorem jaI {P:Prop} (h:P:=by (with_reducible repeat (first|apply Kd.mb|apply Kd.jb|apply Kd.Gb));exact Dj.out):P:=h
theorem kaI {P:Prop} (h:P:=by repeat (first|(with_reducible first|exact HB.out|apply qa|apply ja|apply ta|refine ua ?_ Ta.out|refine ua ?_ Zj.out|refine ua ?_ ZC.out)|exact HB.out)):P:=h
theorem laI {P:Prop} (h:P:=by repeat (first|(with_reducible first|exact HB.out|apply qa|apply ja|apply ta|refine ua ?_ Ta.out|refine ua ?_ Zj.out|refine ua ?_ ZC.out)|exact HB.out)):P:=h
theorem maI {P:Prop} (h:P:=by (with_reducible repeat (first|apply Kd.mb|apply Kd.jb|apply Kd.Gb));exact Ij.out):P:=h
theorem naI {P:Prop} (h:P:=by (with_reducible repeat (first|apply Kd.uf|apply Kd.tf|apply Kd.dg));exact Zh.out):P:=h
theorem oaI {P:Prop} (h:P:=by (with_reducible repeat (first|apply Kd.uf|apply Kd.tf|apply Kd.dg));exact Jt.out):P:=h
theorem paI {P:Prop} (h:P:=by repeat (first|(with_reducible first|exact HB.out|apply qa|apply ja|apply ta|refine ua ?_ Ta.out|refine ua ?_ Jc.out|refine ua ?_ Tv.out)|exact HB.out)):P:=h
theorem qaI {P:Prop} (h:P:=by (with_reducible repeat (first|refine Ba ?_ _|refine Fa ?_|refine Ca ?_ _));exact Te.out):P:=h
theorem raI {P:Prop} (h:P:=by (with_reducible repeat (first|refine Ba ?_ _|refine Fa ?_|refine Ca ?_ _));exact Cd.out):P:=h
theorem saI {P:Prop} (h:P:=by (with_reducible repeat (first|apply Kd.uf|apply Kd.tf|apply Kd.dg));exact Qc.out):P:=h
theorem taI {P:Prop} (h:P:=by (with_reducible repeat (first|apply Kd.mb|apply Kd.jb|apply Kd.Gb));exact Zh.out):P:=h
theorem uaI {P:Prop} (h:P:=by (with_reducible repeat (first|apply Kd.mb|apply Kd.jb|apply Kd.Gb));exact Pr.out):P:=h
theorem vaI {P:Prop} (h:P:=by (with_reducible repeat (first|apply Kd.mb|apply Kd.jb|apply Kd.Gb));exact jH.out):P:=h
set_option linter.unusedVariables false
set_option linter.unusedSimpArgs false
attribute [local go_sem] Gi Xi Jj ak Sh Rh Yi Wi
def iaj:Option Int→Value
 | none=>.nilIface
 | some c=>.iface 0 (.int .i64 c)
theorem Pa:iaj none = .nilIface:=rfl
theorem Oa (c:Int):iaj (some c) = .iface 0 (.int .i64 c):=rfl
theorem info3:(Try.prog.info? 3).map (fun i=>(i.zero,i.size,i.bytes))=some (some (.int .i64 0),1,8):=by kernel_rfl
theorem Qv:(Try.prog.info? 4).map (fun i=>(i.zero,i.size,i.bytes))=some (some (.bool false),1,1):=by kernel_rfl
theorem Saa:(Try.prog.info? 59).map (fun i=>(i.zero,i.size,i.bytes))=some (some (.agg #[(.slice none 0 0),(.int .i64 0),(.int .i64 0),(.int .i64 0),(.int .i64 0)]),5,56):=by kernel_rfl
theorem cF:(Try.prog.info? 60).map (fun i=>(i.zero,i.size,i.bytes))=some (some (.slice none 0 0),1,24):=by kernel_rfl
theorem Raa:(Try.prog.info? 65).map (fun i=>(i.zero,i.size,i.bytes))=some (some (.agg #[(.int .i64 0),(.int .i64 0),(.int .i64 0),(.int .i64 0),(.int .i64 0),(.int .i64 0),(.string ⟨#[]⟩)]),7,64):=by kernel_rfl
structure S7 where
 f0:Int
 f1:Int
 f2:Bool
 f3:Int
def z7:S7:=⟨(0:Int),(0:Int),false,(0:Int)⟩
structure S8 where
 f0:Int
 f1:Int
 f2:Bool
 f3:Int
def z8:S8:=⟨(0:Int),(0:Int),false,(0:Int)⟩
structure Np where
 f0:Int
 f1:Int
 f2:Int
 f3:Int
 f4:Int
 f5:Int
 f6:ByteArray
def xae:Np:=⟨(0:Int),(0:Int),(0:Int),(0:Int),(0:Int),(0:Int),(⟨#[]⟩:ByteArray)⟩
def ZE:Kd Np:=Kd.ZZ (Kd.pair (Kd.int .i64) (Kd.pair (Kd.int .i64) (Kd.pair (Kd.int .i64) (Kd.pair (Kd.int .i64) (Kd.pair (Kd.int .i64) (Kd.pair (Kd.int .i64) Kd.string)))))) (fun x:Np=>(x.f0,x.f1,x.f2,x.f3,x.f4,x.f5,x.f6))
theorem FU {w:World} {x:Np} {cs:List Value} (h:ZE.K w x cs):cs=[.int .i64 x.f0,.int .i64 x.f1,.int .i64 x.f2,.int .i64 x.f3,.int .i64 x.f4,.int .i64 x.f5,.string x.f6]:=by
 obtain ⟨_,_,rfl,rfl,⟨_,_,rfl,rfl,⟨_,_,rfl,rfl,⟨_,_,rfl,rfl,⟨_,_,rfl,rfl,⟨_,_,rfl,rfl,rfl⟩⟩⟩⟩⟩⟩:=h;exact rfl
def Vc (xs:List Np) (i:Int):Np:=xs.getD i.toNat xae
theorem sK {w:World} {A:Option Addr} {n:Nat} {xs:List Np} (h:Kd.C ZE w A n xs) (i:Int) (h0:0 ≤ i) (h1:i < n):∃ ad , A=some ad∧w.cell? (ad.add (i.toNat * 7))=some (.int .i64 (Vc xs i).f0)∧w.cell? ⟨(ad.add (i.toNat * 7)).block,(ad.add (i.toNat * 7)).off + 1,none⟩=some (.int .i64 (Vc xs i).f1)∧w.cell? ⟨(ad.add (i.toNat * 7)).block,(ad.add (i.toNat * 7)).off + 2,none⟩=some (.int .i64 (Vc xs i).f2)∧w.cell? ⟨(ad.add (i.toNat * 7)).block,(ad.add (i.toNat * 7)).off + 3,none⟩=some (.int .i64 (Vc xs i).f3)∧w.cell? ⟨(ad.add (i.toNat * 7)).block,(ad.add (i.toNat * 7)).off + 4,none⟩=some (.int .i64 (Vc xs i).f4)∧w.cell? ⟨(ad.add (i.toNat * 7)).block,(ad.add (i.toNat * 7)).off + 5,none⟩=some (.int .i64 (Vc xs i).f5)∧w.cell? ⟨(ad.add (i.toNat * 7)).block,(ad.add (i.toNat * 7)).off + 6,none⟩=some (.string (Vc xs i).f6):=by
 obtain ⟨ad,c,e,_,hK,hc0⟩:=Kd.fN h xae i h0 h1;have hc:∀ j u,c[j]? = some u→w.cell? (ad.add (i.toNat * 7 + j))=some u:=hc0;obtain rfl:=FU hK;exact ⟨ad,e,hc 0 _ rfl,by rw [← ng _ _ 1 (by omega)];exact hc 1 _ rfl,by rw [← ng _ _ 2 (by omega)];exact hc 2 _ rfl,by rw [← ng _ _ 3 (by omega)];exact hc 3 _ rfl,by rw [← ng _ _ 4 (by omega)];exact hc 4 _ rfl,by rw [← ng _ _ 5 (by omega)];exact hc 5 _ rfl,by rw [← ng _ _ 6 (by omega)];exact hc 6 _ rfl⟩
structure fz where
 f0:(List Np)
 f1:Int
 f2:Int
 f3:Int
 f4:Int
def z86:fz:=⟨([]:List Np),(0:Int),(0:Int),(0:Int),(0:Int)⟩
def rW:Kd fz:=Kd.ZZ (Kd.pair (Kd.slice 124 ZE) (Kd.pair (Kd.int .i64) (Kd.pair (Kd.int .i64) (Kd.pair (Kd.int .i64) (Kd.int .i64))))) (fun x:fz=>(x.f0,x.f1,x.f2,x.f3,x.f4))
theorem qW {w:World} {x:fz} {cs:List Value} (h:rW.K w x cs):∃ A0 c0,cs=[.slice A0 x.f0.length c0,.int .i64 x.f1,.int .i64 x.f2,.int .i64 x.f3,.int .i64 x.f4]∧x.f0.length ≤ c0∧ZE.C w A0 x.f0.length x.f0:=by
 obtain ⟨_,_,rfl,⟨A0,c0,rfl,l0,g0⟩,⟨_,_,rfl,rfl,⟨_,_,rfl,rfl,⟨_,_,rfl,rfl,rfl⟩⟩⟩⟩:=h;exact ⟨A0,c0,rfl,l0,g0⟩
def Je (xs:List fz) (i:Int):fz:=xs.getD i.toNat z86
theorem cP {w:World} {A:Option Addr} {n:Nat} {xs:List fz} (h:Kd.C rW w A n xs) (i:Int) (h0:0 ≤ i) (h1:i < n):∃ ad A0 c0,A=some ad∧w.cell? (ad.add (i.toNat * 5))=some (.slice A0 (Je xs i).f0.length c0)∧w.cell? ⟨(ad.add (i.toNat * 5)).block,(ad.add (i.toNat * 5)).off + 1,none⟩=some (.int .i64 (Je xs i).f1)∧w.cell? ⟨(ad.add (i.toNat * 5)).block,(ad.add (i.toNat * 5)).off + 2,none⟩=some (.int .i64 (Je xs i).f2)∧w.cell? ⟨(ad.add (i.toNat * 5)).block,(ad.add (i.toNat * 5)).off + 3,none⟩=some (.int .i64 (Je xs i).f3)∧w.cell? ⟨(ad.add (i.toNat * 5)).block,(ad.add (i.toNat * 5)).off + 4,none⟩=some (.int .i64 (Je xs i).f4)∧(Je xs i).f0.length ≤ c0∧ZE.C w A0 (Je xs i).f0.length (Je xs i).f0:=by
 obtain ⟨ad,c,e,_,hK,hc0⟩:=Kd.fN h z86 i h0 h1;have hc:∀ j u,c[j]? = some u→w.cell? (ad.add (i.toNat * 5 + j))=some u:=hc0;obtain ⟨A0,c0,rfl,l0,g0⟩:=qW hK;exact ⟨ad,A0,c0,e,hc 0 _ rfl,by rw [← ng _ _ 1 (by omega)];exact hc 1 _ rfl,by rw [← ng _ _ 2 (by omega)];exact hc 2 _ rfl,by rw [← ng _ _ 3 (by omega)];exact hc 3 _ rfl,by rw [← ng _ _ 4 (by omega)];exact hc 4 _ rfl,l0,g0⟩
structure S25 where
 f0:(List Int)
 f1:Int
 f2:Int
 f3:Int
 f4:(List fz)
def k25:Kd S25:=Kd.ZZ (Kd.pair (Kd.slice 3 (Kd.int .i64)) (Kd.pair (Kd.int .i64) (Kd.pair (Kd.int .i64) (Kd.pair (Kd.int .i64) (Kd.slice 86 rW))))) (fun x:S25=>(x.f0,x.f1,x.f2,x.f3,x.f4))
theorem wW {w:World} {x:S25} {cs:List Value} (h:k25.K w x cs):∃ A0 c0 A4 c4,cs=[.slice A0 x.f0.length c0,.int .i64 x.f1,.int .i64 x.f2,.int .i64 x.f3,.slice A4 x.f4.length c4]∧x.f0.length ≤ c0∧(Kd.int .i64).C w A0 x.f0.length x.f0∧x.f4.length ≤ c4∧rW.C w A4 x.f4.length x.f4:=by
 obtain ⟨_,_,rfl,⟨A0,c0,rfl,l0,g0⟩,⟨_,_,rfl,rfl,⟨_,_,rfl,rfl,⟨_,_,rfl,rfl,⟨A4,c4,rfl,l4,g4⟩⟩⟩⟩⟩:=h;exact ⟨A0,c0,A4,c4,rfl,l0,g0,l4,g4⟩
structure Le where
 f0:Int
 f1:Int
 f2:Int
 f3:Int
 f4:Int
 f5:Int
 f6:ByteArray
def Ew:Le:=⟨(0:Int),(0:Int),(0:Int),(0:Int),(0:Int),(0:Int),(⟨#[]⟩:ByteArray)⟩
def Wk:Kd Le:=Kd.ZZ (Kd.pair (Kd.int .i64) (Kd.pair (Kd.int .i64) (Kd.pair (Kd.int .i64) (Kd.pair (Kd.int .i64) (Kd.pair (Kd.int .i64) (Kd.pair (Kd.int .i64) Kd.string)))))) (fun x:Le=>(x.f0,x.f1,x.f2,x.f3,x.f4,x.f5,x.f6))
theorem tW:Kd.Heap Wk:=Kd.VL _ (Kd.Sk (Kd.Rl .i64) (Kd.Sk (Kd.Rl .i64) (Kd.Sk (Kd.Rl .i64) (Kd.Sk (Kd.Rl .i64) (Kd.Sk (Kd.Rl .i64) (Kd.Sk (Kd.Rl .i64) Kd.UL))))))
theorem sW {w:World} {x:Le} {cs:List Value} (h:Wk.K w x cs):cs=[.int .i64 x.f0,.int .i64 x.f1,.int .i64 x.f2,.int .i64 x.f3,.int .i64 x.f4,.int .i64 x.f5,.string x.f6]:=by
 obtain ⟨_,_,rfl,rfl,⟨_,_,rfl,rfl,⟨_,_,rfl,rfl,⟨_,_,rfl,rfl,⟨_,_,rfl,rfl,⟨_,_,rfl,rfl,rfl⟩⟩⟩⟩⟩⟩:=h;exact rfl
theorem Gh {w:World} {base:Nat} {ok:Nat→Prop} {x:Le} {cs:List Value} (h:Wk.M w base ok x cs):cs=[.int .i64 x.f0,.int .i64 x.f1,.int .i64 x.f2,.int .i64 x.f3,.int .i64 x.f4,.int .i64 x.f5,.string x.f6]:=by
 obtain ⟨_,_,rfl,rfl,⟨_,_,rfl,rfl,⟨_,_,rfl,rfl,⟨_,_,rfl,rfl,⟨_,_,rfl,rfl,⟨_,_,rfl,rfl,rfl⟩⟩⟩⟩⟩⟩:=h;exact rfl
theorem gq (w:World) (base:Nat) (ok:Nat→Prop) (x:Le)  : Wk.M w base ok x [.int .i64 x.f0,.int .i64 x.f1,.int .i64 x.f2,.int .i64 x.f3,.int .i64 x.f4,.int .i64 x.f5,.string x.f6]:=⟨[.int .i64 x.f0],[.int .i64 x.f1,.int .i64 x.f2,.int .i64 x.f3,.int .i64 x.f4,.int .i64 x.f5,.string x.f6],rfl,rfl,⟨[.int .i64 x.f1],[.int .i64 x.f2,.int .i64 x.f3,.int .i64 x.f4,.int .i64 x.f5,.string x.f6],rfl,rfl,⟨[.int .i64 x.f2],[.int .i64 x.f3,.int .i64 x.f4,.int .i64 x.f5,.string x.f6],rfl,rfl,⟨[.int .i64 x.f3],[.int .i64 x.f4,.int .i64 x.f5,.string x.f6],rfl,rfl,⟨[.int .i64 x.f4],[.int .i64 x.f5,.string x.f6],rfl,rfl,⟨[.int .i64 x.f5],[.string x.f6],rfl,rfl,rfl⟩⟩⟩⟩⟩⟩
def Ea (xs:List Le) (i:Int):Le:=xs.getD i.toNat Ew
theorem Jm {w:World} {A:Option Addr} {n:Nat} {xs:List Le} (h:Kd.C Wk w A n xs) (i:Int) (h0:0 ≤ i) (h1:i < n):∃ ad , A=some ad∧w.cell? (ad.add (i.toNat * 7))=some (.int .i64 (Ea xs i).f0)∧w.cell? ⟨(ad.add (i.toNat * 7)).block,(ad.add (i.toNat * 7)).off + 1,none⟩=some (.int .i64 (Ea xs i).f1)∧w.cell? ⟨(ad.add (i.toNat * 7)).block,(ad.add (i.toNat * 7)).off + 2,none⟩=some (.int .i64 (Ea xs i).f2)∧w.cell? ⟨(ad.add (i.toNat * 7)).block,(ad.add (i.toNat * 7)).off + 3,none⟩=some (.int .i64 (Ea xs i).f3)∧w.cell? ⟨(ad.add (i.toNat * 7)).block,(ad.add (i.toNat * 7)).off + 4,none⟩=some (.int .i64 (Ea xs i).f4)∧w.cell? ⟨(ad.add (i.toNat * 7)).block,(ad.add (i.toNat * 7)).off + 5,none⟩=some (.int .i64 (Ea xs i).f5)∧w.cell? ⟨(ad.add (i.toNat * 7)).block,(ad.add (i.toNat * 7)).off + 6,none⟩=some (.string (Ea xs i).f6):=by
 obtain ⟨ad,c,e,_,hK,hc0⟩:=Kd.fN h Ew i h0 h1;have hc:∀ j u,c[j]? = some u→w.cell? (ad.add (i.toNat * 7 + j))=some u:=hc0;obtain rfl:=sW hK;exact ⟨ad,e,hc 0 _ rfl,by rw [← ng _ _ 1 (by omega)];exact hc 1 _ rfl,by rw [← ng _ _ 2 (by omega)];exact hc 2 _ rfl,by rw [← ng _ _ 3 (by omega)];exact hc 3 _ rfl,by rw [← ng _ _ 4 (by omega)];exact hc 4 _ rfl,by rw [← ng _ _ 5 (by omega)];exact hc 5 _ rfl,by rw [← ng _ _ 6 (by omega)];exact hc 6 _ rfl⟩
structure He where
 f0:(List Le)
 f1:Int
 f2:Int
 f3:Int
 f4:Int
def dL:He:=⟨([]:List Le),(0:Int),(0:Int),(0:Int),(0:Int)⟩
def iq:Kd He:=Kd.ZZ (Kd.pair (Kd.slice 65 Wk) (Kd.pair (Kd.int .i64) (Kd.pair (Kd.int .i64) (Kd.pair (Kd.int .i64) (Kd.int .i64))))) (fun x:He=>(x.f0,x.f1,x.f2,x.f3,x.f4))
theorem vW:Kd.Heap iq:=Kd.VL _ (Kd.Sk (Kd.YN 65 tW) (Kd.Sk (Kd.Rl .i64) (Kd.Sk (Kd.Rl .i64) (Kd.Sk (Kd.Rl .i64) (Kd.Rl .i64)))))
theorem uW {w:World} {x:He} {cs:List Value} (h:iq.K w x cs):∃ A0 c0,cs=[.slice A0 x.f0.length c0,.int .i64 x.f1,.int .i64 x.f2,.int .i64 x.f3,.int .i64 x.f4]∧x.f0.length ≤ c0∧Wk.C w A0 x.f0.length x.f0:=by
 obtain ⟨_,_,rfl,⟨A0,c0,rfl,l0,g0⟩,⟨_,_,rfl,rfl,⟨_,_,rfl,rfl,⟨_,_,rfl,rfl,rfl⟩⟩⟩⟩:=h;exact ⟨A0,c0,rfl,l0,g0⟩
theorem IB {w:World} {base:Nat} {ok:Nat→Prop} {x:He} {cs:List Value} (h:iq.M w base ok x cs):∃ v0,cs=[v0,.int .i64 x.f1,.int .i64 x.f2,.int .i64 x.f3,.int .i64 x.f4]∧Wk.R 65 w base ok v0 x.f0:=by
 obtain ⟨_,_,rfl,⟨v0,rfl,g0⟩,⟨_,_,rfl,rfl,⟨_,_,rfl,rfl,⟨_,_,rfl,rfl,rfl⟩⟩⟩⟩:=h;exact ⟨v0,rfl,g0⟩
theorem GH (w:World) (base:Nat) (ok:Nat→Prop) (x:He) {v0:Value} (g0:Wk.R 65 w base ok v0 x.f0):iq.M w base ok x [v0,.int .i64 x.f1,.int .i64 x.f2,.int .i64 x.f3,.int .i64 x.f4]:=⟨[v0],[.int .i64 x.f1,.int .i64 x.f2,.int .i64 x.f3,.int .i64 x.f4],rfl,⟨v0,rfl,g0⟩,⟨[.int .i64 x.f1],[.int .i64 x.f2,.int .i64 x.f3,.int .i64 x.f4],rfl,rfl,⟨[.int .i64 x.f2],[.int .i64 x.f3,.int .i64 x.f4],rfl,rfl,⟨[.int .i64 x.f3],[.int .i64 x.f4],rfl,rfl,rfl⟩⟩⟩⟩
def za (xs:List He) (i:Int):He:=xs.getD i.toNat dL
theorem Fj {w:World} {A:Option Addr} {n:Nat} {xs:List He} (h:Kd.C iq w A n xs) (i:Int) (h0:0 ≤ i) (h1:i < n):∃ ad A0 c0,A=some ad∧w.cell? (ad.add (i.toNat * 5))=some (.slice A0 (za xs i).f0.length c0)∧w.cell? ⟨(ad.add (i.toNat * 5)).block,(ad.add (i.toNat * 5)).off + 1,none⟩=some (.int .i64 (za xs i).f1)∧w.cell? ⟨(ad.add (i.toNat * 5)).block,(ad.add (i.toNat * 5)).off + 2,none⟩=some (.int .i64 (za xs i).f2)∧w.cell? ⟨(ad.add (i.toNat * 5)).block,(ad.add (i.toNat * 5)).off + 3,none⟩=some (.int .i64 (za xs i).f3)∧w.cell? ⟨(ad.add (i.toNat * 5)).block,(ad.add (i.toNat * 5)).off + 4,none⟩=some (.int .i64 (za xs i).f4)∧(za xs i).f0.length ≤ c0∧Wk.C w A0 (za xs i).f0.length (za xs i).f0:=by
 obtain ⟨ad,c,e,_,hK,hc0⟩:=Kd.fN h dL i h0 h1;have hc:∀ j u,c[j]? = some u→w.cell? (ad.add (i.toNat * 5 + j))=some u:=hc0;obtain ⟨A0,c0,rfl,l0,g0⟩:=uW hK;exact ⟨ad,A0,c0,e,hc 0 _ rfl,by rw [← ng _ _ 1 (by omega)];exact hc 1 _ rfl,by rw [← ng _ _ 2 (by omega)];exact hc 2 _ rfl,by rw [← ng _ _ 3 (by omega)];exact hc 3 _ rfl,by rw [← ng _ _ 4 (by omega)];exact hc 4 _ rfl,l0,g0⟩
def Rc (xs:List (List Bool)) (i:Int):(List Bool):=xs.getD i.toNat ([]:List Bool)
theorem Qo {w:World} {A:Option Addr} {n:Nat} {xs:List (List Bool)} (h:Kd.C (Kd.slice 4 Kd.bool) w A n xs) (i:Int) (h0:0 ≤ i) (h1:i < n):∃ ad A0 c0,A=some ad∧w.cell? (ad.add i.toNat)=some (.slice A0 (Rc xs i).length c0)∧(Rc xs i).length ≤ c0∧Kd.bool.C w A0 (Rc xs i).length (Rc xs i):=by
 obtain ⟨ad,c,e,_,hK,hc0⟩:=Kd.fN h ([]:List Bool) i h0 h1;have hc:∀ j u,c[j]? = some u→w.cell? (ad.add (i.toNat * 1 + j))=some u:=hc0;obtain ⟨A0,c0,rfl,l0,g0⟩:=hK;exact ⟨ad,A0,c0,e,by have hq:=hc 0 _ rfl;rwa [Nat.mul_one,Nat.add_zero] at hq,l0,g0⟩
structure kV where
 f0:Int
 f1:Int
 f2:Int
 f3:ByteArray
 f4:(List kV)
def Tad (d:Kd kV):Kd kV:=Kd.ZZ (Kd.pair (Kd.int .i64) (Kd.pair (Kd.int .i64) (Kd.pair (Kd.int .i64) (Kd.pair Kd.string (Kd.slice 134 d))))) (fun x:kV=>(x.f0,x.f1,x.f2,x.f3,x.f4))
theorem Faa:Kd.Sub Tad [134]:=Kd.RP _ (Kd.en (Kd.sub_const _ (by decide)) (Kd.en (Kd.sub_const _ (by decide)) (Kd.en (Kd.sub_const _ (by decide)) (Kd.en (Kd.sub_const _ (by decide)) (Kd.BB 134 (by decide) Kd.CN)))))
theorem Iae:∀ n,(Kd.upto Tad 5 [134] n).sz=5:=Kd.NP (fun _=>rfl)
def Qau:Kd kV:=Kd.fix Tad 5 [134] Iae (Kd.zN Faa)
structure BC where
 f0:Int
 f1:Int
 f2:Int
 f3:(List kV)
 f4:(List BC)
 f5:(List BC)
def Uad (d:Kd BC):Kd BC:=Kd.ZZ (Kd.pair (Kd.int .i64) (Kd.pair (Kd.int .i64) (Kd.pair (Kd.int .i64) (Kd.pair (Kd.slice 134 Qau) (Kd.pair (Kd.slice 130 d) (Kd.slice 130 d)))))) (fun x:BC=>(x.f0,x.f1,x.f2,x.f3,x.f4,x.f5))
theorem Gaa:Kd.Sub Uad [130,134]:=Kd.RP _ (Kd.en (Kd.sub_const _ (by decide)) (Kd.en (Kd.sub_const _ (by decide)) (Kd.en (Kd.sub_const _ (by decide)) (Kd.en (Kd.sub_const _ (by decide)) (Kd.en (Kd.BB 130 (by decide) Kd.CN) (Kd.BB 130 (by decide) Kd.CN))))))
theorem Jae:∀ n,(Kd.upto Uad 6 [130,134] n).sz=6:=Kd.NP (fun _=>rfl)
def Rau:Kd BC:=Kd.fix Uad 6 [130,134] Jae (Kd.zN Gaa)
theorem gW {α:Type} {d:Kd α} {e:Nat} {w:World} {base:Nat} {ok:Nat→Prop} {v:Value} {xs:List α} (h:ga (d.R e w base ok v xs)):v.oneCell' = true:=by
 obtain ⟨A,c,rfl⟩:=Kd.Bd h.out
 rfl
theorem fW {α:Type} {d:Kd α} {e:Nat} {w:World} {base:Nat} {ok:Nat→Prop} {v:Value} {xs:List α} (h:ga (d.S e w base ok v xs)):v.oneCell' = true:=by
 obtain ⟨A,c,rfl⟩:=Kd.Bd (Kd.PM h.out)
 rfl
theorem jW {α:Type} {d:Kd α} {e:Nat} {w:World} {base:Nat} {ok:Nat→Prop} {v:Value} {xs:List α} (h:ga (Kd.N d e w base ok v xs)):v.oneCell' = true:=by
 obtain ⟨A,c,rfl⟩:=Kd.L7 h.out
 rfl
theorem iW {α:Type} {d:Kd α} {e:Nat} {w:World} {base:Nat} {ok:Nat→Prop} {v:Value} {xs:List α} (h:ga (d.Q e w base ok v xs)):v.oneCell' = true:=by
 obtain ⟨A,c,rfl,_⟩:=Kd.K7 h.out
 rfl
def Lo (P:Program) (t:TypeId) {α:Type} (d:Kd α) (fit:α→Prop):Prop :=
 ∀ {H:Type} {enc:TypeId × Value→H} {w:World} {base:Nat} {spare:Nat→Bool} {held:Bool} {fuel:Nat} {cs:List Value} {x:DataW H × List MemPlace},
  DataW.trod enc P w base spare held fuel t cs=some x→∃ a:α,d.K w a cs∧fit a
theorem uU {P:Program} {t:TypeId} {k:IntKind} (ht:P.underlying t=some (.int k)):Lo P t (Kd.int k) (fun n=>(Lit.int k n).wf=true):=by
 intro H enc w base spare held fuel cs x h;obtain ⟨n,rfl,_,hw⟩:=DataW.trod_int ht h;exact ⟨n,rfl,hw⟩
def Cv (n:Int):Prop:=-9223372036854775808 ≤ n∧n ≤ 9223372036854775807
theorem wf_i64 {n:Int} (h:(Lit.int .i64 n).wf=true):Cv n:=by
 simp [Lit.wf,IntKind.min,IntKind.max,IntKind.signed,IntKind.bits] at h;unfold Cv;omega
theorem ai {P:Program} {t:TypeId} (ht:P.underlying t=some (.int .i64)):Lo P t (Kd.int .i64) Cv:=by
 intro H enc w base spare held fuel cs x h;obtain ⟨n,h1,h2⟩:=uU ht h;exact ⟨n,h1,wf_i64 h2⟩
theorem CH {P:Program} {t:TypeId} (ht:P.underlying t=some .string):Lo P t Kd.string (fun s=>s.size ≤ 9223372036854775807):=by
 intro H enc w base spare held fuel cs x h;obtain ⟨s,rfl,_,hw⟩:=DataW.trod_string ht h;exact ⟨s,rfl,by simpa [maxLen] using hw⟩
theorem RC {α:Type} {p:Nat→α→Prop}:∀ n,(∀ i,i < n→∃ a,p i a)→∃ xs:List α,xs.length=n∧∀ (i:Nat) (a:α),xs[i]? = some a→p i a
 | 0,_=>⟨[],rfl,fun i a h=>by simp at h⟩
 | n + 1,h=>by
  obtain ⟨xs,hl,hx⟩:=RC n (fun i hi=>h i (by omega));obtain ⟨a,ha⟩:=h n (by omega);refine ⟨xs ++ [a],by simp [hl],fun i b hb=>?_⟩
  rcases Nat.lt_or_ge i xs.length with hi|hi
  ·rw [List.getElem?_append_left hi] at hb;exact hx i b hb
  ·have:i=n:=by
    have:=(List.getElem?_eq_some_iff.1 hb).1;simp [hl] at this;omega
   subst this;rw [List.getElem?_append_right hi,hl] at hb;simp at hb;exact hb ▸ ha
theorem iw {P:Program} {t e e':TypeId} {α:Type} {d:Kd α} {fit:α→Prop} (ht:P.underlying t=some (.slice e)) (hs:P.cellsOf e=d.sz) (h:Lo P e d fit):Lo P t (Kd.slice e' d) (fun l=>l.length ≤ 9223372036854775807∧∀ a ∈ l,fit a):=by
 intro H enc w base spare held fuel cs x hx
 rcases Go.Deep.open_slice ht hx with ⟨rfl,_⟩|⟨a,len,cap,m,n,D,Pl,rfl,hb,hl,hm,hmm,_,hel⟩
 ·exact ⟨[],⟨none,0,rfl,Nat.le_refl _,rfl,by simp,fun hp=>absurd hp (by simp)⟩,by simp,by simp⟩
 ·have hle:len ≤ m:=by rw [hmm];split <;> omega
  have hmx:len ≤ 9223372036854775807:=by simp only [maxLen] at hm;omega
  obtain ⟨xs,hxl,hxs⟩:=RC (α:=α) (p:=fun i y=>∃ c,c.length=d.sz∧d.K w y c∧(∀ j u,c[j]? = some u→w.cell? (a.add (i * d.sz + j))=some u)∧fit y) len (fun i hi=>by
   obtain ⟨cs',h1,h2⟩:=hel i (by omega);obtain ⟨y,hy,hf⟩:=h h2;obtain ⟨_,Xv,ey⟩:=World.cells?_some h1;refine ⟨y,cs',by rw [Xv,hs],hy,fun j u hu=>?_,hf⟩;have hj:j < P.cellsOf e:=by rw [← Xv];exact (List.getElem?_eq_some_iff.1 hu).1
   rw [← hs,← Go.Deep.add_add,ey j hj]
   exact hu)
  refine ⟨xs,⟨some a,cap,by rw [hxl],by omega,rfl,by omega,fun _=>⟨a,rfl,fun j p hj=>?_⟩⟩,by omega,fun y hy=>?_⟩
  ·obtain ⟨c,h1,h2,h3,_⟩:=hxs j p hj;exact ⟨c,h1,h2,h3⟩
  ·obtain ⟨i,hi,rfl⟩:=List.getElem_of_mem hy;obtain ⟨c,_,_,_,h4⟩:=hxs i _ (List.getElem?_eq_getElem hi);exact h4
def vK (P:Program) (fs:List Field) (off:Nat) {α:Type} (d:Kd α) (fit:α→Prop):Prop :=
 ∀ {H:Type} {enc:TypeId × Value→H} {w:World} {base:Nat} {spare:Nat→Bool} {held:Bool} {n:Nat} {cs:List Value},
  (∀ f ∈ fs,∃ y,DataW.trod enc P w base spare held n f.type ((cs.drop f.offset).take (P.cellsOf f.type))=some y)→cs.length=off + d.sz→∃ a:α,d.K w a (cs.drop off)∧fit a
theorem Py {P:Program} {f:Field} {off:Nat} {α:Type} {d:Kd α} {fit:α→Prop} (ho:f.offset=off) (hs:P.cellsOf f.type=d.sz) (h:Lo P f.type d fit):vK P [f] off d fit:=by
 intro H enc w base spare held n cs hf hl;obtain ⟨y,hy⟩:=hf f (by simp);rw [ho,hs,List.take_of_length_le (by rw [List.length_drop];omega)] at hy;exact h hy
theorem Jg {P:Program} {f:Field} {fs:List Field} {off off2:Nat} {α β:Type} {d:Kd α} {d2:Kd β} {fit:α→Prop} {haj:β→Prop} (ho:f.offset=off) (hs:P.cellsOf f.type=d.sz) (ho2:off2=off + d.sz) (h:Lo P f.type d fit) (h2:vK P fs off2 d2 haj):vK P (f :: fs) off (Kd.pair d d2) (fun p=>fit p.1∧haj p.2):=by
 intro H enc w base spare held n cs hf hl;have hl':cs.length=off + (d.sz + d2.sz):=hl;obtain ⟨y,hy⟩:=hf f (by simp);rw [ho,hs] at hy;obtain ⟨a,ha,fa⟩:=h hy;obtain ⟨b,hb,fb⟩:=h2 (fun g hg=>hf g (List.mem_cons_of_mem _ hg)) (by omega);refine ⟨(a,b),⟨(cs.drop off).take d.sz,cs.drop off2,?_,ha,hb⟩,fa,fb⟩;rw [ho2,← List.drop_drop,List.take_append_drop]
theorem zu {P:Program} {t:TypeId} {fs:Array Field} {α:Type} {d:Kd α} {fit:α→Prop} (ht:P.underlying t=some (.struct fs)) (hs:P.cellsOf t=d.sz) (h:vK P fs.toList 0 d fit):Lo P t d fit:=by
 intro H enc w base spare held fuel cs x hx;obtain ⟨xs,n,_,_,hl,hxl,hf⟩:=DataW.trod_struct ht hx
 have:=h (w:=w) (enc:=enc) (base:=base) (spare:=spare) (held:=held) (n:=n) (cs:=cs) (fun f hfm=>by
  obtain ⟨i,hi,rfl⟩:=List.getElem_of_mem hfm;have hi':i < fs.size:=by simpa using hi
  have h1:=hf i (fs.toList[i]) (by simp [hi']);rw [List.getElem?_eq_getElem (by omega)] at h1
  exact ⟨_,h1⟩) (by omega)
 simpa using this
theorem FB {P:Program} {t:TypeId} {α β:Type} {d:Kd α} {fit:α→Prop} {g:β→α} (gi:α→β) (hg:∀ a,g (gi a)=a) (h:Lo P t d fit):Lo P t (Kd.ZZ d g) (fun b=>fit (g b)):=by
 intro H enc w base spare held fuel cs x hx;obtain ⟨a,ha,hf⟩:=h hx;refine ⟨gi a,?_,?_⟩
 ·show d.K w (g (gi a)) cs
  rw [hg];exact ha
 ·show fit (g (gi a))
  rw [hg];exact hf
theorem eW {P:Program} {t:TypeId} {fs:Array Field} {α:Type} {d:Kd α} {fit:α→Prop} {r:Reach} {b0:Nat} {H:Type} {enc:TypeId × Value→H} {w:World} {base:Nat} {spare:Nat→Bool} {held:Bool} {v:Value} {dt:DataW H} {p:List MemPlace}
  (ht:P.underlying t=some (.struct fs)) (h:Lo P t d fit) (hv:Value.okWide P w r b0 t v) (hd:DataW.Trod enc P w base spare held t v dt p) :
  ∃ (a:α) (cs:Array Value),v = .agg cs∧d.K w a cs.toList∧fit a:=by
 obtain ⟨cs,rfl,hsz⟩:=Go.WideShapes.okWide_struct ht hv;obtain ⟨fuel,hf⟩:=hd;obtain ⟨a,ha,hfa⟩:=h hf;exact ⟨a,cs,rfl,by simpa [Value.cells] using ha,hfa⟩
theorem G2 {P:Program} {t e':TypeId} {α:Type} {d:Kd α} {fit:List α→Prop} {H:Type} {enc:TypeId × Value→H} {w:World} {base:Nat} {spare:Nat→Bool} {held:Bool} {A:Option Addr} {n c:Nat} {dt:DataW H} {p:List MemPlace}
  (h:Lo P t (Kd.slice e' d) fit) (hd:DataW.Trod enc P w base spare held t (.slice A n c) dt p) :
  ∃ l:List α,n=l.length∧l.length ≤ c∧d.C w A l.length l∧fit l:=by
 obtain ⟨fuel,hf⟩:=hd;obtain ⟨l,⟨A',c',he,hl,hc⟩,hfl⟩:=h hf;simp only [Value.cells,List.cons.injEq,Value.slice.injEq,and_true] at he;obtain ⟨rfl,rfl,rfl⟩:=he;exact ⟨l,rfl,hl,hc,hfl⟩
theorem ZP:Lo Try.prog 22 (Kd.slice 3 (Kd.int .i64)) (fun l=>l.length ≤ 9223372036854775807∧∀ a ∈ l,Cv a):=iw Try.underlying22 (by kernel_rfl) (ai Try.underlying3)
def gO (x:Np):Prop:=Cv x.f0∧Cv x.f1∧Cv x.f2∧Cv x.f3∧Cv x.f4∧Cv x.f5∧(fun s=>s.size ≤ 9223372036854775807) x.f6
theorem dW:Lo Try.prog 124 ZE gO:=FB (fun p=>⟨p.1,p.2.1,p.2.2.1,p.2.2.2.1,p.2.2.2.2.1,p.2.2.2.2.2.1,p.2.2.2.2.2.2⟩) (fun _=>rfl) (zu Try.underlying124 (by kernel_rfl) (Jg rfl (by kernel_rfl) (by kernel_rfl) (ai Try.underlying3) (Jg rfl (by kernel_rfl) (by kernel_rfl) (ai Try.underlying3) (Jg rfl (by kernel_rfl) (by kernel_rfl) (ai Try.underlying3) (Jg rfl (by kernel_rfl) (by kernel_rfl) (ai Try.underlying3) (Jg rfl (by kernel_rfl) (by kernel_rfl) (ai Try.underlying3) (Jg rfl (by kernel_rfl) (by kernel_rfl) (ai Try.underlying3) (Py rfl (by kernel_rfl) (CH Try.underlying9)))))))))
theorem D2:Lo Try.prog 84 (Kd.slice 124 ZE) (fun l=>l.length ≤ 9223372036854775807∧∀ a ∈ l,gO a):=iw Try.underlying84 (by kernel_rfl) dW
def LX (x:fz):Prop:=(fun l=>l.length ≤ 9223372036854775807∧∀ a ∈ l,gO a) x.f0∧Cv x.f1∧Cv x.f2∧Cv x.f3∧Cv x.f4
theorem C2:Lo Try.prog 86 rW LX:=FB (fun p=>⟨p.1,p.2.1,p.2.2.1,p.2.2.2.1,p.2.2.2.2⟩) (fun _=>rfl) (zu Try.underlying86 (by kernel_rfl) (Jg rfl (by kernel_rfl) (by kernel_rfl) D2 (Jg rfl (by kernel_rfl) (by kernel_rfl) (ai Try.underlying3) (Jg rfl (by kernel_rfl) (by kernel_rfl) (ai Try.underlying3) (Jg rfl (by kernel_rfl) (by kernel_rfl) (ai Try.underlying3) (Py rfl (by kernel_rfl) (ai Try.underlying3)))))))
theorem F2:Lo Try.prog 23 (Kd.slice 86 rW) (fun l=>l.length ≤ 9223372036854775807∧∀ a ∈ l,LX a):=iw Try.underlying23 (by kernel_rfl) C2
def MX (x:S25):Prop:=(fun l=>l.length ≤ 9223372036854775807∧∀ a ∈ l,Cv a) x.f0∧Cv x.f1∧Cv x.f2∧Cv x.f3∧(fun l=>l.length ≤ 9223372036854775807∧∀ a ∈ l,LX a) x.f4
theorem E2:Lo Try.prog 25 k25 MX:=FB (fun p=>⟨p.1,p.2.1,p.2.2.1,p.2.2.2.1,p.2.2.2.2⟩) (fun _=>rfl) (zu Try.underlying25 (by kernel_rfl) (Jg rfl (by kernel_rfl) (by kernel_rfl) ZP (Jg rfl (by kernel_rfl) (by kernel_rfl) (ai Try.underlying3) (Jg rfl (by kernel_rfl) (by kernel_rfl) (ai Try.underlying3) (Jg rfl (by kernel_rfl) (by kernel_rfl) (ai Try.underlying3) (Py rfl (by kernel_rfl) F2))))))
def gb.f (a0:Int) (a1:Int) (a2:Int):Option (Bool):=if a0 ≥ a1 then (some (decide (a0 ≤ a2))) else (some false)
theorem gb.calls (a0:Int) (a1:Int) (a2:Int) (r:Bool) (w:World) (h:gb.f a0 a1 a2=some r) :
  Calls Try.prog 53 #[.int .i64 a0,.int .i64 a1,.int .i64 a2] w fun e w'=>e = .returned (.bool r)∧Xc w w':=by
 have H:(if a0 ≥ a1 then (some (decide (a0 ≤ a2))) else (some false))=some r:=h;clear h
 by_cases c4:a0 ≥ a1
 ·rw [if_pos c4] at H;have Tl:decide (a1 ≤ a0)=true:=decide_eq_true c4;clear c4;obtain rfl:=Option.some.inj H;go_enter Try.func53,Try.ntmps53;go_wp2;go_ret;exact ⟨by first|rfl|(simp;done)|(simp [*];done),OaH⟩
 ·rw [if_neg c4] at H;have Tl:decide (a1 ≤ a0)=false:=decide_eq_false c4;clear c4;obtain rfl:=Option.some.inj H;go_enter Try.func53,Try.ntmps53;go_wp2;go_ret;exact ⟨by first|rfl|(simp;done)|(simp [*];done),OaH⟩
def jf.l0:Nat→List ByteArray→ByteArray→Int→Option (Bool)
 | 0,_,_,_=>none
 | k + 1,x0,x1,x5=>if x5 < (x0.length:Int) then (if 0 ≤ x5 then (if (sg ByteArray.empty x0 x5).toList=x1.toList then (some true) else (jf.l0 k x0 x1 (wrap64 (x5 + 1)))) else (none)) else (some false)
def jf.f (k:Nat) (l0:List ByteArray) (a1:ByteArray):Option (Bool):=jf.l0 k l0 a1 0
theorem jf.calls (k:Nat) (A0:Option Addr) (c0:Nat) (l0:List ByteArray) (a1:ByteArray) (r:Bool) (w:World) (Om:Kd.C Kd.string w A0 l0.length l0) (hc0:l0.length ≤ c0) (h:jf.f k l0 a1=some r) :
  Calls Try.prog 113 #[.slice A0 l0.length c0,.string a1] w fun e w'=>e = .returned (.bool r)∧Xc w w':=by
 have Io:=ga.mk Om;have dN:=ga.mk hc0;clear Om hc0;have H:(jf.l0 k l0 a1 0)=some r:=h;clear h;have H':=ga.mk H;clear H;go_enter Try.func113,Try.ntmps113;go_wp2
 go_loopg [5] k (fun kq v5 w'=>∃ (Ka:Int),v5 = .int .i64 Ka∧ga (jf.l0 kq l0 a1 Ka=some r)∧ga (kq ≤ k)∧Xc w w')
 case atStart=>exact ⟨(0),IaH,H',⟨Nat.le_refl _⟩,OaH⟩
 case round =>
  clear H'
  try clear c1
  try clear p2
  (try clear HA);(try clear pg);obtain ⟨Ka,rfl,HA,pg,⟨m1,rfl⟩⟩:=hrel;cases gk with
  | zero=>exact absurd HA.out (by simp [jf.l0])
  | succ k1 =>
   have H:=HA.out;clear HA;simp only [jf.l0] at H
   by_cases c3:Ka < (l0.length:Int)
   ·rw [if_pos c3] at H;have Qi:decide (Ka < (l0.length:Int))=true:=decide_eq_true c3;clear c3
    by_cases c4:0 ≤ Ka
    ·rw [if_pos c4] at H;have Tl:decide (0 ≤ Ka)=true:=decide_eq_true c4;clear c4
     by_cases c5:(sg ByteArray.empty l0 Ka).toList=a1.toList
     ·rw [if_pos c5] at H;have Nk:((sg ByteArray.empty l0 Ka).toList == a1.toList)=true:=beq_iff_eq.mpr c5;have bz:((sg ByteArray.empty l0 Ka).toList != a1.toList)=false:=bne_eq_false_iff_eq.mpr c5;clear c5;obtain rfl:=Option.some.inj H;have wg:0 ≤ (Ka:Int):=Ua;have ug:Ka < (l0.length:Int):=Ua;obtain ⟨Ze,Sl,Ge⟩:=Kd.Ux Io.out Ka wg ug;cases Sl;replace wg:=eq_true wg;replace ug:=eq_true ug;go_wp2;go_ret;exact ⟨by first|rfl|(simp;done)|(simp [*];done),OaH⟩
     ·rw [if_neg c5] at H;have Nk:((sg ByteArray.empty l0 Ka).toList == a1.toList)=false:=beq_eq_false_iff_ne.mpr c5;have bz:((sg ByteArray.empty l0 Ka).toList != a1.toList)=true:=bne_iff_ne.mpr c5;have H':=ga.mk H;clear H;have wg:0 ≤ (Ka:Int):=Ua;have ug:Ka < (l0.length:Int):=Ua;obtain ⟨Ze,Sl,Ge⟩:=Kd.Ux Io.out Ka wg ug;cases Sl;replace wg:=eq_true wg;replace ug:=eq_true ug;go_wp2
      go_roundg k1
      case measure=>have:=pg.out;omega
      case rel=>exact ⟨(wrap64 (Ka + 1)),IaH,H',⟨by have:=pg.out;omega⟩,OaH⟩
    ·rw [if_neg c4] at H;exact absurd H (by simp)
   ·rw [if_neg c3] at H;have Qi:decide (Ka < (l0.length:Int))=false:=decide_eq_false c3;clear c3;obtain rfl:=Option.some.inj H;go_wp2;go_ret;exact ⟨by first|rfl|(simp;done)|(simp [*];done),OaH⟩
mutual
def zb.j0:Nat→Bool→Bool→Bool→Bool→List Int→Int→Int→Int→List (He)→Int→Int→Int→Int→Int→Int→ByteArray→Option (Bool)
 | 0,_,_,_,_,_,_,_,_,_,_,_,_,_,_,_,_=>none
 | k + 1,x5,x6,x7,x8,Fc,Uc,Mc,Ic,jc,Hg,Xl,Dm,fl,cl,Vo,Zr=>if Hg=2 then (if Hg=4 then (zb.j1 k x5 x6 x7 x8 false Fc Uc Mc Ic jc Hg Xl Dm fl cl Vo Zr) else (zb.j1 k x5 x6 x7 x8 (cl != 0) Fc Uc Mc Ic jc Hg Xl Dm fl cl Vo Zr)) else (if Zr.toList=([]:List UInt8) then (if Hg=4 then (zb.j1 k x5 x6 x7 x8 false Fc Uc Mc Ic jc Hg Xl Dm fl cl Vo Zr) else (zb.j1 k x5 x6 x7 x8 (cl != 0) Fc Uc Mc Ic jc Hg Xl Dm fl cl Vo Zr)) else (zb.j1 k x5 x6 x7 x8 true Fc Uc Mc Ic jc Hg Xl Dm fl cl Vo Zr))
def zb.j1:Nat→Bool→Bool→Bool→Bool→Bool→List Int→Int→Int→Int→List (He)→Int→Int→Int→Int→Int→Int→ByteArray→Option (Bool)
 | 0,_,_,_,_,_,_,_,_,_,_,_,_,_,_,_,_,_=>none
 | k + 1,x5,x6,x7,x8,x62,Fc,Uc,Mc,Ic,jc,Hg,Xl,Dm,fl,cl,Vo,Zr=>if x62=true then (some false) else (if Hg=0 then (if x5=true then (if Dm=0 then (some (fl == 0)) else (some false)) else (some false)) else (if Hg=1 then (if x5=true then (if x6=true then (if fl=0 then (some (Vo == 0)) else (some false)) else (some false)) else (some false)) else (if Hg=2 then (if x5=true then (if x6=true then (if x7=true then (if Vo=0 then ((jf.f k (([(⟨#[61,61]⟩:ByteArray),(⟨#[60]⟩:ByteArray),(⟨#[38]⟩:ByteArray),(⟨#[43]⟩:ByteArray),(⟨#[45]⟩:ByteArray),(⟨#[42]⟩:ByteArray)]:List ByteArray)) Zr).bind fun t111=>(some t111)) else (some false)) else (some false)) else (some false)) else (some false)) else (if Hg=3 then (if x5=true then (some x8) else (some false)) else (if Hg=4 then (if Xl=0 then (if x8=true then ((gb.f cl 0 (wrap64 (Ic - 1))).bind fun t112=>(some t112)) else (some false)) else (some false)) else (if Hg=5 then (if x5=true then (if Dm=0 then (if fl=0 then (some (Vo == 0)) else (some false)) else (some false)) else (some false)) else (if Hg=6 then (if Xl=0 then (if x6=true then (if fl=0 then (some (Vo == 0)) else (some false)) else (some false)) else (some false)) else (some false))))))))
end
def zb.f (k:Nat) (Qa:List Int) (Ja:Int) (Ga:Int) (Ia:Int) (Aa:List (He)) (Lc:Int) (Zb:Int) (Tb:Int) (Ub:Int) (nc:Int) (Wc:Int) (zd:ByteArray):Option (Bool):=(gb.f Zb 0 (wrap64 (Ia - 1))).bind fun t103=>((gb.f Tb 0 (wrap64 (Ia - 1))).bind fun t104=>((gb.f Ub 0 (wrap64 (Ia - 1))).bind fun t105=>(if t104=true then (if t105=true then ((gb.f Wc 0 (wrap64 ((Qa.length:Int) - 1))).bind fun t106=>(zb.j0 k t103 t104 t105 t106 Qa Ja Ga Ia Aa Lc Zb Tb Ub nc Wc zd)) else (zb.j0 k t103 t104 t105 false Qa Ja Ga Ia Aa Lc Zb Tb Ub nc Wc zd)) else (if Tb=(-1) then (if t105=true then ((gb.f Wc 0 (wrap64 ((Qa.length:Int) - 1))).bind fun t107=>(zb.j0 k t103 t104 t105 t107 Qa Ja Ga Ia Aa Lc Zb Tb Ub nc Wc zd)) else (zb.j0 k t103 t104 t105 false Qa Ja Ga Ia Aa Lc Zb Tb Ub nc Wc zd)) else (zb.j0 k t103 t104 t105 false Qa Ja Ga Ia Aa Lc Zb Tb Ub nc Wc zd)))))
theorem zb.calls (k:Nat) (Wa:Option Addr) (Xa:Nat) (Qa:List Int) (Ja:Int) (Ga:Int) (Ia:Int) (Jb:Option Addr) (yb:Nat) (Aa:List (He)) (Lc:Int) (Zb:Int) (Tb:Int) (Ub:Int) (nc:Int) (Wc:Int) (zd:ByteArray) (r:Bool) (w:World) (Od:Kd.C (Kd.int .i64) w Wa Qa.length Qa) (Md:Qa.length ≤ Xa) (Re:Kd.C iq w Jb Aa.length Aa) (Qe:Aa.length ≤ yb) (h:zb.f k Qa Ja Ga Ia Aa Lc Zb Tb Ub nc Wc zd=some r) :
  Calls Try.prog 97 #[.agg #[.slice Wa Qa.length Xa,.int .i64 Ja,.int .i64 Ga,.int .i64 Ia,.slice Jb Aa.length yb],.agg #[.int .i64 Lc,.int .i64 Zb,.int .i64 Tb,.int .i64 Ub,.int .i64 nc,.int .i64 Wc,.string zd]] w fun e w'=>e = .returned (.bool r)∧Below w.heap.size w w':=by
 have KB:=Try.underlying30;have kA:=Try.underlying65;have fe:=ga.mk Od;have ye:=ga.mk Md;clear Od Md;have We:=ga.mk Re;have Xf:=ga.mk Qe;clear Re Qe;have HB:=ga.mk (Below.refl w.heap.size w);have H:((gb.f Zb 0 (wrap64 (Ia - 1))).bind fun t103=>((gb.f Tb 0 (wrap64 (Ia - 1))).bind fun t104=>((gb.f Ub 0 (wrap64 (Ia - 1))).bind fun t105=>(if t104=true then (if t105=true then ((gb.f Wc 0 (wrap64 ((Qa.length:Int) - 1))).bind fun t106=>(zb.j0 k t103 t104 t105 t106 Qa Ja Ga Ia Aa Lc Zb Tb Ub nc Wc zd)) else (zb.j0 k t103 t104 t105 false Qa Ja Ga Ia Aa Lc Zb Tb Ub nc Wc zd)) else (if Tb=(-1) then (if t105=true then ((gb.f Wc 0 (wrap64 ((Qa.length:Int) - 1))).bind fun t107=>(zb.j0 k t103 t104 t105 t107 Qa Ja Ga Ia Aa Lc Zb Tb Ub nc Wc zd)) else (zb.j0 k t103 t104 t105 false Qa Ja Ga Ia Aa Lc Zb Tb Ub nc Wc zd)) else (zb.j0 k t103 t104 t105 false Qa Ja Ga Ia Aa Lc Zb Tb Ub nc Wc zd))))))=some r:=h;clear h;replace H:=Option.bind_eq_some_iff.mp H;obtain ⟨t103,Zv,H⟩:=H;replace H:((gb.f Tb 0 (wrap64 (Ia - 1))).bind fun t104=>((gb.f Ub 0 (wrap64 (Ia - 1))).bind fun t105=>(if t104=true then (if t105=true then ((gb.f Wc 0 (wrap64 ((Qa.length:Int) - 1))).bind fun t106=>(zb.j0 k t103 t104 t105 t106 Qa Ja Ga Ia Aa Lc Zb Tb Ub nc Wc zd)) else (zb.j0 k t103 t104 t105 false Qa Ja Ga Ia Aa Lc Zb Tb Ub nc Wc zd)) else (if Tb=(-1) then (if t105=true then ((gb.f Wc 0 (wrap64 ((Qa.length:Int) - 1))).bind fun t107=>(zb.j0 k t103 t104 t105 t107 Qa Ja Ga Ia Aa Lc Zb Tb Ub nc Wc zd)) else (zb.j0 k t103 t104 t105 false Qa Ja Ga Ia Aa Lc Zb Tb Ub nc Wc zd)) else (zb.j0 k t103 t104 t105 false Qa Ja Ga Ia Aa Lc Zb Tb Ub nc Wc zd)))))=some r:=H;have A3:=ga.mk Zv;clear Zv;replace H:=Option.bind_eq_some_iff.mp H;obtain ⟨t104,A40,H⟩:=H;replace H:((gb.f Ub 0 (wrap64 (Ia - 1))).bind fun t105=>(if t104=true then (if t105=true then ((gb.f Wc 0 (wrap64 ((Qa.length:Int) - 1))).bind fun t106=>(zb.j0 k t103 t104 t105 t106 Qa Ja Ga Ia Aa Lc Zb Tb Ub nc Wc zd)) else (zb.j0 k t103 t104 t105 false Qa Ja Ga Ia Aa Lc Zb Tb Ub nc Wc zd)) else (if Tb=(-1) then (if t105=true then ((gb.f Wc 0 (wrap64 ((Qa.length:Int) - 1))).bind fun t107=>(zb.j0 k t103 t104 t105 t107 Qa Ja Ga Ia Aa Lc Zb Tb Ub nc Wc zd)) else (zb.j0 k t103 t104 t105 false Qa Ja Ga Ia Aa Lc Zb Tb Ub nc Wc zd)) else (zb.j0 k t103 t104 t105 false Qa Ja Ga Ia Aa Lc Zb Tb Ub nc Wc zd))))=some r:=H;have A4:=ga.mk A40;clear A40;replace H:=Option.bind_eq_some_iff.mp H;obtain ⟨t105,gN,H⟩:=H;replace H:(if t104=true then (if t105=true then ((gb.f Wc 0 (wrap64 ((Qa.length:Int) - 1))).bind fun t106=>(zb.j0 k t103 t104 t105 t106 Qa Ja Ga Ia Aa Lc Zb Tb Ub nc Wc zd)) else (zb.j0 k t103 t104 t105 false Qa Ja Ga Ia Aa Lc Zb Tb Ub nc Wc zd)) else (if Tb=(-1) then (if t105=true then ((gb.f Wc 0 (wrap64 ((Qa.length:Int) - 1))).bind fun t107=>(zb.j0 k t103 t104 t105 t107 Qa Ja Ga Ia Aa Lc Zb Tb Ub nc Wc zd)) else (zb.j0 k t103 t104 t105 false Qa Ja Ga Ia Aa Lc Zb Tb Ub nc Wc zd)) else (zb.j0 k t103 t104 t105 false Qa Ja Ga Ia Aa Lc Zb Tb Ub nc Wc zd)))=some r:=H;have A5:=ga.mk gN;clear gN;have HC6:=ga.mk H;clear H;go_enter Try.func97,Try.ntmps97
 go_upto_region 4 with (first|((with_reducible refine qb (N:=2) rfl ?_);(try (refine Wg (by rfl) ?_;dsimp only));refine Ib ?hg (N:=2) ?hd (cs:=#[.slice Wa Qa.length Xa,.int .i64 Ja,.int .i64 Ga,.int .i64 Ia,.slice Jb Aa.length yb]) (t:=30) ?hr ?_;(case hd=>rfl);(case hg=>rfl);(case hr=>first|(go_simp;done)|(go_simp;rfl));intro ya hg w7 Sb hb;have Cb:=ga.mk (Na CaH hb);have Eb:=ga.mk (Sb);have Rb:=ga.mk ((by rw [hg];exact (La CaH):w.heap.size ≤ ya));have Gc:=ga.mk ((by rw [hg];exact (La CaH):w.heap.size ≤ ya));clear HB;have HB:=Cb;have oa:=Eb;have Nd:=Rb;have Ta:=Gc;clear Cb Eb Rb Gc hb Sb hg)|((with_reducible refine qb (N:=3) rfl ?_);(try (refine Wg (by rfl) ?_;dsimp only));refine Ib ?hg (N:=3) ?hd (cs:=#[.int .i64 Lc,.int .i64 Zb,.int .i64 Tb,.int .i64 Ub,.int .i64 nc,.int .i64 Wc,.string zd]) (t:=65) ?hr ?_;(case hd=>rfl);(case hg=>rfl);(case hr=>first|(go_simp;done)|(go_simp;rfl));intro Ra hg w8 Sb hb;have Cb:=ga.mk (Va (g:=ya) (o:=.cells #[.slice Wa Qa.length Xa,.int .i64 Ja,.int .i64 Ga,.int .i64 Ia,.slice Jb Aa.length yb] 30 (0,0)) DaH hb);have Eb:=ga.mk (Na BaH hb);have Rb:=ga.mk (Sb);have Gc:=ga.mk ((by rw [hg];exact (La BaH):w.heap.size ≤ Ra));have kg:=ga.mk ((by rw [hg];exact (La BaH):w.heap.size ≤ Ra));have Rg:=ga.mk ((by rw [hg];exact Nat.ne_of_lt (Pc (g:=ya) (o:=.cells #[.slice Wa Qa.length Xa,.int .i64 Ja,.int .i64 Ga,.int .i64 Ia,.slice Jb Aa.length yb] 30 (0,0)) DaH):ya ≠ Ra));have Vh:=ga.mk ((by rw [hg];exact Nat.ne_of_gt (Pc (g:=ya) (o:=.cells #[.slice Wa Qa.length Xa,.int .i64 Ja,.int .i64 Ga,.int .i64 Ia,.slice Jb Aa.length yb] 30 (0,0)) DaH):Ra ≠ ya));clear oa HB;have oa:=Cb;have HB:=Eb;have Da:=Rb;have Kl:=Gc;have Jc:=kg;have Pb:=Rg;have Ob:=Vh;clear Cb Eb Rb Gc kg Rg Vh hb Sb hg;have zav:=Ob.out;have lav:=Pb.out;have Ai:w8.cell? ⟨Ra,0,none⟩=some (.int .i64 Lc):=(ia Da.out 0).trans rfl;have zi:w8.cell? ⟨Ra,1,none⟩=some (.int .i64 Zb):=(ia Da.out 1).trans rfl;have si:w8.cell? ⟨Ra,2,none⟩=some (.int .i64 Tb):=(ia Da.out 2).trans rfl;have ri:w8.cell? ⟨Ra,3,none⟩=some (.int .i64 Ub):=(ia Da.out 3).trans rfl;have qi:w8.cell? ⟨Ra,4,none⟩=some (.int .i64 nc):=(ia Da.out 4).trans rfl;have eB:w8.cell? ⟨Ra,5,none⟩=some (.int .i64 Wc):=(ia Da.out 5).trans rfl;have dB:w8.cell? ⟨Ra,6,none⟩=some (.string zd):=(ia Da.out 6).trans rfl;have ni:=aa Da.out 0;have ki:=aa Da.out 1;have ji:=aa Da.out 2;have ei:=aa Da.out 3;have di:=aa Da.out 4;have LA:=aa Da.out 5;have KA:=aa Da.out 6;have qo:w8.cell? ⟨ya,0,none⟩=some (.slice Wa Qa.length Xa):=(ia oa.out 0).trans rfl;have oo:w8.cell? ⟨ya,1,none⟩=some (.int .i64 Ja):=(ia oa.out 1).trans rfl;have mo:w8.cell? ⟨ya,2,none⟩=some (.int .i64 Ga):=(ia oa.out 2).trans rfl;have jo:w8.cell? ⟨ya,3,none⟩=some (.int .i64 Ia):=(ia oa.out 3).trans rfl;have fo:w8.cell? ⟨ya,4,none⟩=some (.slice Jb Aa.length yb):=(ia oa.out 4).trans rfl;have eo:=aa oa.out 0;have Zn:=aa oa.out 1;have Yn:=aa oa.out 2;have Xn:=aa oa.out 3;have Wn:=aa oa.out 4)|((with_reducible refine Bb (f:=53) rfl ?_);refine Tc (some 14) rfl rfl Try.func53 (by kernel_rfl) rfl #[.int .i64 Zb,.int .i64 0,.int .i64 (wrap64 (Ia - 1))] rfl FaH ?_;(with_reducible refine (gb.calls Zb 0 (wrap64 (Ia - 1)) t103 _ A3.out).mono ?_);rintro e w' ⟨rfl,⟨nd,rfl⟩⟩;refine ⟨_,rfl,?_⟩)|((with_reducible refine Bb (f:=53) rfl ?_);refine Tc (some 20) rfl rfl Try.func53 (by kernel_rfl) rfl #[.int .i64 Tb,.int .i64 0,.int .i64 (wrap64 (Ia - 1))] rfl FaH ?_;(with_reducible refine (gb.calls Tb 0 (wrap64 (Ia - 1)) t104 _ A4.out).mono ?_);rintro e w' ⟨rfl,⟨nd,rfl⟩⟩;refine ⟨_,rfl,?_⟩)|((with_reducible refine Bb (f:=53) rfl ?_);refine Tc (some 26) rfl rfl Try.func53 (by kernel_rfl) rfl #[.int .i64 Ub,.int .i64 0,.int .i64 (wrap64 (Ia - 1))] rfl FaH ?_;(with_reducible refine (gb.calls Ub 0 (wrap64 (Ia - 1)) t105 _ A5.out).mono ?_);rintro e w' ⟨rfl,⟨nd,rfl⟩⟩;refine ⟨_,rfl,?_⟩))
 (try simp only [Act.put,List.setIfInBounds_toArray,List.set_cons_zero,List.set_cons_succ])
 go_cut [8] (fun v8 wc=>∃ (kq:Nat) (sL:Bool),v8 = .bool sL∧ga (zb.j0 kq t103 t104 t105 sL Qa Ja Ga Ia Aa Lc Zb Tb Ub nc Wc zd=some r)∧ga (kq ≤ k)∧ga (wc.heap[ya]? = some (.cells #[(.slice Wa Qa.length Xa),.int .i64 Ja,.int .i64 Ga,.int .i64 Ia,(.slice Jb Aa.length yb)] 30 (0,0)))∧ga (wc.heap[Ra]? = some (.cells #[.int .i64 Lc,.int .i64 Zb,.int .i64 Tb,.int .i64 Ub,.int .i64 nc,.int .i64 Wc,.string zd] 65 (0,0)))∧ga (Below w.heap.size w wc))
 case first =>
  have H:=HC6.out;clear HC6
  by_cases gu:t104=true
  ·subst gu;have H1:(if t105=true then ((gb.f Wc 0 (wrap64 ((Qa.length:Int) - 1))).bind fun t106=>(zb.j0 k t103 true t105 t106 Qa Ja Ga Ia Aa Lc Zb Tb Ub nc Wc zd)) else (zb.j0 k t103 true t105 false Qa Ja Ga Ia Aa Lc Zb Tb Ub nc Wc zd))=some r:=by rw [if_pos rfl] at H;exact H
   clear H;have H:=H1;clear H1
   by_cases VC:t105=true
   ·subst VC;have H1:((gb.f Wc 0 (wrap64 ((Qa.length:Int) - 1))).bind fun t106=>(zb.j0 k t103 true true t106 Qa Ja Ga Ia Aa Lc Zb Tb Ub nc Wc zd))=some r:=by rw [if_pos rfl] at H;exact H
    clear H;have H:=H1;clear H1;replace H:=Option.bind_eq_some_iff.mp H;obtain ⟨t106,jN,H⟩:=H;replace H:(zb.j0 k t103 true true t106 Qa Ja Ga Ia Aa Lc Zb Tb Ub nc Wc zd)=some r:=H;have A14:=ga.mk jN;clear jN;have H':=ga.mk H;clear H;have Eaf:=Ob.out;have paf:=Pb.out;have zp:w8.cell? ⟨Ra,0,none⟩=some (.int .i64 Lc):=(ia Da.out 0).trans rfl;have yp:w8.cell? ⟨Ra,1,none⟩=some (.int .i64 Zb):=(ia Da.out 1).trans rfl;have xp:w8.cell? ⟨Ra,2,none⟩=some (.int .i64 Tb):=(ia Da.out 2).trans rfl;have vp:w8.cell? ⟨Ra,3,none⟩=some (.int .i64 Ub):=(ia Da.out 3).trans rfl;have qp:w8.cell? ⟨Ra,4,none⟩=some (.int .i64 nc):=(ia Da.out 4).trans rfl;have lE:w8.cell? ⟨Ra,5,none⟩=some (.int .i64 Wc):=(ia Da.out 5).trans rfl;have kE:w8.cell? ⟨Ra,6,none⟩=some (.string zd):=(ia Da.out 6).trans rfl;have lp:=aa Da.out 0;have gp:=aa Da.out 1;have ep:=aa Da.out 2;have bp:=aa Da.out 3;have Zo:=aa Da.out 4;have QD:=aa Da.out 5;have PD:=aa Da.out 6;have jE:w8.cell? ⟨ya,0,none⟩=some (.slice Wa Qa.length Xa):=(ia oa.out 0).trans rfl;have iE:w8.cell? ⟨ya,1,none⟩=some (.int .i64 Ja):=(ia oa.out 1).trans rfl;have gE:w8.cell? ⟨ya,2,none⟩=some (.int .i64 Ga):=(ia oa.out 2).trans rfl;have fE:w8.cell? ⟨ya,3,none⟩=some (.int .i64 Ia):=(ia oa.out 3).trans rfl;have eE:w8.cell? ⟨ya,4,none⟩=some (.slice Jb Aa.length yb):=(ia oa.out 4).trans rfl;have OD:=aa oa.out 0;have ND:=aa oa.out 1;have MD:=aa oa.out 2;have LD:=aa oa.out 3;have KD:=aa oa.out 4;go_wp2_with (first|(go_at_call 53;(with_reducible refine (gb.calls Wc 0 (wrap64 ((Qa.length:Int) - 1)) t106 _ A14.out).mono ?_);rintro e w' ⟨rfl,⟨nd,rfl⟩⟩))
    go_meet
    case rel=>exact ⟨_,(t106),IaH,H',⟨by first|omega|exact Nat.le_refl _⟩,⟨HaH⟩,⟨UaH⟩,⟨GaH⟩⟩
   ·replace VC:=Bool.eq_false_iff.mpr VC;subst VC;have H1:(zb.j0 k t103 true false false Qa Ja Ga Ia Aa Lc Zb Tb Ub nc Wc zd)=some r:=by rw [if_neg (show ¬ (false=true) by decide)] at H;exact H
    clear H;have H:=H1;clear H1;have H':=ga.mk H;clear H;go_wp2
    go_meet
    case rel=>exact ⟨_,(false),IaH,H',⟨by first|omega|exact Nat.le_refl _⟩,⟨HaH⟩,⟨UaH⟩,⟨GaH⟩⟩
  ·replace gu:=Bool.eq_false_iff.mpr gu;subst gu;have H1:(if Tb=(-1) then (if t105=true then ((gb.f Wc 0 (wrap64 ((Qa.length:Int) - 1))).bind fun t107=>(zb.j0 k t103 false t105 t107 Qa Ja Ga Ia Aa Lc Zb Tb Ub nc Wc zd)) else (zb.j0 k t103 false t105 false Qa Ja Ga Ia Aa Lc Zb Tb Ub nc Wc zd)) else (zb.j0 k t103 false t105 false Qa Ja Ga Ia Aa Lc Zb Tb Ub nc Wc zd))=some r:=by rw [if_neg (show ¬ (false=true) by decide)] at H;exact H
   clear H;have H:=H1;clear H1
   by_cases Ko:Tb=(-1)
   ·rw [if_pos Ko] at H;have Jo:(Tb == (-1))=true:=beq_iff_eq.mpr Ko;have aY:(Tb != (-1))=false:=bne_eq_false_iff_eq.mpr Ko;clear Ko;(first|rw [Jo]|(simp only [qc,tc];rw [Jo])|skip)
    by_cases Ll:t105=true
    ·subst Ll;have H1:((gb.f Wc 0 (wrap64 ((Qa.length:Int) - 1))).bind fun t107=>(zb.j0 k t103 false true t107 Qa Ja Ga Ia Aa Lc Zb Tb Ub nc Wc zd))=some r:=by rw [if_pos rfl] at H;exact H
     clear H;have H:=H1;clear H1;replace H:=Option.bind_eq_some_iff.mp H;obtain ⟨t107,RZ,H⟩:=H;replace H:(zb.j0 k t103 false true t107 Qa Ja Ga Ia Aa Lc Zb Tb Ub nc Wc zd)=some r:=H;have EV:=ga.mk RZ;clear RZ;have H':=ga.mk H;clear H;have Daf:=Ob.out;have oaf:=Pb.out;have wv:w8.cell? ⟨Ra,0,none⟩=some (.int .i64 Lc):=(ia Da.out 0).trans rfl;have vv:w8.cell? ⟨Ra,1,none⟩=some (.int .i64 Zb):=(ia Da.out 1).trans rfl;have uv:w8.cell? ⟨Ra,2,none⟩=some (.int .i64 Tb):=(ia Da.out 2).trans rfl;have tv:w8.cell? ⟨Ra,3,none⟩=some (.int .i64 Ub):=(ia Da.out 3).trans rfl;have qv:w8.cell? ⟨Ra,4,none⟩=some (.int .i64 nc):=(ia Da.out 4).trans rfl;have cE:w8.cell? ⟨Ra,5,none⟩=some (.int .i64 Wc):=(ia Da.out 5).trans rfl;have bE:w8.cell? ⟨Ra,6,none⟩=some (.string zd):=(ia Da.out 6).trans rfl;have Tu:=aa Da.out 0;have Su:=aa Da.out 1;have Ru:=aa Da.out 2;have Qu:=aa Da.out 3;have Pu:=aa Da.out 4;have JD:=aa Da.out 5;have ID:=aa Da.out 6;have jt:w8.cell? ⟨ya,0,none⟩=some (.slice Wa Qa.length Xa):=(ia oa.out 0).trans rfl;have ct:w8.cell? ⟨ya,1,none⟩=some (.int .i64 Ja):=(ia oa.out 1).trans rfl;have bt:w8.cell? ⟨ya,2,none⟩=some (.int .i64 Ga):=(ia oa.out 2).trans rfl;have Zs:w8.cell? ⟨ya,3,none⟩=some (.int .i64 Ia):=(ia oa.out 3).trans rfl;have Ys:w8.cell? ⟨ya,4,none⟩=some (.slice Jb Aa.length yb):=(ia oa.out 4).trans rfl;have Ls:=aa oa.out 0;have Ks:=aa oa.out 1;have Js:=aa oa.out 2;have Hs:=aa oa.out 3;have Gs:=aa oa.out 4;go_wp2_with (first|(go_at_call 53;(with_reducible refine (gb.calls Wc 0 (wrap64 ((Qa.length:Int) - 1)) t107 _ EV.out).mono ?_);rintro e w' ⟨rfl,⟨nd,rfl⟩⟩))
     go_meet
     case rel=>exact ⟨_,(t107),IaH,H',⟨by first|omega|exact Nat.le_refl _⟩,⟨HaH⟩,⟨UaH⟩,⟨GaH⟩⟩
    ·replace Ll:=Bool.eq_false_iff.mpr Ll;subst Ll;have H1:(zb.j0 k t103 false false false Qa Ja Ga Ia Aa Lc Zb Tb Ub nc Wc zd)=some r:=by rw [if_neg (show ¬ (false=true) by decide)] at H;exact H
     clear H;have H:=H1;clear H1;have H':=ga.mk H;clear H;have Baf:=Ob.out;have maf:=Pb.out;have Mx:w8.cell? ⟨Ra,0,none⟩=some (.int .i64 Lc):=(ia Da.out 0).trans rfl;have Lx:w8.cell? ⟨Ra,1,none⟩=some (.int .i64 Zb):=(ia Da.out 1).trans rfl;have Kx:w8.cell? ⟨Ra,2,none⟩=some (.int .i64 Tb):=(ia Da.out 2).trans rfl;have Jx:w8.cell? ⟨Ra,3,none⟩=some (.int .i64 Ub):=(ia Da.out 3).trans rfl;have Ix:w8.cell? ⟨Ra,4,none⟩=some (.int .i64 nc):=(ia Da.out 4).trans rfl;have fT:w8.cell? ⟨Ra,5,none⟩=some (.int .i64 Wc):=(ia Da.out 5).trans rfl;have eT:w8.cell? ⟨Ra,6,none⟩=some (.string zd):=(ia Da.out 6).trans rfl;have dx:=aa Da.out 0;have bx:=aa Da.out 1;have ax:=aa Da.out 2;have Zw:=aa Da.out 3;have Yw:=aa Da.out 4;have RR:=aa Da.out 5;have PR:=aa Da.out 6;go_wp2
     go_meet
     case rel=>exact ⟨_,(false),IaH,H',⟨by first|omega|exact Nat.le_refl _⟩,⟨HaH⟩,⟨UaH⟩,⟨GaH⟩⟩
   ·rw [if_neg Ko] at H;have Jo:(Tb == (-1))=false:=beq_eq_false_iff_ne.mpr Ko;have aY:(Tb != (-1))=true:=bne_iff_ne.mpr Ko;(first|rw [Jo]|(simp only [qc,tc];rw [Jo])|skip);have H':=ga.mk H;clear H;have zaf:=Ob.out;have kaf:=Pb.out;have Hx:w8.cell? ⟨Ra,0,none⟩=some (.int .i64 Lc):=(ia Da.out 0).trans rfl;have Gx:w8.cell? ⟨Ra,1,none⟩=some (.int .i64 Zb):=(ia Da.out 1).trans rfl;have Fx:w8.cell? ⟨Ra,2,none⟩=some (.int .i64 Tb):=(ia Da.out 2).trans rfl;have Ex:w8.cell? ⟨Ra,3,none⟩=some (.int .i64 Ub):=(ia Da.out 3).trans rfl;have Dx:w8.cell? ⟨Ra,4,none⟩=some (.int .i64 nc):=(ia Da.out 4).trans rfl;have ZJ:w8.cell? ⟨Ra,5,none⟩=some (.int .i64 Wc):=(ia Da.out 5).trans rfl;have YJ:w8.cell? ⟨Ra,6,none⟩=some (.string zd):=(ia Da.out 6).trans rfl;have Xw:=aa Da.out 0;have Ww:=aa Da.out 1;have Vw:=aa Da.out 2;have Uw:=aa Da.out 3;have Tw:=aa Da.out 4;have YI:=aa Da.out 5;have XI:=aa Da.out 6;go_wp2
    go_meet
    case rel=>exact ⟨_,(false),IaH,H',⟨by first|omega|exact Nat.le_refl _⟩,⟨HaH⟩,⟨UaH⟩,⟨GaH⟩⟩
 case rest =>
  clear HC6
  try clear c1
  try clear c2
  try clear p2
  try clear c5
  try clear p6
  try clear c9
  try clear gu
  try clear VC
  try clear Yv
  try clear Ko
  try clear Jo
  try clear aY
  try clear Ll
  try clear Ir
  try clear zF
  try clear gG
  try clear Ai
  try clear zi
  try clear si
  try clear ri
  try clear qi
  try clear eB
  try clear dB
  try clear qo
  try clear oo
  try clear mo
  try clear jo
  try clear fo
  try clear zp
  try clear yp
  try clear xp
  try clear vp
  try clear qp
  try clear lE
  try clear kE
  try clear jE
  try clear iE
  try clear gE
  try clear fE
  try clear eE
  try clear wv
  try clear vv
  try clear uv
  try clear tv
  try clear qv
  try clear cE
  try clear bE
  try clear jt
  try clear ct
  try clear bt
  try clear Zs
  try clear Ys
  try clear Mx
  try clear Lx
  try clear Kx
  try clear Jx
  try clear Ix
  try clear fT
  try clear eT
  try clear Hx
  try clear Gx
  try clear Fx
  try clear Ex
  try clear Dx
  try clear ZJ
  try clear YJ
  try clear ni
  try clear ki
  try clear ji
  try clear ei
  try clear di
  try clear LA
  try clear KA
  try clear eo
  try clear Zn
  try clear Yn
  try clear Xn
  try clear Wn
  try clear lp
  try clear gp
  try clear ep
  try clear bp
  try clear Zo
  try clear QD
  try clear PD
  try clear OD
  try clear ND
  try clear MD
  try clear LD
  try clear KD
  try clear Tu
  try clear Su
  try clear Ru
  try clear Qu
  try clear Pu
  try clear JD
  try clear ID
  try clear Ls
  try clear Ks
  try clear Js
  try clear Hs
  try clear Gs
  try clear dx
  try clear bx
  try clear ax
  try clear Zw
  try clear Yw
  try clear RR
  try clear PR
  try clear Xw
  try clear Ww
  try clear Vw
  try clear Uw
  try clear Tw
  try clear YI
  try clear XI
  obtain ⟨kq,sL,rfl,HA,HJ5,oa,Da,HB⟩:=hcut;cases kq with
  | zero=>exact absurd HA.out (by simp [zb.j0])
  | succ kj5 =>
   have H:=HA.out;clear HA;simp only [zb.j0] at H;have Lad:=ga.mk H;clear H
   go_upto_region 5 with (fail)
   go_cut [62] (fun v62 wc=>∃ (kq:Nat) (kH:Bool),v62 = .bool kH∧ga (zb.j1 kq t103 t104 t105 sL kH Qa Ja Ga Ia Aa Lc Zb Tb Ub nc Wc zd=some r)∧ga (kq ≤ kj5)∧ga (wc.heap[ya]? = some (.cells #[(.slice Wa Qa.length Xa),.int .i64 Ja,.int .i64 Ga,.int .i64 Ia,(.slice Jb Aa.length yb)] 30 (0,0)))∧ga (wc.heap[Ra]? = some (.cells #[.int .i64 Lc,.int .i64 Zb,.int .i64 Tb,.int .i64 Ub,.int .i64 nc,.int .i64 Wc,.string zd] 65 (0,0)))∧ga (Below w.heap.size w wc))
   case first =>
    have H:=Lad.out;clear Lad
    by_cases wB:Lc=2
    ·rw [if_pos wB] at H;have Cy:(Lc == 2)=true:=beq_iff_eq.mpr wB;have W9:(Lc != 2)=false:=bne_eq_false_iff_eq.mpr wB;clear wB;(first|rw [Cy]|(simp only [qc,tc];rw [Cy])|skip)
     by_cases dz:Lc=4
     ·rw [if_pos dz] at H;have TC:(Lc == 4)=true:=beq_iff_eq.mpr dz;have rT:(Lc != 4)=false:=bne_eq_false_iff_eq.mpr dz;clear dz;have H':=ga.mk H;clear H;have maB:=Ob.out;have GaA:=Pb.out;have VD:wc.cell? ⟨Ra,0,none⟩=some (.int .i64 Lc):=(ia Da.out 0).trans rfl;have UD:wc.cell? ⟨Ra,1,none⟩=some (.int .i64 Zb):=(ia Da.out 1).trans rfl;have TD:wc.cell? ⟨Ra,2,none⟩=some (.int .i64 Tb):=(ia Da.out 2).trans rfl;have SD:wc.cell? ⟨Ra,3,none⟩=some (.int .i64 Ub):=(ia Da.out 3).trans rfl;have RD:wc.cell? ⟨Ra,4,none⟩=some (.int .i64 nc):=(ia Da.out 4).trans rfl;have Q5:wc.cell? ⟨Ra,5,none⟩=some (.int .i64 Wc):=(ia Da.out 5).trans rfl;have P5:wc.cell? ⟨Ra,6,none⟩=some (.string zd):=(ia Da.out 6).trans rfl;have BD:=aa Da.out 0;have zD:=aa Da.out 1;have yD:=aa Da.out 2;have xD:=aa Da.out 3;have wD:=aa Da.out 4;have P3:=aa Da.out 5;have O3:=aa Da.out 6;go_wp2
      go_meet
      case rel=>exact ⟨_,(false),IaH,H',⟨by have:=HJ5.out;first|omega|exact Nat.le_refl _⟩,⟨HaH⟩,⟨UaH⟩,⟨GaH⟩⟩
     ·rw [if_neg dz] at H;have TC:(Lc == 4)=false:=beq_eq_false_iff_ne.mpr dz;have rT:(Lc != 4)=true:=bne_iff_ne.mpr dz;have H':=ga.mk H;clear H;have kaB:=Ob.out;have DaA:=Pb.out;have US:wc.cell? ⟨Ra,0,none⟩=some (.int .i64 Lc):=(ia Da.out 0).trans rfl;have TS:wc.cell? ⟨Ra,1,none⟩=some (.int .i64 Zb):=(ia Da.out 1).trans rfl;have SS:wc.cell? ⟨Ra,2,none⟩=some (.int .i64 Tb):=(ia Da.out 2).trans rfl;have RS:wc.cell? ⟨Ra,3,none⟩=some (.int .i64 Ub):=(ia Da.out 3).trans rfl;have QS:wc.cell? ⟨Ra,4,none⟩=some (.int .i64 nc):=(ia Da.out 4).trans rfl;have PS:wc.cell? ⟨Ra,5,none⟩=some (.int .i64 Wc):=(ia Da.out 5).trans rfl;have OS:wc.cell? ⟨Ra,6,none⟩=some (.string zd):=(ia Da.out 6).trans rfl;have ER:=aa Da.out 0;have DR:=aa Da.out 1;have CR:=aa Da.out 2;have BR:=aa Da.out 3;have AR:=aa Da.out 4;have zR:=aa Da.out 5;have yR:=aa Da.out 6;go_wp2
      go_meet
      case rel=>exact ⟨_,((nc != 0)),IaH,H',⟨by have:=HJ5.out;first|omega|exact Nat.le_refl _⟩,⟨HaH⟩,⟨UaH⟩,⟨GaH⟩⟩
    ·rw [if_neg wB] at H;have Cy:(Lc == 2)=false:=beq_eq_false_iff_ne.mpr wB;have W9:(Lc != 2)=true:=bne_iff_ne.mpr wB;(first|rw [Cy]|(simp only [qc,tc];rw [Cy])|skip)
     by_cases xF:zd.toList=([]:List UInt8)
     ·rw [if_pos xF] at H;have pT:(zd.toList == ([]:List UInt8))=true:=beq_iff_eq.mpr xF;have U9:(zd.toList != ([]:List UInt8))=false:=bne_eq_false_iff_eq.mpr xF;clear xF
      by_cases eV:Lc=4
      ·rw [if_pos eV] at H;have XX:(Lc == 4)=true:=beq_iff_eq.mpr eV;have T9:(Lc != 4)=false:=bne_eq_false_iff_eq.mpr eV;clear eV;have H':=ga.mk H;clear H;have waf:=Ob.out;have haf:=Pb.out;have NJ:wc.cell? ⟨Ra,0,none⟩=some (.int .i64 Lc):=(ia Da.out 0).trans rfl;have MJ:wc.cell? ⟨Ra,1,none⟩=some (.int .i64 Zb):=(ia Da.out 1).trans rfl;have LJ:wc.cell? ⟨Ra,2,none⟩=some (.int .i64 Tb):=(ia Da.out 2).trans rfl;have KJ:wc.cell? ⟨Ra,3,none⟩=some (.int .i64 Ub):=(ia Da.out 3).trans rfl;have JJ:wc.cell? ⟨Ra,4,none⟩=some (.int .i64 nc):=(ia Da.out 4).trans rfl;have zS:wc.cell? ⟨Ra,5,none⟩=some (.int .i64 Wc):=(ia Da.out 5).trans rfl;have yS:wc.cell? ⟨Ra,6,none⟩=some (.string zd):=(ia Da.out 6).trans rfl;have MI:=aa Da.out 0;have LI:=aa Da.out 1;have KI:=aa Da.out 2;have JI:=aa Da.out 3;have II:=aa Da.out 4;have nR:=aa Da.out 5;have mR:=aa Da.out 6;go_wp2
       go_meet
       case rel=>exact ⟨_,(false),IaH,H',⟨by have:=HJ5.out;first|omega|exact Nat.le_refl _⟩,⟨HaH⟩,⟨UaH⟩,⟨GaH⟩⟩
      ·rw [if_neg eV] at H;have XX:(Lc == 4)=false:=beq_eq_false_iff_ne.mpr eV;have T9:(Lc != 4)=true:=bne_iff_ne.mpr eV;have H':=ga.mk H;clear H;have e9:=Ob.out;have Y8:=Pb.out;have Cx:wc.cell? ⟨Ra,0,none⟩=some (.int .i64 Lc):=(ia Da.out 0).trans rfl;have Bx:wc.cell? ⟨Ra,1,none⟩=some (.int .i64 Zb):=(ia Da.out 1).trans rfl;have zx:wc.cell? ⟨Ra,2,none⟩=some (.int .i64 Tb):=(ia Da.out 2).trans rfl;have yx:wc.cell? ⟨Ra,3,none⟩=some (.int .i64 Ub):=(ia Da.out 3).trans rfl;have xx:wc.cell? ⟨Ra,4,none⟩=some (.int .i64 nc):=(ia Da.out 4).trans rfl;have DJ:wc.cell? ⟨Ra,5,none⟩=some (.int .i64 Wc):=(ia Da.out 5).trans rfl;have CJ:wc.cell? ⟨Ra,6,none⟩=some (.string zd):=(ia Da.out 6).trans rfl;have Sw:=aa Da.out 0;have Rw:=aa Da.out 1;have Qw:=aa Da.out 2;have Pw:=aa Da.out 3;have Ow:=aa Da.out 4;have BI:=aa Da.out 5;have zI:=aa Da.out 6;go_wp2
       go_meet
       case rel=>exact ⟨_,((nc != 0)),IaH,H',⟨by have:=HJ5.out;first|omega|exact Nat.le_refl _⟩,⟨HaH⟩,⟨UaH⟩,⟨GaH⟩⟩
     ·rw [if_neg xF] at H;have pT:(zd.toList == ([]:List UInt8))=false:=beq_eq_false_iff_ne.mpr xF;have U9:(zd.toList != ([]:List UInt8))=true:=bne_iff_ne.mpr xF;have H':=ga.mk H;clear H;have uaf:=Ob.out;have faf:=Pb.out;have BJ:wc.cell? ⟨Ra,0,none⟩=some (.int .i64 Lc):=(ia Da.out 0).trans rfl;have AJ:wc.cell? ⟨Ra,1,none⟩=some (.int .i64 Zb):=(ia Da.out 1).trans rfl;have zJ:wc.cell? ⟨Ra,2,none⟩=some (.int .i64 Tb):=(ia Da.out 2).trans rfl;have yJ:wc.cell? ⟨Ra,3,none⟩=some (.int .i64 Ub):=(ia Da.out 3).trans rfl;have xJ:wc.cell? ⟨Ra,4,none⟩=some (.int .i64 nc):=(ia Da.out 4).trans rfl;have sS:wc.cell? ⟨Ra,5,none⟩=some (.int .i64 Wc):=(ia Da.out 5).trans rfl;have rS:wc.cell? ⟨Ra,6,none⟩=some (.string zd):=(ia Da.out 6).trans rfl;have yI:=aa Da.out 0;have xI:=aa Da.out 1;have wI:=aa Da.out 2;have vI:=aa Da.out 3;have uI:=aa Da.out 4;have fR:=aa Da.out 5;have eR:=aa Da.out 6;go_wp2
      go_meet
      case rel=>exact ⟨_,(true),IaH,H',⟨by have:=HJ5.out;first|omega|exact Nat.le_refl _⟩,⟨HaH⟩,⟨UaH⟩,⟨GaH⟩⟩
   case rest =>
    clear Lad
    try clear c1
    try clear c2
    try clear p2
    try clear c3
    try clear c4
    try clear c5
    try clear p6
    try clear c9
    try clear gu
    try clear VC
    try clear Yv
    try clear Ko
    try clear Jo
    try clear aY
    try clear Ll
    try clear Ir
    try clear zF
    try clear gG
    try clear wB
    try clear Cy
    try clear W9
    try clear dz
    try clear TC
    try clear rT
    try clear fV
    try clear zV
    try clear xF
    try clear pT
    try clear U9
    try clear eV
    try clear XX
    try clear T9
    try clear c37
    try clear L0
    try clear c41
    try clear Ai
    try clear zi
    try clear si
    try clear ri
    try clear qi
    try clear eB
    try clear dB
    try clear qo
    try clear oo
    try clear mo
    try clear jo
    try clear fo
    try clear zp
    try clear yp
    try clear xp
    try clear vp
    try clear qp
    try clear lE
    try clear kE
    try clear jE
    try clear iE
    try clear gE
    try clear fE
    try clear eE
    try clear wv
    try clear vv
    try clear uv
    try clear tv
    try clear qv
    try clear cE
    try clear bE
    try clear jt
    try clear ct
    try clear bt
    try clear Zs
    try clear Ys
    try clear Mx
    try clear Lx
    try clear Kx
    try clear Jx
    try clear Ix
    try clear fT
    try clear eT
    try clear Hx
    try clear Gx
    try clear Fx
    try clear Ex
    try clear Dx
    try clear ZJ
    try clear YJ
    try clear VD
    try clear UD
    try clear TD
    try clear SD
    try clear RD
    try clear Q5
    try clear P5
    try clear US
    try clear TS
    try clear SS
    try clear RS
    try clear QS
    try clear PS
    try clear OS
    try clear NJ
    try clear MJ
    try clear LJ
    try clear KJ
    try clear JJ
    try clear zS
    try clear yS
    try clear Cx
    try clear Bx
    try clear zx
    try clear yx
    try clear xx
    try clear DJ
    try clear CJ
    try clear BJ
    try clear AJ
    try clear zJ
    try clear yJ
    try clear xJ
    try clear sS
    try clear rS
    try clear ni
    try clear ki
    try clear ji
    try clear ei
    try clear di
    try clear LA
    try clear KA
    try clear eo
    try clear Zn
    try clear Yn
    try clear Xn
    try clear Wn
    try clear lp
    try clear gp
    try clear ep
    try clear bp
    try clear Zo
    try clear QD
    try clear PD
    try clear OD
    try clear ND
    try clear MD
    try clear LD
    try clear KD
    try clear Tu
    try clear Su
    try clear Ru
    try clear Qu
    try clear Pu
    try clear JD
    try clear ID
    try clear Ls
    try clear Ks
    try clear Js
    try clear Hs
    try clear Gs
    try clear dx
    try clear bx
    try clear ax
    try clear Zw
    try clear Yw
    try clear RR
    try clear PR
    try clear Xw
    try clear Ww
    try clear Vw
    try clear Uw
    try clear Tw
    try clear YI
    try clear XI
    try clear BD
    try clear zD
    try clear yD
    try clear xD
    try clear wD
    try clear P3
    try clear O3
    try clear ER
    try clear DR
    try clear CR
    try clear BR
    try clear AR
    try clear zR
    try clear yR
    try clear MI
    try clear LI
    try clear KI
    try clear JI
    try clear II
    try clear nR
    try clear mR
    try clear Sw
    try clear Rw
    try clear Qw
    try clear Pw
    try clear Ow
    try clear BI
    try clear zI
    try clear yI
    try clear xI
    try clear wI
    try clear vI
    try clear uI
    try clear fR
    try clear eR
    try clear p2
    try clear p6
    obtain ⟨kq,kH,rfl,HA,PaF,oa,Da,HB⟩:=hcut;cases kq with
    | zero=>exact absurd HA.out (by simp [zb.j1])
    | succ EU =>
     have H:=HA.out;clear HA;simp only [zb.j1] at H
     by_cases c43:kH=true
     ·subst c43;have H1:(some false)=some r:=by rw [if_pos rfl] at H;exact H
      clear H;have H:=H1;clear H1;obtain rfl:=Option.some.inj H;go_wp2;go_ret;exact ⟨by first|rfl|(simp [Pa,Oa] <;> rfl)|(simp [*,Pa,Oa] <;> rfl),GaH⟩
     ·replace c43:=Bool.eq_false_iff.mpr c43;subst c43;have H1:(if Lc=0 then (if t103=true then (if Tb=0 then (some (Ub == 0)) else (some false)) else (some false)) else (if Lc=1 then (if t103=true then (if t104=true then (if Ub=0 then (some (Wc == 0)) else (some false)) else (some false)) else (some false)) else (if Lc=2 then (if t103=true then (if t104=true then (if t105=true then (if Wc=0 then ((jf.f EU (([(⟨#[61,61]⟩:ByteArray),(⟨#[60]⟩:ByteArray),(⟨#[38]⟩:ByteArray),(⟨#[43]⟩:ByteArray),(⟨#[45]⟩:ByteArray),(⟨#[42]⟩:ByteArray)]:List ByteArray)) zd).bind fun t111=>(some t111)) else (some false)) else (some false)) else (some false)) else (some false)) else (if Lc=3 then (if t103=true then (some sL) else (some false)) else (if Lc=4 then (if Zb=0 then (if sL=true then ((gb.f nc 0 (wrap64 (Ia - 1))).bind fun t112=>(some t112)) else (some false)) else (some false)) else (if Lc=5 then (if t103=true then (if Tb=0 then (if Ub=0 then (some (Wc == 0)) else (some false)) else (some false)) else (some false)) else (if Lc=6 then (if Zb=0 then (if t104=true then (if Ub=0 then (some (Wc == 0)) else (some false)) else (some false)) else (some false)) else (some false))))))))=some r:=by rw [if_neg (show ¬ (false=true) by decide)] at H;exact H
      clear H;have H:=H1;clear H1
      by_cases MO:Lc=0
      ·rw [if_pos MO] at H;have WX:(Lc == 0)=true:=beq_iff_eq.mpr MO;have VX:(Lc != 0)=false:=bne_eq_false_iff_eq.mpr MO;clear MO
       by_cases o7:t103=true
       ·subst o7;have H1:(if Tb=0 then (some (Ub == 0)) else (some false))=some r:=by rw [if_pos rfl] at H;exact H
        clear H;have H:=H1;clear H1
        by_cases LO:Tb=0
        ·rw [if_pos LO] at H;have UX:(Tb == 0)=true:=beq_iff_eq.mpr LO;have SX:(Tb != 0)=false:=bne_eq_false_iff_eq.mpr LO;clear LO;obtain rfl:=Option.some.inj H;have b9:=Ob.out;have X8:=Pb.out;have rJ:wc.cell? ⟨Ra,0,none⟩=some (.int .i64 Lc):=(ia Da.out 0).trans rfl;have qJ:wc.cell? ⟨Ra,1,none⟩=some (.int .i64 Zb):=(ia Da.out 1).trans rfl;have pJ:wc.cell? ⟨Ra,2,none⟩=some (.int .i64 Tb):=(ia Da.out 2).trans rfl;have oJ:wc.cell? ⟨Ra,3,none⟩=some (.int .i64 Ub):=(ia Da.out 3).trans rfl;have nJ:wc.cell? ⟨Ra,4,none⟩=some (.int .i64 nc):=(ia Da.out 4).trans rfl;have J5:wc.cell? ⟨Ra,5,none⟩=some (.int .i64 Wc):=(ia Da.out 5).trans rfl;have I5:wc.cell? ⟨Ra,6,none⟩=some (.string zd):=(ia Da.out 6).trans rfl;have oI:=aa Da.out 0;have nI:=aa Da.out 1;have mI:=aa Da.out 2;have lI:=aa Da.out 3;have kI:=aa Da.out 4;have I3:=aa Da.out 5;have G3:=aa Da.out 6;go_wp2;go_ret;exact ⟨by first|rfl|(simp [Pa,Oa] <;> rfl)|(simp [*,Pa,Oa] <;> rfl),GaH⟩
        ·rw [if_neg LO] at H;have UX:(Tb == 0)=false:=beq_eq_false_iff_ne.mpr LO;have SX:(Tb != 0)=true:=bne_iff_ne.mpr LO;obtain rfl:=Option.some.inj H;have taf:=Ob.out;have eaf:=Pb.out;have cS:wc.cell? ⟨Ra,0,none⟩=some (.int .i64 Lc):=(ia Da.out 0).trans rfl;have bS:wc.cell? ⟨Ra,1,none⟩=some (.int .i64 Zb):=(ia Da.out 1).trans rfl;have ZR:wc.cell? ⟨Ra,2,none⟩=some (.int .i64 Tb):=(ia Da.out 2).trans rfl;have YR:wc.cell? ⟨Ra,3,none⟩=some (.int .i64 Ub):=(ia Da.out 3).trans rfl;have XR:wc.cell? ⟨Ra,4,none⟩=some (.int .i64 nc):=(ia Da.out 4).trans rfl;have ias:wc.cell? ⟨Ra,5,none⟩=some (.int .i64 Wc):=(ia Da.out 5).trans rfl;have gas:wc.cell? ⟨Ra,6,none⟩=some (.string zd):=(ia Da.out 6).trans rfl;have OQ:=aa Da.out 0;have NQ:=aa Da.out 1;have MQ:=aa Da.out 2;have LQ:=aa Da.out 3;have KQ:=aa Da.out 4;have Uao:=aa Da.out 5;have Tao:=aa Da.out 6;go_wp2;go_ret;exact ⟨by first|rfl|(simp [Pa,Oa] <;> rfl)|(simp [*,Pa,Oa] <;> rfl),GaH⟩
       ·replace o7:=Bool.eq_false_iff.mpr o7;subst o7;have H1:(some false)=some r:=by rw [if_neg (show ¬ (false=true) by decide)] at H;exact H
        clear H;have H:=H1;clear H1;obtain rfl:=Option.some.inj H;have saf:=Ob.out;have daf:=Pb.out;have kJ:wc.cell? ⟨Ra,0,none⟩=some (.int .i64 Lc):=(ia Da.out 0).trans rfl;have jJ:wc.cell? ⟨Ra,1,none⟩=some (.int .i64 Zb):=(ia Da.out 1).trans rfl;have iJ:wc.cell? ⟨Ra,2,none⟩=some (.int .i64 Tb):=(ia Da.out 2).trans rfl;have hJ:wc.cell? ⟨Ra,3,none⟩=some (.int .i64 Ub):=(ia Da.out 3).trans rfl;have gJ:wc.cell? ⟨Ra,4,none⟩=some (.int .i64 nc):=(ia Da.out 4).trans rfl;have Zar:wc.cell? ⟨Ra,5,none⟩=some (.int .i64 Wc):=(ia Da.out 5).trans rfl;have Yar:wc.cell? ⟨Ra,6,none⟩=some (.string zd):=(ia Da.out 6).trans rfl;have gI:=aa Da.out 0;have fI:=aa Da.out 1;have eI:=aa Da.out 2;have dI:=aa Da.out 3;have cI:=aa Da.out 4;have Nao:=aa Da.out 5;have Mao:=aa Da.out 6;go_wp2;go_ret;exact ⟨by first|rfl|(simp [Pa,Oa] <;> rfl)|(simp [*,Pa,Oa] <;> rfl),GaH⟩
      ·rw [if_neg MO] at H;have WX:(Lc == 0)=false:=beq_eq_false_iff_ne.mpr MO;have VX:(Lc != 0)=true:=bne_iff_ne.mpr MO
       by_cases c53:Lc=1
       ·rw [if_pos c53] at H;have Maj:(Lc == 1)=true:=beq_iff_eq.mpr c53;have Laj:(Lc != 1)=false:=bne_eq_false_iff_eq.mpr c53;clear c53
        by_cases c54:t103=true
        ·subst c54;have H1:(if t104=true then (if Ub=0 then (some (Wc == 0)) else (some false)) else (some false))=some r:=by rw [if_pos rfl] at H;exact H
         clear H;have H:=H1;clear H1
         by_cases c55:t104=true
         ·subst c55;have H1:(if Ub=0 then (some (Wc == 0)) else (some false))=some r:=by rw [if_pos rfl] at H;exact H
          clear H;have H:=H1;clear H1
          by_cases c56:Ub=0
          ·rw [if_pos c56] at H;have Kaj:(Ub == 0)=true:=beq_iff_eq.mpr c56;have Jaj:(Ub != 0)=false:=bne_eq_false_iff_eq.mpr c56;clear c56;obtain rfl:=Option.some.inj H;have aaB:=Ob.out;have taA:=Pb.out;have Z4:wc.cell? ⟨Ra,0,none⟩=some (.int .i64 Lc):=(ia Da.out 0).trans rfl;have Y4:wc.cell? ⟨Ra,1,none⟩=some (.int .i64 Zb):=(ia Da.out 1).trans rfl;have X4:wc.cell? ⟨Ra,2,none⟩=some (.int .i64 Tb):=(ia Da.out 2).trans rfl;have W4:wc.cell? ⟨Ra,3,none⟩=some (.int .i64 Ub):=(ia Da.out 3).trans rfl;have V4:wc.cell? ⟨Ra,4,none⟩=some (.int .i64 nc):=(ia Da.out 4).trans rfl;have Har:wc.cell? ⟨Ra,5,none⟩=some (.int .i64 Wc):=(ia Da.out 5).trans rfl;have Gar:wc.cell? ⟨Ra,6,none⟩=some (.string zd):=(ia Da.out 6).trans rfl;have X2:=aa Da.out 0;have V2:=aa Da.out 1;have U2:=aa Da.out 2;have T2:=aa Da.out 3;have R2:=aa Da.out 4;have wao:=aa Da.out 5;have vao:=aa Da.out 6;go_wp2;go_ret;exact ⟨by first|rfl|(simp [Pa,Oa] <;> rfl)|(simp [*,Pa,Oa] <;> rfl),GaH⟩
          ·rw [if_neg c56] at H;have Kaj:(Ub == 0)=false:=beq_eq_false_iff_ne.mpr c56;have Jaj:(Ub != 0)=true:=bne_iff_ne.mpr c56;obtain rfl:=Option.some.inj H;have ZaA:=Ob.out;have saA:=Pb.out;have Far:wc.cell? ⟨Ra,0,none⟩=some (.int .i64 Lc):=(ia Da.out 0).trans rfl;have Ear:wc.cell? ⟨Ra,1,none⟩=some (.int .i64 Zb):=(ia Da.out 1).trans rfl;have Dar:wc.cell? ⟨Ra,2,none⟩=some (.int .i64 Tb):=(ia Da.out 2).trans rfl;have Car:wc.cell? ⟨Ra,3,none⟩=some (.int .i64 Ub):=(ia Da.out 3).trans rfl;have Bar:wc.cell? ⟨Ra,4,none⟩=some (.int .i64 nc):=(ia Da.out 4).trans rfl;have Aar:wc.cell? ⟨Ra,5,none⟩=some (.int .i64 Wc):=(ia Da.out 5).trans rfl;have zar:wc.cell? ⟨Ra,6,none⟩=some (.string zd):=(ia Da.out 6).trans rfl;have uao:=aa Da.out 0;have tao:=aa Da.out 1;have sao:=aa Da.out 2;have rao:=aa Da.out 3;have qao:=aa Da.out 4;have pao:=aa Da.out 5;have oao:=aa Da.out 6;go_wp2;go_ret;exact ⟨by first|rfl|(simp [Pa,Oa] <;> rfl)|(simp [*,Pa,Oa] <;> rfl),GaH⟩
         ·replace c55:=Bool.eq_false_iff.mpr c55;subst c55;have H1:(some false)=some r:=by rw [if_neg (show ¬ (false=true) by decide)] at H;exact H
          clear H;have H:=H1;clear H1;obtain rfl:=Option.some.inj H;have YaA:=Ob.out;have raA:=Pb.out;have yar:wc.cell? ⟨Ra,0,none⟩=some (.int .i64 Lc):=(ia Da.out 0).trans rfl;have xar:wc.cell? ⟨Ra,1,none⟩=some (.int .i64 Zb):=(ia Da.out 1).trans rfl;have war:wc.cell? ⟨Ra,2,none⟩=some (.int .i64 Tb):=(ia Da.out 2).trans rfl;have uar:wc.cell? ⟨Ra,3,none⟩=some (.int .i64 Ub):=(ia Da.out 3).trans rfl;have tar:wc.cell? ⟨Ra,4,none⟩=some (.int .i64 nc):=(ia Da.out 4).trans rfl;have sar:wc.cell? ⟨Ra,5,none⟩=some (.int .i64 Wc):=(ia Da.out 5).trans rfl;have rar:wc.cell? ⟨Ra,6,none⟩=some (.string zd):=(ia Da.out 6).trans rfl;have nao:=aa Da.out 0;have mao:=aa Da.out 1;have lao:=aa Da.out 2;have kao:=aa Da.out 3;have jao:=aa Da.out 4;have iao:=aa Da.out 5;have gao:=aa Da.out 6;go_wp2;go_ret;exact ⟨by first|rfl|(simp [Pa,Oa] <;> rfl)|(simp [*,Pa,Oa] <;> rfl),GaH⟩
        ·replace c54:=Bool.eq_false_iff.mpr c54;subst c54;have H1:(some false)=some r:=by rw [if_neg (show ¬ (false=true) by decide)] at H;exact H
         clear H;have H:=H1;clear H1;obtain rfl:=Option.some.inj H;have XaA:=Ob.out;have qaA:=Pb.out;have qar:wc.cell? ⟨Ra,0,none⟩=some (.int .i64 Lc):=(ia Da.out 0).trans rfl;have oar:wc.cell? ⟨Ra,1,none⟩=some (.int .i64 Zb):=(ia Da.out 1).trans rfl;have nar:wc.cell? ⟨Ra,2,none⟩=some (.int .i64 Tb):=(ia Da.out 2).trans rfl;have mar:wc.cell? ⟨Ra,3,none⟩=some (.int .i64 Ub):=(ia Da.out 3).trans rfl;have lar:wc.cell? ⟨Ra,4,none⟩=some (.int .i64 nc):=(ia Da.out 4).trans rfl;have kar:wc.cell? ⟨Ra,5,none⟩=some (.int .i64 Wc):=(ia Da.out 5).trans rfl;have jar:wc.cell? ⟨Ra,6,none⟩=some (.string zd):=(ia Da.out 6).trans rfl;have fao:=aa Da.out 0;have eao:=aa Da.out 1;have dao:=aa Da.out 2;have cao:=aa Da.out 3;have bao:=aa Da.out 4;have aao:=aa Da.out 5;have Zan:=aa Da.out 6;go_wp2;go_ret;exact ⟨by first|rfl|(simp [Pa,Oa] <;> rfl)|(simp [*,Pa,Oa] <;> rfl),GaH⟩
       ·rw [if_neg c53] at H;have Maj:(Lc == 1)=false:=beq_eq_false_iff_ne.mpr c53;have Laj:(Lc != 1)=true:=bne_iff_ne.mpr c53
        by_cases c65:Lc=2
        ·rw [if_pos c65] at H;have Iaj:(Lc == 2)=true:=beq_iff_eq.mpr c65;have Haj:(Lc != 2)=false:=bne_eq_false_iff_eq.mpr c65;clear c65
         by_cases c66:t103=true
         ·subst c66;have H1:(if t104=true then (if t105=true then (if Wc=0 then ((jf.f EU (([(⟨#[61,61]⟩:ByteArray),(⟨#[60]⟩:ByteArray),(⟨#[38]⟩:ByteArray),(⟨#[43]⟩:ByteArray),(⟨#[45]⟩:ByteArray),(⟨#[42]⟩:ByteArray)]:List ByteArray)) zd).bind fun t111=>(some t111)) else (some false)) else (some false)) else (some false))=some r:=by rw [if_pos rfl] at H;exact H
          clear H;have H:=H1;clear H1
          by_cases c67:t104=true
          ·subst c67;have H1:(if t105=true then (if Wc=0 then ((jf.f EU (([(⟨#[61,61]⟩:ByteArray),(⟨#[60]⟩:ByteArray),(⟨#[38]⟩:ByteArray),(⟨#[43]⟩:ByteArray),(⟨#[45]⟩:ByteArray),(⟨#[42]⟩:ByteArray)]:List ByteArray)) zd).bind fun t111=>(some t111)) else (some false)) else (some false))=some r:=by rw [if_pos rfl] at H;exact H
           clear H;have H:=H1;clear H1
           by_cases c68:t105=true
           ·subst c68;have H1:(if Wc=0 then ((jf.f EU (([(⟨#[61,61]⟩:ByteArray),(⟨#[60]⟩:ByteArray),(⟨#[38]⟩:ByteArray),(⟨#[43]⟩:ByteArray),(⟨#[45]⟩:ByteArray),(⟨#[42]⟩:ByteArray)]:List ByteArray)) zd).bind fun t111=>(some t111)) else (some false))=some r:=by rw [if_pos rfl] at H;exact H
            clear H;have H:=H1;clear H1
            by_cases c69:Wc=0
            ·rw [if_pos c69] at H;have Gaj:(Wc == 0)=true:=beq_iff_eq.mpr c69;have Faj:(Wc != 0)=false:=bne_eq_false_iff_eq.mpr c69;clear c69;obtain ⟨gh,Ef⟩:∃ y_:List ByteArray,y_=(([(⟨#[61,61]⟩:ByteArray),(⟨#[60]⟩:ByteArray),(⟨#[38]⟩:ByteArray),(⟨#[43]⟩:ByteArray),(⟨#[45]⟩:ByteArray),(⟨#[42]⟩:ByteArray)]:List ByteArray)):=⟨_,rfl⟩;replace H:((jf.f EU gh zd).bind fun t111=>(some t111))=some r:=by first|(rw [Ef];with_reducible exact H)|(have Td:=(Option.bind_some _ _).symm.trans H;rw [Ef];with_reducible exact Td)|(have Td:=(Option.bind_some _ _).symm.trans H;with_reducible exact Td)|with_reducible exact H|(rw [Ef];exact H)|exact H
             have Wj:=ga.mk Ef;clear Ef;replace H:=Option.bind_eq_some_iff.mp H;obtain ⟨t111,aam,H⟩:=H;replace H:(some t111)=some r:=H;have tV:=ga.mk aam;clear aam;obtain rfl:=Option.some.inj H;have WaA:=Ob.out;have paA:=Pb.out;have iar:wc.cell? ⟨Ra,0,none⟩=some (.int .i64 Lc):=(ia Da.out 0).trans rfl;have har:wc.cell? ⟨Ra,1,none⟩=some (.int .i64 Zb):=(ia Da.out 1).trans rfl;have gar:wc.cell? ⟨Ra,2,none⟩=some (.int .i64 Tb):=(ia Da.out 2).trans rfl;have ear:wc.cell? ⟨Ra,3,none⟩=some (.int .i64 Ub):=(ia Da.out 3).trans rfl;have dar:wc.cell? ⟨Ra,4,none⟩=some (.int .i64 nc):=(ia Da.out 4).trans rfl;have car:wc.cell? ⟨Ra,5,none⟩=some (.int .i64 Wc):=(ia Da.out 5).trans rfl;have bar:wc.cell? ⟨Ra,6,none⟩=some (.string zd):=(ia Da.out 6).trans rfl;have Yan:=aa Da.out 0;have Xan:=aa Da.out 1;have Wan:=aa Da.out 2;have Van:=aa Da.out 3;have Uan:=aa Da.out 4;have Tan:=aa Da.out 5;have San:=aa Da.out 6;go_wp2_with (first|((with_reducible refine qb (N:=109) rfl ?_);(try (refine Wg (by rfl) ?_;dsimp only));refine Kd.Vj Kd.string _ 9 ?hg (N:=109) ?hd (xs:=([(⟨#[61,61]⟩:ByteArray),(⟨#[60]⟩:ByteArray),(⟨#[38]⟩:ByteArray),(⟨#[43]⟩:ByteArray),(⟨#[45]⟩:ByteArray),(⟨#[42]⟩:ByteArray)]:List ByteArray)) (inner:=[.string (⟨#[61,61]⟩:ByteArray),.string (⟨#[60]⟩:ByteArray),.string (⟨#[38]⟩:ByteArray),.string (⟨#[43]⟩:ByteArray),.string (⟨#[45]⟩:ByteArray),.string (⟨#[42]⟩:ByteArray)]) (ok:=fun _=>True) (Di:=fun _=>True) ?hr ?hp (fun _ hk=>hk) trivial (Below.refl _ _) (Nat.le_refl _) (by simp) ?_;(case hd=>rfl);(case hg=>rfl);(case hr=>first|(go_simp;done)|(go_simp;rfl));(case hp=>exact (Sd.one (show Kd.M Kd.string _ _ _ (⟨#[61,61]⟩:ByteArray) [.string (⟨#[61,61]⟩:ByteArray)] from rfl) (Sd.one (show Kd.M Kd.string _ _ _ (⟨#[60]⟩:ByteArray) [.string (⟨#[60]⟩:ByteArray)] from rfl) (Sd.one (show Kd.M Kd.string _ _ _ (⟨#[38]⟩:ByteArray) [.string (⟨#[38]⟩:ByteArray)] from rfl) (Sd.one (show Kd.M Kd.string _ _ _ (⟨#[43]⟩:ByteArray) [.string (⟨#[43]⟩:ByteArray)] from rfl) (Sd.one (show Kd.M Kd.string _ _ _ (⟨#[45]⟩:ByteArray) [.string (⟨#[45]⟩:ByteArray)] from rfl) (Sd.one (show Kd.M Kd.string _ _ _ (⟨#[42]⟩:ByteArray) [.string (⟨#[42]⟩:ByteArray)] from rfl) (Sd.none _ _))))))));intro nG w73 PW hb Wm Ye;clear Wm Ye;(first|rw [← Wj.out] at PW|(simp only [Int.reduceToNat] at PW;rw [← Wj.out] at PW));have Cb:=ga.mk (Kd.Wd PW (La KaH));have Eb:=ga.mk (Va (g:=ya) (o:=.cells #[.slice Wa Qa.length Xa,.int .i64 Ja,.int .i64 Ga,.int .i64 Ia,.slice Jb Aa.length yb] 30 (0,0)) DaH hb);have Rb:=ga.mk (Va (g:=Ra) (o:=.cells #[.int .i64 Lc,.int .i64 Zb,.int .i64 Tb,.int .i64 Ub,.int .i64 nc,.int .i64 Wc,.string zd] 65 (0,0)) LaH hb);have Gc:=ga.mk (Na KaH hb);clear oa Da HB;have Ij:=Cb;have oa:=Eb;have Da:=Rb;have HB:=Gc;clear Cb Eb Rb Gc hb PW;have aar:w73.cell? ⟨Ra,0,none⟩=some (.int .i64 Lc):=(ia Da.out 0).trans rfl;have Zaq:w73.cell? ⟨Ra,1,none⟩=some (.int .i64 Zb):=(ia Da.out 1).trans rfl;have Yaq:w73.cell? ⟨Ra,2,none⟩=some (.int .i64 Tb):=(ia Da.out 2).trans rfl;have Xaq:w73.cell? ⟨Ra,3,none⟩=some (.int .i64 Ub):=(ia Da.out 3).trans rfl;have Waq:w73.cell? ⟨Ra,4,none⟩=some (.int .i64 nc):=(ia Da.out 4).trans rfl;have Vaq:w73.cell? ⟨Ra,5,none⟩=some (.int .i64 Wc):=(ia Da.out 5).trans rfl;have Uaq:w73.cell? ⟨Ra,6,none⟩=some (.string zd):=(ia Da.out 6).trans rfl;have Ran:=aa Da.out 0;have Qan:=aa Da.out 1;have Pan:=aa Da.out 2;have Oan:=aa Da.out 3;have Nan:=aa Da.out 4;have Man:=aa Da.out 5;have Lan:=aa Da.out 6;obtain ⟨raG,PaE,Qaw⟩:=Kd.Bd Ij.out;subst Qaw)|(go_at_call 113;(with_reducible refine (jf.calls EU _ _ gh zd t111 _ ?yc ?uc tV.out).mono ?_);(case yc=>repeat (first|exact (Kd.Vb Ij.out).2.2|(with_reducible refine Kd.Lb ?_ _)|(with_reducible refine Kd.Kb ?_ _)|(with_reducible refine Kd.Xb ?_)));(case uc=>exact (Kd.Vb Ij.out).2.1);rintro e w' ⟨rfl,⟨nd,rfl⟩⟩));go_ret;exact ⟨by first|rfl|(simp [Pa,Oa] <;> rfl)|(simp [*,Pa,Oa] <;> rfl),GaH⟩
            ·rw [if_neg c69] at H;have Gaj:(Wc == 0)=false:=beq_eq_false_iff_ne.mpr c69;have Faj:(Wc != 0)=true:=bne_iff_ne.mpr c69;obtain rfl:=Option.some.inj H;have VaA:=Ob.out;have oaA:=Pb.out;have Taq:wc.cell? ⟨Ra,0,none⟩=some (.int .i64 Lc):=(ia Da.out 0).trans rfl;have Saq:wc.cell? ⟨Ra,1,none⟩=some (.int .i64 Zb):=(ia Da.out 1).trans rfl;have Raq:wc.cell? ⟨Ra,2,none⟩=some (.int .i64 Tb):=(ia Da.out 2).trans rfl;have Qaq:wc.cell? ⟨Ra,3,none⟩=some (.int .i64 Ub):=(ia Da.out 3).trans rfl;have Paq:wc.cell? ⟨Ra,4,none⟩=some (.int .i64 nc):=(ia Da.out 4).trans rfl;have Oaq:wc.cell? ⟨Ra,5,none⟩=some (.int .i64 Wc):=(ia Da.out 5).trans rfl;have Naq:wc.cell? ⟨Ra,6,none⟩=some (.string zd):=(ia Da.out 6).trans rfl;have Kan:=aa Da.out 0;have Jan:=aa Da.out 1;have Ian:=aa Da.out 2;have Han:=aa Da.out 3;have Gan:=aa Da.out 4;have Fan:=aa Da.out 5;have Ean:=aa Da.out 6;go_wp2;go_ret;exact ⟨by first|rfl|(simp [Pa,Oa] <;> rfl)|(simp [*,Pa,Oa] <;> rfl),GaH⟩
           ·replace c68:=Bool.eq_false_iff.mpr c68;subst c68;have H1:(some false)=some r:=by rw [if_neg (show ¬ (false=true) by decide)] at H;exact H
            clear H;have H:=H1;clear H1;obtain rfl:=Option.some.inj H;have UaA:=Ob.out;have naA:=Pb.out;have Maq:wc.cell? ⟨Ra,0,none⟩=some (.int .i64 Lc):=(ia Da.out 0).trans rfl;have Laq:wc.cell? ⟨Ra,1,none⟩=some (.int .i64 Zb):=(ia Da.out 1).trans rfl;have Kaq:wc.cell? ⟨Ra,2,none⟩=some (.int .i64 Tb):=(ia Da.out 2).trans rfl;have Jaq:wc.cell? ⟨Ra,3,none⟩=some (.int .i64 Ub):=(ia Da.out 3).trans rfl;have Iaq:wc.cell? ⟨Ra,4,none⟩=some (.int .i64 nc):=(ia Da.out 4).trans rfl;have Haq:wc.cell? ⟨Ra,5,none⟩=some (.int .i64 Wc):=(ia Da.out 5).trans rfl;have Gaq:wc.cell? ⟨Ra,6,none⟩=some (.string zd):=(ia Da.out 6).trans rfl;have Dan:=aa Da.out 0;have Ban:=aa Da.out 1;have Aan:=aa Da.out 2;have zan:=aa Da.out 3;have yan:=aa Da.out 4;have xan:=aa Da.out 5;have wan:=aa Da.out 6;go_wp2;go_ret;exact ⟨by first|rfl|(simp [Pa,Oa] <;> rfl)|(simp [*,Pa,Oa] <;> rfl),GaH⟩
          ·replace c67:=Bool.eq_false_iff.mpr c67;subst c67;have H1:(some false)=some r:=by rw [if_neg (show ¬ (false=true) by decide)] at H;exact H
           clear H;have H:=H1;clear H1;obtain rfl:=Option.some.inj H;have TaA:=Ob.out;have maA:=Pb.out;have Faq:wc.cell? ⟨Ra,0,none⟩=some (.int .i64 Lc):=(ia Da.out 0).trans rfl;have Eaq:wc.cell? ⟨Ra,1,none⟩=some (.int .i64 Zb):=(ia Da.out 1).trans rfl;have Daq:wc.cell? ⟨Ra,2,none⟩=some (.int .i64 Tb):=(ia Da.out 2).trans rfl;have Caq:wc.cell? ⟨Ra,3,none⟩=some (.int .i64 Ub):=(ia Da.out 3).trans rfl;have Baq:wc.cell? ⟨Ra,4,none⟩=some (.int .i64 nc):=(ia Da.out 4).trans rfl;have Aaq:wc.cell? ⟨Ra,5,none⟩=some (.int .i64 Wc):=(ia Da.out 5).trans rfl;have zaq:wc.cell? ⟨Ra,6,none⟩=some (.string zd):=(ia Da.out 6).trans rfl;have van:=aa Da.out 0;have uan:=aa Da.out 1;have san:=aa Da.out 2;have qan:=aa Da.out 3;have pan:=aa Da.out 4;have oan:=aa Da.out 5;have man:=aa Da.out 6;go_wp2;go_ret;exact ⟨by first|rfl|(simp [Pa,Oa] <;> rfl)|(simp [*,Pa,Oa] <;> rfl),GaH⟩
         ·replace c66:=Bool.eq_false_iff.mpr c66;subst c66;have H1:(some false)=some r:=by rw [if_neg (show ¬ (false=true) by decide)] at H;exact H
          clear H;have H:=H1;clear H1;obtain rfl:=Option.some.inj H;have SaA:=Ob.out;have laA:=Pb.out;have yaq:wc.cell? ⟨Ra,0,none⟩=some (.int .i64 Lc):=(ia Da.out 0).trans rfl;have xaq:wc.cell? ⟨Ra,1,none⟩=some (.int .i64 Zb):=(ia Da.out 1).trans rfl;have waq:wc.cell? ⟨Ra,2,none⟩=some (.int .i64 Tb):=(ia Da.out 2).trans rfl;have vaq:wc.cell? ⟨Ra,3,none⟩=some (.int .i64 Ub):=(ia Da.out 3).trans rfl;have uaq:wc.cell? ⟨Ra,4,none⟩=some (.int .i64 nc):=(ia Da.out 4).trans rfl;have taq:wc.cell? ⟨Ra,5,none⟩=some (.int .i64 Wc):=(ia Da.out 5).trans rfl;have saq:wc.cell? ⟨Ra,6,none⟩=some (.string zd):=(ia Da.out 6).trans rfl;have lan:=aa Da.out 0;have kan:=aa Da.out 1;have jan:=aa Da.out 2;have ian:=aa Da.out 3;have gan:=aa Da.out 4;have fan:=aa Da.out 5;have ean:=aa Da.out 6;go_wp2;go_ret;exact ⟨by first|rfl|(simp [Pa,Oa] <;> rfl)|(simp [*,Pa,Oa] <;> rfl),GaH⟩
        ·rw [if_neg c65] at H;have Iaj:(Lc == 2)=false:=beq_eq_false_iff_ne.mpr c65;have Haj:(Lc != 2)=true:=bne_iff_ne.mpr c65
         by_cases c85:Lc=3
         ·rw [if_pos c85] at H;have Eaj:(Lc == 3)=true:=beq_iff_eq.mpr c85;have Daj:(Lc != 3)=false:=bne_eq_false_iff_eq.mpr c85;clear c85
          by_cases c86:t103=true
          ·subst c86;have H1:(some sL)=some r:=by rw [if_pos rfl] at H;exact H
           clear H;have H:=H1;clear H1;obtain rfl:=Option.some.inj H;have RaA:=Ob.out;have kaA:=Pb.out;have raq:wc.cell? ⟨Ra,0,none⟩=some (.int .i64 Lc):=(ia Da.out 0).trans rfl;have qaq:wc.cell? ⟨Ra,1,none⟩=some (.int .i64 Zb):=(ia Da.out 1).trans rfl;have paq:wc.cell? ⟨Ra,2,none⟩=some (.int .i64 Tb):=(ia Da.out 2).trans rfl;have oaq:wc.cell? ⟨Ra,3,none⟩=some (.int .i64 Ub):=(ia Da.out 3).trans rfl;have naq:wc.cell? ⟨Ra,4,none⟩=some (.int .i64 nc):=(ia Da.out 4).trans rfl;have maq:wc.cell? ⟨Ra,5,none⟩=some (.int .i64 Wc):=(ia Da.out 5).trans rfl;have laq:wc.cell? ⟨Ra,6,none⟩=some (.string zd):=(ia Da.out 6).trans rfl;have dan:=aa Da.out 0;have ban:=aa Da.out 1;have aan:=aa Da.out 2;have Zam:=aa Da.out 3;have Yam:=aa Da.out 4;have Xam:=aa Da.out 5;have Wam:=aa Da.out 6;go_wp2;go_ret;exact ⟨by first|rfl|(simp [Pa,Oa] <;> rfl)|(simp [*,Pa,Oa] <;> rfl),GaH⟩
          ·replace c86:=Bool.eq_false_iff.mpr c86;subst c86;have H1:(some false)=some r:=by rw [if_neg (show ¬ (false=true) by decide)] at H;exact H
           clear H;have H:=H1;clear H1;obtain rfl:=Option.some.inj H;have QaA:=Ob.out;have jaA:=Pb.out;have kaq:wc.cell? ⟨Ra,0,none⟩=some (.int .i64 Lc):=(ia Da.out 0).trans rfl;have jaq:wc.cell? ⟨Ra,1,none⟩=some (.int .i64 Zb):=(ia Da.out 1).trans rfl;have iaq:wc.cell? ⟨Ra,2,none⟩=some (.int .i64 Tb):=(ia Da.out 2).trans rfl;have haq:wc.cell? ⟨Ra,3,none⟩=some (.int .i64 Ub):=(ia Da.out 3).trans rfl;have gaq:wc.cell? ⟨Ra,4,none⟩=some (.int .i64 nc):=(ia Da.out 4).trans rfl;have faq:wc.cell? ⟨Ra,5,none⟩=some (.int .i64 Wc):=(ia Da.out 5).trans rfl;have eaq:wc.cell? ⟨Ra,6,none⟩=some (.string zd):=(ia Da.out 6).trans rfl;have Vam:=aa Da.out 0;have Uam:=aa Da.out 1;have Tam:=aa Da.out 2;have Sam:=aa Da.out 3;have Ram:=aa Da.out 4;have Qam:=aa Da.out 5;have Pam:=aa Da.out 6;go_wp2;go_ret;exact ⟨by first|rfl|(simp [Pa,Oa] <;> rfl)|(simp [*,Pa,Oa] <;> rfl),GaH⟩
         ·rw [if_neg c85] at H;have Eaj:(Lc == 3)=false:=beq_eq_false_iff_ne.mpr c85;have Daj:(Lc != 3)=true:=bne_iff_ne.mpr c85
          by_cases c91:Lc=4
          ·rw [if_pos c91] at H;have Baj:(Lc == 4)=true:=beq_iff_eq.mpr c91;have Aaj:(Lc != 4)=false:=bne_eq_false_iff_eq.mpr c91;clear c91
           by_cases c92:Zb=0
           ·rw [if_pos c92] at H;have zaj:(Zb == 0)=true:=beq_iff_eq.mpr c92;have yaj:(Zb != 0)=false:=bne_eq_false_iff_eq.mpr c92;clear c92
            by_cases c93:sL=true
            ·subst c93;have H1:((gb.f nc 0 (wrap64 (Ia - 1))).bind fun t112=>(some t112))=some r:=by rw [if_pos rfl] at H;exact H
             clear H;have H:=H1;clear H1;replace H:=Option.bind_eq_some_iff.mp H;obtain ⟨t112,Zal,H⟩:=H;replace H:(some t112)=some r:=H;have A94:=ga.mk Zal;clear Zal;obtain rfl:=Option.some.inj H;have PaA:=Ob.out;have iaA:=Pb.out;have daq:wc.cell? ⟨Ra,0,none⟩=some (.int .i64 Lc):=(ia Da.out 0).trans rfl;have caq:wc.cell? ⟨Ra,1,none⟩=some (.int .i64 Zb):=(ia Da.out 1).trans rfl;have baq:wc.cell? ⟨Ra,2,none⟩=some (.int .i64 Tb):=(ia Da.out 2).trans rfl;have aaq:wc.cell? ⟨Ra,3,none⟩=some (.int .i64 Ub):=(ia Da.out 3).trans rfl;have Zap:wc.cell? ⟨Ra,4,none⟩=some (.int .i64 nc):=(ia Da.out 4).trans rfl;have Yap:wc.cell? ⟨Ra,5,none⟩=some (.int .i64 Wc):=(ia Da.out 5).trans rfl;have Xap:wc.cell? ⟨Ra,6,none⟩=some (.string zd):=(ia Da.out 6).trans rfl;have Oam:=aa Da.out 0;have Nam:=aa Da.out 1;have Mam:=aa Da.out 2;have Lam:=aa Da.out 3;have Kam:=aa Da.out 4;have Jam:=aa Da.out 5;have Iam:=aa Da.out 6;have Wap:wc.cell? ⟨ya,0,none⟩=some (.slice Wa Qa.length Xa):=(ia oa.out 0).trans rfl;have Vap:wc.cell? ⟨ya,1,none⟩=some (.int .i64 Ja):=(ia oa.out 1).trans rfl;have Uap:wc.cell? ⟨ya,2,none⟩=some (.int .i64 Ga):=(ia oa.out 2).trans rfl;have Tap:wc.cell? ⟨ya,3,none⟩=some (.int .i64 Ia):=(ia oa.out 3).trans rfl;have Sap:wc.cell? ⟨ya,4,none⟩=some (.slice Jb Aa.length yb):=(ia oa.out 4).trans rfl;have Ham:=aa oa.out 0;have Gam:=aa oa.out 1;have Fam:=aa oa.out 2;have Eam:=aa oa.out 3;have Dam:=aa oa.out 4;go_wp2_with (first|(go_at_call 53;(with_reducible refine (gb.calls nc 0 (wrap64 (Ia - 1)) t112 _ A94.out).mono ?_);rintro e w' ⟨rfl,⟨nd,rfl⟩⟩));go_ret;exact ⟨by first|rfl|(simp [Pa,Oa] <;> rfl)|(simp [*,Pa,Oa] <;> rfl),GaH⟩
            ·replace c93:=Bool.eq_false_iff.mpr c93;subst c93;have H1:(some false)=some r:=by rw [if_neg (show ¬ (false=true) by decide)] at H;exact H
             clear H;have H:=H1;clear H1;obtain rfl:=Option.some.inj H;have OaA:=Ob.out;have haA:=Pb.out;have Rap:wc.cell? ⟨Ra,0,none⟩=some (.int .i64 Lc):=(ia Da.out 0).trans rfl;have Qap:wc.cell? ⟨Ra,1,none⟩=some (.int .i64 Zb):=(ia Da.out 1).trans rfl;have Pap:wc.cell? ⟨Ra,2,none⟩=some (.int .i64 Tb):=(ia Da.out 2).trans rfl;have Oap:wc.cell? ⟨Ra,3,none⟩=some (.int .i64 Ub):=(ia Da.out 3).trans rfl;have Nap:wc.cell? ⟨Ra,4,none⟩=some (.int .i64 nc):=(ia Da.out 4).trans rfl;have Lap:wc.cell? ⟨Ra,5,none⟩=some (.int .i64 Wc):=(ia Da.out 5).trans rfl;have Kap:wc.cell? ⟨Ra,6,none⟩=some (.string zd):=(ia Da.out 6).trans rfl;have Cam:=aa Da.out 0;have Bam:=aa Da.out 1;have Aam:=aa Da.out 2;have zam:=aa Da.out 3;have yam:=aa Da.out 4;have xam:=aa Da.out 5;have wam:=aa Da.out 6;go_wp2;go_ret;exact ⟨by first|rfl|(simp [Pa,Oa] <;> rfl)|(simp [*,Pa,Oa] <;> rfl),GaH⟩
           ·rw [if_neg c92] at H;have zaj:(Zb == 0)=false:=beq_eq_false_iff_ne.mpr c92;have yaj:(Zb != 0)=true:=bne_iff_ne.mpr c92;obtain rfl:=Option.some.inj H;have Mav:=Ob.out;have yav:=Pb.out;have Gai:wc.cell? ⟨Ra,0,none⟩=some (.int .i64 Lc):=(ia Da.out 0).trans rfl;have Fai:wc.cell? ⟨Ra,1,none⟩=some (.int .i64 Zb):=(ia Da.out 1).trans rfl;have Eai:wc.cell? ⟨Ra,2,none⟩=some (.int .i64 Tb):=(ia Da.out 2).trans rfl;have Dai:wc.cell? ⟨Ra,3,none⟩=some (.int .i64 Ub):=(ia Da.out 3).trans rfl;have Cai:wc.cell? ⟨Ra,4,none⟩=some (.int .i64 nc):=(ia Da.out 4).trans rfl;have Bai:wc.cell? ⟨Ra,5,none⟩=some (.int .i64 Wc):=(ia Da.out 5).trans rfl;have Aai:wc.cell? ⟨Ra,6,none⟩=some (.string zd):=(ia Da.out 6).trans rfl;have iah:=aa Da.out 0;have hah:=aa Da.out 1;have gah:=aa Da.out 2;have fah:=aa Da.out 3;have eah:=aa Da.out 4;have dah:=aa Da.out 5;have cah:=aa Da.out 6;go_wp2;go_ret;exact ⟨by first|rfl|(simp [Pa,Oa] <;> rfl)|(simp [*,Pa,Oa] <;> rfl),GaH⟩
          ·rw [if_neg c91] at H;have Baj:(Lc == 4)=false:=beq_eq_false_iff_ne.mpr c91;have Aaj:(Lc != 4)=true:=bne_iff_ne.mpr c91
           by_cases XO:Lc=5
           ·rw [if_pos XO] at H;have Eac:(Lc == 5)=true:=beq_iff_eq.mpr XO;have Dac:(Lc != 5)=false:=bne_eq_false_iff_eq.mpr XO;clear XO
            by_cases B7:t103=true
            ·subst B7;have H1:(if Tb=0 then (if Ub=0 then (some (Wc == 0)) else (some false)) else (some false))=some r:=by rw [if_pos rfl] at H;exact H
             clear H;have H:=H1;clear H1
             by_cases WO:Tb=0
             ·rw [if_pos WO] at H;have Bac:(Tb == 0)=true:=beq_iff_eq.mpr WO;have Aac:(Tb != 0)=false:=bne_eq_false_iff_eq.mpr WO;clear WO
              by_cases VO:Ub=0
              ·rw [if_pos VO] at H;have zac:(Ub == 0)=true:=beq_iff_eq.mpr VO;have yac:(Ub != 0)=false:=bne_eq_false_iff_eq.mpr VO;clear VO;obtain rfl:=Option.some.inj H;have Lav:=Ob.out;have xav:=Pb.out;have zai:wc.cell? ⟨Ra,0,none⟩=some (.int .i64 Lc):=(ia Da.out 0).trans rfl;have yai:wc.cell? ⟨Ra,1,none⟩=some (.int .i64 Zb):=(ia Da.out 1).trans rfl;have xai:wc.cell? ⟨Ra,2,none⟩=some (.int .i64 Tb):=(ia Da.out 2).trans rfl;have wai:wc.cell? ⟨Ra,3,none⟩=some (.int .i64 Ub):=(ia Da.out 3).trans rfl;have vai:wc.cell? ⟨Ra,4,none⟩=some (.int .i64 nc):=(ia Da.out 4).trans rfl;have uai:wc.cell? ⟨Ra,5,none⟩=some (.int .i64 Wc):=(ia Da.out 5).trans rfl;have tai:wc.cell? ⟨Ra,6,none⟩=some (.string zd):=(ia Da.out 6).trans rfl;have bah:=aa Da.out 0;have aah:=aa Da.out 1;have Zag:=aa Da.out 2;have Yag:=aa Da.out 3;have Xag:=aa Da.out 4;have Wag:=aa Da.out 5;have Vag:=aa Da.out 6;go_wp2;go_ret;exact ⟨by first|rfl|(simp [Pa,Oa] <;> rfl)|(simp [*,Pa,Oa] <;> rfl),GaH⟩
              ·rw [if_neg VO] at H;have zac:(Ub == 0)=false:=beq_eq_false_iff_ne.mpr VO;have yac:(Ub != 0)=true:=bne_iff_ne.mpr VO;obtain rfl:=Option.some.inj H;have Kav:=Ob.out;have wav:=Pb.out;have sai:wc.cell? ⟨Ra,0,none⟩=some (.int .i64 Lc):=(ia Da.out 0).trans rfl;have rai:wc.cell? ⟨Ra,1,none⟩=some (.int .i64 Zb):=(ia Da.out 1).trans rfl;have qai:wc.cell? ⟨Ra,2,none⟩=some (.int .i64 Tb):=(ia Da.out 2).trans rfl;have pai:wc.cell? ⟨Ra,3,none⟩=some (.int .i64 Ub):=(ia Da.out 3).trans rfl;have oai:wc.cell? ⟨Ra,4,none⟩=some (.int .i64 nc):=(ia Da.out 4).trans rfl;have nai:wc.cell? ⟨Ra,5,none⟩=some (.int .i64 Wc):=(ia Da.out 5).trans rfl;have mai:wc.cell? ⟨Ra,6,none⟩=some (.string zd):=(ia Da.out 6).trans rfl;have Uag:=aa Da.out 0;have Sag:=aa Da.out 1;have Rag:=aa Da.out 2;have Qag:=aa Da.out 3;have Pag:=aa Da.out 4;have Oag:=aa Da.out 5;have Nag:=aa Da.out 6;go_wp2;go_ret;exact ⟨by first|rfl|(simp [Pa,Oa] <;> rfl)|(simp [*,Pa,Oa] <;> rfl),GaH⟩
             ·rw [if_neg WO] at H;have Bac:(Tb == 0)=false:=beq_eq_false_iff_ne.mpr WO;have Aac:(Tb != 0)=true:=bne_iff_ne.mpr WO;obtain rfl:=Option.some.inj H;have Jav:=Ob.out;have vav:=Pb.out;have lai:wc.cell? ⟨Ra,0,none⟩=some (.int .i64 Lc):=(ia Da.out 0).trans rfl;have kai:wc.cell? ⟨Ra,1,none⟩=some (.int .i64 Zb):=(ia Da.out 1).trans rfl;have jai:wc.cell? ⟨Ra,2,none⟩=some (.int .i64 Tb):=(ia Da.out 2).trans rfl;have iai:wc.cell? ⟨Ra,3,none⟩=some (.int .i64 Ub):=(ia Da.out 3).trans rfl;have hai:wc.cell? ⟨Ra,4,none⟩=some (.int .i64 nc):=(ia Da.out 4).trans rfl;have gai:wc.cell? ⟨Ra,5,none⟩=some (.int .i64 Wc):=(ia Da.out 5).trans rfl;have fai:wc.cell? ⟨Ra,6,none⟩=some (.string zd):=(ia Da.out 6).trans rfl;have Mag:=aa Da.out 0;have Lag:=aa Da.out 1;have Kag:=aa Da.out 2;have Jag:=aa Da.out 3;have Iag:=aa Da.out 4;have Hag:=aa Da.out 5;have Gag:=aa Da.out 6;go_wp2;go_ret;exact ⟨by first|rfl|(simp [Pa,Oa] <;> rfl)|(simp [*,Pa,Oa] <;> rfl),GaH⟩
            ·replace B7:=Bool.eq_false_iff.mpr B7;subst B7;have H1:(some false)=some r:=by rw [if_neg (show ¬ (false=true) by decide)] at H;exact H
             clear H;have H:=H1;clear H1;obtain rfl:=Option.some.inj H;have Iav:=Ob.out;have uav:=Pb.out;have eai:wc.cell? ⟨Ra,0,none⟩=some (.int .i64 Lc):=(ia Da.out 0).trans rfl;have dai:wc.cell? ⟨Ra,1,none⟩=some (.int .i64 Zb):=(ia Da.out 1).trans rfl;have cai:wc.cell? ⟨Ra,2,none⟩=some (.int .i64 Tb):=(ia Da.out 2).trans rfl;have bai:wc.cell? ⟨Ra,3,none⟩=some (.int .i64 Ub):=(ia Da.out 3).trans rfl;have aai:wc.cell? ⟨Ra,4,none⟩=some (.int .i64 nc):=(ia Da.out 4).trans rfl;have Zah:wc.cell? ⟨Ra,5,none⟩=some (.int .i64 Wc):=(ia Da.out 5).trans rfl;have Yah:wc.cell? ⟨Ra,6,none⟩=some (.string zd):=(ia Da.out 6).trans rfl;have Fag:=aa Da.out 0;have Eag:=aa Da.out 1;have Dag:=aa Da.out 2;have Cag:=aa Da.out 3;have Bag:=aa Da.out 4;have Aag:=aa Da.out 5;have zag:=aa Da.out 6;go_wp2;go_ret;exact ⟨by first|rfl|(simp [Pa,Oa] <;> rfl)|(simp [*,Pa,Oa] <;> rfl),GaH⟩
           ·rw [if_neg XO] at H;have Eac:(Lc == 5)=false:=beq_eq_false_iff_ne.mpr XO;have Dac:(Lc != 5)=true:=bne_iff_ne.mpr XO
            by_cases RO:Lc=6
            ·rw [if_pos RO] at H;have vac:(Lc == 6)=true:=beq_iff_eq.mpr RO;have uac:(Lc != 6)=false:=bne_eq_false_iff_eq.mpr RO;clear RO
             by_cases QO:Zb=0
             ·rw [if_pos QO] at H;have sac:(Zb == 0)=true:=beq_iff_eq.mpr QO;have rac:(Zb != 0)=false:=bne_eq_false_iff_eq.mpr QO;clear QO
              by_cases y7:t104=true
              ·subst y7;have H1:(if Ub=0 then (some (Wc == 0)) else (some false))=some r:=by rw [if_pos rfl] at H;exact H
               clear H;have H:=H1;clear H1
               by_cases PO:Ub=0
               ·rw [if_pos PO] at H;have qac:(Ub == 0)=true:=beq_iff_eq.mpr PO;have pac:(Ub != 0)=false:=bne_eq_false_iff_eq.mpr PO;clear PO;obtain rfl:=Option.some.inj H;have Hav:=Ob.out;have tav:=Pb.out;have Xah:wc.cell? ⟨Ra,0,none⟩=some (.int .i64 Lc):=(ia Da.out 0).trans rfl;have Wah:wc.cell? ⟨Ra,1,none⟩=some (.int .i64 Zb):=(ia Da.out 1).trans rfl;have Vah:wc.cell? ⟨Ra,2,none⟩=some (.int .i64 Tb):=(ia Da.out 2).trans rfl;have Uah:wc.cell? ⟨Ra,3,none⟩=some (.int .i64 Ub):=(ia Da.out 3).trans rfl;have Tah:wc.cell? ⟨Ra,4,none⟩=some (.int .i64 nc):=(ia Da.out 4).trans rfl;have Sah:wc.cell? ⟨Ra,5,none⟩=some (.int .i64 Wc):=(ia Da.out 5).trans rfl;have Rah:wc.cell? ⟨Ra,6,none⟩=some (.string zd):=(ia Da.out 6).trans rfl;have yag:=aa Da.out 0;have xag:=aa Da.out 1;have wag:=aa Da.out 2;have vag:=aa Da.out 3;have uag:=aa Da.out 4;have sag:=aa Da.out 5;have rag:=aa Da.out 6;go_wp2;go_ret;exact ⟨by first|rfl|(simp [Pa,Oa] <;> rfl)|(simp [*,Pa,Oa] <;> rfl),GaH⟩
               ·rw [if_neg PO] at H;have qac:(Ub == 0)=false:=beq_eq_false_iff_ne.mpr PO;have pac:(Ub != 0)=true:=bne_iff_ne.mpr PO;obtain rfl:=Option.some.inj H;have Gav:=Ob.out;have sav:=Pb.out;have Qah:wc.cell? ⟨Ra,0,none⟩=some (.int .i64 Lc):=(ia Da.out 0).trans rfl;have Pah:wc.cell? ⟨Ra,1,none⟩=some (.int .i64 Zb):=(ia Da.out 1).trans rfl;have Oah:wc.cell? ⟨Ra,2,none⟩=some (.int .i64 Tb):=(ia Da.out 2).trans rfl;have Nah:wc.cell? ⟨Ra,3,none⟩=some (.int .i64 Ub):=(ia Da.out 3).trans rfl;have Mah:wc.cell? ⟨Ra,4,none⟩=some (.int .i64 nc):=(ia Da.out 4).trans rfl;have Lah:wc.cell? ⟨Ra,5,none⟩=some (.int .i64 Wc):=(ia Da.out 5).trans rfl;have Kah:wc.cell? ⟨Ra,6,none⟩=some (.string zd):=(ia Da.out 6).trans rfl;have qag:=aa Da.out 0;have pag:=aa Da.out 1;have oag:=aa Da.out 2;have nag:=aa Da.out 3;have lag:=aa Da.out 4;have kag:=aa Da.out 5;have jag:=aa Da.out 6;go_wp2;go_ret;exact ⟨by first|rfl|(simp [Pa,Oa] <;> rfl)|(simp [*,Pa,Oa] <;> rfl),GaH⟩
              ·replace y7:=Bool.eq_false_iff.mpr y7;subst y7;have H1:(some false)=some r:=by rw [if_neg (show ¬ (false=true) by decide)] at H;exact H
               clear H;have H:=H1;clear H1;obtain rfl:=Option.some.inj H;have Fav:=Ob.out;have rav:=Pb.out;have Jah:wc.cell? ⟨Ra,0,none⟩=some (.int .i64 Lc):=(ia Da.out 0).trans rfl;have Iah:wc.cell? ⟨Ra,1,none⟩=some (.int .i64 Zb):=(ia Da.out 1).trans rfl;have Hah:wc.cell? ⟨Ra,2,none⟩=some (.int .i64 Tb):=(ia Da.out 2).trans rfl;have Gah:wc.cell? ⟨Ra,3,none⟩=some (.int .i64 Ub):=(ia Da.out 3).trans rfl;have Fah:wc.cell? ⟨Ra,4,none⟩=some (.int .i64 nc):=(ia Da.out 4).trans rfl;have Eah:wc.cell? ⟨Ra,5,none⟩=some (.int .i64 Wc):=(ia Da.out 5).trans rfl;have Dah:wc.cell? ⟨Ra,6,none⟩=some (.string zd):=(ia Da.out 6).trans rfl;have iag:=aa Da.out 0;have hag:=aa Da.out 1;have gag:=aa Da.out 2;have fag:=aa Da.out 3;have eag:=aa Da.out 4;have dag:=aa Da.out 5;have cag:=aa Da.out 6;go_wp2;go_ret;exact ⟨by first|rfl|(simp [Pa,Oa] <;> rfl)|(simp [*,Pa,Oa] <;> rfl),GaH⟩
             ·rw [if_neg QO] at H;have sac:(Zb == 0)=false:=beq_eq_false_iff_ne.mpr QO;have rac:(Zb != 0)=true:=bne_iff_ne.mpr QO;obtain rfl:=Option.some.inj H;have Eav:=Ob.out;have qav:=Pb.out;have Cah:wc.cell? ⟨Ra,0,none⟩=some (.int .i64 Lc):=(ia Da.out 0).trans rfl;have Bah:wc.cell? ⟨Ra,1,none⟩=some (.int .i64 Zb):=(ia Da.out 1).trans rfl;have Aah:wc.cell? ⟨Ra,2,none⟩=some (.int .i64 Tb):=(ia Da.out 2).trans rfl;have zah:wc.cell? ⟨Ra,3,none⟩=some (.int .i64 Ub):=(ia Da.out 3).trans rfl;have yah:wc.cell? ⟨Ra,4,none⟩=some (.int .i64 nc):=(ia Da.out 4).trans rfl;have xah:wc.cell? ⟨Ra,5,none⟩=some (.int .i64 Wc):=(ia Da.out 5).trans rfl;have wah:wc.cell? ⟨Ra,6,none⟩=some (.string zd):=(ia Da.out 6).trans rfl;have bag:=aa Da.out 0;have aag:=aa Da.out 1;have Zaf:=aa Da.out 2;have Yaf:=aa Da.out 3;have Xaf:=aa Da.out 4;have Waf:=aa Da.out 5;have Vaf:=aa Da.out 6;go_wp2;go_ret;exact ⟨by first|rfl|(simp [Pa,Oa] <;> rfl)|(simp [*,Pa,Oa] <;> rfl),GaH⟩
            ·rw [if_neg RO] at H;have vac:(Lc == 6)=false:=beq_eq_false_iff_ne.mpr RO;have uac:(Lc != 6)=true:=bne_iff_ne.mpr RO;obtain rfl:=Option.some.inj H;have Dav:=Ob.out;have pav:=Pb.out;have vah:wc.cell? ⟨Ra,0,none⟩=some (.int .i64 Lc):=(ia Da.out 0).trans rfl;have uah:wc.cell? ⟨Ra,1,none⟩=some (.int .i64 Zb):=(ia Da.out 1).trans rfl;have tah:wc.cell? ⟨Ra,2,none⟩=some (.int .i64 Tb):=(ia Da.out 2).trans rfl;have sah:wc.cell? ⟨Ra,3,none⟩=some (.int .i64 Ub):=(ia Da.out 3).trans rfl;have rah:wc.cell? ⟨Ra,4,none⟩=some (.int .i64 nc):=(ia Da.out 4).trans rfl;have qah:wc.cell? ⟨Ra,5,none⟩=some (.int .i64 Wc):=(ia Da.out 5).trans rfl;have pah:wc.cell? ⟨Ra,6,none⟩=some (.string zd):=(ia Da.out 6).trans rfl;have Uaf:=aa Da.out 0;have Taf:=aa Da.out 1;have Saf:=aa Da.out 2;have Raf:=aa Da.out 3;have Qaf:=aa Da.out 4;have Paf:=aa Da.out 5;have Oaf:=aa Da.out 6;go_wp2;go_ret;exact ⟨by first|rfl|(simp [Pa,Oa] <;> rfl)|(simp [*,Pa,Oa] <;> rfl),GaH⟩
end Go.Proofs.Ytkigbdceceeenaa.P
end
