import Derived.Test.YtkigbdceceeenaaProg
import Derived.Below
import Derived.Deep.Draws
import Derived.Deep.AppendLies
import Derived.Maps.AppendAt
import Derived.OwnWalk
import Derived.Laws.BytesArg
import Derived.Laws.MakeOwn
import Derived.Laws.OwnMore
import Derived.Deep.OwnRows
import Derived.Tactics
import Derived.Lib.ConvBytes
import Derived.Laws.Slices
import Derived.WalkKit
import Derived.KernelRfl
import Derived.RowKit3
import Derived.Deep.LoopGhost
import Derived.Deep.QuietTactic
import Derived.BigQuiet
import Derived.WideLaws
import Derived.Deep.DeepCutAuto
import Derived.Deep.CutBlock
import Derived.Deep.RegionHeld3
import Derived.Laws.Rows
import Derived.Lib.AppendStr
import Derived.ArgAppend
import Derived.Laws.IdiomCopy
import Derived.OrdersHeld
import Derived.Laws.BitsLemmas
import Derived.RowKit
import Derived.Test.YtkigbdceceeenaaQColorsW1
import Derived.Test.YtkigbdceceeenaaQColorsW2
import Derived.Deep.Slices
import Derived.ChangeArms
import Derived.OpenShut
import Derived.WideShapes
set_option maxHeartbeats 8000000
set_option maxRecDepth 100000
section
namespace Go.Proofs.Ytkigbdceceeenaa.P
open Go.RowKit Go.Proofs.Ma.Tb Go.Proofs.Ma.Gd Go.Proofs.Ma.De
theorem taH {P:Prop} (h:P:=by repeat (first|(with_reducible first|exact HB.out|apply qa|apply ja|apply ta|refine ua ?_ Ta.out)|exact HB.out)):P:=h
theorem uaH {P:Prop} (h:P:=by repeat (first|(with_reducible first|exact HB.out|apply qa|apply ja|apply ta)|exact HB.out)):P:=h
theorem vaH {P:Prop} (h:P:=by (with_reducible repeat (first|refine Ca ?_ _|refine Fa ?_|refine Da ?_ _));exact oa.out):P:=h
theorem waH {P:Prop} (h:P:=by (try simp only [List.map_toArray,List.map_cons,List.map_nil]);first|done|rfl|(simp only [List.length_drop,List.length_take];rfl)):P:=h
theorem xaH {P:Prop} (h:P:=by repeat (first|(with_reducible first|exact HB.out|apply qa|apply ja|apply ta|refine ua ?_ Ta.out)|exact HB.out)):P:=h
theorem yaH {P:Prop} (h:P:=by repeat (first|(with_reducible first|exact HB.out|apply qa|apply ja|apply ta|refine ua ?_ Ta.out|refine ua ?_ Ic.out)|exact HB.out)):P:=h
theorem zaH {P:Prop} (h:P:=by (with_reducible repeat (first|refine Ca ?_ _|refine Fa ?_|refine Da ?_ _));exact oa.out):P:=h
theorem AaH {P:Prop} (h:P:=by first|rfl|(simp;done)|(simp [*];done)):P:=h
theorem BaH {P:Prop} (h:P:=by repeat (first|(with_reducible first|exact HB.out|apply qa|apply ja|apply ta)|exact HB.out)):P:=h
theorem CaH {P:Prop} (h:P:=by repeat (first|(with_reducible first|exact HB.out|apply qa|apply ja|apply ta|refine ua ?_ Ta.out|refine ua ?_ Ic.out)|exact HB.out)):P:=h
theorem DaH {P:Prop} (h:P:=by (with_reducible repeat (first|refine Ca ?_ _|refine Fa ?_|refine Da ?_ _));exact Ba.out):P:=h
theorem EaH {P:Prop} (h:P:=by repeat (first|(with_reducible first|exact HK.out|apply Kept.alloc|apply Kept.drewN|apply Kept.drew|refine Kept.setCell ?_ (.inr Vd.out) _)|exact HK.out)):P:=h
theorem FaH {P:Prop} (h:P:=by repeat (first|(with_reducible first|exact HB.out|apply qa|apply ja|apply ta|refine ua ?_ Ta.out|refine ua ?_ Ij.out)|exact HB.out)):P:=h
theorem GaH {P:Prop} (h:P:=by repeat (first|exact Wc.refl _|apply Wc.step)):P:=h
theorem HaH {P:Prop} (h:P:=by (with_reducible repeat (first|apply Kd.Xa|apply Kd.Wa|apply Kd.gb));exact Oc.out):P:=h
theorem IaH {P:Prop} (h:P:=by repeat (first|(with_reducible first|exact HK.out|apply Kept.alloc|apply Kept.drewN|apply Kept.drew)|exact HK.out)):P:=h
theorem JaH {P:Prop} (h:P:=by (with_reducible repeat (first|apply Kd.Xa|apply Kd.Wa|apply Kd.gb));exact jg.out):P:=h
theorem KaH {P:Prop} (h:P:=by (with_reducible repeat (first|refine Ca ?_ _|refine Fa ?_|refine Da ?_ _));refine Qd (cs:=#[.slice Bh ((za Aa Ae).f0).length pg,.int .i64 ((za Aa Ae).f1),.int .i64 ((za Aa Ae).f2),.int .i64 ((za Aa Ae).f3),.int .i64 0]) ?_ 4 _ rfl;(with_reducible repeat (first|refine Ca ?_ _|refine Fa ?_|refine Da ?_ _));refine Qd (cs:=#[.slice Bh ((za Aa Ae).f0).length pg,.int .i64 ((za Aa Ae).f1),.int .i64 ((za Aa Ae).f2),.int .i64 0,.int .i64 0]) ?_ 3 _ rfl;(with_reducible repeat (first|refine Ca ?_ _|refine Fa ?_|refine Da ?_ _));refine Qd (cs:=#[.slice Bh ((za Aa Ae).f0).length pg,.int .i64 ((za Aa Ae).f1),.int .i64 0,.int .i64 0,.int .i64 0]) ?_ 2 _ rfl;(with_reducible repeat (first|refine Ca ?_ _|refine Fa ?_|refine Da ?_ _));refine Qd (cs:=#[.slice Bh ((za Aa Ae).f0).length pg,.int .i64 0,.int .i64 0,.int .i64 0,.int .i64 0]) ?_ 1 _ rfl;(with_reducible repeat (first|refine Ca ?_ _|refine Fa ?_|refine Da ?_ _));refine Qd (cs:=#[.slice none 0 0,.int .i64 0,.int .i64 0,.int .i64 0,.int .i64 0]) ?_ 0 _ rfl;(with_reducible repeat (first|refine Ca ?_ _|refine Fa ?_|refine Da ?_ _));exact Ad.out):P:=h
theorem LaH {P:Prop} (h:P:=by repeat (first|(with_reducible first|exact HK.out|apply Kept.alloc|apply Kept.drewN|apply Kept.drew|refine Kept.setCell ?_ (.inr Vd.out) _)|exact HK.out)):P:=h
theorem MaH {P:Prop} (h:P:=by (with_reducible repeat (first|apply Kd.Xa|apply Kd.Wa|apply Kd.gb));exact uh.out):P:=h
theorem NaH {P:Prop} (h:P:=by (with_reducible repeat (first|apply Kd.Xa|apply Kd.Wa|apply Kd.gb));exact Oc.out):P:=h
theorem OaH {P:Prop} (h:P:=by (with_reducible repeat (first|refine Ca ?_ _|refine Fa ?_|refine Da ?_ _));exact Ba.out):P:=h
theorem PaH {P:Prop} (h:P:=by repeat (first|exact HB.out|(refine Ra ?_ Ht.out)|apply ja|apply ta|apply qa|refine ua ?_ (by first|omega|(simp;done)|(simp;omega)))):P:=h
theorem QaH {P:Prop} (h:P:=by repeat (first|(with_reducible first|exact HB.out|apply qa|apply ja|apply ta|refine ua ?_ Ta.out|refine ua ?_ Ic.out|refine ua ?_ Jv.out)|exact HB.out)):P:=h
theorem RaH {P:Prop} (h:P:=by (with_reducible repeat (first|apply Kd.Xa|apply Kd.Wa|apply Kd.gb));exact yg.out):P:=h
theorem SaH {P:Prop} (h:P:=by (with_reducible repeat (first|apply Kd.Xa|apply Kd.Wa|apply Kd.gb));exact Sg.out):P:=h
theorem TaH {P:Prop} (h:P:=by (with_reducible repeat (first|apply Kd.Xa|apply Kd.Wa|apply Kd.gb));exact bf.out):P:=h
theorem UaH {P:Prop} (h:P:=by (with_reducible repeat (first|apply Kd.Xa|apply Kd.Wa|apply Kd.gb));exact jg.out):P:=h
theorem VaH {P:Prop} (h:P:=by (with_reducible repeat (first|refine Ca ?_ _|refine Fa ?_|refine Da ?_ _));exact Ad.out):P:=h
theorem WaH {P:Prop} (h:P:=by (with_reducible repeat (first|refine Ca ?_ _|refine Fa ?_|refine Da ?_ _));refine Bd ?_ Lf.out _;(with_reducible repeat (first|refine Ca ?_ _|refine Fa ?_|refine Da ?_ _));refine Bd ?_ Lf.out _;(with_reducible repeat (first|refine Ca ?_ _|refine Fa ?_|refine Da ?_ _));refine Bd ?_ Lf.out _;(with_reducible repeat (first|refine Ca ?_ _|refine Fa ?_|refine Da ?_ _));refine Bd ?_ Lf.out _;(with_reducible repeat (first|refine Ca ?_ _|refine Fa ?_|refine Da ?_ _));refine Bd ?_ Lf.out _;(with_reducible repeat (first|refine Ca ?_ _|refine Fa ?_|refine Da ?_ _));exact oa.out):P:=h
theorem XaH {P:Prop} (h:P:=by repeat (first|(with_reducible first|exact HK.out|apply Kept.alloc|apply Kept.drewN|apply Kept.drew)|exact HK.out)):P:=h
theorem YaH {P:Prop} (h:P:=by (with_reducible repeat (first|apply Kd.fe|apply Kd.ee|apply Kd.Qe));exact Oc.out):P:=h
theorem ZaH {P:Prop} (h:P:=by (with_reducible repeat (first|apply Kd.Xa|apply Kd.Wa|apply Kd.gb));exact uh.out):P:=h
theorem aaI {P:Prop} (h:P:=by repeat (first|(with_reducible first|exact HB.out|apply qa|apply ja|apply ta|refine ua ?_ Ta.out|refine ua ?_ Ij.out)|exact HB.out)):P:=h
theorem baI {P:Prop} (h:P:=by (with_reducible repeat (first|apply Kd.Xa|apply Kd.Wa|apply Kd.gb));exact nj.out):P:=h
theorem caI {P:Prop} (h:P:=by (with_reducible repeat (first|apply Kd.Xa|apply Kd.Wa|apply Kd.gb));exact bf.out):P:=h
theorem daI {P:Prop} (h:P:=by repeat (first|(with_reducible first|exact HB.out|apply qa|apply ja|apply ta|refine ua ?_ Ta.out|refine ua ?_ Ij.out|refine ua ?_ xD.out)|exact HB.out)):P:=h
theorem eaI {P:Prop} (h:P:=by repeat (first|(with_reducible first|exact HB.out|apply qa|apply ja|apply ta|refine ua ?_ Ta.out|refine ua ?_ Ij.out|refine ua ?_ xD.out)|exact HB.out)):P:=h
theorem faI {P:Prop} (h:P:=by (with_reducible repeat (first|apply Kd.Xa|apply Kd.Wa|apply Kd.gb));exact Sg.out):P:=h
theorem gaI {P:Prop} (h:P:=by (with_reducible repeat (first|apply Kd.fe|apply Kd.ee|apply Kd.Qe));exact ji.out):P:=h
theorem haI {P:Prop} (h:P:=by (with_reducible repeat (first|apply Kd.fe|apply Kd.ee|apply Kd.Qe));exact ji.out):P:=h
theorem iaI {P:Prop} (h:P:=by (with_reducible repeat (first|apply Kd.Xa|apply Kd.Wa|apply Kd.gb));exact yg.out):P:=h
theorem jaI {P:Prop} (h:P:=by (with_reducible repeat (first|apply Kd.Xa|apply Kd.Wa|apply Kd.gb));exact uj.out):P:=h
theorem kaI {P:Prop} (h:P:=by (with_reducible repeat (first|apply Kd.Xa|apply Kd.Wa|apply Kd.gb));exact ni.out):P:=h
theorem laI {P:Prop} (h:P:=by repeat (first|(with_reducible first|exact HB.out|apply qa|apply ja|apply ta|refine ua ?_ Ta.out|refine ua ?_ Ic.out|refine ua ?_ Jv.out)|exact HB.out)):P:=h
theorem maI {P:Prop} (h:P:=by (with_reducible repeat (first|refine Ca ?_ _|refine Fa ?_|refine Da ?_ _));exact Oe.out):P:=h
theorem naI {P:Prop} (h:P:=by (with_reducible repeat (first|refine Ca ?_ _|refine Fa ?_|refine Da ?_ _));exact Ad.out):P:=h
theorem oaI {P:Prop} (h:P:=by (with_reducible repeat (first|apply Kd.fe|apply Kd.ee|apply Kd.Qe));exact Oc.out):P:=h
theorem paI {P:Prop} (h:P:=by (with_reducible repeat (first|apply Kd.Xa|apply Kd.Wa|apply Kd.gb));exact ni.out):P:=h
theorem qaI {P:Prop} (h:P:=by (with_reducible repeat (first|apply Kd.Xa|apply Kd.Wa|apply Kd.gb));exact kr.out):P:=h
theorem raI {P:Prop} (h:P:=by (with_reducible repeat (first|apply Kd.Xa|apply Kd.Wa|apply Kd.gb));first|exact Hi.out|exact Kd.xd Hi.out (fun _ hk=>hk.2)):P:=h
theorem saI {P:Prop} (h:P:=by (with_reducible repeat (first|apply Kd.Xa|apply Kd.Wa|apply Kd.gb));exact nr.out):P:=h
theorem taI {P:Prop} (h:P:=by (with_reducible repeat (first|apply Kd.Xa|apply Kd.Wa|apply Kd.gb));exact QH.out):P:=h
theorem uaI {P:Prop} (h:P:=by (with_reducible repeat (first|apply Kd.Xa|apply Kd.Wa|apply Kd.gb));exact Kd.xd jg.out (fun _ hk=>trivial)):P:=h
theorem vaI {P:Prop} (h:P:=by (with_reducible repeat (first|apply Kd.fe|apply Kd.ee|apply Kd.Qe));exact Kd.Ah ji.out (fun _ hk=>hk.1)):P:=h
set_option linter.unusedVariables false
set_option linter.unusedSimpArgs false
attribute [local go_sem] Rh si wj Nj qh oh zi ri
def Pai:Option Int→Value
 | none=>.nilIface
 | some c=>.iface 0 (.int .i64 c)
theorem Pa:Pai none = .nilIface:=rfl
theorem Oa (c:Int):Pai (some c) = .iface 0 (.int .i64 c):=rfl
theorem info3:(Try.prog.info? 3).map (fun i=>(i.zero,i.size,i.bytes))=some (some (.int .i64 0),1,8):=by kernel_rfl
theorem Ir:(Try.prog.info? 4).map (fun i=>(i.zero,i.size,i.bytes))=some (some (.bool false),1,1):=by kernel_rfl
theorem gaa:(Try.prog.info? 59).map (fun i=>(i.zero,i.size,i.bytes))=some (some (.agg #[(.slice none 0 0),(.int .i64 0),(.int .i64 0),(.int .i64 0),(.int .i64 0)]),5,56):=by kernel_rfl
theorem BF:(Try.prog.info? 60).map (fun i=>(i.zero,i.size,i.bytes))=some (some (.slice none 0 0),1,24):=by kernel_rfl
theorem faa:(Try.prog.info? 65).map (fun i=>(i.zero,i.size,i.bytes))=some (some (.agg #[(.int .i64 0),(.int .i64 0),(.int .i64 0),(.int .i64 0),(.int .i64 0),(.int .i64 0),(.string ⟨#[]⟩)]),7,64):=by kernel_rfl
structure S7 where
 f0:Int
 f1:Int
 f2:Bool
 f3:Int
def z7:S7:=⟨(0:Int),(0:Int),false,(0:Int)⟩
structure S8 where
 f0:Int
 f1:Int
 f2:Bool
 f3:Int
def z8:S8:=⟨(0:Int),(0:Int),false,(0:Int)⟩
structure vp where
 f0:Int
 f1:Int
 f2:Int
 f3:Int
 f4:Int
 f5:Int
 f6:ByteArray
def Zad:vp:=⟨(0:Int),(0:Int),(0:Int),(0:Int),(0:Int),(0:Int),(⟨#[]⟩:ByteArray)⟩
def yF:Kd vp:=Kd.BZ (Kd.pair (Kd.int .i64) (Kd.pair (Kd.int .i64) (Kd.pair (Kd.int .i64) (Kd.pair (Kd.int .i64) (Kd.pair (Kd.int .i64) (Kd.pair (Kd.int .i64) Kd.string)))))) (fun x:vp=>(x.f0,x.f1,x.f2,x.f3,x.f4,x.f5,x.f6))
theorem IU {w:World} {x:vp} {cs:List Value} (h:yF.K w x cs):cs=[.int .i64 x.f0,.int .i64 x.f1,.int .i64 x.f2,.int .i64 x.f3,.int .i64 x.f4,.int .i64 x.f5,.string x.f6]:=by
 obtain ⟨_,_,rfl,rfl,⟨_,_,rfl,rfl,⟨_,_,rfl,rfl,⟨_,_,rfl,rfl,⟨_,_,rfl,rfl,⟨_,_,rfl,rfl,rfl⟩⟩⟩⟩⟩⟩:=h;exact rfl
def Rc (xs:List vp) (i:Int):vp:=xs.getD i.toNat Zad
theorem yK {w:World} {A:Option Addr} {n:Nat} {xs:List vp} (h:Kd.C yF w A n xs) (i:Int) (h0:0 ≤ i) (h1:i < n):∃ ad , A=some ad∧w.cell? (ad.add (i.toNat * 7))=some (.int .i64 (Rc xs i).f0)∧w.cell? ⟨(ad.add (i.toNat * 7)).block,(ad.add (i.toNat * 7)).off + 1,none⟩=some (.int .i64 (Rc xs i).f1)∧w.cell? ⟨(ad.add (i.toNat * 7)).block,(ad.add (i.toNat * 7)).off + 2,none⟩=some (.int .i64 (Rc xs i).f2)∧w.cell? ⟨(ad.add (i.toNat * 7)).block,(ad.add (i.toNat * 7)).off + 3,none⟩=some (.int .i64 (Rc xs i).f3)∧w.cell? ⟨(ad.add (i.toNat * 7)).block,(ad.add (i.toNat * 7)).off + 4,none⟩=some (.int .i64 (Rc xs i).f4)∧w.cell? ⟨(ad.add (i.toNat * 7)).block,(ad.add (i.toNat * 7)).off + 5,none⟩=some (.int .i64 (Rc xs i).f5)∧w.cell? ⟨(ad.add (i.toNat * 7)).block,(ad.add (i.toNat * 7)).off + 6,none⟩=some (.string (Rc xs i).f6):=by
 obtain ⟨ad,c,e,_,hK,hc0⟩:=Kd.RM h Zad i h0 h1;have hc:∀ j u,c[j]? = some u→w.cell? (ad.add (i.toNat * 7 + j))=some u:=hc0;obtain rfl:=IU hK;exact ⟨ad,e,hc 0 _ rfl,by rw [← kg _ _ 1 (by omega)];exact hc 1 _ rfl,by rw [← kg _ _ 2 (by omega)];exact hc 2 _ rfl,by rw [← kg _ _ 3 (by omega)];exact hc 3 _ rfl,by rw [← kg _ _ 4 (by omega)];exact hc 4 _ rfl,by rw [← kg _ _ 5 (by omega)];exact hc 5 _ rfl,by rw [← kg _ _ 6 (by omega)];exact hc 6 _ rfl⟩
structure Ez where
 f0:(List vp)
 f1:Int
 f2:Int
 f3:Int
 f4:Int
def z86:Ez:=⟨([]:List vp),(0:Int),(0:Int),(0:Int),(0:Int)⟩
def tW:Kd Ez:=Kd.BZ (Kd.pair (Kd.slice 124 yF) (Kd.pair (Kd.int .i64) (Kd.pair (Kd.int .i64) (Kd.pair (Kd.int .i64) (Kd.int .i64))))) (fun x:Ez=>(x.f0,x.f1,x.f2,x.f3,x.f4))
theorem sW {w:World} {x:Ez} {cs:List Value} (h:tW.K w x cs):∃ A0 c0,cs=[.slice A0 x.f0.length c0,.int .i64 x.f1,.int .i64 x.f2,.int .i64 x.f3,.int .i64 x.f4]∧x.f0.length ≤ c0∧yF.C w A0 x.f0.length x.f0:=by
 obtain ⟨_,_,rfl,⟨A0,c0,rfl,l0,g0⟩,⟨_,_,rfl,rfl,⟨_,_,rfl,rfl,⟨_,_,rfl,rfl,rfl⟩⟩⟩⟩:=h;exact ⟨A0,c0,rfl,l0,g0⟩
def Fe (xs:List Ez) (i:Int):Ez:=xs.getD i.toNat z86
theorem QO {w:World} {A:Option Addr} {n:Nat} {xs:List Ez} (h:Kd.C tW w A n xs) (i:Int) (h0:0 ≤ i) (h1:i < n):∃ ad A0 c0,A=some ad∧w.cell? (ad.add (i.toNat * 5))=some (.slice A0 (Fe xs i).f0.length c0)∧w.cell? ⟨(ad.add (i.toNat * 5)).block,(ad.add (i.toNat * 5)).off + 1,none⟩=some (.int .i64 (Fe xs i).f1)∧w.cell? ⟨(ad.add (i.toNat * 5)).block,(ad.add (i.toNat * 5)).off + 2,none⟩=some (.int .i64 (Fe xs i).f2)∧w.cell? ⟨(ad.add (i.toNat * 5)).block,(ad.add (i.toNat * 5)).off + 3,none⟩=some (.int .i64 (Fe xs i).f3)∧w.cell? ⟨(ad.add (i.toNat * 5)).block,(ad.add (i.toNat * 5)).off + 4,none⟩=some (.int .i64 (Fe xs i).f4)∧(Fe xs i).f0.length ≤ c0∧yF.C w A0 (Fe xs i).f0.length (Fe xs i).f0:=by
 obtain ⟨ad,c,e,_,hK,hc0⟩:=Kd.RM h z86 i h0 h1;have hc:∀ j u,c[j]? = some u→w.cell? (ad.add (i.toNat * 5 + j))=some u:=hc0;obtain ⟨A0,c0,rfl,l0,g0⟩:=sW hK;exact ⟨ad,A0,c0,e,hc 0 _ rfl,by rw [← kg _ _ 1 (by omega)];exact hc 1 _ rfl,by rw [← kg _ _ 2 (by omega)];exact hc 2 _ rfl,by rw [← kg _ _ 3 (by omega)];exact hc 3 _ rfl,by rw [← kg _ _ 4 (by omega)];exact hc 4 _ rfl,l0,g0⟩
structure S25 where
 f0:(List Int)
 f1:Int
 f2:Int
 f3:Int
 f4:(List Ez)
def k25:Kd S25:=Kd.BZ (Kd.pair (Kd.slice 3 (Kd.int .i64)) (Kd.pair (Kd.int .i64) (Kd.pair (Kd.int .i64) (Kd.pair (Kd.int .i64) (Kd.slice 86 tW))))) (fun x:S25=>(x.f0,x.f1,x.f2,x.f3,x.f4))
theorem zW {w:World} {x:S25} {cs:List Value} (h:k25.K w x cs):∃ A0 c0 A4 c4,cs=[.slice A0 x.f0.length c0,.int .i64 x.f1,.int .i64 x.f2,.int .i64 x.f3,.slice A4 x.f4.length c4]∧x.f0.length ≤ c0∧(Kd.int .i64).C w A0 x.f0.length x.f0∧x.f4.length ≤ c4∧tW.C w A4 x.f4.length x.f4:=by
 obtain ⟨_,_,rfl,⟨A0,c0,rfl,l0,g0⟩,⟨_,_,rfl,rfl,⟨_,_,rfl,rfl,⟨_,_,rfl,rfl,⟨A4,c4,rfl,l4,g4⟩⟩⟩⟩⟩:=h;exact ⟨A0,c0,A4,c4,rfl,l0,g0,l4,g4⟩
structure He where
 f0:Int
 f1:Int
 f2:Int
 f3:Int
 f4:Int
 f5:Int
 f6:ByteArray
def Fw:He:=⟨(0:Int),(0:Int),(0:Int),(0:Int),(0:Int),(0:Int),(⟨#[]⟩:ByteArray)⟩
def Bk:Kd He:=Kd.BZ (Kd.pair (Kd.int .i64) (Kd.pair (Kd.int .i64) (Kd.pair (Kd.int .i64) (Kd.pair (Kd.int .i64) (Kd.pair (Kd.int .i64) (Kd.pair (Kd.int .i64) Kd.string)))))) (fun x:He=>(x.f0,x.f1,x.f2,x.f3,x.f4,x.f5,x.f6))
theorem vW:Kd.Heap Bk:=Kd.LL _ (Kd.uk (Kd.gl .i64) (Kd.uk (Kd.gl .i64) (Kd.uk (Kd.gl .i64) (Kd.uk (Kd.gl .i64) (Kd.uk (Kd.gl .i64) (Kd.uk (Kd.gl .i64) Kd.KL))))))
theorem uW {w:World} {x:He} {cs:List Value} (h:Bk.K w x cs):cs=[.int .i64 x.f0,.int .i64 x.f1,.int .i64 x.f2,.int .i64 x.f3,.int .i64 x.f4,.int .i64 x.f5,.string x.f6]:=by
 obtain ⟨_,_,rfl,rfl,⟨_,_,rfl,rfl,⟨_,_,rfl,rfl,⟨_,_,rfl,rfl,⟨_,_,rfl,rfl,⟨_,_,rfl,rfl,rfl⟩⟩⟩⟩⟩⟩:=h;exact rfl
theorem fh {w:World} {base:Nat} {ok:Nat→Prop} {x:He} {cs:List Value} (h:Bk.M w base ok x cs):cs=[.int .i64 x.f0,.int .i64 x.f1,.int .i64 x.f2,.int .i64 x.f3,.int .i64 x.f4,.int .i64 x.f5,.string x.f6]:=by
 obtain ⟨_,_,rfl,rfl,⟨_,_,rfl,rfl,⟨_,_,rfl,rfl,⟨_,_,rfl,rfl,⟨_,_,rfl,rfl,⟨_,_,rfl,rfl,rfl⟩⟩⟩⟩⟩⟩:=h;exact rfl
theorem Lp (w:World) (base:Nat) (ok:Nat→Prop) (x:He)  : Bk.M w base ok x [.int .i64 x.f0,.int .i64 x.f1,.int .i64 x.f2,.int .i64 x.f3,.int .i64 x.f4,.int .i64 x.f5,.string x.f6]:=⟨[.int .i64 x.f0],[.int .i64 x.f1,.int .i64 x.f2,.int .i64 x.f3,.int .i64 x.f4,.int .i64 x.f5,.string x.f6],rfl,rfl,⟨[.int .i64 x.f1],[.int .i64 x.f2,.int .i64 x.f3,.int .i64 x.f4,.int .i64 x.f5,.string x.f6],rfl,rfl,⟨[.int .i64 x.f2],[.int .i64 x.f3,.int .i64 x.f4,.int .i64 x.f5,.string x.f6],rfl,rfl,⟨[.int .i64 x.f3],[.int .i64 x.f4,.int .i64 x.f5,.string x.f6],rfl,rfl,⟨[.int .i64 x.f4],[.int .i64 x.f5,.string x.f6],rfl,rfl,⟨[.int .i64 x.f5],[.string x.f6],rfl,rfl,rfl⟩⟩⟩⟩⟩⟩
def Ea (xs:List He) (i:Int):He:=xs.getD i.toNat Fw
theorem jm {w:World} {A:Option Addr} {n:Nat} {xs:List He} (h:Kd.C Bk w A n xs) (i:Int) (h0:0 ≤ i) (h1:i < n):∃ ad , A=some ad∧w.cell? (ad.add (i.toNat * 7))=some (.int .i64 (Ea xs i).f0)∧w.cell? ⟨(ad.add (i.toNat * 7)).block,(ad.add (i.toNat * 7)).off + 1,none⟩=some (.int .i64 (Ea xs i).f1)∧w.cell? ⟨(ad.add (i.toNat * 7)).block,(ad.add (i.toNat * 7)).off + 2,none⟩=some (.int .i64 (Ea xs i).f2)∧w.cell? ⟨(ad.add (i.toNat * 7)).block,(ad.add (i.toNat * 7)).off + 3,none⟩=some (.int .i64 (Ea xs i).f3)∧w.cell? ⟨(ad.add (i.toNat * 7)).block,(ad.add (i.toNat * 7)).off + 4,none⟩=some (.int .i64 (Ea xs i).f4)∧w.cell? ⟨(ad.add (i.toNat * 7)).block,(ad.add (i.toNat * 7)).off + 5,none⟩=some (.int .i64 (Ea xs i).f5)∧w.cell? ⟨(ad.add (i.toNat * 7)).block,(ad.add (i.toNat * 7)).off + 6,none⟩=some (.string (Ea xs i).f6):=by
 obtain ⟨ad,c,e,_,hK,hc0⟩:=Kd.RM h Fw i h0 h1;have hc:∀ j u,c[j]? = some u→w.cell? (ad.add (i.toNat * 7 + j))=some u:=hc0;obtain rfl:=uW hK;exact ⟨ad,e,hc 0 _ rfl,by rw [← kg _ _ 1 (by omega)];exact hc 1 _ rfl,by rw [← kg _ _ 2 (by omega)];exact hc 2 _ rfl,by rw [← kg _ _ 3 (by omega)];exact hc 3 _ rfl,by rw [← kg _ _ 4 (by omega)];exact hc 4 _ rfl,by rw [← kg _ _ 5 (by omega)];exact hc 5 _ rfl,by rw [← kg _ _ 6 (by omega)];exact hc 6 _ rfl⟩
structure Je where
 f0:(List He)
 f1:Int
 f2:Int
 f3:Int
 f4:Int
def QK:Je:=⟨([]:List He),(0:Int),(0:Int),(0:Int),(0:Int)⟩
def Fq:Kd Je:=Kd.BZ (Kd.pair (Kd.slice 65 Bk) (Kd.pair (Kd.int .i64) (Kd.pair (Kd.int .i64) (Kd.pair (Kd.int .i64) (Kd.int .i64))))) (fun x:Je=>(x.f0,x.f1,x.f2,x.f3,x.f4))
theorem xW:Kd.Heap Fq:=Kd.LL _ (Kd.uk (Kd.RN 65 vW) (Kd.uk (Kd.gl .i64) (Kd.uk (Kd.gl .i64) (Kd.uk (Kd.gl .i64) (Kd.gl .i64)))))
theorem wW {w:World} {x:Je} {cs:List Value} (h:Fq.K w x cs):∃ A0 c0,cs=[.slice A0 x.f0.length c0,.int .i64 x.f1,.int .i64 x.f2,.int .i64 x.f3,.int .i64 x.f4]∧x.f0.length ≤ c0∧Bk.C w A0 x.f0.length x.f0:=by
 obtain ⟨_,_,rfl,⟨A0,c0,rfl,l0,g0⟩,⟨_,_,rfl,rfl,⟨_,_,rfl,rfl,⟨_,_,rfl,rfl,rfl⟩⟩⟩⟩:=h;exact ⟨A0,c0,rfl,l0,g0⟩
theorem jC {w:World} {base:Nat} {ok:Nat→Prop} {x:Je} {cs:List Value} (h:Fq.M w base ok x cs):∃ v0,cs=[v0,.int .i64 x.f1,.int .i64 x.f2,.int .i64 x.f3,.int .i64 x.f4]∧Bk.R 65 w base ok v0 x.f0:=by
 obtain ⟨_,_,rfl,⟨v0,rfl,g0⟩,⟨_,_,rfl,rfl,⟨_,_,rfl,rfl,⟨_,_,rfl,rfl,rfl⟩⟩⟩⟩:=h;exact ⟨v0,rfl,g0⟩
theorem mI (w:World) (base:Nat) (ok:Nat→Prop) (x:Je) {v0:Value} (g0:Bk.R 65 w base ok v0 x.f0):Fq.M w base ok x [v0,.int .i64 x.f1,.int .i64 x.f2,.int .i64 x.f3,.int .i64 x.f4]:=⟨[v0],[.int .i64 x.f1,.int .i64 x.f2,.int .i64 x.f3,.int .i64 x.f4],rfl,⟨v0,rfl,g0⟩,⟨[.int .i64 x.f1],[.int .i64 x.f2,.int .i64 x.f3,.int .i64 x.f4],rfl,rfl,⟨[.int .i64 x.f2],[.int .i64 x.f3,.int .i64 x.f4],rfl,rfl,⟨[.int .i64 x.f3],[.int .i64 x.f4],rfl,rfl,rfl⟩⟩⟩⟩
def za (xs:List Je) (i:Int):Je:=xs.getD i.toNat QK
theorem sj {w:World} {A:Option Addr} {n:Nat} {xs:List Je} (h:Kd.C Fq w A n xs) (i:Int) (h0:0 ≤ i) (h1:i < n):∃ ad A0 c0,A=some ad∧w.cell? (ad.add (i.toNat * 5))=some (.slice A0 (za xs i).f0.length c0)∧w.cell? ⟨(ad.add (i.toNat * 5)).block,(ad.add (i.toNat * 5)).off + 1,none⟩=some (.int .i64 (za xs i).f1)∧w.cell? ⟨(ad.add (i.toNat * 5)).block,(ad.add (i.toNat * 5)).off + 2,none⟩=some (.int .i64 (za xs i).f2)∧w.cell? ⟨(ad.add (i.toNat * 5)).block,(ad.add (i.toNat * 5)).off + 3,none⟩=some (.int .i64 (za xs i).f3)∧w.cell? ⟨(ad.add (i.toNat * 5)).block,(ad.add (i.toNat * 5)).off + 4,none⟩=some (.int .i64 (za xs i).f4)∧(za xs i).f0.length ≤ c0∧Bk.C w A0 (za xs i).f0.length (za xs i).f0:=by
 obtain ⟨ad,c,e,_,hK,hc0⟩:=Kd.RM h QK i h0 h1;have hc:∀ j u,c[j]? = some u→w.cell? (ad.add (i.toNat * 5 + j))=some u:=hc0;obtain ⟨A0,c0,rfl,l0,g0⟩:=wW hK;exact ⟨ad,A0,c0,e,hc 0 _ rfl,by rw [← kg _ _ 1 (by omega)];exact hc 1 _ rfl,by rw [← kg _ _ 2 (by omega)];exact hc 2 _ rfl,by rw [← kg _ _ 3 (by omega)];exact hc 3 _ rfl,by rw [← kg _ _ 4 (by omega)];exact hc 4 _ rfl,l0,g0⟩
def yd (xs:List (List Bool)) (i:Int):(List Bool):=xs.getD i.toNat ([]:List Bool)
theorem wv {w:World} {A:Option Addr} {n:Nat} {xs:List (List Bool)} (h:Kd.C (Kd.slice 4 Kd.bool) w A n xs) (i:Int) (h0:0 ≤ i) (h1:i < n):∃ ad A0 c0,A=some ad∧w.cell? (ad.add i.toNat)=some (.slice A0 (yd xs i).length c0)∧(yd xs i).length ≤ c0∧Kd.bool.C w A0 (yd xs i).length (yd xs i):=by
 obtain ⟨ad,c,e,_,hK,hc0⟩:=Kd.RM h ([]:List Bool) i h0 h1;have hc:∀ j u,c[j]? = some u→w.cell? (ad.add (i.toNat * 1 + j))=some u:=hc0;obtain ⟨A0,c0,rfl,l0,g0⟩:=hK;exact ⟨ad,A0,c0,e,by have hq:=hc 0 _ rfl;rwa [Nat.mul_one,Nat.add_zero] at hq,l0,g0⟩
structure S78 where
 f0:Int
 f1:Int
 f2:Int
 f3:Int
 f4:Int
def z78:S78:=⟨(0:Int),(0:Int),(0:Int),(0:Int),(0:Int)⟩
structure pV where
 f0:Int
 f1:Int
 f2:Int
 f3:ByteArray
 f4:(List pV)
def sad (d:Kd pV):Kd pV:=Kd.BZ (Kd.pair (Kd.int .i64) (Kd.pair (Kd.int .i64) (Kd.pair (Kd.int .i64) (Kd.pair Kd.string (Kd.slice 134 d))))) (fun x:pV=>(x.f0,x.f1,x.f2,x.f3,x.f4))
theorem U_:Kd.Sub sad [134]:=Kd.EP _ (Kd.Dm (Kd.sub_const _ (by decide)) (Kd.Dm (Kd.sub_const _ (by decide)) (Kd.Dm (Kd.sub_const _ (by decide)) (Kd.Dm (Kd.sub_const _ (by decide)) (Kd.aC 134 (by decide) Kd.pN)))))
theorem jae:∀ n,(Kd.upto sad 5 [134] n).sz=5:=Kd.BP (fun _=>rfl)
def oau:Kd pV:=Kd.fix sad 5 [134] jae (Kd.mN U_)
structure XC where
 f0:Int
 f1:Int
 f2:Int
 f3:(List pV)
 f4:(List XC)
 f5:(List XC)
def tad (d:Kd XC):Kd XC:=Kd.BZ (Kd.pair (Kd.int .i64) (Kd.pair (Kd.int .i64) (Kd.pair (Kd.int .i64) (Kd.pair (Kd.slice 134 oau) (Kd.pair (Kd.slice 130 d) (Kd.slice 130 d)))))) (fun x:XC=>(x.f0,x.f1,x.f2,x.f3,x.f4,x.f5))
theorem V_:Kd.Sub tad [130,134]:=Kd.EP _ (Kd.Dm (Kd.sub_const _ (by decide)) (Kd.Dm (Kd.sub_const _ (by decide)) (Kd.Dm (Kd.sub_const _ (by decide)) (Kd.Dm (Kd.sub_const _ (by decide)) (Kd.Dm (Kd.aC 130 (by decide) Kd.pN) (Kd.aC 130 (by decide) Kd.pN))))))
theorem kae:∀ n,(Kd.upto tad 6 [130,134] n).sz=6:=Kd.BP (fun _=>rfl)
def pau:Kd XC:=Kd.fix tad 6 [130,134] kae (Kd.mN V_)
theorem kW {α:Type} {d:Kd α} {e:Nat} {w:World} {base:Nat} {ok:Nat→Prop} {v:Value} {xs:List α} (h:ga (d.R e w base ok v xs)):v.oneCell' = true:=by
 obtain ⟨A,c,rfl⟩:=Kd.od h.out
 rfl
theorem jW {α:Type} {d:Kd α} {e:Nat} {w:World} {base:Nat} {ok:Nat→Prop} {v:Value} {xs:List α} (h:ga (d.S e w base ok v xs)):v.oneCell' = true:=by
 obtain ⟨A,c,rfl⟩:=Kd.od (Kd.CM h.out)
 rfl
theorem mW {α:Type} {d:Kd α} {e:Nat} {w:World} {base:Nat} {ok:Nat→Prop} {v:Value} {xs:List α} (h:ga (Kd.N d e w base ok v xs)):v.oneCell' = true:=by
 obtain ⟨A,c,rfl⟩:=Kd.G6 h.out
 rfl
theorem lW {α:Type} {d:Kd α} {e:Nat} {w:World} {base:Nat} {ok:Nat→Prop} {v:Value} {xs:List α} (h:ga (d.Q e w base ok v xs)):v.oneCell' = true:=by
 obtain ⟨A,c,rfl,_⟩:=Kd.F6 h.out
 rfl
def xp (P:Program) (t:TypeId) {α:Type} (d:Kd α) (fit:α→Prop):Prop :=
 ∀ {H:Type} {enc:TypeId × Value→H} {w:World} {base:Nat} {spare:Nat→Bool} {held:Bool} {fuel:Nat} {cs:List Value} {x:DataW H × List MemPlace},
  DataW.trod enc P w base spare held fuel t cs=some x→∃ a:α,d.K w a cs∧fit a
theorem xU {P:Program} {t:TypeId} {k:IntKind} (ht:P.underlying t=some (.int k)):xp P t (Kd.int k) (fun n=>(Lit.int k n).wf=true):=by
 intro H enc w base spare held fuel cs x h;obtain ⟨n,rfl,_,hw⟩:=DataW.trod_int ht h;exact ⟨n,rfl,hw⟩
def ov (n:Int):Prop:=-9223372036854775808 ≤ n∧n ≤ 9223372036854775807
theorem wf_i64 {n:Int} (h:(Lit.int .i64 n).wf=true):ov n:=by
 simp [Lit.wf,IntKind.min,IntKind.max,IntKind.signed,IntKind.bits] at h;unfold ov;omega
theorem Ch {P:Program} {t:TypeId} (ht:P.underlying t=some (.int .i64)):xp P t (Kd.int .i64) ov:=by
 intro H enc w base spare held fuel cs x h;obtain ⟨n,h1,h2⟩:=xU ht h;exact ⟨n,h1,wf_i64 h2⟩
theorem iI {P:Program} {t:TypeId} (ht:P.underlying t=some .string):xp P t Kd.string (fun s=>s.size ≤ 9223372036854775807):=by
 intro H enc w base spare held fuel cs x h;obtain ⟨s,rfl,_,hw⟩:=DataW.trod_string ht h;exact ⟨s,rfl,by simpa [maxLen] using hw⟩
theorem qD {α:Type} {p:Nat→α→Prop}:∀ n,(∀ i,i < n→∃ a,p i a)→∃ xs:List α,xs.length=n∧∀ (i:Nat) (a:α),xs[i]? = some a→p i a
 | 0,_=>⟨[],rfl,fun i a h=>by simp at h⟩
 | n + 1,h=>by
  obtain ⟨xs,hl,hx⟩:=qD n (fun i hi=>h i (by omega));obtain ⟨a,ha⟩:=h n (by omega);refine ⟨xs ++ [a],by simp [hl],fun i b hb=>?_⟩
  rcases Nat.lt_or_ge i xs.length with hi|hi
  ·rw [List.getElem?_append_left hi] at hb;exact hx i b hb
  ·have:i=n:=by
    have:=(List.getElem?_eq_some_iff.1 hb).1;simp [hl] at this;omega
   subst this;rw [List.getElem?_append_right hi,hl] at hb;simp at hb;exact hb ▸ ha
theorem Yv {P:Program} {t e e':TypeId} {α:Type} {d:Kd α} {fit:α→Prop} (ht:P.underlying t=some (.slice e)) (hs:P.cellsOf e=d.sz) (h:xp P e d fit):xp P t (Kd.slice e' d) (fun l=>l.length ≤ 9223372036854775807∧∀ a ∈ l,fit a):=by
 intro H enc w base spare held fuel cs x hx
 rcases Go.Deep.open_slice ht hx with ⟨rfl,_⟩|⟨a,len,cap,m,n,D,Pl,rfl,hb,hl,hm,hmm,_,hel⟩
 ·exact ⟨[],⟨none,0,rfl,Nat.le_refl _,rfl,by simp,fun hp=>absurd hp (by simp)⟩,by simp,by simp⟩
 ·have hle:len ≤ m:=by rw [hmm];split <;> omega
  have hmx:len ≤ 9223372036854775807:=by simp only [maxLen] at hm;omega
  obtain ⟨xs,hxl,hxs⟩:=qD (α:=α) (p:=fun i y=>∃ c,c.length=d.sz∧d.K w y c∧(∀ j u,c[j]? = some u→w.cell? (a.add (i * d.sz + j))=some u)∧fit y) len (fun i hi=>by
   obtain ⟨cs',h1,h2⟩:=hel i (by omega);obtain ⟨y,hy,hf⟩:=h h2;obtain ⟨_,Kt,Ly⟩:=World.cells?_some h1;refine ⟨y,cs',by rw [Kt,hs],hy,fun j u hu=>?_,hf⟩;have hj:j < P.cellsOf e:=by rw [← Kt];exact (List.getElem?_eq_some_iff.1 hu).1
   rw [← hs,← Go.Deep.add_add,Ly j hj]
   exact hu)
  refine ⟨xs,⟨some a,cap,by rw [hxl],by omega,rfl,by omega,fun _=>⟨a,rfl,fun j p hj=>?_⟩⟩,by omega,fun y hy=>?_⟩
  ·obtain ⟨c,h1,h2,h3,_⟩:=hxs j p hj;exact ⟨c,h1,h2,h3⟩
  ·obtain ⟨i,hi,rfl⟩:=List.getElem_of_mem hy;obtain ⟨c,_,_,_,h4⟩:=hxs i _ (List.getElem?_eq_getElem hi);exact h4
def BK (P:Program) (fs:List Field) (off:Nat) {α:Type} (d:Kd α) (fit:α→Prop):Prop :=
 ∀ {H:Type} {enc:TypeId × Value→H} {w:World} {base:Nat} {spare:Nat→Bool} {held:Bool} {n:Nat} {cs:List Value},
  (∀ f ∈ fs,∃ y,DataW.trod enc P w base spare held n f.type ((cs.drop f.offset).take (P.cellsOf f.type))=some y)→cs.length=off + d.sz→∃ a:α,d.K w a (cs.drop off)∧fit a
theorem qz {P:Program} {f:Field} {off:Nat} {α:Type} {d:Kd α} {fit:α→Prop} (ho:f.offset=off) (hs:P.cellsOf f.type=d.sz) (h:xp P f.type d fit):BK P [f] off d fit:=by
 intro H enc w base spare held n cs hf hl;obtain ⟨y,hy⟩:=hf f (by simp);rw [ho,hs,List.take_of_length_le (by rw [List.length_drop];omega)] at hy;exact h hy
theorem Fg {P:Program} {f:Field} {fs:List Field} {off off2:Nat} {α β:Type} {d:Kd α} {d2:Kd β} {fit:α→Prop} {Oai:β→Prop} (ho:f.offset=off) (hs:P.cellsOf f.type=d.sz) (ho2:off2=off + d.sz) (h:xp P f.type d fit) (h2:BK P fs off2 d2 Oai):BK P (f :: fs) off (Kd.pair d d2) (fun p=>fit p.1∧Oai p.2):=by
 intro H enc w base spare held n cs hf hl;have hl':cs.length=off + (d.sz + d2.sz):=hl;obtain ⟨y,hy⟩:=hf f (by simp);rw [ho,hs] at hy;obtain ⟨a,ha,fa⟩:=h hy;obtain ⟨b,hb,fb⟩:=h2 (fun g hg=>hf g (List.mem_cons_of_mem _ hg)) (by omega);refine ⟨(a,b),⟨(cs.drop off).take d.sz,cs.drop off2,?_,ha,hb⟩,fa,fb⟩;rw [ho2,← List.drop_drop,List.take_append_drop]
theorem Pt {P:Program} {t:TypeId} {fs:Array Field} {α:Type} {d:Kd α} {fit:α→Prop} (ht:P.underlying t=some (.struct fs)) (hs:P.cellsOf t=d.sz) (h:BK P fs.toList 0 d fit):xp P t d fit:=by
 intro H enc w base spare held fuel cs x hx;obtain ⟨xs,n,_,_,hl,hxl,hf⟩:=DataW.trod_struct ht hx
 have:=h (w:=w) (enc:=enc) (base:=base) (spare:=spare) (held:=held) (n:=n) (cs:=cs) (fun f hfm=>by
  obtain ⟨i,hi,rfl⟩:=List.getElem_of_mem hfm;have hi':i < fs.size:=by simpa using hi
  have h1:=hf i (fs.toList[i]) (by simp [hi']);rw [List.getElem?_eq_getElem (by omega)] at h1
  exact ⟨_,h1⟩) (by omega)
 simpa using this
theorem fC {P:Program} {t:TypeId} {α β:Type} {d:Kd α} {fit:α→Prop} {g:β→α} (gi:α→β) (hg:∀ a,g (gi a)=a) (h:xp P t d fit):xp P t (Kd.BZ d g) (fun b=>fit (g b)):=by
 intro H enc w base spare held fuel cs x hx;obtain ⟨a,ha,hf⟩:=h hx;refine ⟨gi a,?_,?_⟩
 ·show d.K w (g (gi a)) cs
  rw [hg];exact ha
 ·show fit (g (gi a))
  rw [hg];exact hf
theorem iW {P:Program} {t:TypeId} {fs:Array Field} {α:Type} {d:Kd α} {fit:α→Prop} {r:Reach} {b0:Nat} {H:Type} {enc:TypeId × Value→H} {w:World} {base:Nat} {spare:Nat→Bool} {held:Bool} {v:Value} {dt:DataW H} {p:List MemPlace}
  (ht:P.underlying t=some (.struct fs)) (h:xp P t d fit) (hv:Value.okWide P w r b0 t v) (hd:DataW.Trod enc P w base spare held t v dt p) :
  ∃ (a:α) (cs:Array Value),v = .agg cs∧d.K w a cs.toList∧fit a:=by
 obtain ⟨cs,rfl,hsz⟩:=Go.WideShapes.okWide_struct ht hv;obtain ⟨fuel,hf⟩:=hd;obtain ⟨a,ha,hfa⟩:=h hf;exact ⟨a,cs,rfl,by simpa [Value.cells] using ha,hfa⟩
theorem Z0:xp Try.prog 22 (Kd.slice 3 (Kd.int .i64)) (fun l=>l.length ≤ 9223372036854775807∧∀ a ∈ l,ov a):=Yv Try.underlying22 (by kernel_rfl) (Ch Try.underlying3)
def WN (x:vp):Prop:=ov x.f0∧ov x.f1∧ov x.f2∧ov x.f3∧ov x.f4∧ov x.f5∧(fun s=>s.size ≤ 9223372036854775807) x.f6
theorem gW:xp Try.prog 124 yF WN:=fC (fun p=>⟨p.1,p.2.1,p.2.2.1,p.2.2.2.1,p.2.2.2.2.1,p.2.2.2.2.2.1,p.2.2.2.2.2.2⟩) (fun _=>rfl) (Pt Try.underlying124 (by kernel_rfl) (Fg rfl (by kernel_rfl) (by kernel_rfl) (Ch Try.underlying3) (Fg rfl (by kernel_rfl) (by kernel_rfl) (Ch Try.underlying3) (Fg rfl (by kernel_rfl) (by kernel_rfl) (Ch Try.underlying3) (Fg rfl (by kernel_rfl) (by kernel_rfl) (Ch Try.underlying3) (Fg rfl (by kernel_rfl) (by kernel_rfl) (Ch Try.underlying3) (Fg rfl (by kernel_rfl) (by kernel_rfl) (Ch Try.underlying3) (qz rfl (by kernel_rfl) (iI Try.underlying9)))))))))
theorem V0:xp Try.prog 84 (Kd.slice 124 yF) (fun l=>l.length ≤ 9223372036854775807∧∀ a ∈ l,WN a):=Yv Try.underlying84 (by kernel_rfl) gW
def RX (x:Ez):Prop:=(fun l=>l.length ≤ 9223372036854775807∧∀ a ∈ l,WN a) x.f0∧ov x.f1∧ov x.f2∧ov x.f3∧ov x.f4
theorem U0:xp Try.prog 86 tW RX:=fC (fun p=>⟨p.1,p.2.1,p.2.2.1,p.2.2.2.1,p.2.2.2.2⟩) (fun _=>rfl) (Pt Try.underlying86 (by kernel_rfl) (Fg rfl (by kernel_rfl) (by kernel_rfl) V0 (Fg rfl (by kernel_rfl) (by kernel_rfl) (Ch Try.underlying3) (Fg rfl (by kernel_rfl) (by kernel_rfl) (Ch Try.underlying3) (Fg rfl (by kernel_rfl) (by kernel_rfl) (Ch Try.underlying3) (qz rfl (by kernel_rfl) (Ch Try.underlying3)))))))
theorem Y0:xp Try.prog 23 (Kd.slice 86 tW) (fun l=>l.length ≤ 9223372036854775807∧∀ a ∈ l,RX a):=Yv Try.underlying23 (by kernel_rfl) U0
def SX (x:S25):Prop:=(fun l=>l.length ≤ 9223372036854775807∧∀ a ∈ l,ov a) x.f0∧ov x.f1∧ov x.f2∧ov x.f3∧(fun l=>l.length ≤ 9223372036854775807∧∀ a ∈ l,RX a) x.f4
theorem W0:xp Try.prog 25 k25 SX:=fC (fun p=>⟨p.1,p.2.1,p.2.2.1,p.2.2.2.1,p.2.2.2.2⟩) (fun _=>rfl) (Pt Try.underlying25 (by kernel_rfl) (Fg rfl (by kernel_rfl) (by kernel_rfl) Z0 (Fg rfl (by kernel_rfl) (by kernel_rfl) (Ch Try.underlying3) (Fg rfl (by kernel_rfl) (by kernel_rfl) (Ch Try.underlying3) (Fg rfl (by kernel_rfl) (by kernel_rfl) (Ch Try.underlying3) (qz rfl (by kernel_rfl) Y0))))))
def qb.f (a0:Int) (a1:Int) (a2:Int):Option (Bool):=if a0 ≥ a1 then (some (decide (a0 ≤ a2))) else (some false)
theorem qb.calls (a0:Int) (a1:Int) (a2:Int) (r:Bool) (w:World) (h:qb.f a0 a1 a2=some r) :
  Calls Try.prog 53 #[.int .i64 a0,.int .i64 a1,.int .i64 a2] w fun e w'=>e = .returned (.bool r)∧Wc w w':=by
 have H:(if a0 ≥ a1 then (some (decide (a0 ≤ a2))) else (some false))=some r:=h;clear h
 by_cases c4:a0 ≥ a1
 ·rw [if_pos c4] at H;have jk:decide (a1 ≤ a0)=true:=decide_eq_true c4;clear c4;obtain rfl:=Option.some.inj H;go_enter Try.func53,Try.ntmps53;go_wp2;go_ret;exact ⟨by first|rfl|(simp;done)|(simp [*];done),GaH⟩
 ·rw [if_neg c4] at H;have jk:decide (a1 ≤ a0)=false:=decide_eq_false c4;clear c4;obtain rfl:=Option.some.inj H;go_enter Try.func53,Try.ntmps53;go_wp2;go_ret;exact ⟨by first|rfl|(simp;done)|(simp [*];done),GaH⟩
def ef.l0:Nat→List ByteArray→ByteArray→Int→Option (Bool)
 | 0,_,_,_=>none
 | k + 1,x0,x1,x5=>if x5 < (x0.length:Int) then (if 0 ≤ x5 then (if (Vf ByteArray.empty x0 x5).toList=x1.toList then (some true) else (ef.l0 k x0 x1 (wrap64 (x5 + 1)))) else (none)) else (some false)
def ef.f (k:Nat) (l0:List ByteArray) (a1:ByteArray):Option (Bool):=ef.l0 k l0 a1 0
theorem ef.calls (k:Nat) (A0:Option Addr) (c0:Nat) (l0:List ByteArray) (a1:ByteArray) (r:Bool) (w:World) (Ul:Kd.C Kd.string w A0 l0.length l0) (hc0:l0.length ≤ c0) (h:ef.f k l0 a1=some r) :
  Calls Try.prog 113 #[.slice A0 l0.length c0,.string a1] w fun e w'=>e = .returned (.bool r)∧Wc w w':=by
 have ym:=ga.mk Ul;have eL:=ga.mk hc0;clear Ul hc0;have H:(ef.l0 k l0 a1 0)=some r:=h;clear h;have H':=ga.mk H;clear H;go_enter Try.func113,Try.ntmps113;go_wp2
 go_loopg [5] k (fun kq v5 w'=>∃ (Ka:Int),v5 = .int .i64 Ka∧ga (ef.l0 kq l0 a1 Ka=some r)∧ga (kq ≤ k)∧Wc w w')
 case atStart=>exact ⟨(0),AaH,H',⟨Nat.le_refl _⟩,GaH⟩
 case round =>
  clear H'
  try clear c1
  try clear p2
  (try clear HA);(try clear wg);obtain ⟨Ka,rfl,HA,wg,⟨m1,rfl⟩⟩:=hrel;cases gk with
  | zero=>exact absurd HA.out (by simp [ef.l0])
  | succ k1 =>
   have H:=HA.out;clear HA;simp only [ef.l0] at H
   by_cases c3:Ka < (l0.length:Int)
   ·rw [if_pos c3] at H;have Xh:decide (Ka < (l0.length:Int))=true:=decide_eq_true c3;clear c3
    by_cases c4:0 ≤ Ka
    ·rw [if_pos c4] at H;have jk:decide (0 ≤ Ka)=true:=decide_eq_true c4;clear c4
     by_cases c5:(Vf ByteArray.empty l0 Ka).toList=a1.toList
     ·rw [if_pos c5] at H;have fk:((Vf ByteArray.empty l0 Ka).toList == a1.toList)=true:=beq_iff_eq.mpr c5;have Dz:((Vf ByteArray.empty l0 Ka).toList != a1.toList)=false:=bne_eq_false_iff_eq.mpr c5;clear c5;obtain rfl:=Option.some.inj H;have ng:0 ≤ (Ka:Int):=Ua;have mg:Ka < (l0.length:Int):=Ua;obtain ⟨We,ql,Ce⟩:=Kd.Dy ym.out Ka ng mg;cases ql;replace ng:=eq_true ng;replace mg:=eq_true mg;go_wp2;go_ret;exact ⟨by first|rfl|(simp;done)|(simp [*];done),GaH⟩
     ·rw [if_neg c5] at H;have fk:((Vf ByteArray.empty l0 Ka).toList == a1.toList)=false:=beq_eq_false_iff_ne.mpr c5;have Dz:((Vf ByteArray.empty l0 Ka).toList != a1.toList)=true:=bne_iff_ne.mpr c5;have H':=ga.mk H;clear H;have ng:0 ≤ (Ka:Int):=Ua;have mg:Ka < (l0.length:Int):=Ua;obtain ⟨We,ql,Ce⟩:=Kd.Dy ym.out Ka ng mg;cases ql;replace ng:=eq_true ng;replace mg:=eq_true mg;go_wp2
      go_roundg k1
      case measure=>have:=wg.out;omega
      case rel=>exact ⟨(wrap64 (Ka + 1)),AaH,H',⟨by have:=wg.out;omega⟩,GaH⟩
    ·rw [if_neg c4] at H;exact absurd H (by simp)
   ·rw [if_neg c3] at H;have Xh:decide (Ka < (l0.length:Int))=false:=decide_eq_false c3;clear c3;obtain rfl:=Option.some.inj H;go_wp2;go_ret;exact ⟨by first|rfl|(simp;done)|(simp [*];done),GaH⟩
mutual
def zb.j0:Nat→Bool→Bool→Bool→Bool→List Int→Int→Int→Int→List (Je)→Int→Int→Int→Int→Int→Int→ByteArray→Option (Bool)
 | 0,_,_,_,_,_,_,_,_,_,_,_,_,_,_,_,_=>none
 | k + 1,x5,x6,x7,x8,yc,Qc,Gc,Dc,Yb,Dg,Bl,Xl,Ek,Dk,yo,Dr=>if Dg=2 then (if Dg=4 then (zb.j1 k x5 x6 x7 x8 false yc Qc Gc Dc Yb Dg Bl Xl Ek Dk yo Dr) else (zb.j1 k x5 x6 x7 x8 (Dk != 0) yc Qc Gc Dc Yb Dg Bl Xl Ek Dk yo Dr)) else (if Dr.toList=([]:List UInt8) then (if Dg=4 then (zb.j1 k x5 x6 x7 x8 false yc Qc Gc Dc Yb Dg Bl Xl Ek Dk yo Dr) else (zb.j1 k x5 x6 x7 x8 (Dk != 0) yc Qc Gc Dc Yb Dg Bl Xl Ek Dk yo Dr)) else (zb.j1 k x5 x6 x7 x8 true yc Qc Gc Dc Yb Dg Bl Xl Ek Dk yo Dr))
def zb.j1:Nat→Bool→Bool→Bool→Bool→Bool→List Int→Int→Int→Int→List (Je)→Int→Int→Int→Int→Int→Int→ByteArray→Option (Bool)
 | 0,_,_,_,_,_,_,_,_,_,_,_,_,_,_,_,_,_=>none
 | k + 1,x5,x6,x7,x8,x62,yc,Qc,Gc,Dc,Yb,Dg,Bl,Xl,Ek,Dk,yo,Dr=>if x62=true then (some false) else (if Dg=0 then (if x5=true then (if Xl=0 then (some (Ek == 0)) else (some false)) else (some false)) else (if Dg=1 then (if x5=true then (if x6=true then (if Ek=0 then (some (yo == 0)) else (some false)) else (some false)) else (some false)) else (if Dg=2 then (if x5=true then (if x6=true then (if x7=true then (if yo=0 then ((ef.f k (([(⟨#[61,61]⟩:ByteArray),(⟨#[60]⟩:ByteArray),(⟨#[38]⟩:ByteArray),(⟨#[43]⟩:ByteArray),(⟨#[45]⟩:ByteArray),(⟨#[42]⟩:ByteArray)]:List ByteArray)) Dr).bind fun t111=>(some t111)) else (some false)) else (some false)) else (some false)) else (some false)) else (if Dg=3 then (if x5=true then (some x8) else (some false)) else (if Dg=4 then (if Bl=0 then (if x8=true then ((qb.f Dk 0 (wrap64 (Dc - 1))).bind fun t112=>(some t112)) else (some false)) else (some false)) else (if Dg=5 then (if x5=true then (if Xl=0 then (if Ek=0 then (some (yo == 0)) else (some false)) else (some false)) else (some false)) else (if Dg=6 then (if Bl=0 then (if x6=true then (if Ek=0 then (some (yo == 0)) else (some false)) else (some false)) else (some false)) else (some false))))))))
end
def zb.f (k:Nat) (Qa:List Int) (Ja:Int) (Ga:Int) (Ia:Int) (Aa:List (Je)) (Jc:Int) (Vb:Int) (Pb:Int) (Qb:Int) (jc:Int) (Sc:Int) (td:ByteArray):Option (Bool):=(qb.f Vb 0 (wrap64 (Ia - 1))).bind fun t103=>((qb.f Pb 0 (wrap64 (Ia - 1))).bind fun t104=>((qb.f Qb 0 (wrap64 (Ia - 1))).bind fun t105=>(if t104=true then (if t105=true then ((qb.f Sc 0 (wrap64 ((Qa.length:Int) - 1))).bind fun t106=>(zb.j0 k t103 t104 t105 t106 Qa Ja Ga Ia Aa Jc Vb Pb Qb jc Sc td)) else (zb.j0 k t103 t104 t105 false Qa Ja Ga Ia Aa Jc Vb Pb Qb jc Sc td)) else (if Pb=(-1) then (if t105=true then ((qb.f Sc 0 (wrap64 ((Qa.length:Int) - 1))).bind fun t107=>(zb.j0 k t103 t104 t105 t107 Qa Ja Ga Ia Aa Jc Vb Pb Qb jc Sc td)) else (zb.j0 k t103 t104 t105 false Qa Ja Ga Ia Aa Jc Vb Pb Qb jc Sc td)) else (zb.j0 k t103 t104 t105 false Qa Ja Ga Ia Aa Jc Vb Pb Qb jc Sc td)))))
theorem zb.calls (k:Nat) (Ya:Option Addr) (Za:Nat) (Qa:List Int) (Ja:Int) (Ga:Int) (Ia:Int) (Mb:Option Addr) (Cb:Nat) (Aa:List (Je)) (Jc:Int) (Vb:Int) (Pb:Int) (Qb:Int) (jc:Int) (Sc:Int) (td:ByteArray) (r:Bool) (w:World) (Ud:Kd.C (Kd.int .i64) w Ya Qa.length Qa) (Rd:Qa.length ≤ Za) (yf:Kd.C Fq w Mb Aa.length Aa) (kf:Aa.length ≤ Cb) (h:zb.f k Qa Ja Ga Ia Aa Jc Vb Pb Qb jc Sc td=some r) :
  Calls Try.prog 97 #[.agg #[.slice Ya Qa.length Za,.int .i64 Ja,.int .i64 Ga,.int .i64 Ia,.slice Mb Aa.length Cb],.agg #[.int .i64 Jc,.int .i64 Vb,.int .i64 Pb,.int .i64 Qb,.int .i64 jc,.int .i64 Sc,.string td]] w fun e w'=>e = .returned (.bool r)∧Below w.heap.size w w':=by
 have GF:=Try.underlying30;have MA:=Try.underlying65;have Ze:=ga.mk Ud;have Af:=ga.mk Rd;clear Ud Rd;have xg:=ga.mk yf;have ki:=ga.mk kf;clear yf kf;have HB:=ga.mk (Below.refl w.heap.size w);have H:((qb.f Vb 0 (wrap64 (Ia - 1))).bind fun t103=>((qb.f Pb 0 (wrap64 (Ia - 1))).bind fun t104=>((qb.f Qb 0 (wrap64 (Ia - 1))).bind fun t105=>(if t104=true then (if t105=true then ((qb.f Sc 0 (wrap64 ((Qa.length:Int) - 1))).bind fun t106=>(zb.j0 k t103 t104 t105 t106 Qa Ja Ga Ia Aa Jc Vb Pb Qb jc Sc td)) else (zb.j0 k t103 t104 t105 false Qa Ja Ga Ia Aa Jc Vb Pb Qb jc Sc td)) else (if Pb=(-1) then (if t105=true then ((qb.f Sc 0 (wrap64 ((Qa.length:Int) - 1))).bind fun t107=>(zb.j0 k t103 t104 t105 t107 Qa Ja Ga Ia Aa Jc Vb Pb Qb jc Sc td)) else (zb.j0 k t103 t104 t105 false Qa Ja Ga Ia Aa Jc Vb Pb Qb jc Sc td)) else (zb.j0 k t103 t104 t105 false Qa Ja Ga Ia Aa Jc Vb Pb Qb jc Sc td))))))=some r:=h;clear h;replace H:=Option.bind_eq_some_iff.mp H;obtain ⟨t103,Kz,H⟩:=H;replace H:((qb.f Pb 0 (wrap64 (Ia - 1))).bind fun t104=>((qb.f Qb 0 (wrap64 (Ia - 1))).bind fun t105=>(if t104=true then (if t105=true then ((qb.f Sc 0 (wrap64 ((Qa.length:Int) - 1))).bind fun t106=>(zb.j0 k t103 t104 t105 t106 Qa Ja Ga Ia Aa Jc Vb Pb Qb jc Sc td)) else (zb.j0 k t103 t104 t105 false Qa Ja Ga Ia Aa Jc Vb Pb Qb jc Sc td)) else (if Pb=(-1) then (if t105=true then ((qb.f Sc 0 (wrap64 ((Qa.length:Int) - 1))).bind fun t107=>(zb.j0 k t103 t104 t105 t107 Qa Ja Ga Ia Aa Jc Vb Pb Qb jc Sc td)) else (zb.j0 k t103 t104 t105 false Qa Ja Ga Ia Aa Jc Vb Pb Qb jc Sc td)) else (zb.j0 k t103 t104 t105 false Qa Ja Ga Ia Aa Jc Vb Pb Qb jc Sc td)))))=some r:=H;have A3:=ga.mk Kz;clear Kz;replace H:=Option.bind_eq_some_iff.mp H;obtain ⟨t104,x_,H⟩:=H;replace H:((qb.f Qb 0 (wrap64 (Ia - 1))).bind fun t105=>(if t104=true then (if t105=true then ((qb.f Sc 0 (wrap64 ((Qa.length:Int) - 1))).bind fun t106=>(zb.j0 k t103 t104 t105 t106 Qa Ja Ga Ia Aa Jc Vb Pb Qb jc Sc td)) else (zb.j0 k t103 t104 t105 false Qa Ja Ga Ia Aa Jc Vb Pb Qb jc Sc td)) else (if Pb=(-1) then (if t105=true then ((qb.f Sc 0 (wrap64 ((Qa.length:Int) - 1))).bind fun t107=>(zb.j0 k t103 t104 t105 t107 Qa Ja Ga Ia Aa Jc Vb Pb Qb jc Sc td)) else (zb.j0 k t103 t104 t105 false Qa Ja Ga Ia Aa Jc Vb Pb Qb jc Sc td)) else (zb.j0 k t103 t104 t105 false Qa Ja Ga Ia Aa Jc Vb Pb Qb jc Sc td))))=some r:=H;have A4:=ga.mk x_;clear x_;replace H:=Option.bind_eq_some_iff.mp H;obtain ⟨t105,w_,H⟩:=H;replace H:(if t104=true then (if t105=true then ((qb.f Sc 0 (wrap64 ((Qa.length:Int) - 1))).bind fun t106=>(zb.j0 k t103 t104 t105 t106 Qa Ja Ga Ia Aa Jc Vb Pb Qb jc Sc td)) else (zb.j0 k t103 t104 t105 false Qa Ja Ga Ia Aa Jc Vb Pb Qb jc Sc td)) else (if Pb=(-1) then (if t105=true then ((qb.f Sc 0 (wrap64 ((Qa.length:Int) - 1))).bind fun t107=>(zb.j0 k t103 t104 t105 t107 Qa Ja Ga Ia Aa Jc Vb Pb Qb jc Sc td)) else (zb.j0 k t103 t104 t105 false Qa Ja Ga Ia Aa Jc Vb Pb Qb jc Sc td)) else (zb.j0 k t103 t104 t105 false Qa Ja Ga Ia Aa Jc Vb Pb Qb jc Sc td)))=some r:=H;have A5:=ga.mk w_;clear w_;have HC6:=ga.mk H;clear H;go_enter Try.func97,Try.ntmps97
 go_upto_region 4 with (first|((with_reducible refine Ab (N:=2) rfl ?_);(try (refine Vj (by rfl) ?_;dsimp only));refine Lb ?hg (N:=2) ?hd (cs:=#[.slice Ya Qa.length Za,.int .i64 Ja,.int .i64 Ga,.int .i64 Ia,.slice Mb Aa.length Cb]) (t:=30) ?hr ?_;(case hd=>rfl);(case hg=>rfl);(case hr=>first|(go_simp;done)|(go_simp;rfl));intro ya hg w7 Sb hb;have Eb:=ga.mk (Ra uaH hb);have Fb:=ga.mk (Sb);have Ob:=ga.mk ((by rw [hg];exact (La uaH):w.heap.size ≤ ya));have Ec:=ga.mk ((by rw [hg];exact (La uaH):w.heap.size ≤ ya));clear HB;have HB:=Eb;have oa:=Fb;have Vd:=Ob;have Ta:=Ec;clear Eb Fb Ob Ec hb Sb hg)|((with_reducible refine Ab (N:=3) rfl ?_);(try (refine Vj (by rfl) ?_;dsimp only));refine Lb ?hg (N:=3) ?hd (cs:=#[.int .i64 Jc,.int .i64 Vb,.int .i64 Pb,.int .i64 Qb,.int .i64 jc,.int .i64 Sc,.string td]) (t:=65) ?hr ?_;(case hd=>rfl);(case hg=>rfl);(case hr=>first|(go_simp;done)|(go_simp;rfl));intro Na hg w8 Sb hb;have Eb:=ga.mk (Va (g:=ya) (o:=.cells #[.slice Ya Qa.length Za,.int .i64 Ja,.int .i64 Ga,.int .i64 Ia,.slice Mb Aa.length Cb] 30 (0,0)) vaH hb);have Fb:=ga.mk (Ra taH hb);have Ob:=ga.mk (Sb);have Ec:=ga.mk ((by rw [hg];exact (La taH):w.heap.size ≤ Na));have gf:=ga.mk ((by rw [hg];exact (La taH):w.heap.size ≤ Na));have Zf:=ga.mk ((by rw [hg];exact Nat.ne_of_lt (Nc (g:=ya) (o:=.cells #[.slice Ya Qa.length Za,.int .i64 Ja,.int .i64 Ga,.int .i64 Ia,.slice Mb Aa.length Cb] 30 (0,0)) vaH):ya ≠ Na));have gh:=ga.mk ((by rw [hg];exact Nat.ne_of_gt (Nc (g:=ya) (o:=.cells #[.slice Ya Qa.length Za,.int .i64 Ja,.int .i64 Ga,.int .i64 Ia,.slice Mb Aa.length Cb] 30 (0,0)) vaH):Na ≠ ya));clear oa HB;have oa:=Eb;have HB:=Fb;have Ba:=Ob;have Wk:=Ec;have Ic:=gf;have Jb:=Zf;have Ib:=gh;clear Eb Fb Ob Ec gf Zf gh hb Sb hg;have Vau:=Ib.out;have Hau:=Jb.out;have Nh:w8.cell? ⟨Na,0,none⟩=some (.int .i64 Jc):=(ia Ba.out 0).trans rfl;have Mh:w8.cell? ⟨Na,1,none⟩=some (.int .i64 Vb):=(ia Ba.out 1).trans rfl;have Lh:w8.cell? ⟨Na,2,none⟩=some (.int .i64 Pb):=(ia Ba.out 2).trans rfl;have Kh:w8.cell? ⟨Na,3,none⟩=some (.int .i64 Qb):=(ia Ba.out 3).trans rfl;have Jh:w8.cell? ⟨Na,4,none⟩=some (.int .i64 jc):=(ia Ba.out 4).trans rfl;have vB:w8.cell? ⟨Na,5,none⟩=some (.int .i64 Sc):=(ia Ba.out 5).trans rfl;have uB:w8.cell? ⟨Na,6,none⟩=some (.string td):=(ia Ba.out 6).trans rfl;have Ih:=aa Ba.out 0;have Hh:=aa Ba.out 1;have Gh:=aa Ba.out 2;have Fh:=aa Ba.out 3;have Eh:=aa Ba.out 4;have gB:=aa Ba.out 5;have fB:=aa Ba.out 6;have jv:w8.cell? ⟨ya,0,none⟩=some (.slice Ya Qa.length Za):=(ia oa.out 0).trans rfl;have gv:w8.cell? ⟨ya,1,none⟩=some (.int .i64 Ja):=(ia oa.out 1).trans rfl;have cv:w8.cell? ⟨ya,2,none⟩=some (.int .i64 Ga):=(ia oa.out 2).trans rfl;have av:w8.cell? ⟨ya,3,none⟩=some (.int .i64 Ia):=(ia oa.out 3).trans rfl;have Zu:w8.cell? ⟨ya,4,none⟩=some (.slice Mb Aa.length Cb):=(ia oa.out 4).trans rfl;have Cu:=aa oa.out 0;have Bu:=aa oa.out 1;have zu:=aa oa.out 2;have yu:=aa oa.out 3;have xu:=aa oa.out 4)|((with_reducible refine yb (f:=53) rfl ?_);refine Pc (some 14) rfl rfl Try.func53 (by kernel_rfl) rfl #[.int .i64 Vb,.int .i64 0,.int .i64 (wrap64 (Ia - 1))] rfl waH ?_;(with_reducible refine (qb.calls Vb 0 (wrap64 (Ia - 1)) t103 _ A3.out).mono ?_);rintro e w' ⟨rfl,⟨nd,rfl⟩⟩;refine ⟨_,rfl,?_⟩)|((with_reducible refine yb (f:=53) rfl ?_);refine Pc (some 20) rfl rfl Try.func53 (by kernel_rfl) rfl #[.int .i64 Pb,.int .i64 0,.int .i64 (wrap64 (Ia - 1))] rfl waH ?_;(with_reducible refine (qb.calls Pb 0 (wrap64 (Ia - 1)) t104 _ A4.out).mono ?_);rintro e w' ⟨rfl,⟨nd,rfl⟩⟩;refine ⟨_,rfl,?_⟩)|((with_reducible refine yb (f:=53) rfl ?_);refine Pc (some 26) rfl rfl Try.func53 (by kernel_rfl) rfl #[.int .i64 Qb,.int .i64 0,.int .i64 (wrap64 (Ia - 1))] rfl waH ?_;(with_reducible refine (qb.calls Qb 0 (wrap64 (Ia - 1)) t105 _ A5.out).mono ?_);rintro e w' ⟨rfl,⟨nd,rfl⟩⟩;refine ⟨_,rfl,?_⟩))
 (try simp only [Act.put,List.setIfInBounds_toArray,List.set_cons_zero,List.set_cons_succ])
 go_cut [8] (fun v8 wc=>∃ (kq:Nat) (gL:Bool),v8 = .bool gL∧ga (zb.j0 kq t103 t104 t105 gL Qa Ja Ga Ia Aa Jc Vb Pb Qb jc Sc td=some r)∧ga (kq ≤ k)∧ga (wc.heap[ya]? = some (.cells #[(.slice Ya Qa.length Za),.int .i64 Ja,.int .i64 Ga,.int .i64 Ia,(.slice Mb Aa.length Cb)] 30 (0,0)))∧ga (wc.heap[Na]? = some (.cells #[.int .i64 Jc,.int .i64 Vb,.int .i64 Pb,.int .i64 Qb,.int .i64 jc,.int .i64 Sc,.string td] 65 (0,0)))∧ga (Below w.heap.size w wc))
 case first =>
  have H:=HC6.out;clear HC6
  by_cases Ss:t104=true
  ·subst Ss;have H1:(if t105=true then ((qb.f Sc 0 (wrap64 ((Qa.length:Int) - 1))).bind fun t106=>(zb.j0 k t103 true t105 t106 Qa Ja Ga Ia Aa Jc Vb Pb Qb jc Sc td)) else (zb.j0 k t103 true t105 false Qa Ja Ga Ia Aa Jc Vb Pb Qb jc Sc td))=some r:=by rw [if_pos rfl] at H;exact H
   clear H;have H:=H1;clear H1
   by_cases KD:t105=true
   ·subst KD;have H1:((qb.f Sc 0 (wrap64 ((Qa.length:Int) - 1))).bind fun t106=>(zb.j0 k t103 true true t106 Qa Ja Ga Ia Aa Jc Vb Pb Qb jc Sc td))=some r:=by rw [if_pos rfl] at H;exact H
    clear H;have H:=H1;clear H1;replace H:=Option.bind_eq_some_iff.mp H;obtain ⟨t106,xG,H⟩:=H;replace H:(zb.j0 k t103 true true t106 Qa Ja Ga Ia Aa Jc Vb Pb Qb jc Sc td)=some r:=H;have A14:=ga.mk xG;clear xG;have H':=ga.mk H;clear H;have jaf:=Ib.out;have Uae:=Jb.out;have Po:w8.cell? ⟨Na,0,none⟩=some (.int .i64 Jc):=(ia Ba.out 0).trans rfl;have Oo:w8.cell? ⟨Na,1,none⟩=some (.int .i64 Vb):=(ia Ba.out 1).trans rfl;have Mo:w8.cell? ⟨Na,2,none⟩=some (.int .i64 Pb):=(ia Ba.out 2).trans rfl;have Lo:w8.cell? ⟨Na,3,none⟩=some (.int .i64 Qb):=(ia Ba.out 3).trans rfl;have Ko:w8.cell? ⟨Na,4,none⟩=some (.int .i64 jc):=(ia Ba.out 4).trans rfl;have ME:w8.cell? ⟨Na,5,none⟩=some (.int .i64 Sc):=(ia Ba.out 5).trans rfl;have KE:w8.cell? ⟨Na,6,none⟩=some (.string td):=(ia Ba.out 6).trans rfl;have Jo:=aa Ba.out 0;have Io:=aa Ba.out 1;have Ho:=aa Ba.out 2;have Fo:=aa Ba.out 3;have Eo:=aa Ba.out 4;have oE:=aa Ba.out 5;have nE:=aa Ba.out 6;have yy:w8.cell? ⟨ya,0,none⟩=some (.slice Ya Qa.length Za):=(ia oa.out 0).trans rfl;have xy:w8.cell? ⟨ya,1,none⟩=some (.int .i64 Ja):=(ia oa.out 1).trans rfl;have uy:w8.cell? ⟨ya,2,none⟩=some (.int .i64 Ga):=(ia oa.out 2).trans rfl;have sy:w8.cell? ⟨ya,3,none⟩=some (.int .i64 Ia):=(ia oa.out 3).trans rfl;have ry:w8.cell? ⟨ya,4,none⟩=some (.slice Mb Aa.length Cb):=(ia oa.out 4).trans rfl;have Jx:=aa oa.out 0;have Ix:=aa oa.out 1;have Hx:=aa oa.out 2;have Gx:=aa oa.out 3;have Fx:=aa oa.out 4;go_wp2_with (first|(go_at_call 53;(with_reducible refine (qb.calls Sc 0 (wrap64 ((Qa.length:Int) - 1)) t106 _ A14.out).mono ?_);rintro e w' ⟨rfl,⟨nd,rfl⟩⟩))
    go_meet
    case rel=>exact ⟨_,(t106),AaH,H',⟨by first|omega|exact Nat.le_refl _⟩,⟨zaH⟩,⟨OaH⟩,⟨yaH⟩⟩
   ·replace KD:=Bool.eq_false_iff.mpr KD;subst KD;have H1:(zb.j0 k t103 true false false Qa Ja Ga Ia Aa Jc Vb Pb Qb jc Sc td)=some r:=by rw [if_neg (show ¬ (false=true) by decide)] at H;exact H
    clear H;have H:=H1;clear H1;have H':=ga.mk H;clear H;go_wp2
    go_meet
    case rel=>exact ⟨_,(false),AaH,H',⟨by first|omega|exact Nat.le_refl _⟩,⟨zaH⟩,⟨OaH⟩,⟨yaH⟩⟩
  ·replace Ss:=Bool.eq_false_iff.mpr Ss;subst Ss;have H1:(if Pb=(-1) then (if t105=true then ((qb.f Sc 0 (wrap64 ((Qa.length:Int) - 1))).bind fun t107=>(zb.j0 k t103 false t105 t107 Qa Ja Ga Ia Aa Jc Vb Pb Qb jc Sc td)) else (zb.j0 k t103 false t105 false Qa Ja Ga Ia Aa Jc Vb Pb Qb jc Sc td)) else (zb.j0 k t103 false t105 false Qa Ja Ga Ia Aa Jc Vb Pb Qb jc Sc td))=some r:=by rw [if_neg (show ¬ (false=true) by decide)] at H;exact H
   clear H;have H:=H1;clear H1
   by_cases dr:Pb=(-1)
   ·rw [if_pos dr] at H;have qp:(Pb == (-1))=true:=beq_iff_eq.mpr dr;have oY:(Pb != (-1))=false:=bne_eq_false_iff_eq.mpr dr;clear dr;(first|rw [qp]|(simp only [nc,oc];rw [qp])|skip)
    by_cases lp:t105=true
    ·subst lp;have H1:((qb.f Sc 0 (wrap64 ((Qa.length:Int) - 1))).bind fun t107=>(zb.j0 k t103 false true t107 Qa Ja Ga Ia Aa Jc Vb Pb Qb jc Sc td))=some r:=by rw [if_pos rfl] at H;exact H
     clear H;have H:=H1;clear H1;replace H:=Option.bind_eq_some_iff.mp H;obtain ⟨t107,sZ,H⟩:=H;replace H:(zb.j0 k t103 false true t107 Qa Ja Ga Ia Aa Jc Vb Pb Qb jc Sc td)=some r:=H;have IV:=ga.mk sZ;clear sZ;have H':=ga.mk H;clear H;have iaf:=Ib.out;have Tae:=Jb.out;have Tu:w8.cell? ⟨Na,0,none⟩=some (.int .i64 Jc):=(ia Ba.out 0).trans rfl;have Su:w8.cell? ⟨Na,1,none⟩=some (.int .i64 Vb):=(ia Ba.out 1).trans rfl;have Ru:w8.cell? ⟨Na,2,none⟩=some (.int .i64 Pb):=(ia Ba.out 2).trans rfl;have Qu:w8.cell? ⟨Na,3,none⟩=some (.int .i64 Qb):=(ia Ba.out 3).trans rfl;have Pu:w8.cell? ⟨Na,4,none⟩=some (.int .i64 jc):=(ia Ba.out 4).trans rfl;have CE:w8.cell? ⟨Na,5,none⟩=some (.int .i64 Sc):=(ia Ba.out 5).trans rfl;have AE:w8.cell? ⟨Na,6,none⟩=some (.string td):=(ia Ba.out 6).trans rfl;have ru:=aa Ba.out 0;have qu:=aa Ba.out 1;have ou:=aa Ba.out 2;have nu:=aa Ba.out 3;have lu:=aa Ba.out 4;have gE:=aa Ba.out 5;have fE:=aa Ba.out 6;have Bs:w8.cell? ⟨ya,0,none⟩=some (.slice Ya Qa.length Za):=(ia oa.out 0).trans rfl;have js:w8.cell? ⟨ya,1,none⟩=some (.int .i64 Ja):=(ia oa.out 1).trans rfl;have Zr:w8.cell? ⟨ya,2,none⟩=some (.int .i64 Ga):=(ia oa.out 2).trans rfl;have Yr:w8.cell? ⟨ya,3,none⟩=some (.int .i64 Ia):=(ia oa.out 3).trans rfl;have Xr:w8.cell? ⟨ya,4,none⟩=some (.slice Mb Aa.length Cb):=(ia oa.out 4).trans rfl;have Qr:=aa oa.out 0;have Pr:=aa oa.out 1;have Nr:=aa oa.out 2;have Mr:=aa oa.out 3;have Lr:=aa oa.out 4;go_wp2_with (first|(go_at_call 53;(with_reducible refine (qb.calls Sc 0 (wrap64 ((Qa.length:Int) - 1)) t107 _ IV.out).mono ?_);rintro e w' ⟨rfl,⟨nd,rfl⟩⟩))
     go_meet
     case rel=>exact ⟨_,(t107),AaH,H',⟨by first|omega|exact Nat.le_refl _⟩,⟨zaH⟩,⟨OaH⟩,⟨yaH⟩⟩
    ·replace lp:=Bool.eq_false_iff.mpr lp;subst lp;have H1:(zb.j0 k t103 false false false Qa Ja Ga Ia Aa Jc Vb Pb Qb jc Sc td)=some r:=by rw [if_neg (show ¬ (false=true) by decide)] at H;exact H
     clear H;have H:=H1;clear H1;have H':=ga.mk H;clear H;have gaf:=Ib.out;have Rae:=Jb.out;have gy:w8.cell? ⟨Na,0,none⟩=some (.int .i64 Jc):=(ia Ba.out 0).trans rfl;have fy:w8.cell? ⟨Na,1,none⟩=some (.int .i64 Vb):=(ia Ba.out 1).trans rfl;have ey:w8.cell? ⟨Na,2,none⟩=some (.int .i64 Pb):=(ia Ba.out 2).trans rfl;have dy:w8.cell? ⟨Na,3,none⟩=some (.int .i64 Qb):=(ia Ba.out 3).trans rfl;have Zx:w8.cell? ⟨Na,4,none⟩=some (.int .i64 jc):=(ia Ba.out 4).trans rfl;have jT:w8.cell? ⟨Na,5,none⟩=some (.int .i64 Sc):=(ia Ba.out 5).trans rfl;have iT:w8.cell? ⟨Na,6,none⟩=some (.string td):=(ia Ba.out 6).trans rfl;have yx:=aa Ba.out 0;have xx:=aa Ba.out 1;have ux:=aa Ba.out 2;have sx:=aa Ba.out 3;have qx:=aa Ba.out 4;have NR:=aa Ba.out 5;have MR:=aa Ba.out 6;go_wp2
     go_meet
     case rel=>exact ⟨_,(false),AaH,H',⟨by first|omega|exact Nat.le_refl _⟩,⟨zaH⟩,⟨OaH⟩,⟨yaH⟩⟩
   ·rw [if_neg dr] at H;have qp:(Pb == (-1))=false:=beq_eq_false_iff_ne.mpr dr;have oY:(Pb != (-1))=true:=bne_iff_ne.mpr dr;(first|rw [qp]|(simp only [nc,oc];rw [qp])|skip);have H':=ga.mk H;clear H;have eaf:=Ib.out;have Pae:=Jb.out;have Tx:w8.cell? ⟨Na,0,none⟩=some (.int .i64 Jc):=(ia Ba.out 0).trans rfl;have Sx:w8.cell? ⟨Na,1,none⟩=some (.int .i64 Vb):=(ia Ba.out 1).trans rfl;have Rx:w8.cell? ⟨Na,2,none⟩=some (.int .i64 Pb):=(ia Ba.out 2).trans rfl;have Qx:w8.cell? ⟨Na,3,none⟩=some (.int .i64 Qb):=(ia Ba.out 3).trans rfl;have Px:w8.cell? ⟨Na,4,none⟩=some (.int .i64 jc):=(ia Ba.out 4).trans rfl;have eK:w8.cell? ⟨Na,5,none⟩=some (.int .i64 Sc):=(ia Ba.out 5).trans rfl;have dK:w8.cell? ⟨Na,6,none⟩=some (.string td):=(ia Ba.out 6).trans rfl;have ax:=aa Ba.out 0;have Zw:=aa Ba.out 1;have Yw:=aa Ba.out 2;have Xw:=aa Ba.out 3;have Ww:=aa Ba.out 4;have oJ:=aa Ba.out 5;have nJ:=aa Ba.out 6;go_wp2
    go_meet
    case rel=>exact ⟨_,(false),AaH,H',⟨by first|omega|exact Nat.le_refl _⟩,⟨zaH⟩,⟨OaH⟩,⟨yaH⟩⟩
 case rest =>
  clear HC6
  try clear c1
  try clear c2
  try clear p2
  try clear c5
  try clear p6
  try clear c9
  try clear Ss
  try clear KD
  try clear vD
  try clear dr
  try clear qp
  try clear oY
  try clear lp
  try clear Hs
  try clear CH
  try clear Jz
  try clear Nh
  try clear Mh
  try clear Lh
  try clear Kh
  try clear Jh
  try clear vB
  try clear uB
  try clear jv
  try clear gv
  try clear cv
  try clear av
  try clear Zu
  try clear Po
  try clear Oo
  try clear Mo
  try clear Lo
  try clear Ko
  try clear ME
  try clear KE
  try clear yy
  try clear xy
  try clear uy
  try clear sy
  try clear ry
  try clear Tu
  try clear Su
  try clear Ru
  try clear Qu
  try clear Pu
  try clear CE
  try clear AE
  try clear Bs
  try clear js
  try clear Zr
  try clear Yr
  try clear Xr
  try clear gy
  try clear fy
  try clear ey
  try clear dy
  try clear Zx
  try clear jT
  try clear iT
  try clear Tx
  try clear Sx
  try clear Rx
  try clear Qx
  try clear Px
  try clear eK
  try clear dK
  try clear Ih
  try clear Hh
  try clear Gh
  try clear Fh
  try clear Eh
  try clear gB
  try clear fB
  try clear Cu
  try clear Bu
  try clear zu
  try clear yu
  try clear xu
  try clear Jo
  try clear Io
  try clear Ho
  try clear Fo
  try clear Eo
  try clear oE
  try clear nE
  try clear Jx
  try clear Ix
  try clear Hx
  try clear Gx
  try clear Fx
  try clear ru
  try clear qu
  try clear ou
  try clear nu
  try clear lu
  try clear gE
  try clear fE
  try clear Qr
  try clear Pr
  try clear Nr
  try clear Mr
  try clear Lr
  try clear yx
  try clear xx
  try clear ux
  try clear sx
  try clear qx
  try clear NR
  try clear MR
  try clear ax
  try clear Zw
  try clear Yw
  try clear Xw
  try clear Ww
  try clear oJ
  try clear nJ
  obtain ⟨kq,gL,rfl,HA,HJ5,oa,Ba,HB⟩:=hcut;cases kq with
  | zero=>exact absurd HA.out (by simp [zb.j0])
  | succ kj5 =>
   have H:=HA.out;clear HA;simp only [zb.j0] at H;have kad:=ga.mk H;clear H
   go_upto_region 5 with (fail)
   go_cut [62] (fun v62 wc=>∃ (kq:Nat) (RH:Bool),v62 = .bool RH∧ga (zb.j1 kq t103 t104 t105 gL RH Qa Ja Ga Ia Aa Jc Vb Pb Qb jc Sc td=some r)∧ga (kq ≤ kj5)∧ga (wc.heap[ya]? = some (.cells #[(.slice Ya Qa.length Za),.int .i64 Ja,.int .i64 Ga,.int .i64 Ia,(.slice Mb Aa.length Cb)] 30 (0,0)))∧ga (wc.heap[Na]? = some (.cells #[.int .i64 Jc,.int .i64 Vb,.int .i64 Pb,.int .i64 Qb,.int .i64 jc,.int .i64 Sc,.string td] 65 (0,0)))∧ga (Below w.heap.size w wc))
   case first =>
    have H:=kad.out;clear kad
    by_cases bL:Jc=2
    ·rw [if_pos bL] at H;have tD:(Jc == 2)=true:=beq_iff_eq.mpr bL;have W8:(Jc != 2)=false:=bne_eq_false_iff_eq.mpr bL;clear bL;(first|rw [tD]|(simp only [nc,oc];rw [tD])|skip)
     by_cases ZK:Jc=4
     ·rw [if_pos ZK] at H;have yT:(Jc == 4)=true:=beq_iff_eq.mpr ZK;have V8:(Jc != 4)=false:=bne_eq_false_iff_eq.mpr ZK;clear ZK;have H':=ga.mk H;clear H;have MaA:=Ib.out;have faA:=Jb.out;have cK:wc.cell? ⟨Na,0,none⟩=some (.int .i64 Jc):=(ia Ba.out 0).trans rfl;have bK:wc.cell? ⟨Na,1,none⟩=some (.int .i64 Vb):=(ia Ba.out 1).trans rfl;have aK:wc.cell? ⟨Na,2,none⟩=some (.int .i64 Pb):=(ia Ba.out 2).trans rfl;have ZJ:wc.cell? ⟨Na,3,none⟩=some (.int .i64 Qb):=(ia Ba.out 3).trans rfl;have YJ:wc.cell? ⟨Na,4,none⟩=some (.int .i64 jc):=(ia Ba.out 4).trans rfl;have N4:wc.cell? ⟨Na,5,none⟩=some (.int .i64 Sc):=(ia Ba.out 5).trans rfl;have M4:wc.cell? ⟨Na,6,none⟩=some (.string td):=(ia Ba.out 6).trans rfl;have mJ:=aa Ba.out 0;have lJ:=aa Ba.out 1;have kJ:=aa Ba.out 2;have jJ:=aa Ba.out 3;have iJ:=aa Ba.out 4;have O2:=aa Ba.out 5;have N2:=aa Ba.out 6;go_wp2
      go_meet
      case rel=>exact ⟨_,(false),AaH,H',⟨by have:=HJ5.out;first|omega|exact Nat.le_refl _⟩,⟨zaH⟩,⟨OaH⟩,⟨yaH⟩⟩
     ·rw [if_neg ZK] at H;have yT:(Jc == 4)=false:=beq_eq_false_iff_ne.mpr ZK;have V8:(Jc != 4)=true:=bne_iff_ne.mpr ZK;have H':=ga.mk H;clear H;have KaA:=Ib.out;have daA:=Jb.out;have SS:wc.cell? ⟨Na,0,none⟩=some (.int .i64 Jc):=(ia Ba.out 0).trans rfl;have RS:wc.cell? ⟨Na,1,none⟩=some (.int .i64 Vb):=(ia Ba.out 1).trans rfl;have QS:wc.cell? ⟨Na,2,none⟩=some (.int .i64 Pb):=(ia Ba.out 2).trans rfl;have PS:wc.cell? ⟨Na,3,none⟩=some (.int .i64 Qb):=(ia Ba.out 3).trans rfl;have OS:wc.cell? ⟨Na,4,none⟩=some (.int .i64 jc):=(ia Ba.out 4).trans rfl;have NS:wc.cell? ⟨Na,5,none⟩=some (.int .i64 Sc):=(ia Ba.out 5).trans rfl;have MS:wc.cell? ⟨Na,6,none⟩=some (.string td):=(ia Ba.out 6).trans rfl;have xR:=aa Ba.out 0;have wR:=aa Ba.out 1;have vR:=aa Ba.out 2;have uR:=aa Ba.out 3;have tR:=aa Ba.out 4;have sR:=aa Ba.out 5;have rR:=aa Ba.out 6;go_wp2
      go_meet
      case rel=>exact ⟨_,((jc != 0)),AaH,H',⟨by have:=HJ5.out;first|omega|exact Nat.le_refl _⟩,⟨zaH⟩,⟨OaH⟩,⟨yaH⟩⟩
    ·rw [if_neg bL] at H;have tD:(Jc == 2)=false:=beq_eq_false_iff_ne.mpr bL;have W8:(Jc != 2)=true:=bne_iff_ne.mpr bL;(first|rw [tD]|(simp only [nc,oc];rw [tD])|skip)
     by_cases UB:td.toList=([]:List UInt8)
     ·rw [if_pos UB] at H;have wT:(td.toList == ([]:List UInt8))=true:=beq_iff_eq.mpr UB;have U8:(td.toList != ([]:List UInt8))=false:=bne_eq_false_iff_eq.mpr UB;clear UB
      by_cases wK:Jc=4
      ·rw [if_pos wK] at H;have lY:(Jc == 4)=true:=beq_iff_eq.mpr wK;have T8:(Jc != 4)=false:=bne_eq_false_iff_eq.mpr wK;clear wK;have H':=ga.mk H;clear H;have baf:=Ib.out;have Mae:=Jb.out;have XJ:wc.cell? ⟨Na,0,none⟩=some (.int .i64 Jc):=(ia Ba.out 0).trans rfl;have WJ:wc.cell? ⟨Na,1,none⟩=some (.int .i64 Vb):=(ia Ba.out 1).trans rfl;have VJ:wc.cell? ⟨Na,2,none⟩=some (.int .i64 Pb):=(ia Ba.out 2).trans rfl;have UJ:wc.cell? ⟨Na,3,none⟩=some (.int .i64 Qb):=(ia Ba.out 3).trans rfl;have TJ:wc.cell? ⟨Na,4,none⟩=some (.int .i64 jc):=(ia Ba.out 4).trans rfl;have xS:wc.cell? ⟨Na,5,none⟩=some (.int .i64 Sc):=(ia Ba.out 5).trans rfl;have wS:wc.cell? ⟨Na,6,none⟩=some (.string td):=(ia Ba.out 6).trans rfl;have hJ:=aa Ba.out 0;have gJ:=aa Ba.out 1;have fJ:=aa Ba.out 2;have eJ:=aa Ba.out 3;have dJ:=aa Ba.out 4;have fR:=aa Ba.out 5;have eR:=aa Ba.out 6;go_wp2
       go_meet
       case rel=>exact ⟨_,(false),AaH,H',⟨by have:=HJ5.out;first|omega|exact Nat.le_refl _⟩,⟨zaH⟩,⟨OaH⟩,⟨yaH⟩⟩
      ·rw [if_neg wK] at H;have lY:(Jc == 4)=false:=beq_eq_false_iff_ne.mpr wK;have T8:(Jc != 4)=true:=bne_iff_ne.mpr wK;have H':=ga.mk H;clear H;have X7:=Ib.out;have U7:=Jb.out;have Ox:wc.cell? ⟨Na,0,none⟩=some (.int .i64 Jc):=(ia Ba.out 0).trans rfl;have Nx:wc.cell? ⟨Na,1,none⟩=some (.int .i64 Vb):=(ia Ba.out 1).trans rfl;have Mx:wc.cell? ⟨Na,2,none⟩=some (.int .i64 Pb):=(ia Ba.out 2).trans rfl;have Lx:wc.cell? ⟨Na,3,none⟩=some (.int .i64 Qb):=(ia Ba.out 3).trans rfl;have Kx:wc.cell? ⟨Na,4,none⟩=some (.int .i64 jc):=(ia Ba.out 4).trans rfl;have SJ:wc.cell? ⟨Na,5,none⟩=some (.int .i64 Sc):=(ia Ba.out 5).trans rfl;have RJ:wc.cell? ⟨Na,6,none⟩=some (.string td):=(ia Ba.out 6).trans rfl;have Vw:=aa Ba.out 0;have Uw:=aa Ba.out 1;have Tw:=aa Ba.out 2;have Sw:=aa Ba.out 3;have Rw:=aa Ba.out 4;have cJ:=aa Ba.out 5;have bJ:=aa Ba.out 6;go_wp2
       go_meet
       case rel=>exact ⟨_,((jc != 0)),AaH,H',⟨by have:=HJ5.out;first|omega|exact Nat.le_refl _⟩,⟨zaH⟩,⟨OaH⟩,⟨yaH⟩⟩
     ·rw [if_neg UB] at H;have wT:(td.toList == ([]:List UInt8))=false:=beq_eq_false_iff_ne.mpr UB;have U8:(td.toList != ([]:List UInt8))=true:=bne_iff_ne.mpr UB;have H':=ga.mk H;clear H;have Zae:=Ib.out;have Kae:=Jb.out;have QJ:wc.cell? ⟨Na,0,none⟩=some (.int .i64 Jc):=(ia Ba.out 0).trans rfl;have PJ:wc.cell? ⟨Na,1,none⟩=some (.int .i64 Vb):=(ia Ba.out 1).trans rfl;have OJ:wc.cell? ⟨Na,2,none⟩=some (.int .i64 Pb):=(ia Ba.out 2).trans rfl;have NJ:wc.cell? ⟨Na,3,none⟩=some (.int .i64 Qb):=(ia Ba.out 3).trans rfl;have MJ:wc.cell? ⟨Na,4,none⟩=some (.int .i64 jc):=(ia Ba.out 4).trans rfl;have pS:wc.cell? ⟨Na,5,none⟩=some (.int .i64 Sc):=(ia Ba.out 5).trans rfl;have oS:wc.cell? ⟨Na,6,none⟩=some (.string td):=(ia Ba.out 6).trans rfl;have aJ:=aa Ba.out 0;have ZI:=aa Ba.out 1;have YI:=aa Ba.out 2;have XI:=aa Ba.out 3;have WI:=aa Ba.out 4;have XQ:=aa Ba.out 5;have WQ:=aa Ba.out 6;go_wp2
      go_meet
      case rel=>exact ⟨_,(true),AaH,H',⟨by have:=HJ5.out;first|omega|exact Nat.le_refl _⟩,⟨zaH⟩,⟨OaH⟩,⟨yaH⟩⟩
   case rest =>
    clear kad
    try clear c1
    try clear c2
    try clear p2
    try clear c3
    try clear c4
    try clear c5
    try clear p6
    try clear c9
    try clear Ss
    try clear KD
    try clear vD
    try clear dr
    try clear qp
    try clear oY
    try clear lp
    try clear Hs
    try clear CH
    try clear Jz
    try clear bL
    try clear tD
    try clear W8
    try clear ZK
    try clear yT
    try clear V8
    try clear cN
    try clear YK
    try clear UB
    try clear wT
    try clear U8
    try clear wK
    try clear lY
    try clear T8
    try clear lV
    try clear bN
    try clear c41
    try clear Nh
    try clear Mh
    try clear Lh
    try clear Kh
    try clear Jh
    try clear vB
    try clear uB
    try clear jv
    try clear gv
    try clear cv
    try clear av
    try clear Zu
    try clear Po
    try clear Oo
    try clear Mo
    try clear Lo
    try clear Ko
    try clear ME
    try clear KE
    try clear yy
    try clear xy
    try clear uy
    try clear sy
    try clear ry
    try clear Tu
    try clear Su
    try clear Ru
    try clear Qu
    try clear Pu
    try clear CE
    try clear AE
    try clear Bs
    try clear js
    try clear Zr
    try clear Yr
    try clear Xr
    try clear gy
    try clear fy
    try clear ey
    try clear dy
    try clear Zx
    try clear jT
    try clear iT
    try clear Tx
    try clear Sx
    try clear Rx
    try clear Qx
    try clear Px
    try clear eK
    try clear dK
    try clear cK
    try clear bK
    try clear aK
    try clear ZJ
    try clear YJ
    try clear N4
    try clear M4
    try clear SS
    try clear RS
    try clear QS
    try clear PS
    try clear OS
    try clear NS
    try clear MS
    try clear XJ
    try clear WJ
    try clear VJ
    try clear UJ
    try clear TJ
    try clear xS
    try clear wS
    try clear Ox
    try clear Nx
    try clear Mx
    try clear Lx
    try clear Kx
    try clear SJ
    try clear RJ
    try clear QJ
    try clear PJ
    try clear OJ
    try clear NJ
    try clear MJ
    try clear pS
    try clear oS
    try clear Ih
    try clear Hh
    try clear Gh
    try clear Fh
    try clear Eh
    try clear gB
    try clear fB
    try clear Cu
    try clear Bu
    try clear zu
    try clear yu
    try clear xu
    try clear Jo
    try clear Io
    try clear Ho
    try clear Fo
    try clear Eo
    try clear oE
    try clear nE
    try clear Jx
    try clear Ix
    try clear Hx
    try clear Gx
    try clear Fx
    try clear ru
    try clear qu
    try clear ou
    try clear nu
    try clear lu
    try clear gE
    try clear fE
    try clear Qr
    try clear Pr
    try clear Nr
    try clear Mr
    try clear Lr
    try clear yx
    try clear xx
    try clear ux
    try clear sx
    try clear qx
    try clear NR
    try clear MR
    try clear ax
    try clear Zw
    try clear Yw
    try clear Xw
    try clear Ww
    try clear oJ
    try clear nJ
    try clear mJ
    try clear lJ
    try clear kJ
    try clear jJ
    try clear iJ
    try clear O2
    try clear N2
    try clear xR
    try clear wR
    try clear vR
    try clear uR
    try clear tR
    try clear sR
    try clear rR
    try clear hJ
    try clear gJ
    try clear fJ
    try clear eJ
    try clear dJ
    try clear fR
    try clear eR
    try clear Vw
    try clear Uw
    try clear Tw
    try clear Sw
    try clear Rw
    try clear cJ
    try clear bJ
    try clear aJ
    try clear ZI
    try clear YI
    try clear XI
    try clear WI
    try clear XQ
    try clear WQ
    try clear p2
    try clear p6
    obtain ⟨kq,RH,rfl,HA,vaF,oa,Ba,HB⟩:=hcut;cases kq with
    | zero=>exact absurd HA.out (by simp [zb.j1])
    | succ GU =>
     have H:=HA.out;clear HA;simp only [zb.j1] at H
     by_cases j6:RH=true
     ·subst j6;have H1:(some false)=some r:=by rw [if_pos rfl] at H;exact H
      clear H;have H:=H1;clear H1;obtain rfl:=Option.some.inj H;go_wp2;go_ret;exact ⟨by first|rfl|(simp [Pa,Oa] <;> rfl)|(simp [*,Pa,Oa] <;> rfl),yaH⟩
     ·replace j6:=Bool.eq_false_iff.mpr j6;subst j6;have H1:(if Jc=0 then (if t103=true then (if Pb=0 then (some (Qb == 0)) else (some false)) else (some false)) else (if Jc=1 then (if t103=true then (if t104=true then (if Qb=0 then (some (Sc == 0)) else (some false)) else (some false)) else (some false)) else (if Jc=2 then (if t103=true then (if t104=true then (if t105=true then (if Sc=0 then ((ef.f GU (([(⟨#[61,61]⟩:ByteArray),(⟨#[60]⟩:ByteArray),(⟨#[38]⟩:ByteArray),(⟨#[43]⟩:ByteArray),(⟨#[45]⟩:ByteArray),(⟨#[42]⟩:ByteArray)]:List ByteArray)) td).bind fun t111=>(some t111)) else (some false)) else (some false)) else (some false)) else (some false)) else (if Jc=3 then (if t103=true then (some gL) else (some false)) else (if Jc=4 then (if Vb=0 then (if gL=true then ((qb.f jc 0 (wrap64 (Ia - 1))).bind fun t112=>(some t112)) else (some false)) else (some false)) else (if Jc=5 then (if t103=true then (if Pb=0 then (if Qb=0 then (some (Sc == 0)) else (some false)) else (some false)) else (some false)) else (if Jc=6 then (if Vb=0 then (if t104=true then (if Qb=0 then (some (Sc == 0)) else (some false)) else (some false)) else (some false)) else (some false))))))))=some r:=by rw [if_neg (show ¬ (false=true) by decide)] at H;exact H
      clear H;have H:=H1;clear H1
      by_cases zH:Jc=0
      ·rw [if_pos zH] at H;have uT:(Jc == 0)=true:=beq_iff_eq.mpr zH;have kY:(Jc != 0)=false:=bne_eq_false_iff_eq.mpr zH;clear zH
       by_cases b6:t103=true
       ·subst b6;have H1:(if Pb=0 then (some (Qb == 0)) else (some false))=some r:=by rw [if_pos rfl] at H;exact H
        clear H;have H:=H1;clear H1
        by_cases yH:Pb=0
        ·rw [if_pos yH] at H;have jY:(Pb == 0)=true:=beq_iff_eq.mpr yH;have iY:(Pb != 0)=false:=bne_eq_false_iff_eq.mpr yH;clear yH;obtain rfl:=Option.some.inj H;have W7:=Ib.out;have T7:=Jb.out;have GJ:wc.cell? ⟨Na,0,none⟩=some (.int .i64 Jc):=(ia Ba.out 0).trans rfl;have FJ:wc.cell? ⟨Na,1,none⟩=some (.int .i64 Vb):=(ia Ba.out 1).trans rfl;have EJ:wc.cell? ⟨Na,2,none⟩=some (.int .i64 Pb):=(ia Ba.out 2).trans rfl;have DJ:wc.cell? ⟨Na,3,none⟩=some (.int .i64 Qb):=(ia Ba.out 3).trans rfl;have CJ:wc.cell? ⟨Na,4,none⟩=some (.int .i64 jc):=(ia Ba.out 4).trans rfl;have G4:wc.cell? ⟨Na,5,none⟩=some (.int .i64 Sc):=(ia Ba.out 5).trans rfl;have E4:wc.cell? ⟨Na,6,none⟩=some (.string td):=(ia Ba.out 6).trans rfl;have QI:=aa Ba.out 0;have PI:=aa Ba.out 1;have OI:=aa Ba.out 2;have NI:=aa Ba.out 3;have MI:=aa Ba.out 4;have G2:=aa Ba.out 5;have F2:=aa Ba.out 6;go_wp2;go_ret;exact ⟨by first|rfl|(simp [Pa,Oa] <;> rfl)|(simp [*,Pa,Oa] <;> rfl),yaH⟩
        ·rw [if_neg yH] at H;have jY:(Pb == 0)=false:=beq_eq_false_iff_ne.mpr yH;have iY:(Pb != 0)=true:=bne_iff_ne.mpr yH;obtain rfl:=Option.some.inj H;have Yae:=Ib.out;have Jae:=Jb.out;have ZR:wc.cell? ⟨Na,0,none⟩=some (.int .i64 Jc):=(ia Ba.out 0).trans rfl;have YR:wc.cell? ⟨Na,1,none⟩=some (.int .i64 Vb):=(ia Ba.out 1).trans rfl;have XR:wc.cell? ⟨Na,2,none⟩=some (.int .i64 Pb):=(ia Ba.out 2).trans rfl;have WR:wc.cell? ⟨Na,3,none⟩=some (.int .i64 Qb):=(ia Ba.out 3).trans rfl;have VR:wc.cell? ⟨Na,4,none⟩=some (.int .i64 jc):=(ia Ba.out 4).trans rfl;have Uar:wc.cell? ⟨Na,5,none⟩=some (.int .i64 Sc):=(ia Ba.out 5).trans rfl;have Tar:wc.cell? ⟨Na,6,none⟩=some (.string td):=(ia Ba.out 6).trans rfl;have GQ:=aa Ba.out 0;have FQ:=aa Ba.out 1;have DQ:=aa Ba.out 2;have CQ:=aa Ba.out 3;have BQ:=aa Ba.out 4;have Jao:=aa Ba.out 5;have Iao:=aa Ba.out 6;go_wp2;go_ret;exact ⟨by first|rfl|(simp [Pa,Oa] <;> rfl)|(simp [*,Pa,Oa] <;> rfl),yaH⟩
       ·replace b6:=Bool.eq_false_iff.mpr b6;subst b6;have H1:(some false)=some r:=by rw [if_neg (show ¬ (false=true) by decide)] at H;exact H
        clear H;have H:=H1;clear H1;obtain rfl:=Option.some.inj H;have Xae:=Ib.out;have Iae:=Jb.out;have zJ:wc.cell? ⟨Na,0,none⟩=some (.int .i64 Jc):=(ia Ba.out 0).trans rfl;have yJ:wc.cell? ⟨Na,1,none⟩=some (.int .i64 Vb):=(ia Ba.out 1).trans rfl;have xJ:wc.cell? ⟨Na,2,none⟩=some (.int .i64 Pb):=(ia Ba.out 2).trans rfl;have wJ:wc.cell? ⟨Na,3,none⟩=some (.int .i64 Qb):=(ia Ba.out 3).trans rfl;have vJ:wc.cell? ⟨Na,4,none⟩=some (.int .i64 jc):=(ia Ba.out 4).trans rfl;have Nar:wc.cell? ⟨Na,5,none⟩=some (.int .i64 Sc):=(ia Ba.out 5).trans rfl;have Mar:wc.cell? ⟨Na,6,none⟩=some (.string td):=(ia Ba.out 6).trans rfl;have JI:=aa Ba.out 0;have II:=aa Ba.out 1;have GI:=aa Ba.out 2;have FI:=aa Ba.out 3;have EI:=aa Ba.out 4;have Cao:=aa Ba.out 5;have Bao:=aa Ba.out 6;go_wp2;go_ret;exact ⟨by first|rfl|(simp [Pa,Oa] <;> rfl)|(simp [*,Pa,Oa] <;> rfl),yaH⟩
      ·rw [if_neg zH] at H;have uT:(Jc == 0)=false:=beq_eq_false_iff_ne.mpr zH;have kY:(Jc != 0)=true:=bne_iff_ne.mpr zH
       by_cases CV:Jc=1
       ·rw [if_pos CV] at H;have P8:(Jc == 1)=true:=beq_iff_eq.mpr CV;have taj:(Jc != 1)=false:=bne_eq_false_iff_eq.mpr CV;clear CV
        by_cases c54:t103=true
        ·subst c54;have H1:(if t104=true then (if Qb=0 then (some (Sc == 0)) else (some false)) else (some false))=some r:=by rw [if_pos rfl] at H;exact H
         clear H;have H:=H1;clear H1
         by_cases Y5:t104=true
         ·subst Y5;have H1:(if Qb=0 then (some (Sc == 0)) else (some false))=some r:=by rw [if_pos rfl] at H;exact H
          clear H;have H:=H1;clear H1
          by_cases BV:Qb=0
          ·rw [if_pos BV] at H;have saj:(Qb == 0)=true:=beq_iff_eq.mpr BV;have raj:(Qb != 0)=false:=bne_eq_false_iff_eq.mpr BV;clear BV;obtain rfl:=Option.some.inj H;have zaA:=Ib.out;have Taz:=Jb.out;have T3:wc.cell? ⟨Na,0,none⟩=some (.int .i64 Jc):=(ia Ba.out 0).trans rfl;have S3:wc.cell? ⟨Na,1,none⟩=some (.int .i64 Vb):=(ia Ba.out 1).trans rfl;have R3:wc.cell? ⟨Na,2,none⟩=some (.int .i64 Pb):=(ia Ba.out 2).trans rfl;have Q3:wc.cell? ⟨Na,3,none⟩=some (.int .i64 Qb):=(ia Ba.out 3).trans rfl;have P3:wc.cell? ⟨Na,4,none⟩=some (.int .i64 jc):=(ia Ba.out 4).trans rfl;have war:wc.cell? ⟨Na,5,none⟩=some (.int .i64 Sc):=(ia Ba.out 5).trans rfl;have uar:wc.cell? ⟨Na,6,none⟩=some (.string td):=(ia Ba.out 6).trans rfl;have S1:=aa Ba.out 0;have R1:=aa Ba.out 1;have Q1:=aa Ba.out 2;have P1:=aa Ba.out 3;have O1:=aa Ba.out 4;have lao:=aa Ba.out 5;have kao:=aa Ba.out 6;go_wp2;go_ret;exact ⟨by first|rfl|(simp [Pa,Oa] <;> rfl)|(simp [*,Pa,Oa] <;> rfl),yaH⟩
          ·rw [if_neg BV] at H;have saj:(Qb == 0)=false:=beq_eq_false_iff_ne.mpr BV;have raj:(Qb != 0)=true:=bne_iff_ne.mpr BV;obtain rfl:=Option.some.inj H;have yaA:=Ib.out;have Saz:=Jb.out;have tar:wc.cell? ⟨Na,0,none⟩=some (.int .i64 Jc):=(ia Ba.out 0).trans rfl;have sar:wc.cell? ⟨Na,1,none⟩=some (.int .i64 Vb):=(ia Ba.out 1).trans rfl;have rar:wc.cell? ⟨Na,2,none⟩=some (.int .i64 Pb):=(ia Ba.out 2).trans rfl;have qar:wc.cell? ⟨Na,3,none⟩=some (.int .i64 Qb):=(ia Ba.out 3).trans rfl;have oar:wc.cell? ⟨Na,4,none⟩=some (.int .i64 jc):=(ia Ba.out 4).trans rfl;have nar:wc.cell? ⟨Na,5,none⟩=some (.int .i64 Sc):=(ia Ba.out 5).trans rfl;have mar:wc.cell? ⟨Na,6,none⟩=some (.string td):=(ia Ba.out 6).trans rfl;have jao:=aa Ba.out 0;have iao:=aa Ba.out 1;have gao:=aa Ba.out 2;have fao:=aa Ba.out 3;have eao:=aa Ba.out 4;have dao:=aa Ba.out 5;have cao:=aa Ba.out 6;go_wp2;go_ret;exact ⟨by first|rfl|(simp [Pa,Oa] <;> rfl)|(simp [*,Pa,Oa] <;> rfl),yaH⟩
         ·replace Y5:=Bool.eq_false_iff.mpr Y5;subst Y5;have H1:(some false)=some r:=by rw [if_neg (show ¬ (false=true) by decide)] at H;exact H
          clear H;have H:=H1;clear H1;obtain rfl:=Option.some.inj H;have xaA:=Ib.out;have Raz:=Jb.out;have lar:wc.cell? ⟨Na,0,none⟩=some (.int .i64 Jc):=(ia Ba.out 0).trans rfl;have kar:wc.cell? ⟨Na,1,none⟩=some (.int .i64 Vb):=(ia Ba.out 1).trans rfl;have jar:wc.cell? ⟨Na,2,none⟩=some (.int .i64 Pb):=(ia Ba.out 2).trans rfl;have iar:wc.cell? ⟨Na,3,none⟩=some (.int .i64 Qb):=(ia Ba.out 3).trans rfl;have har:wc.cell? ⟨Na,4,none⟩=some (.int .i64 jc):=(ia Ba.out 4).trans rfl;have gar:wc.cell? ⟨Na,5,none⟩=some (.int .i64 Sc):=(ia Ba.out 5).trans rfl;have ear:wc.cell? ⟨Na,6,none⟩=some (.string td):=(ia Ba.out 6).trans rfl;have bao:=aa Ba.out 0;have aao:=aa Ba.out 1;have Zan:=aa Ba.out 2;have Yan:=aa Ba.out 3;have Xan:=aa Ba.out 4;have Wan:=aa Ba.out 5;have Van:=aa Ba.out 6;go_wp2;go_ret;exact ⟨by first|rfl|(simp [Pa,Oa] <;> rfl)|(simp [*,Pa,Oa] <;> rfl),yaH⟩
        ·replace c54:=Bool.eq_false_iff.mpr c54;subst c54;have H1:(some false)=some r:=by rw [if_neg (show ¬ (false=true) by decide)] at H;exact H
         clear H;have H:=H1;clear H1;obtain rfl:=Option.some.inj H;have waA:=Ib.out;have Qaz:=Jb.out;have dar:wc.cell? ⟨Na,0,none⟩=some (.int .i64 Jc):=(ia Ba.out 0).trans rfl;have car:wc.cell? ⟨Na,1,none⟩=some (.int .i64 Vb):=(ia Ba.out 1).trans rfl;have bar:wc.cell? ⟨Na,2,none⟩=some (.int .i64 Pb):=(ia Ba.out 2).trans rfl;have aar:wc.cell? ⟨Na,3,none⟩=some (.int .i64 Qb):=(ia Ba.out 3).trans rfl;have Zaq:wc.cell? ⟨Na,4,none⟩=some (.int .i64 jc):=(ia Ba.out 4).trans rfl;have Yaq:wc.cell? ⟨Na,5,none⟩=some (.int .i64 Sc):=(ia Ba.out 5).trans rfl;have Xaq:wc.cell? ⟨Na,6,none⟩=some (.string td):=(ia Ba.out 6).trans rfl;have Uan:=aa Ba.out 0;have Tan:=aa Ba.out 1;have San:=aa Ba.out 2;have Ran:=aa Ba.out 3;have Qan:=aa Ba.out 4;have Pan:=aa Ba.out 5;have Oan:=aa Ba.out 6;go_wp2;go_ret;exact ⟨by first|rfl|(simp [Pa,Oa] <;> rfl)|(simp [*,Pa,Oa] <;> rfl),yaH⟩
       ·rw [if_neg CV] at H;have P8:(Jc == 1)=false:=beq_eq_false_iff_ne.mpr CV;have taj:(Jc != 1)=true:=bne_iff_ne.mpr CV
        by_cases c65:Jc=2
        ·rw [if_pos c65] at H;have qaj:(Jc == 2)=true:=beq_iff_eq.mpr c65;have paj:(Jc != 2)=false:=bne_eq_false_iff_eq.mpr c65;clear c65
         by_cases c66:t103=true
         ·subst c66;have H1:(if t104=true then (if t105=true then (if Sc=0 then ((ef.f GU (([(⟨#[61,61]⟩:ByteArray),(⟨#[60]⟩:ByteArray),(⟨#[38]⟩:ByteArray),(⟨#[43]⟩:ByteArray),(⟨#[45]⟩:ByteArray),(⟨#[42]⟩:ByteArray)]:List ByteArray)) td).bind fun t111=>(some t111)) else (some false)) else (some false)) else (some false))=some r:=by rw [if_pos rfl] at H;exact H
          clear H;have H:=H1;clear H1
          by_cases c67:t104=true
          ·subst c67;have H1:(if t105=true then (if Sc=0 then ((ef.f GU (([(⟨#[61,61]⟩:ByteArray),(⟨#[60]⟩:ByteArray),(⟨#[38]⟩:ByteArray),(⟨#[43]⟩:ByteArray),(⟨#[45]⟩:ByteArray),(⟨#[42]⟩:ByteArray)]:List ByteArray)) td).bind fun t111=>(some t111)) else (some false)) else (some false))=some r:=by rw [if_pos rfl] at H;exact H
           clear H;have H:=H1;clear H1
           by_cases c68:t105=true
           ·subst c68;have H1:(if Sc=0 then ((ef.f GU (([(⟨#[61,61]⟩:ByteArray),(⟨#[60]⟩:ByteArray),(⟨#[38]⟩:ByteArray),(⟨#[43]⟩:ByteArray),(⟨#[45]⟩:ByteArray),(⟨#[42]⟩:ByteArray)]:List ByteArray)) td).bind fun t111=>(some t111)) else (some false))=some r:=by rw [if_pos rfl] at H;exact H
            clear H;have H:=H1;clear H1
            by_cases c69:Sc=0
            ·rw [if_pos c69] at H;have oaj:(Sc == 0)=true:=beq_iff_eq.mpr c69;have naj:(Sc != 0)=false:=bne_eq_false_iff_eq.mpr c69;clear c69;obtain ⟨Yg,Ff⟩:∃ y_:List ByteArray,y_=(([(⟨#[61,61]⟩:ByteArray),(⟨#[60]⟩:ByteArray),(⟨#[38]⟩:ByteArray),(⟨#[43]⟩:ByteArray),(⟨#[45]⟩:ByteArray),(⟨#[42]⟩:ByteArray)]:List ByteArray)):=⟨_,rfl⟩;replace H:((ef.f GU Yg td).bind fun t111=>(some t111))=some r:=by first|(rw [Ff];with_reducible exact H)|(have Ed:=(Option.bind_some _ _).symm.trans H;rw [Ff];with_reducible exact Ed)|(have Ed:=(Option.bind_some _ _).symm.trans H;with_reducible exact Ed)|with_reducible exact H|(rw [Ff];exact H)|exact H
             have Ej:=ga.mk Ff;clear Ff;replace H:=Option.bind_eq_some_iff.mp H;obtain ⟨t111,Lal,H⟩:=H;replace H:(some t111)=some r:=H;have PK:=ga.mk Lal;clear Lal;obtain rfl:=Option.some.inj H;have vaA:=Ib.out;have Paz:=Jb.out;have Waq:wc.cell? ⟨Na,0,none⟩=some (.int .i64 Jc):=(ia Ba.out 0).trans rfl;have Vaq:wc.cell? ⟨Na,1,none⟩=some (.int .i64 Vb):=(ia Ba.out 1).trans rfl;have Uaq:wc.cell? ⟨Na,2,none⟩=some (.int .i64 Pb):=(ia Ba.out 2).trans rfl;have Taq:wc.cell? ⟨Na,3,none⟩=some (.int .i64 Qb):=(ia Ba.out 3).trans rfl;have Saq:wc.cell? ⟨Na,4,none⟩=some (.int .i64 jc):=(ia Ba.out 4).trans rfl;have Raq:wc.cell? ⟨Na,5,none⟩=some (.int .i64 Sc):=(ia Ba.out 5).trans rfl;have Qaq:wc.cell? ⟨Na,6,none⟩=some (.string td):=(ia Ba.out 6).trans rfl;have Nan:=aa Ba.out 0;have Man:=aa Ba.out 1;have Lan:=aa Ba.out 2;have Kan:=aa Ba.out 3;have Jan:=aa Ba.out 4;have Ian:=aa Ba.out 5;have Han:=aa Ba.out 6;go_wp2_with (first|((with_reducible refine Ab (N:=109) rfl ?_);(try (refine Vj (by rfl) ?_;dsimp only));refine Kd.Hj Kd.string _ 9 ?hg (N:=109) ?hd (xs:=([(⟨#[61,61]⟩:ByteArray),(⟨#[60]⟩:ByteArray),(⟨#[38]⟩:ByteArray),(⟨#[43]⟩:ByteArray),(⟨#[45]⟩:ByteArray),(⟨#[42]⟩:ByteArray)]:List ByteArray)) (inner:=[.string (⟨#[61,61]⟩:ByteArray),.string (⟨#[60]⟩:ByteArray),.string (⟨#[38]⟩:ByteArray),.string (⟨#[43]⟩:ByteArray),.string (⟨#[45]⟩:ByteArray),.string (⟨#[42]⟩:ByteArray)]) (ok:=fun _=>True) (Dh:=fun _=>True) ?hr ?hp (fun _ hk=>hk) trivial (Below.refl _ _) (Nat.le_refl _) (by simp) ?_;(case hd=>rfl);(case hg=>rfl);(case hr=>first|(go_simp;done)|(go_simp;rfl));(case hp=>exact (Pd.one (show Kd.M Kd.string _ _ _ (⟨#[61,61]⟩:ByteArray) [.string (⟨#[61,61]⟩:ByteArray)] from rfl) (Pd.one (show Kd.M Kd.string _ _ _ (⟨#[60]⟩:ByteArray) [.string (⟨#[60]⟩:ByteArray)] from rfl) (Pd.one (show Kd.M Kd.string _ _ _ (⟨#[38]⟩:ByteArray) [.string (⟨#[38]⟩:ByteArray)] from rfl) (Pd.one (show Kd.M Kd.string _ _ _ (⟨#[43]⟩:ByteArray) [.string (⟨#[43]⟩:ByteArray)] from rfl) (Pd.one (show Kd.M Kd.string _ _ _ (⟨#[45]⟩:ByteArray) [.string (⟨#[45]⟩:ByteArray)] from rfl) (Pd.one (show Kd.M Kd.string _ _ _ (⟨#[42]⟩:ByteArray) [.string (⟨#[42]⟩:ByteArray)] from rfl) (Pd.none _ _))))))));intro IG F_ RW hb gm Pe;clear gm Pe;(first|rw [← Ej.out] at RW|(simp only [Int.reduceToNat] at RW;rw [← Ej.out] at RW));have Eb:=ga.mk (Kd.Nd RW (La CaH));have Fb:=ga.mk (Va (g:=ya) (o:=.cells #[.slice Ya Qa.length Za,.int .i64 Ja,.int .i64 Ga,.int .i64 Ia,.slice Mb Aa.length Cb] 30 (0,0)) vaH hb);have Ob:=ga.mk (Va (g:=Na) (o:=.cells #[.int .i64 Jc,.int .i64 Vb,.int .i64 Pb,.int .i64 Qb,.int .i64 jc,.int .i64 Sc,.string td] 65 (0,0)) DaH hb);have Ec:=ga.mk (Ra CaH hb);clear oa Ba HB;have uj:=Eb;have oa:=Fb;have Ba:=Ob;have HB:=Ec;clear Eb Fb Ob Ec hb RW;have Paq:F_.cell? ⟨Na,0,none⟩=some (.int .i64 Jc):=(ia Ba.out 0).trans rfl;have Oaq:F_.cell? ⟨Na,1,none⟩=some (.int .i64 Vb):=(ia Ba.out 1).trans rfl;have Naq:F_.cell? ⟨Na,2,none⟩=some (.int .i64 Pb):=(ia Ba.out 2).trans rfl;have Maq:F_.cell? ⟨Na,3,none⟩=some (.int .i64 Qb):=(ia Ba.out 3).trans rfl;have Laq:F_.cell? ⟨Na,4,none⟩=some (.int .i64 jc):=(ia Ba.out 4).trans rfl;have Kaq:F_.cell? ⟨Na,5,none⟩=some (.int .i64 Sc):=(ia Ba.out 5).trans rfl;have Jaq:F_.cell? ⟨Na,6,none⟩=some (.string td):=(ia Ba.out 6).trans rfl;have Gan:=aa Ba.out 0;have Fan:=aa Ba.out 1;have Ean:=aa Ba.out 2;have Dan:=aa Ba.out 3;have Ban:=aa Ba.out 4;have Aan:=aa Ba.out 5;have zan:=aa Ba.out 6;obtain ⟨aaG,taE,paw⟩:=Kd.od uj.out;subst paw)|(go_at_call 113;(with_reducible refine (ef.calls GU _ _ Yg td t111 _ ?Uc ?Tc PK.out).mono ?_);(case Uc=>repeat (first|exact (Kd.Rb uj.out).2.2|(with_reducible refine Kd.dc ?_ _)|(with_reducible refine Kd.Zb ?_ _)|(with_reducible refine Kd.Fc ?_)));(case Tc=>exact (Kd.Rb uj.out).2.1);rintro e w' ⟨rfl,⟨nd,rfl⟩⟩));go_ret;exact ⟨by first|rfl|(simp [Pa,Oa] <;> rfl)|(simp [*,Pa,Oa] <;> rfl),yaH⟩
            ·rw [if_neg c69] at H;have oaj:(Sc == 0)=false:=beq_eq_false_iff_ne.mpr c69;have naj:(Sc != 0)=true:=bne_iff_ne.mpr c69;obtain rfl:=Option.some.inj H;have uaA:=Ib.out;have Oaz:=Jb.out;have Iaq:wc.cell? ⟨Na,0,none⟩=some (.int .i64 Jc):=(ia Ba.out 0).trans rfl;have Haq:wc.cell? ⟨Na,1,none⟩=some (.int .i64 Vb):=(ia Ba.out 1).trans rfl;have Gaq:wc.cell? ⟨Na,2,none⟩=some (.int .i64 Pb):=(ia Ba.out 2).trans rfl;have Faq:wc.cell? ⟨Na,3,none⟩=some (.int .i64 Qb):=(ia Ba.out 3).trans rfl;have Eaq:wc.cell? ⟨Na,4,none⟩=some (.int .i64 jc):=(ia Ba.out 4).trans rfl;have Daq:wc.cell? ⟨Na,5,none⟩=some (.int .i64 Sc):=(ia Ba.out 5).trans rfl;have Caq:wc.cell? ⟨Na,6,none⟩=some (.string td):=(ia Ba.out 6).trans rfl;have yan:=aa Ba.out 0;have xan:=aa Ba.out 1;have wan:=aa Ba.out 2;have van:=aa Ba.out 3;have uan:=aa Ba.out 4;have san:=aa Ba.out 5;have qan:=aa Ba.out 6;go_wp2;go_ret;exact ⟨by first|rfl|(simp [Pa,Oa] <;> rfl)|(simp [*,Pa,Oa] <;> rfl),yaH⟩
           ·replace c68:=Bool.eq_false_iff.mpr c68;subst c68;have H1:(some false)=some r:=by rw [if_neg (show ¬ (false=true) by decide)] at H;exact H
            clear H;have H:=H1;clear H1;obtain rfl:=Option.some.inj H;have taA:=Ib.out;have Naz:=Jb.out;have Baq:wc.cell? ⟨Na,0,none⟩=some (.int .i64 Jc):=(ia Ba.out 0).trans rfl;have Aaq:wc.cell? ⟨Na,1,none⟩=some (.int .i64 Vb):=(ia Ba.out 1).trans rfl;have zaq:wc.cell? ⟨Na,2,none⟩=some (.int .i64 Pb):=(ia Ba.out 2).trans rfl;have yaq:wc.cell? ⟨Na,3,none⟩=some (.int .i64 Qb):=(ia Ba.out 3).trans rfl;have xaq:wc.cell? ⟨Na,4,none⟩=some (.int .i64 jc):=(ia Ba.out 4).trans rfl;have waq:wc.cell? ⟨Na,5,none⟩=some (.int .i64 Sc):=(ia Ba.out 5).trans rfl;have vaq:wc.cell? ⟨Na,6,none⟩=some (.string td):=(ia Ba.out 6).trans rfl;have pan:=aa Ba.out 0;have oan:=aa Ba.out 1;have man:=aa Ba.out 2;have lan:=aa Ba.out 3;have kan:=aa Ba.out 4;have jan:=aa Ba.out 5;have ian:=aa Ba.out 6;go_wp2;go_ret;exact ⟨by first|rfl|(simp [Pa,Oa] <;> rfl)|(simp [*,Pa,Oa] <;> rfl),yaH⟩
          ·replace c67:=Bool.eq_false_iff.mpr c67;subst c67;have H1:(some false)=some r:=by rw [if_neg (show ¬ (false=true) by decide)] at H;exact H
           clear H;have H:=H1;clear H1;obtain rfl:=Option.some.inj H;have saA:=Ib.out;have Maz:=Jb.out;have uaq:wc.cell? ⟨Na,0,none⟩=some (.int .i64 Jc):=(ia Ba.out 0).trans rfl;have taq:wc.cell? ⟨Na,1,none⟩=some (.int .i64 Vb):=(ia Ba.out 1).trans rfl;have saq:wc.cell? ⟨Na,2,none⟩=some (.int .i64 Pb):=(ia Ba.out 2).trans rfl;have raq:wc.cell? ⟨Na,3,none⟩=some (.int .i64 Qb):=(ia Ba.out 3).trans rfl;have qaq:wc.cell? ⟨Na,4,none⟩=some (.int .i64 jc):=(ia Ba.out 4).trans rfl;have paq:wc.cell? ⟨Na,5,none⟩=some (.int .i64 Sc):=(ia Ba.out 5).trans rfl;have oaq:wc.cell? ⟨Na,6,none⟩=some (.string td):=(ia Ba.out 6).trans rfl;have han:=aa Ba.out 0;have gan:=aa Ba.out 1;have fan:=aa Ba.out 2;have ean:=aa Ba.out 3;have dan:=aa Ba.out 4;have ban:=aa Ba.out 5;have aan:=aa Ba.out 6;go_wp2;go_ret;exact ⟨by first|rfl|(simp [Pa,Oa] <;> rfl)|(simp [*,Pa,Oa] <;> rfl),yaH⟩
         ·replace c66:=Bool.eq_false_iff.mpr c66;subst c66;have H1:(some false)=some r:=by rw [if_neg (show ¬ (false=true) by decide)] at H;exact H
          clear H;have H:=H1;clear H1;obtain rfl:=Option.some.inj H;have raA:=Ib.out;have Laz:=Jb.out;have naq:wc.cell? ⟨Na,0,none⟩=some (.int .i64 Jc):=(ia Ba.out 0).trans rfl;have maq:wc.cell? ⟨Na,1,none⟩=some (.int .i64 Vb):=(ia Ba.out 1).trans rfl;have laq:wc.cell? ⟨Na,2,none⟩=some (.int .i64 Pb):=(ia Ba.out 2).trans rfl;have kaq:wc.cell? ⟨Na,3,none⟩=some (.int .i64 Qb):=(ia Ba.out 3).trans rfl;have jaq:wc.cell? ⟨Na,4,none⟩=some (.int .i64 jc):=(ia Ba.out 4).trans rfl;have iaq:wc.cell? ⟨Na,5,none⟩=some (.int .i64 Sc):=(ia Ba.out 5).trans rfl;have haq:wc.cell? ⟨Na,6,none⟩=some (.string td):=(ia Ba.out 6).trans rfl;have Zam:=aa Ba.out 0;have Yam:=aa Ba.out 1;have Xam:=aa Ba.out 2;have Wam:=aa Ba.out 3;have Vam:=aa Ba.out 4;have Uam:=aa Ba.out 5;have Tam:=aa Ba.out 6;go_wp2;go_ret;exact ⟨by first|rfl|(simp [Pa,Oa] <;> rfl)|(simp [*,Pa,Oa] <;> rfl),yaH⟩
        ·rw [if_neg c65] at H;have qaj:(Jc == 2)=false:=beq_eq_false_iff_ne.mpr c65;have paj:(Jc != 2)=true:=bne_iff_ne.mpr c65
         by_cases c85:Jc=3
         ·rw [if_pos c85] at H;have maj:(Jc == 3)=true:=beq_iff_eq.mpr c85;have laj:(Jc != 3)=false:=bne_eq_false_iff_eq.mpr c85;clear c85
          by_cases c86:t103=true
          ·subst c86;have H1:(some gL)=some r:=by rw [if_pos rfl] at H;exact H
           clear H;have H:=H1;clear H1;obtain rfl:=Option.some.inj H;have qaA:=Ib.out;have Kaz:=Jb.out;have gaq:wc.cell? ⟨Na,0,none⟩=some (.int .i64 Jc):=(ia Ba.out 0).trans rfl;have faq:wc.cell? ⟨Na,1,none⟩=some (.int .i64 Vb):=(ia Ba.out 1).trans rfl;have eaq:wc.cell? ⟨Na,2,none⟩=some (.int .i64 Pb):=(ia Ba.out 2).trans rfl;have daq:wc.cell? ⟨Na,3,none⟩=some (.int .i64 Qb):=(ia Ba.out 3).trans rfl;have caq:wc.cell? ⟨Na,4,none⟩=some (.int .i64 jc):=(ia Ba.out 4).trans rfl;have baq:wc.cell? ⟨Na,5,none⟩=some (.int .i64 Sc):=(ia Ba.out 5).trans rfl;have aaq:wc.cell? ⟨Na,6,none⟩=some (.string td):=(ia Ba.out 6).trans rfl;have Sam:=aa Ba.out 0;have Ram:=aa Ba.out 1;have Qam:=aa Ba.out 2;have Pam:=aa Ba.out 3;have Oam:=aa Ba.out 4;have Nam:=aa Ba.out 5;have Mam:=aa Ba.out 6;go_wp2;go_ret;exact ⟨by first|rfl|(simp [Pa,Oa] <;> rfl)|(simp [*,Pa,Oa] <;> rfl),yaH⟩
          ·replace c86:=Bool.eq_false_iff.mpr c86;subst c86;have H1:(some false)=some r:=by rw [if_neg (show ¬ (false=true) by decide)] at H;exact H
           clear H;have H:=H1;clear H1;obtain rfl:=Option.some.inj H;have paA:=Ib.out;have Jaz:=Jb.out;have Zap:wc.cell? ⟨Na,0,none⟩=some (.int .i64 Jc):=(ia Ba.out 0).trans rfl;have Yap:wc.cell? ⟨Na,1,none⟩=some (.int .i64 Vb):=(ia Ba.out 1).trans rfl;have Xap:wc.cell? ⟨Na,2,none⟩=some (.int .i64 Pb):=(ia Ba.out 2).trans rfl;have Wap:wc.cell? ⟨Na,3,none⟩=some (.int .i64 Qb):=(ia Ba.out 3).trans rfl;have Vap:wc.cell? ⟨Na,4,none⟩=some (.int .i64 jc):=(ia Ba.out 4).trans rfl;have Uap:wc.cell? ⟨Na,5,none⟩=some (.int .i64 Sc):=(ia Ba.out 5).trans rfl;have Tap:wc.cell? ⟨Na,6,none⟩=some (.string td):=(ia Ba.out 6).trans rfl;have Lam:=aa Ba.out 0;have Kam:=aa Ba.out 1;have Jam:=aa Ba.out 2;have Iam:=aa Ba.out 3;have Ham:=aa Ba.out 4;have Gam:=aa Ba.out 5;have Fam:=aa Ba.out 6;go_wp2;go_ret;exact ⟨by first|rfl|(simp [Pa,Oa] <;> rfl)|(simp [*,Pa,Oa] <;> rfl),yaH⟩
         ·rw [if_neg c85] at H;have maj:(Jc == 3)=false:=beq_eq_false_iff_ne.mpr c85;have laj:(Jc != 3)=true:=bne_iff_ne.mpr c85
          by_cases c91:Jc=4
          ·rw [if_pos c91] at H;have jaj:(Jc == 4)=true:=beq_iff_eq.mpr c91;have iaj:(Jc != 4)=false:=bne_eq_false_iff_eq.mpr c91;clear c91
           by_cases c92:Vb=0
           ·rw [if_pos c92] at H;have haj:(Vb == 0)=true:=beq_iff_eq.mpr c92;have gaj:(Vb != 0)=false:=bne_eq_false_iff_eq.mpr c92;clear c92
            by_cases c93:gL=true
            ·subst c93;have H1:((qb.f jc 0 (wrap64 (Ia - 1))).bind fun t112=>(some t112))=some r:=by rw [if_pos rfl] at H;exact H
             clear H;have H:=H1;clear H1;replace H:=Option.bind_eq_some_iff.mp H;obtain ⟨t112,Kal,H⟩:=H;replace H:(some t112)=some r:=H;have A94:=ga.mk Kal;clear Kal;obtain rfl:=Option.some.inj H;have oaA:=Ib.out;have Iaz:=Jb.out;have Sap:wc.cell? ⟨Na,0,none⟩=some (.int .i64 Jc):=(ia Ba.out 0).trans rfl;have Rap:wc.cell? ⟨Na,1,none⟩=some (.int .i64 Vb):=(ia Ba.out 1).trans rfl;have Qap:wc.cell? ⟨Na,2,none⟩=some (.int .i64 Pb):=(ia Ba.out 2).trans rfl;have Pap:wc.cell? ⟨Na,3,none⟩=some (.int .i64 Qb):=(ia Ba.out 3).trans rfl;have Oap:wc.cell? ⟨Na,4,none⟩=some (.int .i64 jc):=(ia Ba.out 4).trans rfl;have Nap:wc.cell? ⟨Na,5,none⟩=some (.int .i64 Sc):=(ia Ba.out 5).trans rfl;have Lap:wc.cell? ⟨Na,6,none⟩=some (.string td):=(ia Ba.out 6).trans rfl;have Eam:=aa Ba.out 0;have Dam:=aa Ba.out 1;have Cam:=aa Ba.out 2;have Bam:=aa Ba.out 3;have Aam:=aa Ba.out 4;have zam:=aa Ba.out 5;have yam:=aa Ba.out 6;have Kap:wc.cell? ⟨ya,0,none⟩=some (.slice Ya Qa.length Za):=(ia oa.out 0).trans rfl;have Jap:wc.cell? ⟨ya,1,none⟩=some (.int .i64 Ja):=(ia oa.out 1).trans rfl;have Iap:wc.cell? ⟨ya,2,none⟩=some (.int .i64 Ga):=(ia oa.out 2).trans rfl;have Hap:wc.cell? ⟨ya,3,none⟩=some (.int .i64 Ia):=(ia oa.out 3).trans rfl;have Gap:wc.cell? ⟨ya,4,none⟩=some (.slice Mb Aa.length Cb):=(ia oa.out 4).trans rfl;have xam:=aa oa.out 0;have wam:=aa oa.out 1;have vam:=aa oa.out 2;have uam:=aa oa.out 3;have tam:=aa oa.out 4;go_wp2_with (first|(go_at_call 53;(with_reducible refine (qb.calls jc 0 (wrap64 (Ia - 1)) t112 _ A94.out).mono ?_);rintro e w' ⟨rfl,⟨nd,rfl⟩⟩));go_ret;exact ⟨by first|rfl|(simp [Pa,Oa] <;> rfl)|(simp [*,Pa,Oa] <;> rfl),yaH⟩
            ·replace c93:=Bool.eq_false_iff.mpr c93;subst c93;have H1:(some false)=some r:=by rw [if_neg (show ¬ (false=true) by decide)] at H;exact H
             clear H;have H:=H1;clear H1;obtain rfl:=Option.some.inj H;have naA:=Ib.out;have Haz:=Jb.out;have Fap:wc.cell? ⟨Na,0,none⟩=some (.int .i64 Jc):=(ia Ba.out 0).trans rfl;have Eap:wc.cell? ⟨Na,1,none⟩=some (.int .i64 Vb):=(ia Ba.out 1).trans rfl;have Dap:wc.cell? ⟨Na,2,none⟩=some (.int .i64 Pb):=(ia Ba.out 2).trans rfl;have Bap:wc.cell? ⟨Na,3,none⟩=some (.int .i64 Qb):=(ia Ba.out 3).trans rfl;have Aap:wc.cell? ⟨Na,4,none⟩=some (.int .i64 jc):=(ia Ba.out 4).trans rfl;have zap:wc.cell? ⟨Na,5,none⟩=some (.int .i64 Sc):=(ia Ba.out 5).trans rfl;have yap:wc.cell? ⟨Na,6,none⟩=some (.string td):=(ia Ba.out 6).trans rfl;have sam:=aa Ba.out 0;have ram:=aa Ba.out 1;have qam:=aa Ba.out 2;have pam:=aa Ba.out 3;have oam:=aa Ba.out 4;have nam:=aa Ba.out 5;have mam:=aa Ba.out 6;go_wp2;go_ret;exact ⟨by first|rfl|(simp [Pa,Oa] <;> rfl)|(simp [*,Pa,Oa] <;> rfl),yaH⟩
           ·rw [if_neg c92] at H;have haj:(Vb == 0)=false:=beq_eq_false_iff_ne.mpr c92;have gaj:(Vb != 0)=true:=bne_iff_ne.mpr c92;obtain rfl:=Option.some.inj H;have iav:=Ib.out;have Uau:=Jb.out;have mai:wc.cell? ⟨Na,0,none⟩=some (.int .i64 Jc):=(ia Ba.out 0).trans rfl;have lai:wc.cell? ⟨Na,1,none⟩=some (.int .i64 Vb):=(ia Ba.out 1).trans rfl;have kai:wc.cell? ⟨Na,2,none⟩=some (.int .i64 Pb):=(ia Ba.out 2).trans rfl;have jai:wc.cell? ⟨Na,3,none⟩=some (.int .i64 Qb):=(ia Ba.out 3).trans rfl;have iai:wc.cell? ⟨Na,4,none⟩=some (.int .i64 jc):=(ia Ba.out 4).trans rfl;have hai:wc.cell? ⟨Na,5,none⟩=some (.int .i64 Sc):=(ia Ba.out 5).trans rfl;have gai:wc.cell? ⟨Na,6,none⟩=some (.string td):=(ia Ba.out 6).trans rfl;have Nag:=aa Ba.out 0;have Mag:=aa Ba.out 1;have Lag:=aa Ba.out 2;have Kag:=aa Ba.out 3;have Jag:=aa Ba.out 4;have Iag:=aa Ba.out 5;have Hag:=aa Ba.out 6;go_wp2;go_ret;exact ⟨by first|rfl|(simp [Pa,Oa] <;> rfl)|(simp [*,Pa,Oa] <;> rfl),yaH⟩
          ·rw [if_neg c91] at H;have jaj:(Jc == 4)=false:=beq_eq_false_iff_ne.mpr c91;have iaj:(Jc != 4)=true:=bne_iff_ne.mpr c91
           by_cases LO:Jc=5
           ·rw [if_pos LO] at H;have Xab:(Jc == 5)=true:=beq_iff_eq.mpr LO;have Wab:(Jc != 5)=false:=bne_eq_false_iff_eq.mpr LO;clear LO
            by_cases m6:t103=true
            ·subst m6;have H1:(if Pb=0 then (if Qb=0 then (some (Sc == 0)) else (some false)) else (some false))=some r:=by rw [if_pos rfl] at H;exact H
             clear H;have H:=H1;clear H1
             by_cases KO:Pb=0
             ·rw [if_pos KO] at H;have Uab:(Pb == 0)=true:=beq_iff_eq.mpr KO;have Tab:(Pb != 0)=false:=bne_eq_false_iff_eq.mpr KO;clear KO
              by_cases JO:Qb=0
              ·rw [if_pos JO] at H;have Sab:(Qb == 0)=true:=beq_iff_eq.mpr JO;have Rab:(Qb != 0)=false:=bne_eq_false_iff_eq.mpr JO;clear JO;obtain rfl:=Option.some.inj H;have hav:=Ib.out;have Tau:=Jb.out;have fai:wc.cell? ⟨Na,0,none⟩=some (.int .i64 Jc):=(ia Ba.out 0).trans rfl;have eai:wc.cell? ⟨Na,1,none⟩=some (.int .i64 Vb):=(ia Ba.out 1).trans rfl;have dai:wc.cell? ⟨Na,2,none⟩=some (.int .i64 Pb):=(ia Ba.out 2).trans rfl;have cai:wc.cell? ⟨Na,3,none⟩=some (.int .i64 Qb):=(ia Ba.out 3).trans rfl;have bai:wc.cell? ⟨Na,4,none⟩=some (.int .i64 jc):=(ia Ba.out 4).trans rfl;have aai:wc.cell? ⟨Na,5,none⟩=some (.int .i64 Sc):=(ia Ba.out 5).trans rfl;have Zah:wc.cell? ⟨Na,6,none⟩=some (.string td):=(ia Ba.out 6).trans rfl;have Gag:=aa Ba.out 0;have Fag:=aa Ba.out 1;have Eag:=aa Ba.out 2;have Dag:=aa Ba.out 3;have Cag:=aa Ba.out 4;have Bag:=aa Ba.out 5;have Aag:=aa Ba.out 6;go_wp2;go_ret;exact ⟨by first|rfl|(simp [Pa,Oa] <;> rfl)|(simp [*,Pa,Oa] <;> rfl),yaH⟩
              ·rw [if_neg JO] at H;have Sab:(Qb == 0)=false:=beq_eq_false_iff_ne.mpr JO;have Rab:(Qb != 0)=true:=bne_iff_ne.mpr JO;obtain rfl:=Option.some.inj H;have gav:=Ib.out;have Sau:=Jb.out;have Yah:wc.cell? ⟨Na,0,none⟩=some (.int .i64 Jc):=(ia Ba.out 0).trans rfl;have Xah:wc.cell? ⟨Na,1,none⟩=some (.int .i64 Vb):=(ia Ba.out 1).trans rfl;have Wah:wc.cell? ⟨Na,2,none⟩=some (.int .i64 Pb):=(ia Ba.out 2).trans rfl;have Vah:wc.cell? ⟨Na,3,none⟩=some (.int .i64 Qb):=(ia Ba.out 3).trans rfl;have Uah:wc.cell? ⟨Na,4,none⟩=some (.int .i64 jc):=(ia Ba.out 4).trans rfl;have Tah:wc.cell? ⟨Na,5,none⟩=some (.int .i64 Sc):=(ia Ba.out 5).trans rfl;have Sah:wc.cell? ⟨Na,6,none⟩=some (.string td):=(ia Ba.out 6).trans rfl;have zag:=aa Ba.out 0;have yag:=aa Ba.out 1;have xag:=aa Ba.out 2;have wag:=aa Ba.out 3;have vag:=aa Ba.out 4;have uag:=aa Ba.out 5;have sag:=aa Ba.out 6;go_wp2;go_ret;exact ⟨by first|rfl|(simp [Pa,Oa] <;> rfl)|(simp [*,Pa,Oa] <;> rfl),yaH⟩
             ·rw [if_neg KO] at H;have Uab:(Pb == 0)=false:=beq_eq_false_iff_ne.mpr KO;have Tab:(Pb != 0)=true:=bne_iff_ne.mpr KO;obtain rfl:=Option.some.inj H;have fav:=Ib.out;have Rau:=Jb.out;have Rah:wc.cell? ⟨Na,0,none⟩=some (.int .i64 Jc):=(ia Ba.out 0).trans rfl;have Qah:wc.cell? ⟨Na,1,none⟩=some (.int .i64 Vb):=(ia Ba.out 1).trans rfl;have Pah:wc.cell? ⟨Na,2,none⟩=some (.int .i64 Pb):=(ia Ba.out 2).trans rfl;have Oah:wc.cell? ⟨Na,3,none⟩=some (.int .i64 Qb):=(ia Ba.out 3).trans rfl;have Nah:wc.cell? ⟨Na,4,none⟩=some (.int .i64 jc):=(ia Ba.out 4).trans rfl;have Mah:wc.cell? ⟨Na,5,none⟩=some (.int .i64 Sc):=(ia Ba.out 5).trans rfl;have Lah:wc.cell? ⟨Na,6,none⟩=some (.string td):=(ia Ba.out 6).trans rfl;have rag:=aa Ba.out 0;have qag:=aa Ba.out 1;have pag:=aa Ba.out 2;have oag:=aa Ba.out 3;have nag:=aa Ba.out 4;have lag:=aa Ba.out 5;have kag:=aa Ba.out 6;go_wp2;go_ret;exact ⟨by first|rfl|(simp [Pa,Oa] <;> rfl)|(simp [*,Pa,Oa] <;> rfl),yaH⟩
            ·replace m6:=Bool.eq_false_iff.mpr m6;subst m6;have H1:(some false)=some r:=by rw [if_neg (show ¬ (false=true) by decide)] at H;exact H
             clear H;have H:=H1;clear H1;obtain rfl:=Option.some.inj H;have eav:=Ib.out;have Qau:=Jb.out;have Kah:wc.cell? ⟨Na,0,none⟩=some (.int .i64 Jc):=(ia Ba.out 0).trans rfl;have Jah:wc.cell? ⟨Na,1,none⟩=some (.int .i64 Vb):=(ia Ba.out 1).trans rfl;have Iah:wc.cell? ⟨Na,2,none⟩=some (.int .i64 Pb):=(ia Ba.out 2).trans rfl;have Hah:wc.cell? ⟨Na,3,none⟩=some (.int .i64 Qb):=(ia Ba.out 3).trans rfl;have Gah:wc.cell? ⟨Na,4,none⟩=some (.int .i64 jc):=(ia Ba.out 4).trans rfl;have Fah:wc.cell? ⟨Na,5,none⟩=some (.int .i64 Sc):=(ia Ba.out 5).trans rfl;have Eah:wc.cell? ⟨Na,6,none⟩=some (.string td):=(ia Ba.out 6).trans rfl;have jag:=aa Ba.out 0;have iag:=aa Ba.out 1;have hag:=aa Ba.out 2;have gag:=aa Ba.out 3;have fag:=aa Ba.out 4;have eag:=aa Ba.out 5;have dag:=aa Ba.out 6;go_wp2;go_ret;exact ⟨by first|rfl|(simp [Pa,Oa] <;> rfl)|(simp [*,Pa,Oa] <;> rfl),yaH⟩
           ·rw [if_neg LO] at H;have Xab:(Jc == 5)=false:=beq_eq_false_iff_ne.mpr LO;have Wab:(Jc != 5)=true:=bne_iff_ne.mpr LO
            by_cases FO:Jc=6
            ·rw [if_pos FO] at H;have Nab:(Jc == 6)=true:=beq_iff_eq.mpr FO;have Mab:(Jc != 6)=false:=bne_eq_false_iff_eq.mpr FO;clear FO
             by_cases EO:Vb=0
             ·rw [if_pos EO] at H;have Lab:(Vb == 0)=true:=beq_iff_eq.mpr EO;have Kab:(Vb != 0)=false:=bne_eq_false_iff_eq.mpr EO;clear EO
              by_cases l6:t104=true
              ·subst l6;have H1:(if Qb=0 then (some (Sc == 0)) else (some false))=some r:=by rw [if_pos rfl] at H;exact H
               clear H;have H:=H1;clear H1
               by_cases CO:Qb=0
               ·rw [if_pos CO] at H;have Jab:(Qb == 0)=true:=beq_iff_eq.mpr CO;have Iab:(Qb != 0)=false:=bne_eq_false_iff_eq.mpr CO;clear CO;obtain rfl:=Option.some.inj H;have dav:=Ib.out;have Pau:=Jb.out;have Dah:wc.cell? ⟨Na,0,none⟩=some (.int .i64 Jc):=(ia Ba.out 0).trans rfl;have Cah:wc.cell? ⟨Na,1,none⟩=some (.int .i64 Vb):=(ia Ba.out 1).trans rfl;have Bah:wc.cell? ⟨Na,2,none⟩=some (.int .i64 Pb):=(ia Ba.out 2).trans rfl;have Aah:wc.cell? ⟨Na,3,none⟩=some (.int .i64 Qb):=(ia Ba.out 3).trans rfl;have zah:wc.cell? ⟨Na,4,none⟩=some (.int .i64 jc):=(ia Ba.out 4).trans rfl;have yah:wc.cell? ⟨Na,5,none⟩=some (.int .i64 Sc):=(ia Ba.out 5).trans rfl;have xah:wc.cell? ⟨Na,6,none⟩=some (.string td):=(ia Ba.out 6).trans rfl;have cag:=aa Ba.out 0;have bag:=aa Ba.out 1;have aag:=aa Ba.out 2;have Zaf:=aa Ba.out 3;have Yaf:=aa Ba.out 4;have Xaf:=aa Ba.out 5;have Waf:=aa Ba.out 6;go_wp2;go_ret;exact ⟨by first|rfl|(simp [Pa,Oa] <;> rfl)|(simp [*,Pa,Oa] <;> rfl),yaH⟩
               ·rw [if_neg CO] at H;have Jab:(Qb == 0)=false:=beq_eq_false_iff_ne.mpr CO;have Iab:(Qb != 0)=true:=bne_iff_ne.mpr CO;obtain rfl:=Option.some.inj H;have cav:=Ib.out;have Oau:=Jb.out;have wah:wc.cell? ⟨Na,0,none⟩=some (.int .i64 Jc):=(ia Ba.out 0).trans rfl;have vah:wc.cell? ⟨Na,1,none⟩=some (.int .i64 Vb):=(ia Ba.out 1).trans rfl;have uah:wc.cell? ⟨Na,2,none⟩=some (.int .i64 Pb):=(ia Ba.out 2).trans rfl;have tah:wc.cell? ⟨Na,3,none⟩=some (.int .i64 Qb):=(ia Ba.out 3).trans rfl;have sah:wc.cell? ⟨Na,4,none⟩=some (.int .i64 jc):=(ia Ba.out 4).trans rfl;have rah:wc.cell? ⟨Na,5,none⟩=some (.int .i64 Sc):=(ia Ba.out 5).trans rfl;have qah:wc.cell? ⟨Na,6,none⟩=some (.string td):=(ia Ba.out 6).trans rfl;have Vaf:=aa Ba.out 0;have Uaf:=aa Ba.out 1;have Taf:=aa Ba.out 2;have Saf:=aa Ba.out 3;have Raf:=aa Ba.out 4;have Qaf:=aa Ba.out 5;have Paf:=aa Ba.out 6;go_wp2;go_ret;exact ⟨by first|rfl|(simp [Pa,Oa] <;> rfl)|(simp [*,Pa,Oa] <;> rfl),yaH⟩
              ·replace l6:=Bool.eq_false_iff.mpr l6;subst l6;have H1:(some false)=some r:=by rw [if_neg (show ¬ (false=true) by decide)] at H;exact H
               clear H;have H:=H1;clear H1;obtain rfl:=Option.some.inj H;have bav:=Ib.out;have Nau:=Jb.out;have pah:wc.cell? ⟨Na,0,none⟩=some (.int .i64 Jc):=(ia Ba.out 0).trans rfl;have oah:wc.cell? ⟨Na,1,none⟩=some (.int .i64 Vb):=(ia Ba.out 1).trans rfl;have nah:wc.cell? ⟨Na,2,none⟩=some (.int .i64 Pb):=(ia Ba.out 2).trans rfl;have mah:wc.cell? ⟨Na,3,none⟩=some (.int .i64 Qb):=(ia Ba.out 3).trans rfl;have lah:wc.cell? ⟨Na,4,none⟩=some (.int .i64 jc):=(ia Ba.out 4).trans rfl;have kah:wc.cell? ⟨Na,5,none⟩=some (.int .i64 Sc):=(ia Ba.out 5).trans rfl;have jah:wc.cell? ⟨Na,6,none⟩=some (.string td):=(ia Ba.out 6).trans rfl;have Oaf:=aa Ba.out 0;have Naf:=aa Ba.out 1;have Maf:=aa Ba.out 2;have Laf:=aa Ba.out 3;have Kaf:=aa Ba.out 4;have Jaf:=aa Ba.out 5;have Iaf:=aa Ba.out 6;go_wp2;go_ret;exact ⟨by first|rfl|(simp [Pa,Oa] <;> rfl)|(simp [*,Pa,Oa] <;> rfl),yaH⟩
             ·rw [if_neg EO] at H;have Lab:(Vb == 0)=false:=beq_eq_false_iff_ne.mpr EO;have Kab:(Vb != 0)=true:=bne_iff_ne.mpr EO;obtain rfl:=Option.some.inj H;have aav:=Ib.out;have Mau:=Jb.out;have iah:wc.cell? ⟨Na,0,none⟩=some (.int .i64 Jc):=(ia Ba.out 0).trans rfl;have hah:wc.cell? ⟨Na,1,none⟩=some (.int .i64 Vb):=(ia Ba.out 1).trans rfl;have gah:wc.cell? ⟨Na,2,none⟩=some (.int .i64 Pb):=(ia Ba.out 2).trans rfl;have fah:wc.cell? ⟨Na,3,none⟩=some (.int .i64 Qb):=(ia Ba.out 3).trans rfl;have eah:wc.cell? ⟨Na,4,none⟩=some (.int .i64 jc):=(ia Ba.out 4).trans rfl;have dah:wc.cell? ⟨Na,5,none⟩=some (.int .i64 Sc):=(ia Ba.out 5).trans rfl;have cah:wc.cell? ⟨Na,6,none⟩=some (.string td):=(ia Ba.out 6).trans rfl;have Haf:=aa Ba.out 0;have Gaf:=aa Ba.out 1;have Faf:=aa Ba.out 2;have Eaf:=aa Ba.out 3;have Daf:=aa Ba.out 4;have Caf:=aa Ba.out 5;have Baf:=aa Ba.out 6;go_wp2;go_ret;exact ⟨by first|rfl|(simp [Pa,Oa] <;> rfl)|(simp [*,Pa,Oa] <;> rfl),yaH⟩
            ·rw [if_neg FO] at H;have Nab:(Jc == 6)=false:=beq_eq_false_iff_ne.mpr FO;have Mab:(Jc != 6)=true:=bne_iff_ne.mpr FO;obtain rfl:=Option.some.inj H;have Zau:=Ib.out;have Lau:=Jb.out;have bah:wc.cell? ⟨Na,0,none⟩=some (.int .i64 Jc):=(ia Ba.out 0).trans rfl;have aah:wc.cell? ⟨Na,1,none⟩=some (.int .i64 Vb):=(ia Ba.out 1).trans rfl;have Zag:wc.cell? ⟨Na,2,none⟩=some (.int .i64 Pb):=(ia Ba.out 2).trans rfl;have Yag:wc.cell? ⟨Na,3,none⟩=some (.int .i64 Qb):=(ia Ba.out 3).trans rfl;have Xag:wc.cell? ⟨Na,4,none⟩=some (.int .i64 jc):=(ia Ba.out 4).trans rfl;have Wag:wc.cell? ⟨Na,5,none⟩=some (.int .i64 Sc):=(ia Ba.out 5).trans rfl;have Vag:wc.cell? ⟨Na,6,none⟩=some (.string td):=(ia Ba.out 6).trans rfl;have Aaf:=aa Ba.out 0;have zaf:=aa Ba.out 1;have yaf:=aa Ba.out 2;have xaf:=aa Ba.out 3;have waf:=aa Ba.out 4;have vaf:=aa Ba.out 5;have uaf:=aa Ba.out 6;go_wp2;go_ret;exact ⟨by first|rfl|(simp [Pa,Oa] <;> rfl)|(simp [*,Pa,Oa] <;> rfl),yaH⟩
end Go.Proofs.Ytkigbdceceeenaa.P
end
