import Derived.Test.YtkigbdceceeenaaProg
import Derived.Below
import Derived.Deep.Draws
import Derived.Deep.AppendLies
import Derived.Maps.AppendAt
import Derived.OwnWalk
import Derived.Laws.BytesArg
import Derived.Laws.MakeOwn
import Derived.Laws.OwnMore
import Derived.Deep.OwnRows
import Derived.Tactics
import Derived.Lib.ConvBytes
import Derived.Laws.Slices
import Derived.WalkKit
import Derived.KernelRfl
import Derived.RowKit3
import Derived.Deep.LoopGhost
import Derived.Deep.QuietTactic
import Derived.BigQuiet
import Derived.WideLaws
import Derived.Deep.DeepCutAuto
import Derived.Deep.CutBlock
import Derived.Deep.RegionHeld3
import Derived.Laws.Rows
import Derived.Lib.AppendStr
import Derived.ArgAppend
import Derived.Laws.IdiomCopy
import Derived.OrdersHeld
import Derived.Laws.BitsLemmas
import Derived.RowKit
import Derived.Test.YtkigbdceceeenaaQCodeW1
import Derived.Test.YtkigbdceceeenaaQCodeW2
import Derived.Deep.Slices
import Derived.ChangeArms
import Derived.OpenShut
import Derived.WideShapes
set_option maxHeartbeats 8000000
set_option maxRecDepth 100000
section
namespace Go.Proofs.Ytkigbdceceeenaa.P
open Go.RowKit Go.Proofs.Oa.Rb Go.Proofs.Oa.Pd Go.Proofs.Oa.Re
theorem WaJ {P:Prop} (h:P:=by simp only [Act.put,List.setIfInBounds_toArray,List.set_cons_zero,List.set_cons_succ,jb,mb];rfl):P:=h
theorem XaJ {P:Prop} (h:P:=by intro w';go_simp;with_reducible rfl):P:=h
theorem YaJ {P:Prop} (h:P:=by rintro w' ⟨s0,s1,s2,s3,s4,s5,s6,s7,s8,s9,PM,OM,NM,MM,QY,PY,OY,s17,s18,s19,s20⟩;go_simp;with_reducible rfl):P:=h
theorem ZaJ {P:Prop} (h:P:=by rintro w' ⟨s0,s1,s2,s3,s4,s5,s6,s7,s8,s9,PM,OM,NM,MM,QY,PY,OY⟩;go_simp;with_reducible rfl):P:=h
theorem aaK {P:Prop} (h:P:=by rintro w' ⟨s0,s1,s2,s3,s4,s5,s6,s7,s8,s9,PM,OM,NM,MM⟩;go_simp;with_reducible rfl):P:=h
theorem baK {P:Prop} (h:P:=by rintro w' ⟨s0,s1,s2,s3,s4,s5,s6,s7,s8,s9⟩;go_simp;with_reducible rfl):P:=h
theorem caK {P:Prop} (h:P:=by rintro w' ⟨s0,s1,s2,s3,s4,s5,s6⟩;go_simp;with_reducible rfl):P:=h
theorem daK {P:Prop} (h:P:=by rintro w' ⟨s0,s1,s2,s3,s4⟩;go_simp;with_reducible rfl):P:=h
theorem eaK {P:Prop} (h:P:=by rintro w' ⟨s0,s1,s2,s3⟩;go_simp;with_reducible rfl):P:=h
theorem faK {P:Prop} (h:P:=by rintro w' ⟨s0,s1,s2⟩;go_simp;with_reducible rfl):P:=h
theorem gaK {P:Prop} (h:P:=by first|(go_simp;done)|(go_simp;rfl)):P:=h
theorem haK {P:Prop} (h:P:=by first|(go_simp;done)|(go_simp;rfl)):P:=h
theorem iaK {P:Prop} (h:P:=by repeat (first|(with_reducible first|exact HB.out|apply ia|apply ga|apply oa|refine ua ?_ Qa.out)|exact HB.out)):P:=h
theorem jaK {P:Prop} (h:P:=by repeat (first|(with_reducible first|exact HB.out|apply ia|apply ga|apply oa)|exact HB.out)):P:=h
theorem kaK {P:Prop} (h:P:=by (with_reducible repeat (first|refine za ?_ _|refine Ba ?_|refine Aa ?_ _));exact ta.out):P:=h
theorem laK {P:Prop} (h:P:=by (try simp only [List.map_toArray,List.map_cons,List.map_nil]);first|done|rfl|(simp only [List.length_drop,List.length_take];rfl)):P:=h
theorem maK {P:Prop} (h:P:=by repeat (first|(with_reducible first|exact HB.out|apply ia|apply ga|apply oa|refine ua ?_ Qa.out|refine ua ?_ Lb.out)|exact HB.out)):P:=h
theorem naK {P:Prop} (h:P:=by first|rfl|(simp [La,Ka] <;> rfl)|(simp [*,La,Ka] <;> rfl)):P:=h
theorem oaK {P:Prop} (h:P:=by repeat (first|(with_reducible first|exact HB.out|apply ia|apply ga|apply oa|refine ua ?_ Qa.out)|exact HB.out)):P:=h
theorem paK {P:Prop} (h:P:=by repeat (first|(with_reducible first|exact HB.out|apply ia|apply ga|apply oa|refine ua ?_ Qa.out|refine ua ?_ Lb.out)|exact HB.out)):P:=h
theorem qaK {P:Prop} (h:P:=by (with_reducible repeat (first|refine za ?_ _|refine Ba ?_|refine Aa ?_ _));exact Ea.out):P:=h
theorem raK {P:Prop} (h:P:=by repeat (first|(with_reducible first|exact HB.out|apply ia|apply ga|apply oa)|exact HB.out)):P:=h
theorem saK {P:Prop} (h:P:=by first|rfl|(simp;done)|(simp [*];done)):P:=h
theorem taK {P:Prop} (h:P:=by (with_reducible repeat (first|refine za ?_ _|refine Ba ?_|refine Aa ?_ _));exact ta.out):P:=h
theorem uaK {P:Prop} (h:P:=by repeat (first|(with_reducible first|exact HB.out|apply ia|apply ga|apply oa|refine ua ?_ Qa.out|refine ua ?_ Lb.out|refine ua ?_ Rg.out)|exact HB.out)):P:=h
theorem vaK {P:Prop} (h:P:=by repeat (first|exact nc.refl _|apply nc.step)):P:=h
theorem waK {P:Prop} (h:P:=by repeat (first|(with_reducible first|exact HK.out|apply Kept.alloc|apply Kept.drewN|apply Kept.drew)|exact HK.out)):P:=h
theorem xaK {P:Prop} (h:P:=by (with_reducible repeat (first|refine za ?_ _|refine Ba ?_|refine Aa ?_ _));exact Ea.out):P:=h
theorem yaK {P:Prop} (h:P:=by have:=HN.out;simp only [List.length_append,List.length_cons,List.length_nil];omega):P:=h
theorem zaK {P:Prop} (h:P:=by (with_reducible repeat (first|refine za ?_ _|refine Ba ?_|refine Aa ?_ _));exact ic.out):P:=h
theorem AaK {P:Prop} (h:P:=by (with_reducible repeat (first|refine za ?_ _|refine Ba ?_|refine Aa ?_ _));refine zd (cs:=#[.slice Vl ((Ia Fa Ue).f0).length Ul,.int .i64 ((Ia Fa Ue).f1),.int .i64 ((Ia Fa Ue).f2),.int .i64 ((Ia Fa Ue).f3),.int .i64 0]) ?_ 4 _ rfl;(with_reducible repeat (first|refine za ?_ _|refine Ba ?_|refine Aa ?_ _));refine zd (cs:=#[.slice Vl ((Ia Fa Ue).f0).length Ul,.int .i64 ((Ia Fa Ue).f1),.int .i64 ((Ia Fa Ue).f2),.int .i64 0,.int .i64 0]) ?_ 3 _ rfl;(with_reducible repeat (first|refine za ?_ _|refine Ba ?_|refine Aa ?_ _));refine zd (cs:=#[.slice Vl ((Ia Fa Ue).f0).length Ul,.int .i64 ((Ia Fa Ue).f1),.int .i64 0,.int .i64 0,.int .i64 0]) ?_ 2 _ rfl;(with_reducible repeat (first|refine za ?_ _|refine Ba ?_|refine Aa ?_ _));refine zd (cs:=#[.slice Vl ((Ia Fa Ue).f0).length Ul,.int .i64 0,.int .i64 0,.int .i64 0,.int .i64 0]) ?_ 1 _ rfl;(with_reducible repeat (first|refine za ?_ _|refine Ba ?_|refine Aa ?_ _));refine zd (cs:=#[.slice none 0 0,.int .i64 0,.int .i64 0,.int .i64 0,.int .i64 0]) ?_ 0 _ rfl;(with_reducible repeat (first|refine za ?_ _|refine Ba ?_|refine Aa ?_ _));exact Fj.out):P:=h
theorem BaK {P:Prop} (h:P:=by (with_reducible repeat (first|apply Kd.Xa|apply Kd.Ya|apply Kd.gb));exact Nd.out):P:=h
theorem CaK {P:Prop} (h:P:=by (with_reducible repeat (first|apply Kd.Xa|apply Kd.Ya|apply Kd.gb));exact Jf.out):P:=h
theorem DaK {P:Prop} (h:P:=by first|rfl|(simp;done)|(simp [*];done)):P:=h
theorem EaK {P:Prop} (h:P:=by repeat (first|(with_reducible first|exact HB.out|apply ia|apply ga|apply oa|refine ua ?_ Qa.out|refine ua ?_ Vv.out)|exact HB.out)):P:=h
theorem FaK {P:Prop} (h:P:=by repeat (first|exact HB.out|(refine Ma ?_ Ty.out)|apply ga|apply oa|apply ia|refine ua ?_ (by first|omega|(simp;done)|(simp;omega)))):P:=h
theorem GaK {P:Prop} (h:P:=by repeat (first|(with_reducible first|exact HB.out|apply ia|apply ga|apply oa|refine ua ?_ Qa.out|refine ua ?_ Lb.out|refine ua ?_ Du.out)|exact HB.out)):P:=h
theorem HaK {P:Prop} (h:P:=by repeat (first|(with_reducible first|exact HK.out|apply Kept.alloc|apply Kept.drewN|apply Kept.drew)|exact HK.out)):P:=h
theorem IaK {P:Prop} (h:P:=by repeat (first|(with_reducible first|exact HB.out|apply ia|apply ga|apply oa|refine ua ?_ Qa.out|refine ua ?_ Lb.out|refine ua ?_ Rg.out)|exact HB.out)):P:=h
theorem JaK {P:Prop} (h:P:=by simp only [qk,Act.put,List.setIfInBounds_toArray,List.set_cons_zero,List.set_cons_succ]):P:=h
theorem KaK {P:Prop} (h:P:=by (with_reducible repeat (first|apply Kd.Xa|apply Kd.Ya|apply Kd.gb));exact jc.out):P:=h
theorem LaK {P:Prop} (h:P:=by (with_reducible repeat (first|apply Kd.Xa|apply Kd.Ya|apply Kd.gb));exact dg.out):P:=h
theorem MaK {P:Prop} (h:P:=by repeat (first|(with_reducible first|exact HK.out|apply Kept.alloc|apply Kept.drewN|apply Kept.drew|refine Kept.setCell ?_ (.inr Jd.out) _)|exact HK.out)):P:=h
theorem NaK {P:Prop} (h:P:=by repeat (first|(with_reducible first|exact HK.out|apply Kept.alloc|apply Kept.drewN|apply Kept.drew|refine Kept.setCell ?_ (.inr Jd.out) _)|exact HK.out)):P:=h
theorem OaK {P:Prop} (h:P:=by (with_reducible repeat (first|refine za ?_ _|refine Ba ?_|refine Aa ?_ _));refine zd (cs:=#[.slice none 0 0,.int .i64 0,.int .i64 0,.slice none 0 0]) ?_ 3 _ rfl;(with_reducible repeat (first|refine za ?_ _|refine Ba ?_|refine Aa ?_ _));refine zd (cs:=#[.slice none 0 0,.int .i64 0,.int .i64 0,.slice none 0 0]) ?_ 2 _ rfl;(with_reducible repeat (first|refine za ?_ _|refine Ba ?_|refine Aa ?_ _));refine zd (cs:=#[.slice none 0 0,.int .i64 0,.int .i64 0,.slice none 0 0]) ?_ 1 _ rfl;(with_reducible repeat (first|refine za ?_ _|refine Ba ?_|refine Aa ?_ _));refine zd (cs:=#[.slice none 0 0,.int .i64 0,.int .i64 0,.slice none 0 0]) ?_ 0 _ rfl;(with_reducible repeat (first|refine za ?_ _|refine Ba ?_|refine Aa ?_ _));exact Ea.out):P:=h
theorem PaK {P:Prop} (h:P:=by (with_reducible repeat (first|apply Kd.Xa|apply Kd.Ya|apply Kd.gb));exact Nd.out):P:=h
theorem QaK {P:Prop} (h:P:=by (with_reducible repeat (first|apply Kd.Xa|apply Kd.Ya|apply Kd.gb));exact Jf.out):P:=h
theorem RaK {P:Prop} (h:P:=by (with_reducible repeat (first|refine za ?_ _|refine Ba ?_|refine Aa ?_ _));refine Qd ?_ Zh.out _;(with_reducible repeat (first|refine za ?_ _|refine Ba ?_|refine Aa ?_ _));refine Qd ?_ Zh.out _;(with_reducible repeat (first|refine za ?_ _|refine Ba ?_|refine Aa ?_ _));refine Qd ?_ Zh.out _;(with_reducible repeat (first|refine za ?_ _|refine Ba ?_|refine Aa ?_ _));refine Qd ?_ Zh.out _;(with_reducible repeat (first|refine za ?_ _|refine Ba ?_|refine Aa ?_ _));refine Qd ?_ Zh.out _;(with_reducible repeat (first|refine za ?_ _|refine Ba ?_|refine Aa ?_ _));exact ta.out):P:=h
theorem SaK {P:Prop} (h:P:=by (with_reducible repeat (first|apply Kd.Xa|apply Kd.Ya|apply Kd.gb));exact ai.out):P:=h
theorem TaK {P:Prop} (h:P:=by (with_reducible repeat (first|apply Kd.Xa|apply Kd.Ya|apply Kd.gb));exact Fi.out):P:=h
theorem UaK {P:Prop} (h:P:=by first|exact Kd.Qv _ _ _ _ _|exact Kd.jH _ _ _ _ _|exact Kd.eH _ _ _ _ _|exact Kd.iH _ _ _ _ _|exact Kd.fH _ _ _ _ _):P:=h
theorem VaK {P:Prop} (h:P:=by (with_reducible repeat (first|apply Kd.Xa|apply Kd.Ya|apply Kd.gb));exact Xc.out):P:=h
theorem WaK {P:Prop} (h:P:=by (with_reducible repeat (first|apply Kd.Xa|apply Kd.Ya|apply Kd.gb));exact dg.out):P:=h
theorem XaK {P:Prop} (h:P:=by simp only [List.map_toArray,List.map_cons,List.map_nil];rfl):P:=h
theorem YaK {P:Prop} (h:P:=by (with_reducible repeat (first|apply Kd.Xa|apply Kd.Ya|apply Kd.gb));exact (Kd.yc (Kd.zf (p:=⟨uc,3,none⟩) (Kd.zf (p:=⟨uc,2,none⟩) (Kd.zf (p:=⟨uc,1,none⟩) (Kd.zf (p:=⟨uc,0,none⟩) (Kd.nh zl.out ic.out (by decide)) (fun _ hk=>hk.2) (.slice Wk zh.length Uk)) (fun _ hk=>hk.2) (.int .i64 Pa)) (fun _ hk=>hk.2) (.int .i64 Sa)) (fun _ hk=>hk.2) (.slice none 0 0)) (fun _ h_=>h_.1))):P:=h
theorem ZaK {P:Prop} (h:P:=by first|omega|exact Nat.le_refl _):P:=h
theorem aaL {P:Prop} (h:P:=by (with_reducible repeat (first|apply Kd.Xa|apply Kd.Ya|apply Kd.gb));exact bG.out):P:=h
theorem baL {P:Prop} (h:P:=by repeat (first|(with_reducible first|exact HB.out|apply ia|apply ga|apply oa|refine ua ?_ Qa.out|refine ua ?_ Lb.out|refine ua ?_ Du.out)|exact HB.out)):P:=h
theorem caL {P:Prop} (h:P:=by have:=HN.out;have:=xu cs x;simp only [List.length_append,List.length_cons,List.length_nil];omega):P:=h
theorem daL {P:Prop} (h:P:=by (with_reducible repeat (first|refine za ?_ _|refine Ba ?_|refine Aa ?_ _));exact ic.out):P:=h
theorem eaL {P:Prop} (h:P:=by (with_reducible repeat (first|apply Kd.Xa|apply Kd.Ya|apply Kd.gb));exact zl.out):P:=h
theorem faL {P:Prop} (h:P:=by (with_reducible repeat (first|apply Kd.Xa|apply Kd.Ya|apply Kd.gb));exact Vh.out):P:=h
theorem gaL {P:Prop} (h:P:=by (with_reducible repeat (first|refine za ?_ _|refine Ba ?_|refine Aa ?_ _));refine zd (cs:=#[.slice Wk zh.length Uk,.int .i64 Pa,.int .i64 Sa,Ug]) ?_ 3 _ rfl;(with_reducible repeat (first|refine za ?_ _|refine Ba ?_|refine Aa ?_ _));exact ic.out):P:=h
theorem haL {P:Prop} (h:P:=by (with_reducible repeat (first|apply Kd.Xa|apply Kd.Ya|apply Kd.gb));exact kn.out):P:=h
theorem iaL {P:Prop} (h:P:=by (with_reducible repeat (first|apply Kd.Xa|apply Kd.Ya|apply Kd.gb));exact Km.out):P:=h
theorem jaL {P:Prop} (h:P:=by (with_reducible repeat (first|apply Kd.Xa|apply Kd.Ya|apply Kd.gb));exact Kd.yc dg.out (fun _ hk=>hk.2)):P:=h
set_option linter.unusedVariables false
set_option linter.unusedSimpArgs false
attribute [local go_sem] Mh ki rj Kj th qh ni ji
def Gak:Option Int→Value
 | none=>.nilIface
 | some c=>.iface 0 (.int .i64 c)
theorem La:Gak none = .nilIface:=rfl
theorem Ka (c:Int):Gak (some c) = .iface 0 (.int .i64 c):=rfl
theorem info3:(Try.prog.info? 3).map (fun i=>(i.zero,i.size,i.bytes))=some (some (.int .i64 0),1,8):=by kernel_rfl
theorem zL:(Try.prog.info? 4).map (fun i=>(i.zero,i.size,i.bytes))=some (some (.bool false),1,1):=by kernel_rfl
theorem Gaa:(Try.prog.info? 59).map (fun i=>(i.zero,i.size,i.bytes))=some (some (.agg #[(.slice none 0 0),(.int .i64 0),(.int .i64 0),(.int .i64 0),(.int .i64 0)]),5,56):=by kernel_rfl
theorem wU:(Try.prog.info? 60).map (fun i=>(i.zero,i.size,i.bytes))=some (some (.slice none 0 0),1,24):=by kernel_rfl
theorem Faa:(Try.prog.info? 65).map (fun i=>(i.zero,i.size,i.bytes))=some (some (.agg #[(.int .i64 0),(.int .i64 0),(.int .i64 0),(.int .i64 0),(.int .i64 0),(.int .i64 0),(.string ⟨#[]⟩)]),7,64):=by kernel_rfl
theorem Gr:(Try.prog.info? 79).map (fun i=>(i.zero,i.size,i.bytes))=some (some (.agg #[(.int .i64 0),(.int .i64 0),(.int .i64 0),(.int .i64 0),(.int .i64 0)]),5,40):=by kernel_rfl
structure S7 where
 f0:Int
 f1:Int
 f2:Bool
 f3:Int
def z7:S7:=⟨(0:Int),(0:Int),false,(0:Int)⟩
structure S8 where
 f0:Int
 f1:Int
 f2:Bool
 f3:Int
def z8:S8:=⟨(0:Int),(0:Int),false,(0:Int)⟩
structure vo where
 f0:Int
 f1:Int
 f2:Int
 f3:Int
 f4:Int
 f5:Int
 f6:ByteArray
def Zae:vo:=⟨(0:Int),(0:Int),(0:Int),(0:Int),(0:Int),(0:Int),(⟨#[]⟩:ByteArray)⟩
def RE:Kd vo:=Kd.nY (Kd.pair (Kd.int .i64) (Kd.pair (Kd.int .i64) (Kd.pair (Kd.int .i64) (Kd.pair (Kd.int .i64) (Kd.pair (Kd.int .i64) (Kd.pair (Kd.int .i64) Kd.string)))))) (fun x:vo=>(x.f0,x.f1,x.f2,x.f3,x.f4,x.f5,x.f6))
theorem oS {w:World} {x:vo} {cs:List Value} (h:RE.K w x cs):cs=[.int .i64 x.f0,.int .i64 x.f1,.int .i64 x.f2,.int .i64 x.f3,.int .i64 x.f4,.int .i64 x.f5,.string x.f6]:=by
 obtain ⟨_,_,rfl,rfl,⟨_,_,rfl,rfl,⟨_,_,rfl,rfl,⟨_,_,rfl,rfl,⟨_,_,rfl,rfl,⟨_,_,rfl,rfl,rfl⟩⟩⟩⟩⟩⟩:=h;exact rfl
def Uc (xs:List vo) (i:Int):vo:=xs.getD i.toNat Zae
theorem jK {w:World} {A:Option Addr} {n:Nat} {xs:List vo} (h:Kd.C RE w A n xs) (i:Int) (h0:0 ≤ i) (h1:i < n):∃ ad , A=some ad∧w.cell? (ad.add (i.toNat * 7))=some (.int .i64 (Uc xs i).f0)∧w.cell? ⟨(ad.add (i.toNat * 7)).block,(ad.add (i.toNat * 7)).off + 1,none⟩=some (.int .i64 (Uc xs i).f1)∧w.cell? ⟨(ad.add (i.toNat * 7)).block,(ad.add (i.toNat * 7)).off + 2,none⟩=some (.int .i64 (Uc xs i).f2)∧w.cell? ⟨(ad.add (i.toNat * 7)).block,(ad.add (i.toNat * 7)).off + 3,none⟩=some (.int .i64 (Uc xs i).f3)∧w.cell? ⟨(ad.add (i.toNat * 7)).block,(ad.add (i.toNat * 7)).off + 4,none⟩=some (.int .i64 (Uc xs i).f4)∧w.cell? ⟨(ad.add (i.toNat * 7)).block,(ad.add (i.toNat * 7)).off + 5,none⟩=some (.int .i64 (Uc xs i).f5)∧w.cell? ⟨(ad.add (i.toNat * 7)).block,(ad.add (i.toNat * 7)).off + 6,none⟩=some (.string (Uc xs i).f6):=by
 obtain ⟨ad,c,e,_,hK,hc0⟩:=Kd.oH h Zae i h0 h1;have hc:∀ j u,c[j]? = some u→w.cell? (ad.add (i.toNat * 7 + j))=some u:=hc0;obtain rfl:=oS hK;exact ⟨ad,e,hc 0 _ rfl,by rw [← Qf _ _ 1 (by omega)];exact hc 1 _ rfl,by rw [← Qf _ _ 2 (by omega)];exact hc 2 _ rfl,by rw [← Qf _ _ 3 (by omega)];exact hc 3 _ rfl,by rw [← Qf _ _ 4 (by omega)];exact hc 4 _ rfl,by rw [← Qf _ _ 5 (by omega)];exact hc 5 _ rfl,by rw [← Qf _ _ 6 (by omega)];exact hc 6 _ rfl⟩
structure Ry where
 f0:(List vo)
 f1:Int
 f2:Int
 f3:Int
 f4:Int
def z86:Ry:=⟨([]:List vo),(0:Int),(0:Int),(0:Int),(0:Int)⟩
def nU:Kd Ry:=Kd.nY (Kd.pair (Kd.slice 124 RE) (Kd.pair (Kd.int .i64) (Kd.pair (Kd.int .i64) (Kd.pair (Kd.int .i64) (Kd.int .i64))))) (fun x:Ry=>(x.f0,x.f1,x.f2,x.f3,x.f4))
theorem mU {w:World} {x:Ry} {cs:List Value} (h:nU.K w x cs):∃ A0 c0,cs=[.slice A0 x.f0.length c0,.int .i64 x.f1,.int .i64 x.f2,.int .i64 x.f3,.int .i64 x.f4]∧x.f0.length ≤ c0∧RE.C w A0 x.f0.length x.f0:=by
 obtain ⟨_,_,rfl,⟨A0,c0,rfl,l0,g0⟩,⟨_,_,rfl,rfl,⟨_,_,rfl,rfl,⟨_,_,rfl,rfl,rfl⟩⟩⟩⟩:=h;exact ⟨A0,c0,rfl,l0,g0⟩
def Xe (xs:List Ry) (i:Int):Ry:=xs.getD i.toNat z86
theorem rO {w:World} {A:Option Addr} {n:Nat} {xs:List Ry} (h:Kd.C nU w A n xs) (i:Int) (h0:0 ≤ i) (h1:i < n):∃ ad A0 c0,A=some ad∧w.cell? (ad.add (i.toNat * 5))=some (.slice A0 (Xe xs i).f0.length c0)∧w.cell? ⟨(ad.add (i.toNat * 5)).block,(ad.add (i.toNat * 5)).off + 1,none⟩=some (.int .i64 (Xe xs i).f1)∧w.cell? ⟨(ad.add (i.toNat * 5)).block,(ad.add (i.toNat * 5)).off + 2,none⟩=some (.int .i64 (Xe xs i).f2)∧w.cell? ⟨(ad.add (i.toNat * 5)).block,(ad.add (i.toNat * 5)).off + 3,none⟩=some (.int .i64 (Xe xs i).f3)∧w.cell? ⟨(ad.add (i.toNat * 5)).block,(ad.add (i.toNat * 5)).off + 4,none⟩=some (.int .i64 (Xe xs i).f4)∧(Xe xs i).f0.length ≤ c0∧RE.C w A0 (Xe xs i).f0.length (Xe xs i).f0:=by
 obtain ⟨ad,c,e,_,hK,hc0⟩:=Kd.oH h z86 i h0 h1;have hc:∀ j u,c[j]? = some u→w.cell? (ad.add (i.toNat * 5 + j))=some u:=hc0;obtain ⟨A0,c0,rfl,l0,g0⟩:=mU hK;exact ⟨ad,A0,c0,e,hc 0 _ rfl,by rw [← Qf _ _ 1 (by omega)];exact hc 1 _ rfl,by rw [← Qf _ _ 2 (by omega)];exact hc 2 _ rfl,by rw [← Qf _ _ 3 (by omega)];exact hc 3 _ rfl,by rw [← Qf _ _ 4 (by omega)];exact hc 4 _ rfl,l0,g0⟩
structure S25 where
 f0:(List Int)
 f1:Int
 f2:Int
 f3:Int
 f4:(List Ry)
def k25:Kd S25:=Kd.nY (Kd.pair (Kd.slice 3 (Kd.int .i64)) (Kd.pair (Kd.int .i64) (Kd.pair (Kd.int .i64) (Kd.pair (Kd.int .i64) (Kd.slice 86 nU))))) (fun x:S25=>(x.f0,x.f1,x.f2,x.f3,x.f4))
theorem sU {w:World} {x:S25} {cs:List Value} (h:k25.K w x cs):∃ A0 c0 A4 c4,cs=[.slice A0 x.f0.length c0,.int .i64 x.f1,.int .i64 x.f2,.int .i64 x.f3,.slice A4 x.f4.length c4]∧x.f0.length ≤ c0∧(Kd.int .i64).C w A0 x.f0.length x.f0∧x.f4.length ≤ c4∧nU.C w A4 x.f4.length x.f4:=by
 obtain ⟨_,_,rfl,⟨A0,c0,rfl,l0,g0⟩,⟨_,_,rfl,rfl,⟨_,_,rfl,rfl,⟨_,_,rfl,rfl,⟨A4,c4,rfl,l4,g4⟩⟩⟩⟩⟩:=h;exact ⟨A0,c0,A4,c4,rfl,l0,g0,l4,g4⟩
structure tf where
 f0:Int
 f1:Int
 f2:Int
 f3:Int
 f4:Int
 f5:Int
 f6:ByteArray
def Wv:tf:=⟨(0:Int),(0:Int),(0:Int),(0:Int),(0:Int),(0:Int),(⟨#[]⟩:ByteArray)⟩
def Xk:Kd tf:=Kd.nY (Kd.pair (Kd.int .i64) (Kd.pair (Kd.int .i64) (Kd.pair (Kd.int .i64) (Kd.pair (Kd.int .i64) (Kd.pair (Kd.int .i64) (Kd.pair (Kd.int .i64) Kd.string)))))) (fun x:tf=>(x.f0,x.f1,x.f2,x.f3,x.f4,x.f5,x.f6))
theorem pU {w:World} {x:tf} {cs:List Value} (h:Xk.K w x cs):cs=[.int .i64 x.f0,.int .i64 x.f1,.int .i64 x.f2,.int .i64 x.f3,.int .i64 x.f4,.int .i64 x.f5,.string x.f6]:=by
 obtain ⟨_,_,rfl,rfl,⟨_,_,rfl,rfl,⟨_,_,rfl,rfl,⟨_,_,rfl,rfl,⟨_,_,rfl,rfl,⟨_,_,rfl,rfl,rfl⟩⟩⟩⟩⟩⟩:=h;exact rfl
theorem dh {w:World} {base:Nat} {ok:Nat→Prop} {x:tf} {cs:List Value} (h:Xk.M w base ok x cs):cs=[.int .i64 x.f0,.int .i64 x.f1,.int .i64 x.f2,.int .i64 x.f3,.int .i64 x.f4,.int .i64 x.f5,.string x.f6]:=by
 obtain ⟨_,_,rfl,rfl,⟨_,_,rfl,rfl,⟨_,_,rfl,rfl,⟨_,_,rfl,rfl,⟨_,_,rfl,rfl,⟨_,_,rfl,rfl,rfl⟩⟩⟩⟩⟩⟩:=h;exact rfl
theorem Vo (w:World) (base:Nat) (ok:Nat→Prop) (x:tf)  : Xk.M w base ok x [.int .i64 x.f0,.int .i64 x.f1,.int .i64 x.f2,.int .i64 x.f3,.int .i64 x.f4,.int .i64 x.f5,.string x.f6]:=⟨[.int .i64 x.f0],[.int .i64 x.f1,.int .i64 x.f2,.int .i64 x.f3,.int .i64 x.f4,.int .i64 x.f5,.string x.f6],rfl,rfl,⟨[.int .i64 x.f1],[.int .i64 x.f2,.int .i64 x.f3,.int .i64 x.f4,.int .i64 x.f5,.string x.f6],rfl,rfl,⟨[.int .i64 x.f2],[.int .i64 x.f3,.int .i64 x.f4,.int .i64 x.f5,.string x.f6],rfl,rfl,⟨[.int .i64 x.f3],[.int .i64 x.f4,.int .i64 x.f5,.string x.f6],rfl,rfl,⟨[.int .i64 x.f4],[.int .i64 x.f5,.string x.f6],rfl,rfl,⟨[.int .i64 x.f5],[.string x.f6],rfl,rfl,rfl⟩⟩⟩⟩⟩⟩
def Ga (xs:List tf) (i:Int):tf:=xs.getD i.toNat Wv
theorem Mp {w:World} {A:Option Addr} {n:Nat} {xs:List tf} (h:Kd.C Xk w A n xs) (i:Int) (h0:0 ≤ i) (h1:i < n):∃ ad , A=some ad∧w.cell? (ad.add (i.toNat * 7))=some (.int .i64 (Ga xs i).f0)∧w.cell? ⟨(ad.add (i.toNat * 7)).block,(ad.add (i.toNat * 7)).off + 1,none⟩=some (.int .i64 (Ga xs i).f1)∧w.cell? ⟨(ad.add (i.toNat * 7)).block,(ad.add (i.toNat * 7)).off + 2,none⟩=some (.int .i64 (Ga xs i).f2)∧w.cell? ⟨(ad.add (i.toNat * 7)).block,(ad.add (i.toNat * 7)).off + 3,none⟩=some (.int .i64 (Ga xs i).f3)∧w.cell? ⟨(ad.add (i.toNat * 7)).block,(ad.add (i.toNat * 7)).off + 4,none⟩=some (.int .i64 (Ga xs i).f4)∧w.cell? ⟨(ad.add (i.toNat * 7)).block,(ad.add (i.toNat * 7)).off + 5,none⟩=some (.int .i64 (Ga xs i).f5)∧w.cell? ⟨(ad.add (i.toNat * 7)).block,(ad.add (i.toNat * 7)).off + 6,none⟩=some (.string (Ga xs i).f6):=by
 obtain ⟨ad,c,e,_,hK,hc0⟩:=Kd.oH h Wv i h0 h1;have hc:∀ j u,c[j]? = some u→w.cell? (ad.add (i.toNat * 7 + j))=some u:=hc0;obtain rfl:=pU hK;exact ⟨ad,e,hc 0 _ rfl,by rw [← Qf _ _ 1 (by omega)];exact hc 1 _ rfl,by rw [← Qf _ _ 2 (by omega)];exact hc 2 _ rfl,by rw [← Qf _ _ 3 (by omega)];exact hc 3 _ rfl,by rw [← Qf _ _ 4 (by omega)];exact hc 4 _ rfl,by rw [← Qf _ _ 5 (by omega)];exact hc 5 _ rfl,by rw [← Qf _ _ 6 (by omega)];exact hc 6 _ rfl⟩
structure Ff where
 f0:(List tf)
 f1:Int
 f2:Int
 f3:Int
 f4:Int
def QK:Ff:=⟨([]:List tf),(0:Int),(0:Int),(0:Int),(0:Int)⟩
def Wr:Kd Ff:=Kd.nY (Kd.pair (Kd.slice 65 Xk) (Kd.pair (Kd.int .i64) (Kd.pair (Kd.int .i64) (Kd.pair (Kd.int .i64) (Kd.int .i64))))) (fun x:Ff=>(x.f0,x.f1,x.f2,x.f3,x.f4))
theorem qU {w:World} {x:Ff} {cs:List Value} (h:Wr.K w x cs):∃ A0 c0,cs=[.slice A0 x.f0.length c0,.int .i64 x.f1,.int .i64 x.f2,.int .i64 x.f3,.int .i64 x.f4]∧x.f0.length ≤ c0∧Xk.C w A0 x.f0.length x.f0:=by
 obtain ⟨_,_,rfl,⟨A0,c0,rfl,l0,g0⟩,⟨_,_,rfl,rfl,⟨_,_,rfl,rfl,⟨_,_,rfl,rfl,rfl⟩⟩⟩⟩:=h;exact ⟨A0,c0,rfl,l0,g0⟩
theorem nB {w:World} {base:Nat} {ok:Nat→Prop} {x:Ff} {cs:List Value} (h:Wr.M w base ok x cs):∃ v0,cs=[v0,.int .i64 x.f1,.int .i64 x.f2,.int .i64 x.f3,.int .i64 x.f4]∧Xk.R 65 w base ok v0 x.f0:=by
 obtain ⟨_,_,rfl,⟨v0,rfl,g0⟩,⟨_,_,rfl,rfl,⟨_,_,rfl,rfl,⟨_,_,rfl,rfl,rfl⟩⟩⟩⟩:=h;exact ⟨v0,rfl,g0⟩
theorem EH (w:World) (base:Nat) (ok:Nat→Prop) (x:Ff) {v0:Value} (g0:Xk.R 65 w base ok v0 x.f0):Wr.M w base ok x [v0,.int .i64 x.f1,.int .i64 x.f2,.int .i64 x.f3,.int .i64 x.f4]:=⟨[v0],[.int .i64 x.f1,.int .i64 x.f2,.int .i64 x.f3,.int .i64 x.f4],rfl,⟨v0,rfl,g0⟩,⟨[.int .i64 x.f1],[.int .i64 x.f2,.int .i64 x.f3,.int .i64 x.f4],rfl,rfl,⟨[.int .i64 x.f2],[.int .i64 x.f3,.int .i64 x.f4],rfl,rfl,⟨[.int .i64 x.f3],[.int .i64 x.f4],rfl,rfl,rfl⟩⟩⟩⟩
def Ia (xs:List Ff) (i:Int):Ff:=xs.getD i.toNat QK
theorem Bj {w:World} {A:Option Addr} {n:Nat} {xs:List Ff} (h:Kd.C Wr w A n xs) (i:Int) (h0:0 ≤ i) (h1:i < n):∃ ad A0 c0,A=some ad∧w.cell? (ad.add (i.toNat * 5))=some (.slice A0 (Ia xs i).f0.length c0)∧w.cell? ⟨(ad.add (i.toNat * 5)).block,(ad.add (i.toNat * 5)).off + 1,none⟩=some (.int .i64 (Ia xs i).f1)∧w.cell? ⟨(ad.add (i.toNat * 5)).block,(ad.add (i.toNat * 5)).off + 2,none⟩=some (.int .i64 (Ia xs i).f2)∧w.cell? ⟨(ad.add (i.toNat * 5)).block,(ad.add (i.toNat * 5)).off + 3,none⟩=some (.int .i64 (Ia xs i).f3)∧w.cell? ⟨(ad.add (i.toNat * 5)).block,(ad.add (i.toNat * 5)).off + 4,none⟩=some (.int .i64 (Ia xs i).f4)∧(Ia xs i).f0.length ≤ c0∧Xk.C w A0 (Ia xs i).f0.length (Ia xs i).f0:=by
 obtain ⟨ad,c,e,_,hK,hc0⟩:=Kd.oH h QK i h0 h1;have hc:∀ j u,c[j]? = some u→w.cell? (ad.add (i.toNat * 5 + j))=some u:=hc0;obtain ⟨A0,c0,rfl,l0,g0⟩:=qU hK;exact ⟨ad,A0,c0,e,hc 0 _ rfl,by rw [← Qf _ _ 1 (by omega)];exact hc 1 _ rfl,by rw [← Qf _ _ 2 (by omega)];exact hc 2 _ rfl,by rw [← Qf _ _ 3 (by omega)];exact hc 3 _ rfl,by rw [← Qf _ _ 4 (by omega)];exact hc 4 _ rfl,l0,g0⟩
structure Zb where
 f0:Int
 f1:Int
 f2:Int
 f3:Int
 f4:Int
def PK:Zb:=⟨(0:Int),(0:Int),(0:Int),(0:Int),(0:Int)⟩
def Yg:Kd Zb:=Kd.nY (Kd.pair (Kd.int .i64) (Kd.pair (Kd.int .i64) (Kd.pair (Kd.int .i64) (Kd.pair (Kd.int .i64) (Kd.int .i64))))) (fun x:Zb=>(x.f0,x.f1,x.f2,x.f3,x.f4))
theorem oU {w:World} {x:Zb} {cs:List Value} (h:Yg.K w x cs):cs=[.int .i64 x.f0,.int .i64 x.f1,.int .i64 x.f2,.int .i64 x.f3,.int .i64 x.f4]:=by
 obtain ⟨_,_,rfl,rfl,⟨_,_,rfl,rfl,⟨_,_,rfl,rfl,⟨_,_,rfl,rfl,rfl⟩⟩⟩⟩:=h;exact rfl
theorem Wh {w:World} {base:Nat} {ok:Nat→Prop} {x:Zb} {cs:List Value} (h:Yg.M w base ok x cs):cs=[.int .i64 x.f0,.int .i64 x.f1,.int .i64 x.f2,.int .i64 x.f3,.int .i64 x.f4]:=by
 obtain ⟨_,_,rfl,rfl,⟨_,_,rfl,rfl,⟨_,_,rfl,rfl,⟨_,_,rfl,rfl,rfl⟩⟩⟩⟩:=h;exact rfl
theorem zaa (w:World) (x:Zb)  : Yg.K w x [.int .i64 x.f0,.int .i64 x.f1,.int .i64 x.f2,.int .i64 x.f3,.int .i64 x.f4]:=⟨[.int .i64 x.f0],[.int .i64 x.f1,.int .i64 x.f2,.int .i64 x.f3,.int .i64 x.f4],rfl,rfl,⟨[.int .i64 x.f1],[.int .i64 x.f2,.int .i64 x.f3,.int .i64 x.f4],rfl,rfl,⟨[.int .i64 x.f2],[.int .i64 x.f3,.int .i64 x.f4],rfl,rfl,⟨[.int .i64 x.f3],[.int .i64 x.f4],rfl,rfl,rfl⟩⟩⟩⟩
theorem af (w:World) (base:Nat) (ok:Nat→Prop) (x:Zb)  : Yg.M w base ok x [.int .i64 x.f0,.int .i64 x.f1,.int .i64 x.f2,.int .i64 x.f3,.int .i64 x.f4]:=⟨[.int .i64 x.f0],[.int .i64 x.f1,.int .i64 x.f2,.int .i64 x.f3,.int .i64 x.f4],rfl,rfl,⟨[.int .i64 x.f1],[.int .i64 x.f2,.int .i64 x.f3,.int .i64 x.f4],rfl,rfl,⟨[.int .i64 x.f2],[.int .i64 x.f3,.int .i64 x.f4],rfl,rfl,⟨[.int .i64 x.f3],[.int .i64 x.f4],rfl,rfl,rfl⟩⟩⟩⟩
def Wa (xs:List Zb) (i:Int):Zb:=xs.getD i.toNat PK
theorem yh {w:World} {A:Option Addr} {n:Nat} {xs:List Zb} (h:Kd.C Yg w A n xs) (i:Int) (h0:0 ≤ i) (h1:i < n):∃ ad , A=some ad∧w.cell? (ad.add (i.toNat * 5))=some (.int .i64 (Wa xs i).f0)∧w.cell? ⟨(ad.add (i.toNat * 5)).block,(ad.add (i.toNat * 5)).off + 1,none⟩=some (.int .i64 (Wa xs i).f1)∧w.cell? ⟨(ad.add (i.toNat * 5)).block,(ad.add (i.toNat * 5)).off + 2,none⟩=some (.int .i64 (Wa xs i).f2)∧w.cell? ⟨(ad.add (i.toNat * 5)).block,(ad.add (i.toNat * 5)).off + 3,none⟩=some (.int .i64 (Wa xs i).f3)∧w.cell? ⟨(ad.add (i.toNat * 5)).block,(ad.add (i.toNat * 5)).off + 4,none⟩=some (.int .i64 (Wa xs i).f4):=by
 obtain ⟨ad,c,e,_,hK,hc0⟩:=Kd.oH h PK i h0 h1;have hc:∀ j u,c[j]? = some u→w.cell? (ad.add (i.toNat * 5 + j))=some u:=hc0;obtain rfl:=oU hK;exact ⟨ad,e,hc 0 _ rfl,by rw [← Qf _ _ 1 (by omega)];exact hc 1 _ rfl,by rw [← Qf _ _ 2 (by omega)];exact hc 2 _ rfl,by rw [← Qf _ _ 3 (by omega)];exact hc 3 _ rfl,by rw [← Qf _ _ 4 (by omega)];exact hc 4 _ rfl⟩
def Rl (xs:List (List Bool)) (i:Int):(List Bool):=xs.getD i.toNat ([]:List Bool)
theorem eW {w:World} {A:Option Addr} {n:Nat} {xs:List (List Bool)} (h:Kd.C (Kd.slice 4 Kd.bool) w A n xs) (i:Int) (h0:0 ≤ i) (h1:i < n):∃ ad A0 c0,A=some ad∧w.cell? (ad.add i.toNat)=some (.slice A0 (Rl xs i).length c0)∧(Rl xs i).length ≤ c0∧Kd.bool.C w A0 (Rl xs i).length (Rl xs i):=by
 obtain ⟨ad,c,e,_,hK,hc0⟩:=Kd.oH h ([]:List Bool) i h0 h1;have hc:∀ j u,c[j]? = some u→w.cell? (ad.add (i.toNat * 1 + j))=some u:=hc0;obtain ⟨A0,c0,rfl,l0,g0⟩:=hK;exact ⟨ad,A0,c0,e,by have hq:=hc 0 _ rfl;rwa [Nat.mul_one,Nat.add_zero] at hq,l0,g0⟩
structure jT where
 f0:Int
 f1:Int
 f2:Int
 f3:ByteArray
 f4:(List jT)
def gae (d:Kd jT):Kd jT:=Kd.nY (Kd.pair (Kd.int .i64) (Kd.pair (Kd.int .i64) (Kd.pair (Kd.int .i64) (Kd.pair Kd.string (Kd.slice 134 d))))) (fun x:jT=>(x.f0,x.f1,x.f2,x.f3,x.f4))
theorem jaa:Kd.Sub gae [134]:=Kd.ZO _ (Kd.Om (Kd.sub_const _ (by decide)) (Kd.Om (Kd.sub_const _ (by decide)) (Kd.Om (Kd.sub_const _ (by decide)) (Kd.Om (Kd.sub_const _ (by decide)) (Kd.bB 134 (by decide) Kd.gN)))))
theorem kaf:∀ n,(Kd.upto gae 5 [134] n).sz=5:=Kd.XO (fun _=>rfl)
def Qax:Kd jT:=Kd.fix gae 5 [134] kaf (Kd.eN jaa)
structure EB where
 f0:Int
 f1:Int
 f2:Int
 f3:(List jT)
 f4:(List EB)
 f5:(List EB)
def hae (d:Kd EB):Kd EB:=Kd.nY (Kd.pair (Kd.int .i64) (Kd.pair (Kd.int .i64) (Kd.pair (Kd.int .i64) (Kd.pair (Kd.slice 134 Qax) (Kd.pair (Kd.slice 130 d) (Kd.slice 130 d)))))) (fun x:EB=>(x.f0,x.f1,x.f2,x.f3,x.f4,x.f5))
theorem kaa:Kd.Sub hae [130,134]:=Kd.ZO _ (Kd.Om (Kd.sub_const _ (by decide)) (Kd.Om (Kd.sub_const _ (by decide)) (Kd.Om (Kd.sub_const _ (by decide)) (Kd.Om (Kd.sub_const _ (by decide)) (Kd.Om (Kd.bB 130 (by decide) Kd.gN) (Kd.bB 130 (by decide) Kd.gN))))))
theorem laf:∀ n,(Kd.upto hae 6 [130,134] n).sz=6:=Kd.XO (fun _=>rfl)
def Rax:Kd EB:=Kd.fix hae 6 [130,134] laf (Kd.eN kaa)
theorem hU {α:Type} {d:Kd α} {e:Nat} {w:World} {base:Nat} {ok:Nat→Prop} {v:Value} {xs:List α} (h:aa (d.R e w base ok v xs)):v.oneCell' = true:=by
 obtain ⟨A,c,rfl⟩:=Kd.Lc h.out
 rfl
theorem gU {α:Type} {d:Kd α} {e:Nat} {w:World} {base:Nat} {ok:Nat→Prop} {v:Value} {xs:List α} (h:aa (d.S e w base ok v xs)):v.oneCell' = true:=by
 obtain ⟨A,c,rfl⟩:=Kd.Lc (Kd.iT h.out)
 rfl
theorem jU {α:Type} {d:Kd α} {e:Nat} {w:World} {base:Nat} {ok:Nat→Prop} {v:Value} {xs:List α} (h:aa (Kd.N d e w base ok v xs)):v.oneCell' = true:=by
 obtain ⟨A,c,rfl⟩:=Kd.U5 h.out
 rfl
theorem iU {α:Type} {d:Kd α} {e:Nat} {w:World} {base:Nat} {ok:Nat→Prop} {v:Value} {xs:List α} (h:aa (d.Q e w base ok v xs)):v.oneCell' = true:=by
 obtain ⟨A,c,rfl,_⟩:=Kd.T5 h.out
 rfl
def wo (P:Program) (t:TypeId) {α:Type} (d:Kd α) (fit:α→Prop):Prop :=
 ∀ {H:Type} {enc:TypeId × Value→H} {w:World} {base:Nat} {spare:Nat→Bool} {held:Bool} {fuel:Nat} {cs:List Value} {x:DataW H × List MemPlace},
  DataW.trod enc P w base spare held fuel t cs=some x→∃ a:α,d.K w a cs∧fit a
theorem iS {P:Program} {t:TypeId} {k:IntKind} (ht:P.underlying t=some (.int k)):wo P t (Kd.int k) (fun n=>(Lit.int k n).wf=true):=by
 intro H enc w base spare held fuel cs x h;obtain ⟨n,rfl,_,hw⟩:=DataW.trod_int ht h;exact ⟨n,rfl,hw⟩
def Iu (n:Int):Prop:=-9223372036854775808 ≤ n∧n ≤ 9223372036854775807
theorem wf_i64 {n:Int} (h:(Lit.int .i64 n).wf=true):Iu n:=by
 simp [Lit.wf,IntKind.min,IntKind.max,IntKind.signed,IntKind.bits] at h;unfold Iu;omega
theorem Fh {P:Program} {t:TypeId} (ht:P.underlying t=some (.int .i64)):wo P t (Kd.int .i64) Iu:=by
 intro H enc w base spare held fuel cs x h;obtain ⟨n,h1,h2⟩:=iS ht h;exact ⟨n,h1,wf_i64 h2⟩
theorem BH {P:Program} {t:TypeId} (ht:P.underlying t=some .string):wo P t Kd.string (fun s=>s.size ≤ 9223372036854775807):=by
 intro H enc w base spare held fuel cs x h;obtain ⟨s,rfl,_,hw⟩:=DataW.trod_string ht h;exact ⟨s,rfl,by simpa [maxLen] using hw⟩
theorem bC {α:Type} {p:Nat→α→Prop}:∀ n,(∀ i,i < n→∃ a,p i a)→∃ xs:List α,xs.length=n∧∀ (i:Nat) (a:α),xs[i]? = some a→p i a
 | 0,_=>⟨[],rfl,fun i a h=>by simp at h⟩
 | n + 1,h=>by
  obtain ⟨xs,hl,hx⟩:=bC n (fun i hi=>h i (by omega));obtain ⟨a,ha⟩:=h n (by omega);refine ⟨xs ++ [a],by simp [hl],fun i b hb=>?_⟩
  rcases Nat.lt_or_ge i xs.length with hi|hi
  ·rw [List.getElem?_append_left hi] at hb;exact hx i b hb
  ·have:i=n:=by
    have:=(List.getElem?_eq_some_iff.1 hb).1;simp [hl] at this;omega
   subst this;rw [List.getElem?_append_right hi,hl] at hb;simp at hb;exact hb ▸ ha
theorem Uu {P:Program} {t e e':TypeId} {α:Type} {d:Kd α} {fit:α→Prop} (ht:P.underlying t=some (.slice e)) (hs:P.cellsOf e=d.sz) (h:wo P e d fit):wo P t (Kd.slice e' d) (fun l=>l.length ≤ 9223372036854775807∧∀ a ∈ l,fit a):=by
 intro H enc w base spare held fuel cs x hx
 rcases Go.Deep.open_slice ht hx with ⟨rfl,_⟩|⟨a,len,cap,m,n,D,Pl,rfl,hb,hl,hm,hmm,_,hel⟩
 ·exact ⟨[],⟨none,0,rfl,Nat.le_refl _,rfl,by simp,fun hp=>absurd hp (by simp)⟩,by simp,by simp⟩
 ·have hle:len ≤ m:=by rw [hmm];split <;> omega
  have hmx:len ≤ 9223372036854775807:=by simp only [maxLen] at hm;omega
  obtain ⟨xs,hxl,hxs⟩:=bC (α:=α) (p:=fun i y=>∃ c,c.length=d.sz∧d.K w y c∧(∀ j u,c[j]? = some u→w.cell? (a.add (i * d.sz + j))=some u)∧fit y) len (fun i hi=>by
   obtain ⟨cs',h1,h2⟩:=hel i (by omega);obtain ⟨y,hy,hf⟩:=h h2;obtain ⟨_,tB,My⟩:=World.cells?_some h1;refine ⟨y,cs',by rw [tB,hs],hy,fun j u hu=>?_,hf⟩;have hj:j < P.cellsOf e:=by rw [← tB];exact (List.getElem?_eq_some_iff.1 hu).1
   rw [← hs,← Go.Deep.add_add,My j hj]
   exact hu)
  refine ⟨xs,⟨some a,cap,by rw [hxl],by omega,rfl,by omega,fun _=>⟨a,rfl,fun j p hj=>?_⟩⟩,by omega,fun y hy=>?_⟩
  ·obtain ⟨c,h1,h2,h3,_⟩:=hxs j p hj;exact ⟨c,h1,h2,h3⟩
  ·obtain ⟨i,hi,rfl⟩:=List.getElem_of_mem hy;obtain ⟨c,_,_,_,h4⟩:=hxs i _ (List.getElem?_eq_getElem hi);exact h4
def nK (P:Program) (fs:List Field) (off:Nat) {α:Type} (d:Kd α) (fit:α→Prop):Prop :=
 ∀ {H:Type} {enc:TypeId × Value→H} {w:World} {base:Nat} {spare:Nat→Bool} {held:Bool} {n:Nat} {cs:List Value},
  (∀ f ∈ fs,∃ y,DataW.trod enc P w base spare held n f.type ((cs.drop f.offset).take (P.cellsOf f.type))=some y)→cs.length=off + d.sz→∃ a:α,d.K w a (cs.drop off)∧fit a
theorem uy {P:Program} {f:Field} {off:Nat} {α:Type} {d:Kd α} {fit:α→Prop} (ho:f.offset=off) (hs:P.cellsOf f.type=d.sz) (h:wo P f.type d fit):nK P [f] off d fit:=by
 intro H enc w base spare held n cs hf hl;obtain ⟨y,hy⟩:=hf f (by simp);rw [ho,hs,List.take_of_length_le (by rw [List.length_drop];omega)] at hy;exact h hy
theorem Hg {P:Program} {f:Field} {fs:List Field} {off off2:Nat} {α β:Type} {d:Kd α} {d2:Kd β} {fit:α→Prop} {Fak:β→Prop} (ho:f.offset=off) (hs:P.cellsOf f.type=d.sz) (uZ:off2=off + d.sz) (h:wo P f.type d fit) (h2:nK P fs off2 d2 Fak):nK P (f :: fs) off (Kd.pair d d2) (fun p=>fit p.1∧Fak p.2):=by
 intro H enc w base spare held n cs hf hl;have hl':cs.length=off + (d.sz + d2.sz):=hl;obtain ⟨y,hy⟩:=hf f (by simp);rw [ho,hs] at hy;obtain ⟨a,ha,fa⟩:=h hy;obtain ⟨b,hb,fb⟩:=h2 (fun g hg=>hf g (List.mem_cons_of_mem _ hg)) (by omega);refine ⟨(a,b),⟨(cs.drop off).take d.sz,cs.drop off2,?_,ha,hb⟩,fa,fb⟩;rw [uZ,← List.drop_drop,List.take_append_drop]
theorem Rs {P:Program} {t:TypeId} {fs:Array Field} {α:Type} {d:Kd α} {fit:α→Prop} (ht:P.underlying t=some (.struct fs)) (hs:P.cellsOf t=d.sz) (h:nK P fs.toList 0 d fit):wo P t d fit:=by
 intro H enc w base spare held fuel cs x hx;obtain ⟨xs,n,_,_,hl,hxl,hf⟩:=DataW.trod_struct ht hx
 have:=h (w:=w) (enc:=enc) (base:=base) (spare:=spare) (held:=held) (n:=n) (cs:=cs) (fun f hfm=>by
  obtain ⟨i,hi,rfl⟩:=List.getElem_of_mem hfm;have hi':i < fs.size:=by simpa using hi
  have h1:=hf i (fs.toList[i]) (by simp [hi']);rw [List.getElem?_eq_getElem (by omega)] at h1
  exact ⟨_,h1⟩) (by omega)
 simpa using this
theorem jB {P:Program} {t:TypeId} {α β:Type} {d:Kd α} {fit:α→Prop} {g:β→α} (gi:α→β) (hg:∀ a,g (gi a)=a) (h:wo P t d fit):wo P t (Kd.nY d g) (fun b=>fit (g b)):=by
 intro H enc w base spare held fuel cs x hx;obtain ⟨a,ha,hf⟩:=h hx;refine ⟨gi a,?_,?_⟩
 ·show d.K w (g (gi a)) cs
  rw [hg];exact ha
 ·show fit (g (gi a))
  rw [hg];exact hf
theorem fU {P:Program} {t:TypeId} {fs:Array Field} {α:Type} {d:Kd α} {fit:α→Prop} {r:Reach} {b0:Nat} {H:Type} {enc:TypeId × Value→H} {w:World} {base:Nat} {spare:Nat→Bool} {held:Bool} {v:Value} {dt:DataW H} {p:List MemPlace}
  (ht:P.underlying t=some (.struct fs)) (h:wo P t d fit) (hv:Value.okWide P w r b0 t v) (hd:DataW.Trod enc P w base spare held t v dt p) :
  ∃ (a:α) (cs:Array Value),v = .agg cs∧d.K w a cs.toList∧fit a:=by
 obtain ⟨cs,rfl,hsz⟩:=Go.WideShapes.okWide_struct ht hv;obtain ⟨fuel,hf⟩:=hd;obtain ⟨a,ha,hfa⟩:=h hf;exact ⟨a,cs,rfl,by simpa [Value.cells] using ha,hfa⟩
theorem iZ:wo Try.prog 22 (Kd.slice 3 (Kd.int .i64)) (fun l=>l.length ≤ 9223372036854775807∧∀ a ∈ l,Iu a):=Uu Try.underlying22 (by kernel_rfl) (Fh Try.underlying3)
def RN (x:vo):Prop:=Iu x.f0∧Iu x.f1∧Iu x.f2∧Iu x.f3∧Iu x.f4∧Iu x.f5∧(fun s=>s.size ≤ 9223372036854775807) x.f6
theorem eU:wo Try.prog 124 RE RN:=jB (fun p=>⟨p.1,p.2.1,p.2.2.1,p.2.2.2.1,p.2.2.2.2.1,p.2.2.2.2.2.1,p.2.2.2.2.2.2⟩) (fun _=>rfl) (Rs Try.underlying124 (by kernel_rfl) (Hg rfl (by kernel_rfl) (by kernel_rfl) (Fh Try.underlying3) (Hg rfl (by kernel_rfl) (by kernel_rfl) (Fh Try.underlying3) (Hg rfl (by kernel_rfl) (by kernel_rfl) (Fh Try.underlying3) (Hg rfl (by kernel_rfl) (by kernel_rfl) (Fh Try.underlying3) (Hg rfl (by kernel_rfl) (by kernel_rfl) (Fh Try.underlying3) (Hg rfl (by kernel_rfl) (by kernel_rfl) (Fh Try.underlying3) (uy rfl (by kernel_rfl) (BH Try.underlying9)))))))))
theorem eZ:wo Try.prog 84 (Kd.slice 124 RE) (fun l=>l.length ≤ 9223372036854775807∧∀ a ∈ l,RN a):=Uu Try.underlying84 (by kernel_rfl) eU
def KV (x:Ry):Prop:=(fun l=>l.length ≤ 9223372036854775807∧∀ a ∈ l,RN a) x.f0∧Iu x.f1∧Iu x.f2∧Iu x.f3∧Iu x.f4
theorem dZ:wo Try.prog 86 nU KV:=jB (fun p=>⟨p.1,p.2.1,p.2.2.1,p.2.2.2.1,p.2.2.2.2⟩) (fun _=>rfl) (Rs Try.underlying86 (by kernel_rfl) (Hg rfl (by kernel_rfl) (by kernel_rfl) eZ (Hg rfl (by kernel_rfl) (by kernel_rfl) (Fh Try.underlying3) (Hg rfl (by kernel_rfl) (by kernel_rfl) (Fh Try.underlying3) (Hg rfl (by kernel_rfl) (by kernel_rfl) (Fh Try.underlying3) (uy rfl (by kernel_rfl) (Fh Try.underlying3)))))))
theorem gZ:wo Try.prog 23 (Kd.slice 86 nU) (fun l=>l.length ≤ 9223372036854775807∧∀ a ∈ l,KV a):=Uu Try.underlying23 (by kernel_rfl) dZ
def LV (x:S25):Prop:=(fun l=>l.length ≤ 9223372036854775807∧∀ a ∈ l,Iu a) x.f0∧Iu x.f1∧Iu x.f2∧Iu x.f3∧(fun l=>l.length ≤ 9223372036854775807∧∀ a ∈ l,KV a) x.f4
theorem fZ:wo Try.prog 25 k25 LV:=jB (fun p=>⟨p.1,p.2.1,p.2.2.1,p.2.2.2.1,p.2.2.2.2⟩) (fun _=>rfl) (Rs Try.underlying25 (by kernel_rfl) (Hg rfl (by kernel_rfl) (by kernel_rfl) iZ (Hg rfl (by kernel_rfl) (by kernel_rfl) (Fh Try.underlying3) (Hg rfl (by kernel_rfl) (by kernel_rfl) (Fh Try.underlying3) (Hg rfl (by kernel_rfl) (by kernel_rfl) (Fh Try.underlying3) (uy rfl (by kernel_rfl) gZ))))))
def ye.l0:Nat→List Int→Int→Int→Option (Int × List Int)
 | 0,_,_,_=>none
 | k + 1,x0,x1,x5=>if x5 < (x0.length:Int) then (if 0 ≤ x5 then (ye.l0 k (x0.set (x5:Int).toNat x1) (wrap64 (x1 + 1)) (wrap64 (x5 + 1))) else (none)) else (some (x1,x0))
def ye.f (k:Nat) (l0:List Int) (a1:Int):Option (Int × List Int):=ye.l0 k l0 a1 0
theorem ye.calls (k:Nat) (di:Nat→Prop) (pg:Value) (l0:List Int) (a1:Int) (r1:Int) (r2:List Int) (w0 w:World) (hB:Below w0.heap.size w0 w) (fj:Kd.R (Kd.int .i64) 3 w w0.heap.size di pg l0) (h:ye.f k l0 a1=some (r1,r2)) :
  Calls Try.prog 19 #[pg,.int .i64 a1] w fun e w'=>e = .returned (.int .i64 r1)∧Kd.R (Kd.int .i64) 3 w' w0.heap.size (fun k_=>(di k_ ∨ w.heap.size ≤ k_)) pg r2∧Below w0.heap.size w0 w'∧Kept w w' (fun k_=>di k_):=by
 have bG:=aa.mk (show Kd.R (Kd.int .i64) 3 w w0.heap.size (fun k_=>(di k_ ∨ w.heap.size ≤ k_)) pg l0 from Kd.yc fj (fun k_ hk=>(.inl hk)));have HK:=aa.mk (Kept.refl w (fun k_=>di k_));have HW0:=aa.mk hB.size;have HB:=aa.mk hB;clear hB;have H:(ye.l0 k l0 a1 0)=some (r1,r2):=h;clear h;have H':=aa.mk H;clear H;go_enter Try.func19,Try.ntmps19;go_wp2
 go_loopg [1,5] k (fun kq v1 v5 w'=>∃ (Bd:List Int) (xd:Int) (Ca:Int),v1 = .int .i64 xd∧v5 = .int .i64 Ca∧aa (ye.l0 kq Bd xd Ca=some (r1,r2))∧aa (kq ≤ k)∧aa (Kd.R (Kd.int .i64) 3 w' w0.heap.size (fun k_=>(di k_ ∨ w.heap.size ≤ k_)) pg Bd)∧aa (Kept w w' (fun k_=>di k_))∧aa (Below w0.heap.size w0 w'))
 case atStart=>exact ⟨(l0),(a1),(0),saK,saK,H',⟨Nat.le_refl _⟩,⟨aaL⟩,⟨HaK⟩,⟨raK⟩⟩
 case round =>
  clear H'
  try clear c1
  try clear p2
  (try clear HA);(try clear Vg);(try clear Nd);(try clear HK);(try clear HB);obtain ⟨Bd,xd,Ca,rfl,rfl,HA,Vg,Nd,HK,HB⟩:=hrel;cases gk with
  | zero=>exact absurd HA.out (by simp [ye.l0])
  | succ k1 =>
   have H:=HA.out;clear HA;simp only [ye.l0] at H
   by_cases c3:Ca < (Bd.length:Int)
   ·rw [if_pos c3] at H;have jh:decide (Ca < (Bd.length:Int))=true:=decide_eq_true c3;clear c3
    by_cases c4:0 ≤ Ca
    ·rw [if_pos c4] at H;have mj:decide (0 ≤ Ca)=true:=decide_eq_true c4;clear c4;obtain ⟨Ee,gf⟩:∃ y_:List Int,y_=(Bd.set (Ca:Int).toNat xd):=⟨_,rfl⟩;replace H:(ye.l0 k1 Ee (wrap64 (xd + 1)) (wrap64 (Ca + 1)))=some (r1,r2):=by first|(rw [gf];with_reducible exact H)|(have Ld:=(Option.bind_some _ _).symm.trans H;rw [gf];with_reducible exact Ld)|(have Ld:=(Option.bind_some _ _).symm.trans H;with_reducible exact Ld)|with_reducible exact H|(rw [gf];exact H)|exact H
     have cj:=aa.mk gf;clear gf;have H':=aa.mk H;clear H;obtain ⟨Ao6,A9,eo6⟩:=Kd.Lc Nd.out;subst eo6;have p5:0 ≤ (Ca:Int):=Va;have q5:(Ca:Int) < ((Bd.length:Int):Int):=Va;obtain ⟨Te,YS,dR,r9,gl5,cl5,N_⟩:=Kd.Kn Nd.out (by omega);(first|cases dR|(injection dR with vp YJ ZJ;(first|subst vp|(injection vp with vp;subst vp));subst ZJ;clear YJ));have PO:=aa.mk r9;have GG5:=aa.mk N_;clear r9 gl5 N_;have E_:=aa.mk (show (di Te ∨ w.heap.size ≤ Te) from (Nd.out.1 _ rfl));obtain ⟨C7,M8⟩:=Kd.Br 0 Nd.out (Ca:Int) p5 q5;replace p5:=eq_true p5;replace q5:=eq_true q5;have HP7:=Kd.Sy Nd.out (Ca:Int) xd;go_wp2_with (first|((with_reducible refine Tf (t:=3) (p:=15) rfl ?_);refine uf (t:=3) (p:=15) (v:=?CaB) (w1:=(wr.setCell ⟨Te,(Ca:Int).toNat,none⟩ (.int .i64 xd))) ?hg ?ho ?hn ?hr ?_;(case ho=>rfl);(case hg=>rfl);(case hn=>rfl);(case hr=>exact gaK);intro w8 hw;have hg:wr.grownBy w8 (some Te):=(by rw [hw];exact HP7.2);have zn:Kd.R (Kd.int .i64) 3 w8 w0.heap.size (fun k_=>(di k_ ∨ w.heap.size ≤ k_)) (.slice (some ⟨Te,0,none⟩) Bd.length A9) Ee:=(by rw [hw,cj.out];exact HP7.1);clear HP7;have Bb:=aa.mk (zn);have Db:=aa.mk ((by rw [hw];exact ua (HB.out) PO.out:Below w0.heap.size w0 w8));have Ib:=aa.mk (Kept.Bh (S:=(fun k_=>di k_)) hg waK (fun k_ e_=>(Nd.out.1 k_ e_)));clear Nd HB HK;have Nd:=Bb;have HB:=Db;have HK:=Ib;clear Bb Db Ib hg hw zn))
     go_roundg k1
     case measure=>have:=Vg.out;omega
     case rel=>exact ⟨(Ee),(wrap64 (xd + 1)),(wrap64 (Ca + 1)),saK,saK,H',⟨by have:=Vg.out;omega⟩,⟨PaK⟩,⟨HaK⟩,⟨raK⟩⟩
    ·rw [if_neg c4] at H;exact absurd H (by simp)
   ·rw [if_neg c3] at H;have jh:decide (Ca < (Bd.length:Int))=false:=decide_eq_false c3;clear c3;simp only [Option.some.injEq,Prod.mk.injEq] at H;obtain ⟨rfl,rfl⟩:=H;obtain ⟨Ao9,co9,eo9⟩:=Kd.Lc Nd.out;subst eo9;go_wp2;go_ret;exact ⟨naK,PaK,raK,HaK⟩
def Cd.l0:Nat→List (Zb)→Int→Int→Option (Int × (List (Zb)))
 | 0,_,_,_=>none
 | k + 1,x0,x1,x5=>if x5 < (x0.length:Int) then (if 0 ≤ x5 then ((some (x0.set (x5:Int).toNat (⟨x1,(Wa x0 x5).f1,(Wa x0 x5).f2,(Wa x0 x5).f3,(Wa x0 x5).f4⟩:Zb):List (Zb))).bind fun Ee=>((some (Ee.set (x5:Int).toNat (⟨(Wa Ee x5).f0,wrap64 (x1 + 1),(Wa Ee x5).f2,(Wa Ee x5).f3,(Wa Ee x5).f4⟩:Zb):List (Zb))).bind fun Rc=>((some (Rc.set (x5:Int).toNat (⟨(Wa Rc x5).f0,(Wa Rc x5).f1,wrap64 ((wrap64 (x1 + 1)) + 1),(Wa Rc x5).f3,(Wa Rc x5).f4⟩:Zb):List (Zb))).bind fun Me=>((some (Me.set (x5:Int).toNat (⟨(Wa Me x5).f0,(Wa Me x5).f1,(Wa Me x5).f2,wrap64 ((wrap64 ((wrap64 (x1 + 1)) + 1)) + 1),(Wa Me x5).f4⟩:Zb):List (Zb))).bind fun Md=>(Cd.l0 k (Md.set (x5:Int).toNat (⟨(Wa Md x5).f0,(Wa Md x5).f1,(Wa Md x5).f2,(Wa Md x5).f3,wrap64 ((wrap64 ((wrap64 ((wrap64 (x1 + 1)) + 1)) + 1)) + 1)⟩:Zb)) (wrap64 ((wrap64 ((wrap64 ((wrap64 ((wrap64 (x1 + 1)) + 1)) + 1)) + 1)) + 1)) (wrap64 (x5 + 1))))))) else (none)) else (some (x1,x0))
def Cd.f (k:Nat) (l0:List (Zb)) (a1:Int):Option (Int × (List (Zb))):=Cd.l0 k l0 a1 0
theorem Cd.calls (k:Nat) (di:Nat→Prop) (pg:Value) (l0:List (Zb)) (a1:Int) (r1:Int) (r2:List (Zb)) (w0 w:World) (hB:Below w0.heap.size w0 w) (fj:Kd.R Yg 79 w w0.heap.size di pg l0) (h:Cd.f k l0 a1=some (r1,r2)) :
  Calls Try.prog 68 #[pg,.int .i64 a1] w fun e w'=>e = .returned (.int .i64 r1)∧Kd.R Yg 79 w' w0.heap.size (fun k_=>(di k_ ∨ w.heap.size ≤ k_)) pg r2∧Below w0.heap.size w0 w'∧Kept w w' (fun k_=>di k_):=by
 have bG:=aa.mk (show Kd.R Yg 79 w w0.heap.size (fun k_=>(di k_ ∨ w.heap.size ≤ k_)) pg l0 from Kd.yc fj (fun k_ hk=>(.inl hk)));have HK:=aa.mk (Kept.refl w (fun k_=>di k_));have HW0:=aa.mk hB.size;have HB:=aa.mk hB;clear hB;have H:(Cd.l0 k l0 a1 0)=some (r1,r2):=h;clear h;have H':=aa.mk H;clear H;go_enter Try.func68,Try.ntmps68;go_wp2
 go_loopg [1,5] k (fun kq v1 v5 w'=>∃ (Bd:List (Zb)) (xd:Int) (Ca:Int),v1 = .int .i64 xd∧v5 = .int .i64 Ca∧aa (Cd.l0 kq Bd xd Ca=some (r1,r2))∧aa (kq ≤ k)∧aa (Kd.R Yg 79 w' w0.heap.size (fun k_=>(di k_ ∨ w.heap.size ≤ k_)) pg Bd)∧aa (Kept w w' (fun k_=>di k_))∧aa (Below w0.heap.size w0 w'))
 case atStart=>exact ⟨(l0),(a1),(0),saK,saK,H',⟨Nat.le_refl _⟩,⟨aaL⟩,⟨HaK⟩,⟨raK⟩⟩
 case round =>
  clear H'
  try clear p2
  (try clear HA);(try clear Vg);(try clear Nd);(try clear HK);(try clear HB);obtain ⟨Bd,xd,Ca,rfl,rfl,HA,Vg,Nd,HK,HB⟩:=hrel;cases gk with
  | zero=>exact absurd HA.out (by simp [Cd.l0])
  | succ k1 =>
   have H:=HA.out;clear HA;simp only [Cd.l0] at H
   by_cases c3:Ca < (Bd.length:Int)
   ·rw [if_pos c3] at H;have jh:decide (Ca < (Bd.length:Int))=true:=decide_eq_true c3;clear c3
    by_cases c4:0 ≤ Ca
    ·rw [if_pos c4] at H;have mj:decide (0 ≤ Ca)=true:=decide_eq_true c4;clear c4;obtain ⟨Ee,gf⟩:∃ y_:List (Zb),y_=(Bd.set (Ca:Int).toNat (⟨xd,(Wa Bd Ca).f1,(Wa Bd Ca).f2,(Wa Bd Ca).f3,(Wa Bd Ca).f4⟩:Zb)):=⟨_,rfl⟩;replace H:((some (Ee.set (Ca:Int).toNat (⟨(Wa Ee Ca).f0,wrap64 (xd + 1),(Wa Ee Ca).f2,(Wa Ee Ca).f3,(Wa Ee Ca).f4⟩:Zb):List (Zb))).bind fun Rc=>((some (Rc.set (Ca:Int).toNat (⟨(Wa Rc Ca).f0,(Wa Rc Ca).f1,wrap64 ((wrap64 (xd + 1)) + 1),(Wa Rc Ca).f3,(Wa Rc Ca).f4⟩:Zb):List (Zb))).bind fun Me=>((some (Me.set (Ca:Int).toNat (⟨(Wa Me Ca).f0,(Wa Me Ca).f1,(Wa Me Ca).f2,wrap64 ((wrap64 ((wrap64 (xd + 1)) + 1)) + 1),(Wa Me Ca).f4⟩:Zb):List (Zb))).bind fun Md=>(Cd.l0 k1 (Md.set (Ca:Int).toNat (⟨(Wa Md Ca).f0,(Wa Md Ca).f1,(Wa Md Ca).f2,(Wa Md Ca).f3,wrap64 ((wrap64 ((wrap64 ((wrap64 (xd + 1)) + 1)) + 1)) + 1)⟩:Zb)) (wrap64 ((wrap64 ((wrap64 ((wrap64 ((wrap64 (xd + 1)) + 1)) + 1)) + 1)) + 1)) (wrap64 (Ca + 1))))))=some (r1,r2):=by first|(rw [gf];with_reducible exact H)|(have Ld:=(Option.bind_some _ _).symm.trans H;rw [gf];with_reducible exact Ld)|(have Ld:=(Option.bind_some _ _).symm.trans H;with_reducible exact Ld)|with_reducible exact H|(rw [gf];exact H)|exact H
     have cj:=aa.mk gf;clear gf;obtain ⟨Rc,zg⟩:∃ y_:List (Zb),y_=(Ee.set (Ca:Int).toNat (⟨(Wa Ee Ca).f0,wrap64 (xd + 1),(Wa Ee Ca).f2,(Wa Ee Ca).f3,(Wa Ee Ca).f4⟩:Zb)):=⟨_,rfl⟩;replace H:((some (Rc.set (Ca:Int).toNat (⟨(Wa Rc Ca).f0,(Wa Rc Ca).f1,wrap64 ((wrap64 (xd + 1)) + 1),(Wa Rc Ca).f3,(Wa Rc Ca).f4⟩:Zb):List (Zb))).bind fun Me=>((some (Me.set (Ca:Int).toNat (⟨(Wa Me Ca).f0,(Wa Me Ca).f1,(Wa Me Ca).f2,wrap64 ((wrap64 ((wrap64 (xd + 1)) + 1)) + 1),(Wa Me Ca).f4⟩:Zb):List (Zb))).bind fun Md=>(Cd.l0 k1 (Md.set (Ca:Int).toNat (⟨(Wa Md Ca).f0,(Wa Md Ca).f1,(Wa Md Ca).f2,(Wa Md Ca).f3,wrap64 ((wrap64 ((wrap64 ((wrap64 (xd + 1)) + 1)) + 1)) + 1)⟩:Zb)) (wrap64 ((wrap64 ((wrap64 ((wrap64 ((wrap64 (xd + 1)) + 1)) + 1)) + 1)) + 1)) (wrap64 (Ca + 1)))))=some (r1,r2):=by first|(rw [zg];with_reducible exact H)|(have Ld:=(Option.bind_some _ _).symm.trans H;rw [zg];with_reducible exact Ld)|(have Ld:=(Option.bind_some _ _).symm.trans H;with_reducible exact Ld)|with_reducible exact H|(rw [zg];exact H)|exact H
     have Qh:=aa.mk zg;clear zg;obtain ⟨Me,mo⟩:∃ y_:List (Zb),y_=(Rc.set (Ca:Int).toNat (⟨(Wa Rc Ca).f0,(Wa Rc Ca).f1,wrap64 ((wrap64 (xd + 1)) + 1),(Wa Rc Ca).f3,(Wa Rc Ca).f4⟩:Zb)):=⟨_,rfl⟩;replace H:((some (Me.set (Ca:Int).toNat (⟨(Wa Me Ca).f0,(Wa Me Ca).f1,(Wa Me Ca).f2,wrap64 ((wrap64 ((wrap64 (xd + 1)) + 1)) + 1),(Wa Me Ca).f4⟩:Zb):List (Zb))).bind fun Md=>(Cd.l0 k1 (Md.set (Ca:Int).toNat (⟨(Wa Md Ca).f0,(Wa Md Ca).f1,(Wa Md Ca).f2,(Wa Md Ca).f3,wrap64 ((wrap64 ((wrap64 ((wrap64 (xd + 1)) + 1)) + 1)) + 1)⟩:Zb)) (wrap64 ((wrap64 ((wrap64 ((wrap64 ((wrap64 (xd + 1)) + 1)) + 1)) + 1)) + 1)) (wrap64 (Ca + 1))))=some (r1,r2):=by first|(rw [mo];with_reducible exact H)|(have Ld:=(Option.bind_some _ _).symm.trans H;rw [mo];with_reducible exact Ld)|(have Ld:=(Option.bind_some _ _).symm.trans H;with_reducible exact Ld)|with_reducible exact H|(rw [mo];exact H)|exact H
     have zM:=aa.mk mo;clear mo;obtain ⟨Md,gl⟩:∃ y_:List (Zb),y_=(Me.set (Ca:Int).toNat (⟨(Wa Me Ca).f0,(Wa Me Ca).f1,(Wa Me Ca).f2,wrap64 ((wrap64 ((wrap64 (xd + 1)) + 1)) + 1),(Wa Me Ca).f4⟩:Zb)):=⟨_,rfl⟩;replace H:(Cd.l0 k1 (Md.set (Ca:Int).toNat (⟨(Wa Md Ca).f0,(Wa Md Ca).f1,(Wa Md Ca).f2,(Wa Md Ca).f3,wrap64 ((wrap64 ((wrap64 ((wrap64 (xd + 1)) + 1)) + 1)) + 1)⟩:Zb)) (wrap64 ((wrap64 ((wrap64 ((wrap64 ((wrap64 (xd + 1)) + 1)) + 1)) + 1)) + 1)) (wrap64 (Ca + 1)))=some (r1,r2):=by first|(rw [gl];with_reducible exact H)|(have Ld:=(Option.bind_some _ _).symm.trans H;rw [gl];with_reducible exact Ld)|(have Ld:=(Option.bind_some _ _).symm.trans H;with_reducible exact Ld)|with_reducible exact H|(rw [gl];exact H)|exact H
     have Rv:=aa.mk gl;clear gl;obtain ⟨He,cg⟩:∃ y_:List (Zb),y_=(Md.set (Ca:Int).toNat (⟨(Wa Md Ca).f0,(Wa Md Ca).f1,(Wa Md Ca).f2,(Wa Md Ca).f3,wrap64 ((wrap64 ((wrap64 ((wrap64 (xd + 1)) + 1)) + 1)) + 1)⟩:Zb)):=⟨_,rfl⟩;replace H:(Cd.l0 k1 He (wrap64 ((wrap64 ((wrap64 ((wrap64 ((wrap64 (xd + 1)) + 1)) + 1)) + 1)) + 1)) (wrap64 (Ca + 1)))=some (r1,r2):=by first|(rw [cg];with_reducible exact H)|(have Ld:=(Option.bind_some _ _).symm.trans H;rw [cg];with_reducible exact Ld)|(have Ld:=(Option.bind_some _ _).symm.trans H;with_reducible exact Ld)|with_reducible exact H|(rw [cg];exact H)|exact H
     have cm:=aa.mk cg;clear cg;have H':=aa.mk H;clear H;obtain ⟨JM,xp,XJ⟩:=Kd.Lc Nd.out;subst XJ;have p5:0 ≤ (Ca:Int):=Va;have q5:(Ca:Int) < ((Bd.length:Int):Int):=Va;obtain ⟨Te,YS,dR,r9,gl5,cl5,N_⟩:=Kd.Kn Nd.out (by omega);(first|cases dR|(injection dR with vp YJ ZJ;(first|subst vp|(injection vp with vp;subst vp));subst ZJ;clear YJ));have PO:=aa.mk r9;have GG5:=aa.mk N_;clear r9 gl5 N_;have E_:=aa.mk (show (di Te ∨ w.heap.size ≤ Te) from (Nd.out.1 _ rfl));obtain ⟨ce5,aac,hM5,Ly,Fy⟩:=Kd.Xg Nd.out PK (Ca:Int) p5 q5;obtain rfl:=Wh hM5;have C7:wr.cell? ⟨Te,(Ca:Int).toNat * 5,none⟩=some (.int .i64 ((Wa Bd Ca).f0)):=Ly 0 _ rfl;have Laf:wr.cell? ⟨Te,(Ca:Int).toNat * 5 + 1,none⟩=some (.int .i64 ((Wa Bd Ca).f1)):=Ly 1 _ rfl;have Kaf:wr.cell? ⟨Te,(Ca:Int).toNat * 5 + 2,none⟩=some (.int .i64 ((Wa Bd Ca).f2)):=Ly 2 _ rfl;have Jaf:wr.cell? ⟨Te,(Ca:Int).toNat * 5 + 3,none⟩=some (.int .i64 ((Wa Bd Ca).f3)):=Ly 3 _ rfl;have Iaf:wr.cell? ⟨Te,(Ca:Int).toNat * 5 + 4,none⟩=some (.int .i64 ((Wa Bd Ca).f4)):=Ly 4 _ rfl;have M8:wr.frozen? ⟨Te,(Ca:Int).toNat * 5,none⟩=false:=Fy 0;have Bai:wr.frozen? ⟨Te,(Ca:Int).toNat * 5 + 1,none⟩=false:=Fy 1;have Aai:wr.frozen? ⟨Te,(Ca:Int).toNat * 5 + 2,none⟩=false:=Fy 2;have zai:wr.frozen? ⟨Te,(Ca:Int).toNat * 5 + 3,none⟩=false:=Fy 3;have yai:wr.frozen? ⟨Te,(Ca:Int).toNat * 5 + 4,none⟩=false:=Fy 4;clear aac Ly Fy hM5;replace p5:=eq_true p5;replace q5:=eq_true q5;have Dam:=aa.mk (show Kd.R Yg 79 wr w0.heap.size (fun k_=>(di k_ ∨ w.heap.size ≤ k_)) (.slice (some ⟨Te,0,none⟩) Bd.length xp) Bd from BaK);obtain ⟨KaH,b9,vak,EV,K8⟩:=Kd.Xg Dam.out PK (Ca:Int) (Va) (by have h_:(Ca:Int) < ((Bd.length:Int):Int):=Va;first|exact h_|(have e_:=(Kd.Jb Nd.out).1;omega)|simpa using h_);obtain rfl:=Wh vak;have Oad:=Kd.Jo Dam.out (Ca:Int) (Va) (by have h_:(Ca:Int) < ((Bd.length:Int):Int):=Va;first|exact h_|(have e_:=(Kd.Jb Nd.out).1;omega)|simpa using h_) (seg:=[.int .i64 xd]) (j:=0) b9 EV (show 1 ≤ 5 from by decide) (x':=(⟨xd,(Wa Bd Ca).f1,(Wa Bd Ca).f2,(Wa Bd Ca).f3,(Wa Bd Ca).f4⟩:Zb)) (af _ _ _ (⟨xd,(Wa Bd Ca).f1,(Wa Bd Ca).f2,(Wa Bd Ca).f3,(Wa Bd Ca).f4⟩:Zb) ) (fun _ hk=>hk);have bI:=EV 0 _ rfl;(try simp only [show (Yg).sz=5 from rfl,Nat.mul_one,Nat.add_zero] at bI);have iV:=K8 0;(try simp only [show (Yg).sz=5 from rfl,Nat.mul_one,Nat.add_zero] at iV);clear b9 EV K8 vak;go_wp2_with (first|((with_reducible refine Tf (t:=3) (p:=16) rfl ?_);refine uf (t:=3) (p:=16) (v:=?hax) (w1:=(wr.setCell ⟨Te,(Ca:Int).toNat * 5,none⟩ (.int .i64 xd))) ?hg ?ho ?hn ?hr ?_;(case ho=>rfl);(case hg=>rfl);(case hn=>rfl);(case hr=>exact gaK);intro Ao hw;have hg:wr.grownBy Ao (some Te):=(by rw [hw];exact Oad.2);have zn:Kd.R Yg 79 Ao w0.heap.size (fun k_=>(di k_ ∨ w.heap.size ≤ k_)) (.slice (some ⟨Te,0,none⟩) Bd.length xp) Ee:=(by rw [hw,cj.out];exact Oad.1);clear Oad;have Bb:=aa.mk (zn);have Db:=aa.mk ((by rw [hw];exact ua (HB.out) PO.out:Below w0.heap.size w0 Ao));have Ib:=aa.mk (Kept.Bh (S:=(fun k_=>di k_)) hg waK (fun k_ e_=>(Nd.out.1 k_ e_)));clear Nd HB HK;have Nd:=Bb;have HB:=Db;have HK:=Ib;clear Bb Db Ib hg hw zn;have p6:0 ≤ (Ca:Int):=Va;have q6:(Ca:Int) < ((Bd.length:Int):Int):=Va;obtain ⟨ce6,Zab,hM6,Ky,Ey⟩:=Kd.Xg Nd.out PK (Ca:Int) p6 q6;obtain rfl:=Wh hM6;have Haf:Ao.cell? ⟨Te,(Ca:Int).toNat * 5,none⟩=some (.int .i64 ((Wa Ee Ca).f0)):=Ky 0 _ rfl;have Gaf:Ao.cell? ⟨Te,(Ca:Int).toNat * 5 + 1,none⟩=some (.int .i64 ((Wa Ee Ca).f1)):=Ky 1 _ rfl;have Faf:Ao.cell? ⟨Te,(Ca:Int).toNat * 5 + 2,none⟩=some (.int .i64 ((Wa Ee Ca).f2)):=Ky 2 _ rfl;have Eaf:Ao.cell? ⟨Te,(Ca:Int).toNat * 5 + 3,none⟩=some (.int .i64 ((Wa Ee Ca).f3)):=Ky 3 _ rfl;have Daf:Ao.cell? ⟨Te,(Ca:Int).toNat * 5 + 4,none⟩=some (.int .i64 ((Wa Ee Ca).f4)):=Ky 4 _ rfl;have xai:Ao.frozen? ⟨Te,(Ca:Int).toNat * 5,none⟩=false:=Ey 0;have wai:Ao.frozen? ⟨Te,(Ca:Int).toNat * 5 + 1,none⟩=false:=Ey 1;have vai:Ao.frozen? ⟨Te,(Ca:Int).toNat * 5 + 2,none⟩=false:=Ey 2;have uai:Ao.frozen? ⟨Te,(Ca:Int).toNat * 5 + 3,none⟩=false:=Ey 3;have tai:Ao.frozen? ⟨Te,(Ca:Int).toNat * 5 + 4,none⟩=false:=Ey 4;clear Zab Ky Ey hM6;replace p6:=eq_true p6;replace q6:=eq_true q6;have Cam:=aa.mk (show Kd.R Yg 79 Ao w0.heap.size (fun k_=>(di k_ ∨ w.heap.size ≤ k_)) (.slice (some ⟨Te,0,none⟩) Bd.length xp) Ee from BaK);obtain ⟨JaH,Z8,uak,DV,J8⟩:=Kd.Xg Cam.out PK (Ca:Int) (Va) (by have h_:(Ca:Int) < ((Bd.length:Int):Int):=Va;first|exact h_|(have e_:=(Kd.Jb Nd.out).1;omega)|simpa using h_);obtain rfl:=Wh uak;have Nad:=Kd.Jo Cam.out (Ca:Int) (Va) (by have h_:(Ca:Int) < ((Bd.length:Int):Int):=Va;first|exact h_|(have e_:=(Kd.Jb Nd.out).1;omega)|simpa using h_) (seg:=[.int .i64 (wrap64 (xd + 1))]) (j:=1) Z8 DV (show 2 ≤ 5 from by decide) (x':=(⟨(Wa Ee Ca).f0,wrap64 (xd + 1),(Wa Ee Ca).f2,(Wa Ee Ca).f3,(Wa Ee Ca).f4⟩:Zb)) (af _ _ _ (⟨(Wa Ee Ca).f0,wrap64 (xd + 1),(Wa Ee Ca).f2,(Wa Ee Ca).f3,(Wa Ee Ca).f4⟩:Zb) ) (fun _ hk=>hk);have Xaa:=DV 1 _ rfl;(try simp only [show (Yg).sz=5 from rfl,Nat.mul_one,Nat.add_zero] at Xaa);have Kab:=J8 1;(try simp only [show (Yg).sz=5 from rfl,Nat.mul_one,Nat.add_zero] at Kab);clear Z8 DV J8 uak)|((with_reducible refine Tf (t:=3) (p:=23) rfl ?_);refine uf (t:=3) (p:=23) (v:=?gax) (w1:=(Ao.setCell ⟨Te,(Ca:Int).toNat * 5 + 1,none⟩ (.int .i64 (wrap64 (xd + 1))))) ?hg ?ho ?hn ?hr ?_;(case ho=>rfl);(case hg=>rfl);(case hn=>rfl);(case hr=>exact gaK);intro Ol hw;have hg:Ao.grownBy Ol (some Te):=(by rw [hw];exact Nad.2);have zn:Kd.R Yg 79 Ol w0.heap.size (fun k_=>(di k_ ∨ w.heap.size ≤ k_)) (.slice (some ⟨Te,0,none⟩) Bd.length xp) Rc:=(by rw [hw,Qh.out];exact Nad.1);clear Nad;have Bb:=aa.mk (zn);have Db:=aa.mk ((by rw [hw];exact ua (HB.out) PO.out:Below w0.heap.size w0 Ol));have Ib:=aa.mk (Kept.Bh (S:=(fun k_=>di k_)) hg waK (fun k_ e_=>(Nd.out.1 k_ e_)));clear Nd HB HK;have Nd:=Bb;have HB:=Db;have HK:=Ib;clear Bb Db Ib hg hw zn;have p7:0 ≤ (Ca:Int):=Va;have q7:(Ca:Int) < ((Bd.length:Int):Int):=Va;obtain ⟨ce7,Yab,hM7,Jy,Dy⟩:=Kd.Xg Nd.out PK (Ca:Int) p7 q7;obtain rfl:=Wh hM7;have Caf:Ol.cell? ⟨Te,(Ca:Int).toNat * 5,none⟩=some (.int .i64 ((Wa Rc Ca).f0)):=Jy 0 _ rfl;have Baf:Ol.cell? ⟨Te,(Ca:Int).toNat * 5 + 1,none⟩=some (.int .i64 ((Wa Rc Ca).f1)):=Jy 1 _ rfl;have Aaf:Ol.cell? ⟨Te,(Ca:Int).toNat * 5 + 2,none⟩=some (.int .i64 ((Wa Rc Ca).f2)):=Jy 2 _ rfl;have zaf:Ol.cell? ⟨Te,(Ca:Int).toNat * 5 + 3,none⟩=some (.int .i64 ((Wa Rc Ca).f3)):=Jy 3 _ rfl;have yaf:Ol.cell? ⟨Te,(Ca:Int).toNat * 5 + 4,none⟩=some (.int .i64 ((Wa Rc Ca).f4)):=Jy 4 _ rfl;have sai:Ol.frozen? ⟨Te,(Ca:Int).toNat * 5,none⟩=false:=Dy 0;have rai:Ol.frozen? ⟨Te,(Ca:Int).toNat * 5 + 1,none⟩=false:=Dy 1;have qai:Ol.frozen? ⟨Te,(Ca:Int).toNat * 5 + 2,none⟩=false:=Dy 2;have pai:Ol.frozen? ⟨Te,(Ca:Int).toNat * 5 + 3,none⟩=false:=Dy 3;have oai:Ol.frozen? ⟨Te,(Ca:Int).toNat * 5 + 4,none⟩=false:=Dy 4;clear Yab Jy Dy hM7;replace p7:=eq_true p7;replace q7:=eq_true q7;have Aam:=aa.mk (show Kd.R Yg 79 Ol w0.heap.size (fun k_=>(di k_ ∨ w.heap.size ≤ k_)) (.slice (some ⟨Te,0,none⟩) Bd.length xp) Rc from BaK);obtain ⟨HaH,X8,sak,BV,G8⟩:=Kd.Xg Aam.out PK (Ca:Int) (Va) (by have h_:(Ca:Int) < ((Bd.length:Int):Int):=Va;first|exact h_|(have e_:=(Kd.Jb Nd.out).1;omega)|simpa using h_);obtain rfl:=Wh sak;have Lad:=Kd.Jo Aam.out (Ca:Int) (Va) (by have h_:(Ca:Int) < ((Bd.length:Int):Int):=Va;first|exact h_|(have e_:=(Kd.Jb Nd.out).1;omega)|simpa using h_) (seg:=[.int .i64 (wrap64 ((wrap64 (xd + 1)) + 1))]) (j:=2) X8 BV (show 3 ≤ 5 from by decide) (x':=(⟨(Wa Rc Ca).f0,(Wa Rc Ca).f1,wrap64 ((wrap64 (xd + 1)) + 1),(Wa Rc Ca).f3,(Wa Rc Ca).f4⟩:Zb)) (af _ _ _ (⟨(Wa Rc Ca).f0,(Wa Rc Ca).f1,wrap64 ((wrap64 (xd + 1)) + 1),(Wa Rc Ca).f3,(Wa Rc Ca).f4⟩:Zb) ) (fun _ hk=>hk);have Vaa:=BV 2 _ rfl;(try simp only [show (Yg).sz=5 from rfl,Nat.mul_one,Nat.add_zero] at Vaa);have Iab:=G8 2;(try simp only [show (Yg).sz=5 from rfl,Nat.mul_one,Nat.add_zero] at Iab);clear X8 BV G8 sak)|((with_reducible refine Tf (t:=3) (p:=30) rfl ?_);refine uf (t:=3) (p:=30) (v:=?eax) (w1:=(Ol.setCell ⟨Te,(Ca:Int).toNat * 5 + 2,none⟩ (.int .i64 (wrap64 ((wrap64 (xd + 1)) + 1))))) ?hg ?ho ?hn ?hr ?_;(case ho=>rfl);(case hg=>rfl);(case hn=>rfl);(case hr=>exact gaK);intro um hw;have hg:Ol.grownBy um (some Te):=(by rw [hw];exact Lad.2);have zn:Kd.R Yg 79 um w0.heap.size (fun k_=>(di k_ ∨ w.heap.size ≤ k_)) (.slice (some ⟨Te,0,none⟩) Bd.length xp) Me:=(by rw [hw,zM.out];exact Lad.1);clear Lad;have Bb:=aa.mk (zn);have Db:=aa.mk ((by rw [hw];exact ua (HB.out) PO.out:Below w0.heap.size w0 um));have Ib:=aa.mk (Kept.Bh (S:=(fun k_=>di k_)) hg waK (fun k_ e_=>(Nd.out.1 k_ e_)));clear Nd HB HK;have Nd:=Bb;have HB:=Db;have HK:=Ib;clear Bb Db Ib hg hw zn;have p8:0 ≤ (Ca:Int):=Va;have q8:(Ca:Int) < ((Bd.length:Int):Int):=Va;obtain ⟨ce8,Xab,hM8,Iy,Cy⟩:=Kd.Xg Nd.out PK (Ca:Int) p8 q8;obtain rfl:=Wh hM8;have xaf:um.cell? ⟨Te,(Ca:Int).toNat * 5,none⟩=some (.int .i64 ((Wa Me Ca).f0)):=Iy 0 _ rfl;have waf:um.cell? ⟨Te,(Ca:Int).toNat * 5 + 1,none⟩=some (.int .i64 ((Wa Me Ca).f1)):=Iy 1 _ rfl;have vaf:um.cell? ⟨Te,(Ca:Int).toNat * 5 + 2,none⟩=some (.int .i64 ((Wa Me Ca).f2)):=Iy 2 _ rfl;have uaf:um.cell? ⟨Te,(Ca:Int).toNat * 5 + 3,none⟩=some (.int .i64 ((Wa Me Ca).f3)):=Iy 3 _ rfl;have taf:um.cell? ⟨Te,(Ca:Int).toNat * 5 + 4,none⟩=some (.int .i64 ((Wa Me Ca).f4)):=Iy 4 _ rfl;have nai:um.frozen? ⟨Te,(Ca:Int).toNat * 5,none⟩=false:=Cy 0;have mai:um.frozen? ⟨Te,(Ca:Int).toNat * 5 + 1,none⟩=false:=Cy 1;have lai:um.frozen? ⟨Te,(Ca:Int).toNat * 5 + 2,none⟩=false:=Cy 2;have kai:um.frozen? ⟨Te,(Ca:Int).toNat * 5 + 3,none⟩=false:=Cy 3;have jai:um.frozen? ⟨Te,(Ca:Int).toNat * 5 + 4,none⟩=false:=Cy 4;clear Xab Iy Cy hM8;replace p8:=eq_true p8;replace q8:=eq_true q8;have kT:=aa.mk (show Kd.R Yg 79 um w0.heap.size (fun k_=>(di k_ ∨ w.heap.size ≤ k_)) (.slice (some ⟨Te,0,none⟩) Bd.length xp) Me from BaK);obtain ⟨FaH,V8,qak,zV,E8⟩:=Kd.Xg kT.out PK (Ca:Int) (Va) (by have h_:(Ca:Int) < ((Bd.length:Int):Int):=Va;first|exact h_|(have e_:=(Kd.Jb Nd.out).1;omega)|simpa using h_);obtain rfl:=Wh qak;have Jad:=Kd.Jo kT.out (Ca:Int) (Va) (by have h_:(Ca:Int) < ((Bd.length:Int):Int):=Va;first|exact h_|(have e_:=(Kd.Jb Nd.out).1;omega)|simpa using h_) (seg:=[.int .i64 (wrap64 ((wrap64 ((wrap64 (xd + 1)) + 1)) + 1))]) (j:=3) V8 zV (show 4 ≤ 5 from by decide) (x':=(⟨(Wa Me Ca).f0,(Wa Me Ca).f1,(Wa Me Ca).f2,wrap64 ((wrap64 ((wrap64 (xd + 1)) + 1)) + 1),(Wa Me Ca).f4⟩:Zb)) (af _ _ _ (⟨(Wa Me Ca).f0,(Wa Me Ca).f1,(Wa Me Ca).f2,wrap64 ((wrap64 ((wrap64 (xd + 1)) + 1)) + 1),(Wa Me Ca).f4⟩:Zb) ) (fun _ hk=>hk);have Taa:=zV 3 _ rfl;(try simp only [show (Yg).sz=5 from rfl,Nat.mul_one,Nat.add_zero] at Taa);have Gab:=E8 3;(try simp only [show (Yg).sz=5 from rfl,Nat.mul_one,Nat.add_zero] at Gab);clear V8 zV E8 qak)|((with_reducible refine Tf (t:=3) (p:=37) rfl ?_);refine uf (t:=3) (p:=37) (v:=?cax) (w1:=(um.setCell ⟨Te,(Ca:Int).toNat * 5 + 3,none⟩ (.int .i64 (wrap64 ((wrap64 ((wrap64 (xd + 1)) + 1)) + 1))))) ?hg ?ho ?hn ?hr ?_;(case ho=>rfl);(case hg=>rfl);(case hn=>rfl);(case hr=>exact gaK);intro Tx hw;have hg:um.grownBy Tx (some Te):=(by rw [hw];exact Jad.2);have zn:Kd.R Yg 79 Tx w0.heap.size (fun k_=>(di k_ ∨ w.heap.size ≤ k_)) (.slice (some ⟨Te,0,none⟩) Bd.length xp) Md:=(by rw [hw,Rv.out];exact Jad.1);clear Jad;have Bb:=aa.mk (zn);have Db:=aa.mk ((by rw [hw];exact ua (HB.out) PO.out:Below w0.heap.size w0 Tx));have Ib:=aa.mk (Kept.Bh (S:=(fun k_=>di k_)) hg waK (fun k_ e_=>(Nd.out.1 k_ e_)));clear Nd HB HK;have Nd:=Bb;have HB:=Db;have HK:=Ib;clear Bb Db Ib hg hw zn;have p9:0 ≤ (Ca:Int):=Va;have q9:(Ca:Int) < ((Bd.length:Int):Int):=Va;obtain ⟨ce9,Wab,hM9,Hy,zy⟩:=Kd.Xg Nd.out PK (Ca:Int) p9 q9;obtain rfl:=Wh hM9;have y7:Tx.cell? ⟨Te,(Ca:Int).toNat * 5,none⟩=some (.int .i64 ((Wa Md Ca).f0)):=Hy 0 _ rfl;have saf:Tx.cell? ⟨Te,(Ca:Int).toNat * 5 + 1,none⟩=some (.int .i64 ((Wa Md Ca).f1)):=Hy 1 _ rfl;have raf:Tx.cell? ⟨Te,(Ca:Int).toNat * 5 + 2,none⟩=some (.int .i64 ((Wa Md Ca).f2)):=Hy 2 _ rfl;have qaf:Tx.cell? ⟨Te,(Ca:Int).toNat * 5 + 3,none⟩=some (.int .i64 ((Wa Md Ca).f3)):=Hy 3 _ rfl;have paf:Tx.cell? ⟨Te,(Ca:Int).toNat * 5 + 4,none⟩=some (.int .i64 ((Wa Md Ca).f4)):=Hy 4 _ rfl;have L8:Tx.frozen? ⟨Te,(Ca:Int).toNat * 5,none⟩=false:=zy 0;have iai:Tx.frozen? ⟨Te,(Ca:Int).toNat * 5 + 1,none⟩=false:=zy 1;have hai:Tx.frozen? ⟨Te,(Ca:Int).toNat * 5 + 2,none⟩=false:=zy 2;have gai:Tx.frozen? ⟨Te,(Ca:Int).toNat * 5 + 3,none⟩=false:=zy 3;have fai:Tx.frozen? ⟨Te,(Ca:Int).toNat * 5 + 4,none⟩=false:=zy 4;clear Wab Hy zy hM9;replace p9:=eq_true p9;replace q9:=eq_true q9;have xam:=aa.mk (show Kd.R Yg 79 Tx w0.heap.size (fun k_=>(di k_ ∨ w.heap.size ≤ k_)) (.slice (some ⟨Te,0,none⟩) Bd.length xp) Md from BaK);obtain ⟨DaH,T8,oak,xV,C8⟩:=Kd.Xg xam.out PK (Ca:Int) (Va) (by have h_:(Ca:Int) < ((Bd.length:Int):Int):=Va;first|exact h_|(have e_:=(Kd.Jb Nd.out).1;omega)|simpa using h_);obtain rfl:=Wh oak;have Had:=Kd.Jo xam.out (Ca:Int) (Va) (by have h_:(Ca:Int) < ((Bd.length:Int):Int):=Va;first|exact h_|(have e_:=(Kd.Jb Nd.out).1;omega)|simpa using h_) (seg:=[.int .i64 (wrap64 ((wrap64 ((wrap64 ((wrap64 (xd + 1)) + 1)) + 1)) + 1))]) (j:=4) T8 xV (show 5 ≤ 5 from by decide) (x':=(⟨(Wa Md Ca).f0,(Wa Md Ca).f1,(Wa Md Ca).f2,(Wa Md Ca).f3,wrap64 ((wrap64 ((wrap64 ((wrap64 (xd + 1)) + 1)) + 1)) + 1)⟩:Zb)) (af _ _ _ (⟨(Wa Md Ca).f0,(Wa Md Ca).f1,(Wa Md Ca).f2,(Wa Md Ca).f3,wrap64 ((wrap64 ((wrap64 ((wrap64 (xd + 1)) + 1)) + 1)) + 1)⟩:Zb) ) (fun _ hk=>hk);have Raa:=xV 4 _ rfl;(try simp only [show (Yg).sz=5 from rfl,Nat.mul_one,Nat.add_zero] at Raa);have Eab:=C8 4;(try simp only [show (Yg).sz=5 from rfl,Nat.mul_one,Nat.add_zero] at Eab);clear T8 xV C8 oak)|((with_reducible refine Tf (t:=3) (p:=44) rfl ?_);refine uf (t:=3) (p:=44) (v:=?aax) (w1:=(Tx.setCell ⟨Te,(Ca:Int).toNat * 5 + 4,none⟩ (.int .i64 (wrap64 ((wrap64 ((wrap64 ((wrap64 (xd + 1)) + 1)) + 1)) + 1))))) ?hg ?ho ?hn ?hr ?_;(case ho=>rfl);(case hg=>rfl);(case hn=>rfl);(case hr=>exact gaK);intro Y6 hw;have hg:Tx.grownBy Y6 (some Te):=(by rw [hw];exact Had.2);have zn:Kd.R Yg 79 Y6 w0.heap.size (fun k_=>(di k_ ∨ w.heap.size ≤ k_)) (.slice (some ⟨Te,0,none⟩) Bd.length xp) He:=(by rw [hw,cm.out];exact Had.1);clear Had;have Bb:=aa.mk (zn);have Db:=aa.mk ((by rw [hw];exact ua (HB.out) PO.out:Below w0.heap.size w0 Y6));have Ib:=aa.mk (Kept.Bh (S:=(fun k_=>di k_)) hg waK (fun k_ e_=>(Nd.out.1 k_ e_)));clear Nd HB HK;have Nd:=Bb;have HB:=Db;have HK:=Ib;clear Bb Db Ib hg hw zn))
     go_roundg k1
     case measure=>have:=Vg.out;omega
     case rel=>exact ⟨(He),(wrap64 ((wrap64 ((wrap64 ((wrap64 ((wrap64 (xd + 1)) + 1)) + 1)) + 1)) + 1)),(wrap64 (Ca + 1)),saK,saK,H',⟨by have:=Vg.out;omega⟩,⟨PaK⟩,⟨HaK⟩,⟨raK⟩⟩
    ·rw [if_neg c4] at H;exact absurd H (by simp)
   ·rw [if_neg c3] at H;have jh:decide (Ca < (Bd.length:Int))=false:=decide_eq_false c3;clear c3;simp only [Option.some.injEq,Prod.mk.injEq] at H;obtain ⟨rfl,rfl⟩:=H;obtain ⟨TaI,naH,Daz⟩:=Kd.Lc Nd.out;subst Daz;go_wp2;go_ret;exact ⟨naK,PaK,raK,HaK⟩
def yj.f (k:Nat) (Ua:List Int) (Pa:Int) (Ra:Int) (Yf:List (Zb)) (a1:Int):Option (Int × List Int × (List (Zb))):=(ye.f k Ua a1).bind fun jM=>((Cd.f k Yf jM.1).bind fun kC=>(some (kC.1,jM.2,kC.2)))
theorem yj.calls (k:Nat) (gn:Nat→Prop) (pg:Value) (Ua:List Int) (Pa:Int) (Ra:Int) (Es:Nat→Prop) (Qu:Value) (Yf:List (Zb)) (a1:Int) (r1:Int) (r2:List Int) (r3:List (Zb)) (w0 w:World) (hB:Below w0.heap.size w0 w) (LL:Kd.R (Kd.int .i64) 3 w w0.heap.size gn pg Ua) (Vaf:Kd.R Yg 79 w w0.heap.size Es Qu Yf) (h:yj.f k Ua Pa Ra Yf a1=some (r1,r2,r3)) :
  Calls Try.prog 36 #[.agg #[pg,.int .i64 Pa,.int .i64 Ra,Qu],.int .i64 a1] w fun e w'=>e = .returned (.int .i64 r1)∧Kd.R (Kd.int .i64) 3 w' w0.heap.size (fun k_=>((gn k_ ∨ Es k_) ∨ w.heap.size ≤ k_)) pg r2∧Kd.R Yg 79 w' w0.heap.size (fun k_=>((gn k_ ∨ Es k_) ∨ w.heap.size ≤ k_)) Qu r3∧Below w0.heap.size w0 w'∧Kept w w' (fun k_=>gn k_ ∨ Es k_):=by
 have rZ:=Try.underlying49;have Pp:=aa.mk (show Kd.R (Kd.int .i64) 3 w w0.heap.size (fun k_=>((gn k_ ∨ Es k_) ∨ w.heap.size ≤ k_)) pg Ua from Kd.yc LL (fun k_ hk=>(.inl (.inl hk))));have Np:=aa.mk (show Kd.R Yg 79 w w0.heap.size (fun k_=>((gn k_ ∨ Es k_) ∨ w.heap.size ≤ k_)) Qu Yf from Kd.yc Vaf (fun k_ hk=>(.inl (.inr hk))));have HK:=aa.mk (Kept.refl w (fun k_=>gn k_ ∨ Es k_));have HW0:=aa.mk hB.size;have HB:=aa.mk hB;clear hB;have H:((ye.f k Ua a1).bind fun jM=>((Cd.f k Yf jM.1).bind fun kC=>(some (kC.1,jM.2,kC.2))))=some (r1,r2,r3):=h;clear h;replace H:=Option.bind_eq_some_iff.mp H;obtain ⟨⟨t102,t103⟩,Qx,H⟩:=H;replace H:((Cd.f k Yf t102).bind fun kC=>(some (kC.1,t103,kC.2)))=some (r1,r2,r3):=H;have A3:=aa.mk Qx;clear Qx;replace H:=Option.bind_eq_some_iff.mp H;obtain ⟨⟨t104,t105⟩,bY,H⟩:=H;replace H:(some (t104,t103,t105))=some (r1,r2,r3):=H;have A4:=aa.mk bY;clear bY;simp only [Option.some.injEq,Prod.mk.injEq] at H;obtain ⟨rfl,rfl,rfl⟩:=H;obtain ⟨AY,YS,dR⟩:=Kd.Lc Pp.out;subst dR;obtain ⟨Ao6,A9,eo6⟩:=Kd.Lc Np.out;subst eo6;go_enter Try.func36,Try.ntmps36;go_wp2_with (first|((with_reducible refine Za (N:=2) rfl ?_);refine Ab ?hg (N:=2) ?hd (cs:=#[.slice AY Ua.length YS,.int .i64 Pa,.int .i64 Ra,.slice Ao6 Yf.length A9]) (t:=49) ?hr ?_;(case hd|hg=>rfl);(case hr=>exact gaK);intro ya hg w7 Fb hb;have Bb:=aa.mk (Kd.Yb (by (with_reducible repeat (first|apply Kd.Xa|apply Kd.Ya|apply Kd.gb));exact Pp.out) hb);have Db:=aa.mk (Kd.Yb (by (with_reducible repeat (first|apply Kd.Xa|apply Kd.Ya|apply Kd.gb));exact Np.out) hb);have Ib:=aa.mk (Kept.below (S:=(fun k_=>gn k_ ∨ Es k_)) waK hb);have Xb:=aa.mk (Ma jaK hb);have De:=aa.mk (Fb);have ef:=aa.mk ((by rw [hg];exact (by first|exact HK.out.1|exact (show Kept w _ (fun k_=>gn k_ ∨ Es k_) from by repeat (first|(with_reducible first|exact HK.out|apply Kept.alloc|apply Kept.drewN|apply Kept.drew)|exact HK.out)).1):w.heap.size ≤ ya));have Cf:=aa.mk ((by rw [hg];exact (Da jaK):w0.heap.size ≤ ya));clear Pp Np HK HB;have Pp:=Bb;have Np:=Db;have HK:=Ib;have HB:=Xb;have ta:=De;have Jd:=ef;have Qa:=Cf;clear Bb Db Ib Xb De ef Cf hb Fb hg;have Pr:w7.cell? ⟨ya,0,none⟩=some (.slice AY Ua.length YS):=(ja ta.out 0).trans rfl;have Nr:w7.cell? ⟨ya,1,none⟩=some (.int .i64 Pa):=(ja ta.out 1).trans rfl;have Mr:w7.cell? ⟨ya,2,none⟩=some (.int .i64 Ra):=(ja ta.out 2).trans rfl;have Lr:w7.cell? ⟨ya,3,none⟩=some (.slice Ao6 Yf.length A9):=(ja ta.out 3).trans rfl;have Kr:=qa ta.out 0;have Jr:=qa ta.out 1;have Ir:=qa ta.out 2;have Hr:=qa ta.out 3)|((with_reducible refine Cb (f:=19) rfl ?_);refine Jc (some 8) rfl rfl Try.func19 (by kernel_rfl) rfl #[.slice AY Ua.length YS,.int .i64 a1] rfl laK ?_;(with_reducible refine (ye.calls k (fun k_=>some k_=(.slice AY Ua.length YS:Value).ownBlock) (.slice AY Ua.length YS) Ua a1 t102 t103 w0 _ ?Ic ?Gc A3.out).mono ?_);(case Ic=>repeat (first|(with_reducible first|exact HB.out|apply ia|apply ga|apply oa|refine ua ?_ Qa.out)|exact HB.out));(case Gc=>exact Kd.MA rfl Pp.out);rintro e w9 ⟨rfl,hy0,hb,hkp⟩;refine ⟨_,rfl,?_⟩;have Bb:=aa.mk (Kd.tO rfl hy0 (fun k_ e_=>Pp.out.1 k_ e_));have Db:=aa.mk (Kd.yc (xy:=fun k_=>((gn k_ ∨ Es k_) ∨ w.heap.size ≤ k_)) (Kd.wR ((Kd.NA Np.out (Kd.zp Pp.out) (by decide))) hkp (fun k_ OS hs_=>(OS.2) hs_)) (fun k_ OS=>OS.1.1));have Ib:=aa.mk (Sd kaK hkp (fun hs_=>(fun e_=>(Kd.Yh Pp.out ta.out (by decide)) e_) hs_));have Xb:=aa.mk (Kept.Gj (S:=(fun k_=>gn k_ ∨ Es k_)) MaK hkp (fun k_ hs_=>(fun e_=>(Pp.out.1 k_ e_.symm)) hs_));have De:=aa.mk (hb);clear Pp Np ta HK HB;have Pp:=Bb;have Np:=Db;have ta:=Ib;have HK:=Xb;have HB:=De;clear Bb Db Ib Xb De;(try clear hb);(try clear hkp);(try clear hy0);have Qk:w9.cell? ⟨ya,0,none⟩=some (.slice AY Ua.length YS):=(ja ta.out 0).trans rfl;have Pk:w9.cell? ⟨ya,1,none⟩=some (.int .i64 Pa):=(ja ta.out 1).trans rfl;have Ok:w9.cell? ⟨ya,2,none⟩=some (.int .i64 Ra):=(ja ta.out 2).trans rfl;have Nk:w9.cell? ⟨ya,3,none⟩=some (.slice Ao6 Yf.length A9):=(ja ta.out 3).trans rfl;have Kk:=qa ta.out 0;have Jk:=qa ta.out 1;have Ik:=qa ta.out 2;have Gk:=qa ta.out 3)|((with_reducible refine Cb (f:=68) rfl ?_);refine Jc (some 12) rfl rfl Try.func68 (by kernel_rfl) rfl #[.slice Ao6 Yf.length A9,.int .i64 t102] rfl laK ?_;(with_reducible refine (Cd.calls k (fun k_=>some k_=(.slice Ao6 Yf.length A9:Value).ownBlock) (.slice Ao6 Yf.length A9) Yf t102 t104 t105 w0 _ ?Ic ?Gc A4.out).mono ?_);(case Ic=>repeat (first|(with_reducible first|exact HB.out|apply ia|apply ga|apply oa|refine ua ?_ Qa.out)|exact HB.out));(case Gc=>exact Kd.MA rfl Np.out);rintro e Zj ⟨rfl,hy0,hb,hkp⟩;refine ⟨_,rfl,?_⟩;have Bb:=aa.mk (Kd.yc (xy:=fun k_=>((gn k_ ∨ Es k_) ∨ w.heap.size ≤ k_)) (Kd.wR ((Kd.NA Pp.out (Kd.zp Np.out) (by decide))) hkp (fun k_ OS hs_=>(OS.2) hs_)) (fun k_ OS=>OS.1.1));have Db:=aa.mk (Kd.tO rfl hy0 (fun k_ e_=>Np.out.1 k_ e_));have Ib:=aa.mk (Sd kaK hkp (fun hs_=>(fun e_=>(Kd.Yh Np.out ta.out (by decide)) e_) hs_));have Xb:=aa.mk (Kept.Gj (S:=(fun k_=>gn k_ ∨ Es k_)) MaK hkp (fun k_ hs_=>(fun e_=>(Np.out.1 k_ e_.symm)) hs_));have De:=aa.mk (hb);clear Pp Np ta HK HB;have Pp:=Bb;have Np:=Db;have ta:=Ib;have HK:=Xb;have HB:=De;clear Bb Db Ib Xb De;(try clear hb);(try clear hkp);(try clear hy0)));go_ret;exact ⟨naK,by (with_reducible repeat (first|apply Kd.Xa|apply Kd.Ya|apply Kd.gb));exact Pp.out,by (with_reducible repeat (first|apply Kd.Xa|apply Kd.Ya|apply Kd.gb));exact Np.out,oaK,NaK⟩
def Le.l0:Nat→List Int→Int→Int→Option (Int)
 | 0,_,_,_=>none
 | k + 1,x0,x1,x5=>if x5 < (x0.length:Int) then (if 0 ≤ x5 then (if (rd x0 x5)=x1 then (Le.l0 k x0 (wrap64 (x1 + 1)) (wrap64 (x5 + 1))) else (some (-1))) else (none)) else (some x1)
def Le.f (k:Nat) (l0:List Int) (a1:Int):Option (Int):=Le.l0 k l0 a1 0
theorem Le.calls (k:Nat) (A0:Option Addr) (c0:Nat) (l0:List Int) (a1:Int) (r:Int) (w:World) (Tk:Kd.C (Kd.int .i64) w A0 l0.length l0) (hc0:l0.length ≤ c0) (h:Le.f k l0 a1=some r) :
  Calls Try.prog 20 #[.slice A0 l0.length c0,.int .i64 a1] w fun e w'=>e = .returned (.int .i64 r)∧nc w w':=by
 have ij:=aa.mk Tk;have nH:=aa.mk hc0;clear Tk hc0;have H:(Le.l0 k l0 a1 0)=some r:=h;clear h;have H':=aa.mk H;clear H;go_enter Try.func20,Try.ntmps20;go_wp2
 go_loopg [1,5] k (fun kq v1 v5 w'=>∃ (xd:Int) (Ca:Int),v1 = .int .i64 xd∧v5 = .int .i64 Ca∧aa (Le.l0 kq l0 xd Ca=some r)∧aa (kq ≤ k)∧nc w w')
 case atStart=>exact ⟨(a1),(0),saK,saK,H',⟨Nat.le_refl _⟩,vaK⟩
 case round =>
  clear H'
  try clear c2
  try clear p2
  (try clear HA);(try clear Vg);obtain ⟨xd,Ca,rfl,rfl,HA,Vg,⟨m1,rfl⟩⟩:=hrel;cases gk with
  | zero=>exact absurd HA.out (by simp [Le.l0])
  | succ k1 =>
   have H:=HA.out;clear HA;simp only [Le.l0] at H
   by_cases c3:Ca < (l0.length:Int)
   ·rw [if_pos c3] at H;have jh:decide (Ca < (l0.length:Int))=true:=decide_eq_true c3;clear c3
    by_cases c4:0 ≤ Ca
    ·rw [if_pos c4] at H;have mj:decide (0 ≤ Ca)=true:=decide_eq_true c4;clear c4
     by_cases c5:(rd l0 Ca)=xd
     ·rw [if_pos c5] at H;have Tl:=beq_iff_eq.mpr c5;have tu:=bne_eq_false_iff_eq.mpr c5;clear c5;have H':=aa.mk H;clear H;have Ge:0 ≤ (Ca:Int):=Va;have Fe:Ca < (l0.length:Int):=Va;obtain ⟨od,xh,yd⟩:=Kd.Bm ij.out Ca Ge Fe;cases xh;replace Ge:=eq_true Ge;replace Fe:=eq_true Fe;go_wp2
      go_roundg k1
      case measure=>have:=Vg.out;omega
      case rel=>exact ⟨(wrap64 (xd + 1)),(wrap64 (Ca + 1)),saK,saK,H',⟨by have:=Vg.out;omega⟩,vaK⟩
     ·rw [if_neg c5] at H;have Tl:=beq_eq_false_iff_ne.mpr c5;have tu:=bne_iff_ne.mpr c5;obtain rfl:=Option.some.inj H;have Ge:0 ≤ (Ca:Int):=Va;have Fe:Ca < (l0.length:Int):=Va;obtain ⟨od,xh,yd⟩:=Kd.Bm ij.out Ca Ge Fe;cases xh;replace Ge:=eq_true Ge;replace Fe:=eq_true Fe;go_wp2;go_ret;exact ⟨DaK,vaK⟩
    ·rw [if_neg c4] at H;exact absurd H (by simp)
   ·rw [if_neg c3] at H;have jh:decide (Ca < (l0.length:Int))=false:=decide_eq_false c3;clear c3;obtain rfl:=Option.some.inj H;go_wp2;go_ret;exact ⟨DaK,vaK⟩
def Ce.l0:Nat→List (Zb)→Int→Int→Option (Int)
 | 0,_,_,_=>none
 | k + 1,x0,x1,x5=>if x5 < (x0.length:Int) then (if 0 ≤ x5 then (if ((Wa x0 x5).f0)=x1 then (if ((Wa x0 x5).f1)=(wrap64 (x1 + 1)) then (if ((Wa x0 x5).f2)=(wrap64 ((wrap64 (x1 + 1)) + 1)) then (if ((Wa x0 x5).f3)=(wrap64 ((wrap64 ((wrap64 (x1 + 1)) + 1)) + 1)) then (if ((Wa x0 x5).f4)=(wrap64 ((wrap64 ((wrap64 ((wrap64 (x1 + 1)) + 1)) + 1)) + 1)) then (Ce.l0 k x0 (wrap64 ((wrap64 ((wrap64 ((wrap64 ((wrap64 (x1 + 1)) + 1)) + 1)) + 1)) + 1)) (wrap64 (x5 + 1))) else (some (-1))) else (some (-1))) else (some (-1))) else (some (-1))) else (some (-1))) else (none)) else (some x1)
def Ce.f (k:Nat) (l0:List (Zb)) (a1:Int):Option (Int):=Ce.l0 k l0 a1 0
theorem Ce.calls (k:Nat) (A0:Option Addr) (c0:Nat) (l0:List (Zb)) (a1:Int) (r:Int) (w:World) (Tk:Kd.C Yg w A0 l0.length l0) (hc0:l0.length ≤ c0) (h:Ce.f k l0 a1=some r) :
  Calls Try.prog 69 #[.slice A0 l0.length c0,.int .i64 a1] w fun e w'=>e = .returned (.int .i64 r)∧nc w w':=by
 have ij:=aa.mk Tk;have nH:=aa.mk hc0;clear Tk hc0;have H:(Ce.l0 k l0 a1 0)=some r:=h;clear h;have H':=aa.mk H;clear H;go_enter Try.func69,Try.ntmps69;go_wp2
 go_loopg [1,5] k (fun kq v1 v5 w'=>∃ (xd:Int) (Ca:Int),v1 = .int .i64 xd∧v5 = .int .i64 Ca∧aa (Ce.l0 kq l0 xd Ca=some r)∧aa (kq ≤ k)∧nc w w')
 case atStart=>exact ⟨(a1),(0),saK,saK,H',⟨Nat.le_refl _⟩,vaK⟩
 case round =>
  clear H'
  try clear p2
  (try clear HA);(try clear Vg);obtain ⟨xd,Ca,rfl,rfl,HA,Vg,⟨m1,rfl⟩⟩:=hrel;cases gk with
  | zero=>exact absurd HA.out (by simp [Ce.l0])
  | succ k1 =>
   have H:=HA.out;clear HA;simp only [Ce.l0] at H
   by_cases c3:Ca < (l0.length:Int)
   ·rw [if_pos c3] at H;have jh:decide (Ca < (l0.length:Int))=true:=decide_eq_true c3;clear c3
    by_cases c4:0 ≤ Ca
    ·rw [if_pos c4] at H;have mj:decide (0 ≤ Ca)=true:=decide_eq_true c4;clear c4
     by_cases c5:((Wa l0 Ca).f0)=xd
     ·rw [if_pos c5] at H;have Tl:=beq_iff_eq.mpr c5;have tu:=bne_eq_false_iff_eq.mpr c5;clear c5
      by_cases c6:((Wa l0 Ca).f1)=(wrap64 (xd + 1))
      ·rw [if_pos c6] at H;have vn:=beq_iff_eq.mpr c6;have zB:=bne_eq_false_iff_eq.mpr c6;clear c6
       by_cases c7:((Wa l0 Ca).f2)=(wrap64 ((wrap64 (xd + 1)) + 1))
       ·rw [if_pos c7] at H;have Yl:=beq_iff_eq.mpr c7;have su:=bne_eq_false_iff_eq.mpr c7;clear c7
        by_cases c8:((Wa l0 Ca).f3)=(wrap64 ((wrap64 ((wrap64 (xd + 1)) + 1)) + 1))
        ·rw [if_pos c8] at H;have Kp:=beq_iff_eq.mpr c8;have AG:=bne_eq_false_iff_eq.mpr c8;clear c8
         by_cases c9:((Wa l0 Ca).f4)=(wrap64 ((wrap64 ((wrap64 ((wrap64 (xd + 1)) + 1)) + 1)) + 1))
         ·rw [if_pos c9] at H;have eM:=beq_iff_eq.mpr c9;have yac:=bne_eq_false_iff_eq.mpr c9;clear c9;have H':=aa.mk H;clear H;have Ge:0 ≤ (Ca:Int):=Va;have Fe:Ca < (l0.length:Int):=Va;obtain ⟨od,xh,yd,je,ie,fe,ee⟩:=yh ij.out Ca Ge Fe;cases xh;replace Ge:=eq_true Ge;replace Fe:=eq_true Fe;have Dg:0 ≤ (Ca:Int):=Va;have Cg:Ca < (l0.length:Int):=Va;obtain ⟨Td,Sl,ue,Pf,Nf,Mf,Lf⟩:=yh ij.out Ca Dg Cg;obtain rfl:od=Td:=(by injection Sl);replace Dg:=eq_true Dg;replace Cg:=eq_true Cg;have Jp:0 ≤ (Ca:Int):=Va;have Hp:Ca < (l0.length:Int):=Va;obtain ⟨ah,mF,Ll,Kl,Jl,Il,Hl⟩:=yh ij.out Ca Jp Hp;obtain rfl:od=ah:=(by injection mF);replace Jp:=eq_true Jp;replace Hp:=eq_true Hp;have xm:0 ≤ (Ca:Int):=Va;have wm:Ca < (l0.length:Int):=Va;obtain ⟨ny,Ny,Rh,fq,cq,bq,aq⟩:=yh ij.out Ca xm wm;obtain rfl:od=ny:=(by injection Ny);replace xm:=eq_true xm;replace wm:=eq_true wm;have sn:0 ≤ (Ca:Int):=Va;have qn:Ca < (l0.length:Int):=Va;obtain ⟨Zl,xB,Li,Xm,Wm,Vm,Um⟩:=yh ij.out Ca sn qn;obtain rfl:od=Zl:=(by injection xB);replace sn:=eq_true sn;replace qn:=eq_true qn;go_wp2
          go_roundg k1
          case measure=>have:=Vg.out;omega
          case rel=>exact ⟨(wrap64 ((wrap64 ((wrap64 ((wrap64 ((wrap64 (xd + 1)) + 1)) + 1)) + 1)) + 1)),(wrap64 (Ca + 1)),saK,saK,H',⟨by have:=Vg.out;omega⟩,vaK⟩
         ·rw [if_neg c9] at H;have eM:=beq_eq_false_iff_ne.mpr c9;have yac:=bne_iff_ne.mpr c9;obtain rfl:=Option.some.inj H;have Ge:0 ≤ (Ca:Int):=Va;have Fe:Ca < (l0.length:Int):=Va;obtain ⟨od,xh,yd,je,ie,fe,ee⟩:=yh ij.out Ca Ge Fe;cases xh;replace Ge:=eq_true Ge;replace Fe:=eq_true Fe;have Dg:0 ≤ (Ca:Int):=Va;have Cg:Ca < (l0.length:Int):=Va;obtain ⟨Td,Sl,ue,Pf,Nf,Mf,Lf⟩:=yh ij.out Ca Dg Cg;obtain rfl:od=Td:=(by injection Sl);replace Dg:=eq_true Dg;replace Cg:=eq_true Cg;have Jp:0 ≤ (Ca:Int):=Va;have Hp:Ca < (l0.length:Int):=Va;obtain ⟨ah,mF,Ll,Kl,Jl,Il,Hl⟩:=yh ij.out Ca Jp Hp;obtain rfl:od=ah:=(by injection mF);replace Jp:=eq_true Jp;replace Hp:=eq_true Hp;have xm:0 ≤ (Ca:Int):=Va;have wm:Ca < (l0.length:Int):=Va;obtain ⟨ny,Ny,Rh,fq,cq,bq,aq⟩:=yh ij.out Ca xm wm;obtain rfl:od=ny:=(by injection Ny);replace xm:=eq_true xm;replace wm:=eq_true wm;have sn:0 ≤ (Ca:Int):=Va;have qn:Ca < (l0.length:Int):=Va;obtain ⟨Zl,xB,Li,Xm,Wm,Vm,Um⟩:=yh ij.out Ca sn qn;obtain rfl:od=Zl:=(by injection xB);replace sn:=eq_true sn;replace qn:=eq_true qn;go_wp2;go_ret;exact ⟨DaK,vaK⟩
        ·rw [if_neg c8] at H;have Kp:=beq_eq_false_iff_ne.mpr c8;have AG:=bne_iff_ne.mpr c8;obtain rfl:=Option.some.inj H;have Ge:0 ≤ (Ca:Int):=Va;have Fe:Ca < (l0.length:Int):=Va;obtain ⟨od,xh,yd,je,ie,fe,ee⟩:=yh ij.out Ca Ge Fe;cases xh;replace Ge:=eq_true Ge;replace Fe:=eq_true Fe;have Dg:0 ≤ (Ca:Int):=Va;have Cg:Ca < (l0.length:Int):=Va;obtain ⟨Td,Sl,ue,Pf,Nf,Mf,Lf⟩:=yh ij.out Ca Dg Cg;obtain rfl:od=Td:=(by injection Sl);replace Dg:=eq_true Dg;replace Cg:=eq_true Cg;have Jp:0 ≤ (Ca:Int):=Va;have Hp:Ca < (l0.length:Int):=Va;obtain ⟨ah,mF,Ll,Kl,Jl,Il,Hl⟩:=yh ij.out Ca Jp Hp;obtain rfl:od=ah:=(by injection mF);replace Jp:=eq_true Jp;replace Hp:=eq_true Hp;have xm:0 ≤ (Ca:Int):=Va;have wm:Ca < (l0.length:Int):=Va;obtain ⟨ny,Ny,Rh,fq,cq,bq,aq⟩:=yh ij.out Ca xm wm;obtain rfl:od=ny:=(by injection Ny);replace xm:=eq_true xm;replace wm:=eq_true wm;go_wp2;go_ret;exact ⟨DaK,vaK⟩
       ·rw [if_neg c7] at H;have Yl:=beq_eq_false_iff_ne.mpr c7;have su:=bne_iff_ne.mpr c7;obtain rfl:=Option.some.inj H;have Ge:0 ≤ (Ca:Int):=Va;have Fe:Ca < (l0.length:Int):=Va;obtain ⟨od,xh,yd,je,ie,fe,ee⟩:=yh ij.out Ca Ge Fe;cases xh;replace Ge:=eq_true Ge;replace Fe:=eq_true Fe;have Dg:0 ≤ (Ca:Int):=Va;have Cg:Ca < (l0.length:Int):=Va;obtain ⟨Td,Sl,ue,Pf,Nf,Mf,Lf⟩:=yh ij.out Ca Dg Cg;obtain rfl:od=Td:=(by injection Sl);replace Dg:=eq_true Dg;replace Cg:=eq_true Cg;have Jp:0 ≤ (Ca:Int):=Va;have Hp:Ca < (l0.length:Int):=Va;obtain ⟨ah,mF,Ll,Kl,Jl,Il,Hl⟩:=yh ij.out Ca Jp Hp;obtain rfl:od=ah:=(by injection mF);replace Jp:=eq_true Jp;replace Hp:=eq_true Hp;go_wp2;go_ret;exact ⟨DaK,vaK⟩
      ·rw [if_neg c6] at H;have vn:=beq_eq_false_iff_ne.mpr c6;have zB:=bne_iff_ne.mpr c6;obtain rfl:=Option.some.inj H;have Ge:0 ≤ (Ca:Int):=Va;have Fe:Ca < (l0.length:Int):=Va;obtain ⟨od,xh,yd,je,ie,fe,ee⟩:=yh ij.out Ca Ge Fe;cases xh;replace Ge:=eq_true Ge;replace Fe:=eq_true Fe;have Dg:0 ≤ (Ca:Int):=Va;have Cg:Ca < (l0.length:Int):=Va;obtain ⟨Td,Sl,ue,Pf,Nf,Mf,Lf⟩:=yh ij.out Ca Dg Cg;obtain rfl:od=Td:=(by injection Sl);replace Dg:=eq_true Dg;replace Cg:=eq_true Cg;go_wp2;go_ret;exact ⟨DaK,vaK⟩
     ·rw [if_neg c5] at H;have Tl:=beq_eq_false_iff_ne.mpr c5;have tu:=bne_iff_ne.mpr c5;obtain rfl:=Option.some.inj H;have Ge:0 ≤ (Ca:Int):=Va;have Fe:Ca < (l0.length:Int):=Va;obtain ⟨od,xh,yd,je,ie,fe,ee⟩:=yh ij.out Ca Ge Fe;cases xh;replace Ge:=eq_true Ge;replace Fe:=eq_true Fe;go_wp2;go_ret;exact ⟨DaK,vaK⟩
    ·rw [if_neg c4] at H;exact absurd H (by simp)
   ·rw [if_neg c3] at H;have jh:decide (Ca < (l0.length:Int))=false:=decide_eq_false c3;clear c3;obtain rfl:=Option.some.inj H;go_wp2;go_ret;exact ⟨DaK,vaK⟩
def qi.f (k:Nat) (Ua:List Int) (Pa:Int) (Ra:Int) (Yf:List (Zb)) (a1:Int):Option (Int):=(Le.f k Ua a1).bind fun t102=>(if t102 < 0 then (some (-1)) else ((Ce.f k Yf t102).bind fun t103=>(if t103 < 0 then (some (-1)) else (some t103))))
theorem qi.calls (k:Nat) (yb:Option Addr) (zb:Nat) (Ua:List Int) (Pa:Int) (Ra:Int) (Di:Option Addr) (Ci:Nat) (Yf:List (Zb)) (a1:Int) (r:Int) (w:World) (jf:Kd.C (Kd.int .i64) w yb Ua.length Ua) (Ze:Ua.length ≤ zb) (RG:Kd.C Yg w Di Yf.length Yf) (YG:Yf.length ≤ Ci) (h:qi.f k Ua Pa Ra Yf a1=some r) :
  Calls Try.prog 37 #[.agg #[.slice yb Ua.length zb,.int .i64 Pa,.int .i64 Ra,.slice Di Yf.length Ci],.int .i64 a1] w fun e w'=>e = .returned (.int .i64 r)∧Below w.heap.size w w':=by
 have rZ:=Try.underlying49;have lf:=aa.mk jf;have Df:=aa.mk Ze;clear jf Ze;have BM:=aa.mk RG;have DM:=aa.mk YG;clear RG YG;have HB:=aa.mk (Below.refl w.heap.size w);have H:((Le.f k Ua a1).bind fun t102=>(if t102 < 0 then (some (-1)) else ((Ce.f k Yf t102).bind fun t103=>(if t103 < 0 then (some (-1)) else (some t103)))))=some r:=h;clear h;replace H:=Option.bind_eq_some_iff.mp H;obtain ⟨t102,Qx,H⟩:=H
 try dsimp only at H
 have A3:=aa.mk Qx;clear Qx
 by_cases c4:t102 < 0
 ·rw [if_pos c4] at H;have mj:decide (t102 < 0)=true:=decide_eq_true c4;clear c4;obtain rfl:=Option.some.inj H;go_enter Try.func37,Try.ntmps37;go_wp2_with (first|((with_reducible refine Za (N:=2) rfl ?_);refine Ab ?hg (N:=2) ?hd (cs:=#[.slice yb Ua.length zb,.int .i64 Pa,.int .i64 Ra,.slice Di Yf.length Ci]) (t:=49) ?hr ?_;(case hd|hg=>rfl);(case hr=>exact gaK);intro ya hg w5 Fb hb;have Bb:=aa.mk (Ma jaK hb);have Db:=aa.mk (Fb);have Ib:=aa.mk ((by rw [hg];exact (Da jaK):w.heap.size ≤ ya));have Xb:=aa.mk ((by rw [hg];exact (Da jaK):w.heap.size ≤ ya));clear HB;have HB:=Bb;have ta:=Db;have Jd:=Ib;have Qa:=Xb;clear Bb Db Ib Xb hb Fb hg;have Qt:w5.cell? ⟨ya,0,none⟩=some (.slice yb Ua.length zb):=(ja ta.out 0).trans rfl;have Pt:w5.cell? ⟨ya,1,none⟩=some (.int .i64 Pa):=(ja ta.out 1).trans rfl;have Ot:w5.cell? ⟨ya,2,none⟩=some (.int .i64 Ra):=(ja ta.out 2).trans rfl;have Nt:w5.cell? ⟨ya,3,none⟩=some (.slice Di Yf.length Ci):=(ja ta.out 3).trans rfl;have Ys:=qa ta.out 0;have Xs:=qa ta.out 1;have Ws:=qa ta.out 2;have Vs:=qa ta.out 3)|((with_reducible refine Cb (f:=20) rfl ?_);refine Jc (some 8) rfl rfl Try.func20 (by kernel_rfl) rfl #[.slice yb Ua.length zb,.int .i64 a1] rfl laK ?_;(with_reducible refine (Le.calls k _ _ Ua a1 t102 _ ?Ic ?Gc A3.out).mono ?_);(case Ic=>repeat (first|exact (Kd.Kb lf.out HB.out)|(with_reducible refine Kd.Vb ?_ _)|(with_reducible refine Kd.Ub ?_ _)|(with_reducible refine Kd.tc ?_)));(case Gc=>exact Df.out);rintro e w' ⟨rfl,⟨nd,rfl⟩⟩;refine ⟨_,rfl,?_⟩));go_ret;exact ⟨naK,oaK⟩
 ·rw [if_neg c4] at H;have mj:decide (t102 < 0)=false:=decide_eq_false c4;clear c4;replace H:=Option.bind_eq_some_iff.mp H;obtain ⟨t103,cG,H⟩:=H
  try dsimp only at H
  have A7:=aa.mk cG;clear cG
  by_cases c8:t103 < 0
  ·rw [if_pos c8] at H;have Kp:decide (t103 < 0)=true:=decide_eq_true c8;clear c8;obtain rfl:=Option.some.inj H;go_enter Try.func37,Try.ntmps37;go_wp2_with (first|((with_reducible refine Za (N:=2) rfl ?_);refine Ab ?hg (N:=2) ?hd (cs:=#[.slice yb Ua.length zb,.int .i64 Pa,.int .i64 Ra,.slice Di Yf.length Ci]) (t:=49) ?hr ?_;(case hd|hg=>rfl);(case hr=>exact gaK);intro ya hg w9 Fb hb;have Bb:=aa.mk (Ma jaK hb);have Db:=aa.mk (Fb);have Ib:=aa.mk ((by rw [hg];exact (Da jaK):w.heap.size ≤ ya));have Xb:=aa.mk ((by rw [hg];exact (Da jaK):w.heap.size ≤ ya));clear HB;have HB:=Bb;have ta:=Db;have Jd:=Ib;have Qa:=Xb;clear Bb Db Ib Xb hb Fb hg;have Qk:w9.cell? ⟨ya,0,none⟩=some (.slice yb Ua.length zb):=(ja ta.out 0).trans rfl;have Pk:w9.cell? ⟨ya,1,none⟩=some (.int .i64 Pa):=(ja ta.out 1).trans rfl;have Ok:w9.cell? ⟨ya,2,none⟩=some (.int .i64 Ra):=(ja ta.out 2).trans rfl;have Nk:w9.cell? ⟨ya,3,none⟩=some (.slice Di Yf.length Ci):=(ja ta.out 3).trans rfl;have Kk:=qa ta.out 0;have Jk:=qa ta.out 1;have Ik:=qa ta.out 2;have Gk:=qa ta.out 3)|((with_reducible refine Cb (f:=20) rfl ?_);refine Jc (some 8) rfl rfl Try.func20 (by kernel_rfl) rfl #[.slice yb Ua.length zb,.int .i64 a1] rfl laK ?_;(with_reducible refine (Le.calls k _ _ Ua a1 t102 _ ?Ic ?Gc A3.out).mono ?_);(case Ic=>repeat (first|exact (Kd.Kb lf.out HB.out)|(with_reducible refine Kd.Vb ?_ _)|(with_reducible refine Kd.Ub ?_ _)|(with_reducible refine Kd.tc ?_)));(case Gc=>exact Df.out);rintro e w' ⟨rfl,⟨nd,rfl⟩⟩;refine ⟨_,rfl,?_⟩)|((with_reducible refine Cb (f:=69) rfl ?_);refine Jc (some 14) rfl rfl Try.func69 (by kernel_rfl) rfl #[.slice Di Yf.length Ci,.int .i64 t102] rfl laK ?_;(with_reducible refine (Ce.calls k _ _ Yf t102 t103 _ ?Ic ?Gc A7.out).mono ?_);(case Ic=>repeat (first|exact (Kd.Kb BM.out iaK)|(with_reducible refine Kd.Vb ?_ _)|(with_reducible refine Kd.Ub ?_ _)|(with_reducible refine Kd.tc ?_)));(case Gc=>exact DM.out);rintro e w' ⟨rfl,⟨nd,rfl⟩⟩;refine ⟨_,rfl,?_⟩));go_ret;exact ⟨naK,oaK⟩
  ·rw [if_neg c8] at H;have Kp:decide (t103 < 0)=false:=decide_eq_false c8;clear c8;obtain rfl:=Option.some.inj H;go_enter Try.func37,Try.ntmps37;go_wp2_with (first|((with_reducible refine Za (N:=2) rfl ?_);refine Ab ?hg (N:=2) ?hd (cs:=#[.slice yb Ua.length zb,.int .i64 Pa,.int .i64 Ra,.slice Di Yf.length Ci]) (t:=49) ?hr ?_;(case hd|hg=>rfl);(case hr=>exact gaK);intro ya hg Zj Fb hb;have Bb:=aa.mk (Ma jaK hb);have Db:=aa.mk (Fb);have Ib:=aa.mk ((by rw [hg];exact (Da jaK):w.heap.size ≤ ya));have Xb:=aa.mk ((by rw [hg];exact (Da jaK):w.heap.size ≤ ya));clear HB;have HB:=Bb;have ta:=Db;have Jd:=Ib;have Qa:=Xb;clear Bb Db Ib Xb hb Fb hg;have nu:Zj.cell? ⟨ya,0,none⟩=some (.slice yb Ua.length zb):=(ja ta.out 0).trans rfl;have lu:Zj.cell? ⟨ya,1,none⟩=some (.int .i64 Pa):=(ja ta.out 1).trans rfl;have ku:Zj.cell? ⟨ya,2,none⟩=some (.int .i64 Ra):=(ja ta.out 2).trans rfl;have ju:Zj.cell? ⟨ya,3,none⟩=some (.slice Di Yf.length Ci):=(ja ta.out 3).trans rfl;have Lt:=qa ta.out 0;have Kt:=qa ta.out 1;have Jt:=qa ta.out 2;have Ht:=qa ta.out 3)|((with_reducible refine Cb (f:=20) rfl ?_);refine Jc (some 8) rfl rfl Try.func20 (by kernel_rfl) rfl #[.slice yb Ua.length zb,.int .i64 a1] rfl laK ?_;(with_reducible refine (Le.calls k _ _ Ua a1 t102 _ ?Ic ?Gc A3.out).mono ?_);(case Ic=>repeat (first|exact (Kd.Kb lf.out HB.out)|(with_reducible refine Kd.Vb ?_ _)|(with_reducible refine Kd.Ub ?_ _)|(with_reducible refine Kd.tc ?_)));(case Gc=>exact Df.out);rintro e w' ⟨rfl,⟨nd,rfl⟩⟩;refine ⟨_,rfl,?_⟩)|((with_reducible refine Cb (f:=69) rfl ?_);refine Jc (some 14) rfl rfl Try.func69 (by kernel_rfl) rfl #[.slice Di Yf.length Ci,.int .i64 t102] rfl laK ?_;(with_reducible refine (Ce.calls k _ _ Yf t102 t103 _ ?Ic ?Gc A7.out).mono ?_);(case Ic=>repeat (first|exact (Kd.Kb BM.out iaK)|(with_reducible refine Kd.Vb ?_ _)|(with_reducible refine Kd.Ub ?_ _)|(with_reducible refine Kd.tc ?_)));(case Gc=>exact DM.out);rintro e w' ⟨rfl,⟨nd,rfl⟩⟩;refine ⟨_,rfl,?_⟩));go_ret;exact ⟨naK,oaK⟩
def Ob.f (a0:Int) (a1:Int) (a2:Int):Option (Bool):=if a0 ≥ a1 then (some (decide (a0 ≤ a2))) else (some false)
theorem Ob.calls (a0:Int) (a1:Int) (a2:Int) (r:Bool) (w:World) (h:Ob.f a0 a1 a2=some r) :
  Calls Try.prog 53 #[.int .i64 a0,.int .i64 a1,.int .i64 a2] w fun e w'=>e = .returned (.bool r)∧nc w w':=by
 have H:(if a0 ≥ a1 then (some (decide (a0 ≤ a2))) else (some false))=some r:=h;clear h
 by_cases c4:a0 ≥ a1
 ·rw [if_pos c4] at H;have mj:decide (a1 ≤ a0)=true:=decide_eq_true c4;clear c4;obtain rfl:=Option.some.inj H;go_enter Try.func53,Try.ntmps53;go_wp2;go_ret;exact ⟨DaK,vaK⟩
 ·rw [if_neg c4] at H;have mj:decide (a1 ≤ a0)=false:=decide_eq_false c4;clear c4;obtain rfl:=Option.some.inj H;go_enter Try.func53,Try.ntmps53;go_wp2;go_ret;exact ⟨DaK,vaK⟩
def xg.l0:Nat→List ByteArray→ByteArray→Int→Option (Bool)
 | 0,_,_,_=>none
 | k + 1,x0,x1,x5=>if x5 < (x0.length:Int) then (if 0 ≤ x5 then (if (Kg ByteArray.empty x0 x5).toList=x1.toList then (some true) else (xg.l0 k x0 x1 (wrap64 (x5 + 1)))) else (none)) else (some false)
def xg.f (k:Nat) (l0:List ByteArray) (a1:ByteArray):Option (Bool):=xg.l0 k l0 a1 0
theorem xg.calls (k:Nat) (A0:Option Addr) (c0:Nat) (l0:List ByteArray) (a1:ByteArray) (r:Bool) (w:World) (Tk:Kd.C Kd.string w A0 l0.length l0) (hc0:l0.length ≤ c0) (h:xg.f k l0 a1=some r) :
  Calls Try.prog 113 #[.slice A0 l0.length c0,.string a1] w fun e w'=>e = .returned (.bool r)∧nc w w':=by
 have ij:=aa.mk Tk;have nH:=aa.mk hc0;clear Tk hc0;have H:(xg.l0 k l0 a1 0)=some r:=h;clear h;have H':=aa.mk H;clear H;go_enter Try.func113,Try.ntmps113;go_wp2
 go_loopg [5] k (fun kq v5 w'=>∃ (Ca:Int),v5 = .int .i64 Ca∧aa (xg.l0 kq l0 a1 Ca=some r)∧aa (kq ≤ k)∧nc w w')
 case atStart=>exact ⟨(0),saK,H',⟨Nat.le_refl _⟩,vaK⟩
 case round =>
  clear H'
  try clear c1
  try clear p2
  (try clear HA);(try clear Vg);obtain ⟨Ca,rfl,HA,Vg,⟨m1,rfl⟩⟩:=hrel;cases gk with
  | zero=>exact absurd HA.out (by simp [xg.l0])
  | succ k1 =>
   have H:=HA.out;clear HA;simp only [xg.l0] at H
   by_cases c3:Ca < (l0.length:Int)
   ·rw [if_pos c3] at H;have jh:decide (Ca < (l0.length:Int))=true:=decide_eq_true c3;clear c3
    by_cases c4:0 ≤ Ca
    ·rw [if_pos c4] at H;have mj:decide (0 ≤ Ca)=true:=decide_eq_true c4;clear c4
     by_cases c5:(Kg ByteArray.empty l0 Ca).toList=a1.toList
     ·rw [if_pos c5] at H;have Tl:=beq_iff_eq.mpr c5;have tu:=bne_eq_false_iff_eq.mpr c5;clear c5;obtain rfl:=Option.some.inj H;have Ge:0 ≤ (Ca:Int):=Va;have Fe:Ca < (l0.length:Int):=Va;obtain ⟨od,xh,yd⟩:=Kd.Gp ij.out Ca Ge Fe;cases xh;replace Ge:=eq_true Ge;replace Fe:=eq_true Fe;go_wp2;go_ret;exact ⟨DaK,vaK⟩
     ·rw [if_neg c5] at H;have Tl:=beq_eq_false_iff_ne.mpr c5;have tu:=bne_iff_ne.mpr c5;have H':=aa.mk H;clear H;have Ge:0 ≤ (Ca:Int):=Va;have Fe:Ca < (l0.length:Int):=Va;obtain ⟨od,xh,yd⟩:=Kd.Gp ij.out Ca Ge Fe;cases xh;replace Ge:=eq_true Ge;replace Fe:=eq_true Fe;go_wp2
      go_roundg k1
      case measure=>have:=Vg.out;omega
      case rel=>exact ⟨(wrap64 (Ca + 1)),saK,H',⟨by have:=Vg.out;omega⟩,vaK⟩
    ·rw [if_neg c4] at H;exact absurd H (by simp)
   ·rw [if_neg c3] at H;have jh:decide (Ca < (l0.length:Int))=false:=decide_eq_false c3;clear c3;obtain rfl:=Option.some.inj H;go_wp2;go_ret;exact ⟨DaK,vaK⟩
end Go.Proofs.Ytkigbdceceeenaa.P
end
