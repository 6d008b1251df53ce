import Derived.Test.YtoomcmaifgkkfaaProg
import Derived.Below
import Derived.Deep.Draws
import Derived.Deep.AppendLies
import Derived.Maps.AppendAt
import Derived.OwnWalk
import Derived.Laws.BytesArg
import Derived.Laws.MakeOwn
import Derived.Laws.OwnMore
import Derived.Deep.OwnRows
import Derived.Tactics
import Derived.Lib.ConvBytes
import Derived.Laws.Slices
import Derived.WalkKit
import Derived.KernelRfl
import Derived.RowKit3
import Derived.Deep.LoopGhost
import Derived.Deep.QuietTactic
import Derived.BigQuiet
import Derived.WideLaws
import Derived.Deep.DeepCutAuto
import Derived.Deep.CutBlock
import Derived.Deep.RegionHeld3
import Derived.Laws.Rows
import Derived.Lib.AppendStr
import Derived.ArgAppend
import Derived.Laws.IdiomCopy
import Derived.OrdersHeld
import Derived.Laws.BitsLemmas
import Derived.RowKit
import Derived.Test.YtoomcmaifgkkfaaQLoopW1
import Derived.Test.YtoomcmaifgkkfaaQLoopW2
import Derived.Deep.Slices
import Derived.ChangeArms
import Derived.OpenShut
import Derived.WideShapes
import Derived.Shelf.Abstract
import Derived.Outline
import Derived.RegionTactic
set_option maxHeartbeats 8000000
set_option maxRecDepth 100000
section
namespace Go.Proofs.Ytoomcmaifgkkfaa.P
open Go.RowKit Go.Proofs.Aa.Db Go.Proofs.Aa.Tc Go.Proofs.Aa.ke
theorem daj {P:Prop} (h:P:=by simp only [Act.put,List.setIfInBounds_toArray,List.set_cons_zero,List.set_cons_succ,Mb,Nb];rfl):P:=h
theorem eaj {P:Prop} (h:P:=by intro w';go_simp;with_reducible rfl):P:=h
theorem faj {P:Prop} (h:P:=by rintro w' ⟨s0,s1,s2,s3,s4,s5,s6,s7,s8,s9,mL,xZ,wZ⟩;go_simp;with_reducible rfl):P:=h
theorem gaj {P:Prop} (h:P:=by rintro w' ⟨s0,s1,s2,s3,s4,s5,s6,s7,s8,s9,mL⟩;go_simp;with_reducible rfl):P:=h
theorem iaj {P:Prop} (h:P:=by rintro w' ⟨s0,s1,s2,s3,s4,s5,s6,s7,s8,s9⟩;go_simp;with_reducible rfl):P:=h
theorem jaj {P:Prop} (h:P:=by first|(go_simp;done)|(go_simp;rfl)):P:=h
theorem kaj {P:Prop} (h:P:=by first|(go_simp;done)|(go_simp;rfl)):P:=h
theorem laj {P:Prop} (h:P:=by repeat (first|(with_reducible first|exact HB.out|apply ia|apply ga|apply ja|refine ta ?_ Xa.out)|exact HB.out)):P:=h
theorem maj {P:Prop} (h:P:=by repeat (first|(with_reducible first|exact HB.out|apply ia|apply ga|apply ja)|exact HB.out)):P:=h
theorem naj {P:Prop} (h:P:=by (with_reducible repeat (first|refine Ca ?_ _|refine Fa ?_|refine Ba ?_ _));exact qa.out):P:=h
theorem oaj {P:Prop} (h:P:=by repeat (first|(with_reducible first|exact HB.out|apply ia|apply ga|apply ja|refine ta ?_ Xa.out)|exact HB.out)):P:=h
theorem paj {P:Prop} (h:P:=by (try simp only [List.map_toArray,List.map_cons,List.map_nil]);first|done|rfl|(simp only [List.length_drop,List.length_take];rfl)):P:=h
theorem qaj {P:Prop} (h:P:=by repeat (first|(with_reducible first|exact HB.out|apply ia|apply ga|apply ja)|exact HB.out)):P:=h
theorem raj {P:Prop} (h:P:=by first|rfl|(simp;done)|(simp [*];done)):P:=h
theorem saj {P:Prop} (h:P:=by (with_reducible repeat (first|refine Ca ?_ _|refine Fa ?_|refine Ba ?_ _));exact qa.out):P:=h
theorem taj {P:Prop} (h:P:=by first|rfl|(simp [xb,jb] <;> rfl)|(simp [*,xb,jb] <;> rfl)):P:=h
theorem uaj {P:Prop} (h:P:=by (with_reducible repeat (first|apply Kd.ye|apply Kd.xe|apply Kd.Ze));exact (Kd.Vg (Kd.tj (p:=⟨Vd,4,none⟩) (Kd.tj (p:=⟨Vd,3,none⟩) (Kd.tj (p:=⟨Vd,2,none⟩) (Kd.tj (p:=⟨Vd,1,none⟩) (Kd.tj (p:=⟨Vd,0,none⟩) (Kd.Qv jf.out Tf.out (by decide)) (fun _ hk=>hk.2) (.slice Xg ((Ea oa Tb).f0).length Tg)) (fun _ hk=>hk.2) (.int .i64 ((Ea oa Tb).f1))) (fun _ hk=>hk.2) (.int .i64 ((Ea oa Tb).f2))) (fun _ hk=>hk.2) (.int .i64 ((Ea oa Tb).f3))) (fun _ hk=>hk.2) (.int .i64 ((Ea oa Tb).f4))) (fun _ h_=>h_.1))):P:=h
theorem vaj {P:Prop} (h:P:=by (with_reducible repeat (first|apply Kd.Ia|apply Kd.La|apply Kd.Ra));exact (Kd.Eb (Kd.Jf (p:=⟨Vd,4,none⟩) (Kd.Jf (p:=⟨Vd,3,none⟩) (Kd.Jf (p:=⟨Vd,2,none⟩) (Kd.Jf (p:=⟨Vd,1,none⟩) (Kd.Jf (p:=⟨Vd,0,none⟩) (Kd.Xj Od.out Tf.out (by decide)) (fun _ hk=>hk.2) (.slice Xg ((Ea oa Tb).f0).length Tg)) (fun _ hk=>hk.2) (.int .i64 ((Ea oa Tb).f1))) (fun _ hk=>hk.2) (.int .i64 ((Ea oa Tb).f2))) (fun _ hk=>hk.2) (.int .i64 ((Ea oa Tb).f3))) (fun _ hk=>hk.2) (.int .i64 ((Ea oa Tb).f4))) (fun _ h_=>h_.1))):P:=h
theorem waj {P:Prop} (h:P:=by (with_reducible repeat (first|apply Kd.Ia|apply Kd.La|apply Kd.Ra));exact Uc.out):P:=h
theorem xaj {P:Prop} (h:P:=by repeat (first|exact Sb.refl _|apply Sb.step)):P:=h
theorem yaj {P:Prop} (h:P:=by (with_reducible repeat (first|apply Kd.Ia|apply Kd.La|apply Kd.Ra));exact qe.out):P:=h
theorem zaj {P:Prop} (h:P:=by (with_reducible repeat (first|refine Ca ?_ _|refine Fa ?_|refine Ba ?_ _));refine ud (cs:=#[.slice wk ((Ea oa xd).f0).length uk,.int .i64 ((Ea oa xd).f1),.int .i64 ((Ea oa xd).f2),.int .i64 ((Ea oa xd).f3),.int .i64 0]) ?_ 4 _ rfl;(with_reducible repeat (first|refine Ca ?_ _|refine Fa ?_|refine Ba ?_ _));refine ud (cs:=#[.slice wk ((Ea oa xd).f0).length uk,.int .i64 ((Ea oa xd).f1),.int .i64 ((Ea oa xd).f2),.int .i64 0,.int .i64 0]) ?_ 3 _ rfl;(with_reducible repeat (first|refine Ca ?_ _|refine Fa ?_|refine Ba ?_ _));refine ud (cs:=#[.slice wk ((Ea oa xd).f0).length uk,.int .i64 ((Ea oa xd).f1),.int .i64 0,.int .i64 0,.int .i64 0]) ?_ 2 _ rfl;(with_reducible repeat (first|refine Ca ?_ _|refine Fa ?_|refine Ba ?_ _));refine ud (cs:=#[.slice wk ((Ea oa xd).f0).length uk,.int .i64 0,.int .i64 0,.int .i64 0,.int .i64 0]) ?_ 1 _ rfl;(with_reducible repeat (first|refine Ca ?_ _|refine Fa ?_|refine Ba ?_ _));refine ud (cs:=#[.slice none 0 0,.int .i64 0,.int .i64 0,.int .i64 0,.int .i64 0]) ?_ 0 _ rfl;(with_reducible repeat (first|refine Ca ?_ _|refine Fa ?_|refine Ba ?_ _));exact Eh.out):P:=h
theorem Aaj {P:Prop} (h:P:=by (with_reducible repeat (first|refine Ca ?_ _|refine Fa ?_|refine Ba ?_ _));refine ud (cs:=#[.slice Xg ((Ea oa Tb).f0).length Tg,.int .i64 ((Ea oa Tb).f1),.int .i64 ((Ea oa Tb).f2),.int .i64 ((Ea oa Tb).f3),.int .i64 0]) ?_ 4 _ rfl;(with_reducible repeat (first|refine Ca ?_ _|refine Fa ?_|refine Ba ?_ _));refine ud (cs:=#[.slice Xg ((Ea oa Tb).f0).length Tg,.int .i64 ((Ea oa Tb).f1),.int .i64 ((Ea oa Tb).f2),.int .i64 0,.int .i64 0]) ?_ 3 _ rfl;(with_reducible repeat (first|refine Ca ?_ _|refine Fa ?_|refine Ba ?_ _));refine ud (cs:=#[.slice Xg ((Ea oa Tb).f0).length Tg,.int .i64 ((Ea oa Tb).f1),.int .i64 0,.int .i64 0,.int .i64 0]) ?_ 2 _ rfl;(with_reducible repeat (first|refine Ca ?_ _|refine Fa ?_|refine Ba ?_ _));refine ud (cs:=#[.slice Xg ((Ea oa Tb).f0).length Tg,.int .i64 0,.int .i64 0,.int .i64 0,.int .i64 0]) ?_ 1 _ rfl;(with_reducible repeat (first|refine Ca ?_ _|refine Fa ?_|refine Ba ?_ _));refine ud (cs:=#[.slice none 0 0,.int .i64 0,.int .i64 0,.int .i64 0,.int .i64 0]) ?_ 0 _ rfl;(with_reducible repeat (first|refine Ca ?_ _|refine Fa ?_|refine Ba ?_ _));exact Tf.out):P:=h
theorem Baj {P:Prop} (h:P:=by (with_reducible repeat (first|apply Kd.Ia|apply Kd.La|apply Kd.Ra));exact jc.out):P:=h
theorem Caj {P:Prop} (h:P:=by repeat (first|(with_reducible first|exact HB.out|apply ia|apply ga|apply ja|refine ta ?_ Xa.out|refine ta ?_ cj.out)|exact HB.out)):P:=h
theorem Daj {P:Prop} (h:P:=by repeat (first|(with_reducible first|exact HK.out|apply Kept.alloc|apply Kept.drewN|apply Kept.drew)|exact HK.out)):P:=h
theorem Eaj {P:Prop} (h:P:=by repeat (first|(with_reducible first|exact HB.out|apply ia|apply ga|apply ja|refine ta ?_ Xa.out|refine ta ?_ lq.out)|exact HB.out)):P:=h
theorem Faj {P:Prop} (h:P:=by repeat (first|(with_reducible first|exact HB.out|apply ia|apply ga|apply ja|refine ta ?_ Xa.out|refine ta ?_ jq.out)|exact HB.out)):P:=h
theorem Gaj {P:Prop} (h:P:=by repeat (first|exact HB.out|(refine Ga ?_ Li.out)|apply ga|apply ja|apply ia|refine ta ?_ (by first|omega|(simp;done)|(simp;omega)))):P:=h
theorem Haj {P:Prop} (h:P:=by repeat (first|(with_reducible first|exact HB.out|apply ia|apply ga|apply ja|refine ta ?_ Xa.out|refine ta ?_ cj.out|refine ta ?_ gp.out)|exact HB.out)):P:=h
theorem Iaj {P:Prop} (h:P:=by repeat (first|(with_reducible first|exact HK.out|apply Kept.alloc|apply Kept.drewN|apply Kept.drew|refine Kept.setCell ?_ (.inr Vf.out) _)|exact HK.out)):P:=h
theorem Jaj {P:Prop} (h:P:=by (with_reducible repeat (first|refine Ca ?_ _|refine Fa ?_|refine Ba ?_ _));exact Dd.out):P:=h
theorem Kaj {P:Prop} (h:P:=by repeat (first|(with_reducible first|exact HK.out|apply Kept.alloc|apply Kept.drewN|apply Kept.drew)|exact HK.out)):P:=h
theorem Laj {P:Prop} (h:P:=by (with_reducible repeat (first|apply Kd.Ia|apply Kd.La|apply Kd.Ra));exact ee.out):P:=h
theorem Maj {P:Prop} (h:P:=by (with_reducible repeat (first|apply Kd.Ia|apply Kd.La|apply Kd.Ra));exact Eg.out):P:=h
theorem Naj {P:Prop} (h:P:=by first|rfl|(simp;done)|(simp [*];done)):P:=h
theorem Oaj {P:Prop} (h:P:=by (with_reducible repeat (first|apply Kd.ye|apply Kd.xe|apply Kd.Ze));exact jf.out):P:=h
theorem Paj {P:Prop} (h:P:=by repeat (first|(with_reducible first|exact HK.out|apply Kept.alloc|apply Kept.drewN|apply Kept.drew|refine Kept.setCell ?_ (.inr Vf.out) _)|exact HK.out)):P:=h
theorem Qaj {P:Prop} (h:P:=by (with_reducible repeat (first|refine Ca ?_ _|refine Fa ?_|refine Ba ?_ _));refine ld ?_ Hg.out _;(with_reducible repeat (first|refine Ca ?_ _|refine Fa ?_|refine Ba ?_ _));refine ld ?_ Hg.out _;(with_reducible repeat (first|refine Ca ?_ _|refine Fa ?_|refine Ba ?_ _));refine ld ?_ Hg.out _;(with_reducible repeat (first|refine Ca ?_ _|refine Fa ?_|refine Ba ?_ _));refine ld ?_ Hg.out _;(with_reducible repeat (first|refine Ca ?_ _|refine Fa ?_|refine Ba ?_ _));refine ld ?_ Hg.out _;(with_reducible repeat (first|refine Ca ?_ _|refine Fa ?_|refine Ba ?_ _));exact qa.out):P:=h
theorem Raj {P:Prop} (h:P:=by (with_reducible repeat (first|refine Ca ?_ _|refine Fa ?_|refine Ba ?_ _));refine ld ?_ Gg.out _;(with_reducible repeat (first|refine Ca ?_ _|refine Fa ?_|refine Ba ?_ _));refine ld ?_ Gg.out _;(with_reducible repeat (first|refine Ca ?_ _|refine Fa ?_|refine Ba ?_ _));refine ld ?_ Gg.out _;(with_reducible repeat (first|refine Ca ?_ _|refine Fa ?_|refine Ba ?_ _));refine ld ?_ Gg.out _;(with_reducible repeat (first|refine Ca ?_ _|refine Fa ?_|refine Ba ?_ _));refine ld ?_ Gg.out _;(with_reducible repeat (first|refine Ca ?_ _|refine Fa ?_|refine Ba ?_ _));exact qa.out):P:=h
theorem Saj {P:Prop} (h:P:=by (with_reducible repeat (first|apply Kd.Ia|apply Kd.La|apply Kd.Ra));exact Uc.out):P:=h
theorem Taj {P:Prop} (h:P:=by (with_reducible repeat (first|apply Kd.Ia|apply Kd.La|apply Kd.Ra));exact qe.out):P:=h
theorem Uaj {P:Prop} (h:P:=by (with_reducible repeat (first|apply Kd.Ia|apply Kd.La|apply Kd.Ra));exact jc.out):P:=h
theorem Vaj {P:Prop} (h:P:=by first|exact HK.out.1|exact (show Kept w _ (fun k_=>Uq k_) from by repeat (first|(with_reducible first|exact HK.out|apply Kept.alloc|apply Kept.drewN|apply Kept.drew|refine Kept.setCell ?_ (.inr Vf.out) _)|exact HK.out)).1):P:=h
theorem Waj {P:Prop} (h:P:=by simp only [um,Act.put,List.setIfInBounds_toArray,List.set_cons_zero,List.set_cons_succ]):P:=h
theorem Xaj {P:Prop} (h:P:=by rw [List.length_append,List.length_singleton];omega):P:=h
theorem Yaj {P:Prop} (h:P:=by (with_reducible repeat (first|apply Kd.Ia|apply Kd.La|apply Kd.Ra));exact Og.out):P:=h
theorem Zaj {P:Prop} (h:P:=by (with_reducible repeat (first|apply Kd.Rf|apply Kd.Qf|apply Kd.Cg));exact Kd.wg Od.out (fun _ hk=>⟨hk.1.1,⟨hk.1.2,hk.2⟩⟩)):P:=h
theorem aak {P:Prop} (h:P:=by simp only [List.map_toArray,List.map_cons,List.map_nil];rfl):P:=h
theorem bak {P:Prop} (h:P:=by (with_reducible repeat (first|apply Kd.Ia|apply Kd.La|apply Kd.Ra));exact Od.out):P:=h
theorem cak {P:Prop} (h:P:=by (with_reducible repeat (first|apply Kd.Ia|apply Kd.La|apply Kd.Ra));exact Ue.out):P:=h
theorem dak {P:Prop} (h:P:=by repeat (first|(with_reducible first|exact HB.out|apply ia|apply ga|apply ja|refine ta ?_ Xa.out|refine ta ?_ cj.out|refine ta ?_ gp.out)|exact HB.out)):P:=h
theorem eak {P:Prop} (h:P:=by (with_reducible repeat (first|apply Kd.Rf|apply Kd.Qf|apply Kd.Cg));exact Kd.wg Od.out (fun _ hk=>⟨⟨hk.1,hk.2.1⟩,hk.2.2⟩)):P:=h
theorem fak {P:Prop} (h:P:=by (with_reducible repeat (first|apply Kd.Rf|apply Kd.Qf|apply Kd.Cg));exact Od.out):P:=h
theorem gak {P:Prop} (h:P:=by (with_reducible repeat (first|apply Kd.Ia|apply Kd.La|apply Kd.Ra));exact Ue.out):P:=h
theorem hak {P:Prop} (h:P:=by (with_reducible repeat (first|apply Kd.Ia|apply Kd.La|apply Kd.Ra));exact ee.out):P:=h
theorem iak {P:Prop} (h:P:=by (with_reducible repeat (first|apply Kd.Ia|apply Kd.La|apply Kd.Ra));exact Od.out):P:=h
theorem jak {P:Prop} (h:P:=by (with_reducible repeat (first|apply Kd.Ia|apply Kd.La|apply Kd.Ra));exact Eg.out):P:=h
theorem kak {P:Prop} (h:P:=by rw [List.length_cons];omega):P:=h
set_option linter.unusedVariables false
set_option linter.unusedSimpArgs false
attribute [local go_sem] fh bh Zh Yh mg lg dh ah
def mW:Option Int→Value
 | none=>.nilIface
 | some c=>.iface 0 (.int .i64 c)
theorem xb:mW none = .nilIface:=rfl
theorem jb (c:Int):mW (some c) = .iface 0 (.int .i64 c):=rfl
theorem info3:(Try.prog.info? 3).map (fun i=>(i.zero,i.size,i.bytes))=some (some (.int .i64 0),1,8):=by kernel_rfl
theorem DE:(Try.prog.info? 4).map (fun i=>(i.zero,i.size,i.bytes))=some (some (.bool false),1,1):=by kernel_rfl
theorem YQ:(Try.prog.info? 22).map (fun i=>(i.zero,i.size,i.bytes))=some (some (.slice none 0 0),1,24):=by kernel_rfl
theorem XQ:(Try.prog.info? 73).map (fun i=>(i.zero,i.size,i.bytes))=some (some (.slice none 0 0),1,24):=by kernel_rfl
theorem WQ:(Try.prog.info? 83).map (fun i=>(i.zero,i.size,i.bytes))=some (some (.agg #[(.slice none 0 0),(.int .i64 0),(.int .i64 0),(.int .i64 0),(.int .i64 0)]),5,56):=by kernel_rfl
theorem aM:(Try.prog.info? 122).map (fun i=>(i.zero,i.size,i.bytes))=some (some (.agg #[(.int .i64 0),(.int .i64 0),(.int .i64 0),(.int .i64 0),(.int .i64 0),(.int .i64 0),(.string ⟨#[]⟩)]),7,64):=by kernel_rfl
structure S7 where
 f0:Int
 f1:Int
 f2:Bool
 f3:Int
def z7:S7:=⟨(0:Int),(0:Int),false,(0:Int)⟩
structure S8 where
 f0:Int
 f1:Int
 f2:Bool
 f3:Int
def z8:S8:=⟨(0:Int),(0:Int),false,(0:Int)⟩
structure S67 where
 f0:Int
 f1:Int
 f2:Int
 f3:Int
 f4:Int
def z67:S67:=⟨(0:Int),(0:Int),(0:Int),(0:Int),(0:Int)⟩
structure Rk where
 f0:Int
 f1:Int
 f2:Int
 f3:Int
 f4:Int
 f5:Int
 f6:ByteArray
def z141:Rk:=⟨(0:Int),(0:Int),(0:Int),(0:Int),(0:Int),(0:Int),(⟨#[]⟩:ByteArray)⟩
def ow:Kd Rk:=Kd.nL (Kd.pair (Kd.int .i64) (Kd.pair (Kd.int .i64) (Kd.pair (Kd.int .i64) (Kd.pair (Kd.int .i64) (Kd.pair (Kd.int .i64) (Kd.pair (Kd.int .i64) Kd.string)))))) (fun x:Rk=>(x.f0,x.f1,x.f2,x.f3,x.f4,x.f5,x.f6))
theorem MG {w:World} {x:Rk} {cs:List Value} (h:ow.K w x cs):cs=[.int .i64 x.f0,.int .i64 x.f1,.int .i64 x.f2,.int .i64 x.f3,.int .i64 x.f4,.int .i64 x.f5,.string x.f6]:=by
 obtain ⟨_,_,rfl,rfl,⟨_,_,rfl,rfl,⟨_,_,rfl,rfl,⟨_,_,rfl,rfl,⟨_,_,rfl,rfl,⟨_,_,rfl,rfl,rfl⟩⟩⟩⟩⟩⟩:=h;exact rfl
def Ub (xs:List Rk) (i:Int):Rk:=xs.getD i.toNat z141
theorem Lz {w:World} {A:Option Addr} {n:Nat} {xs:List Rk} (h:Kd.C ow w A n xs) (i:Int) (h0:0 ≤ i) (h1:i < n):∃ ad , A=some ad∧w.cell? (ad.add (i.toNat * 7))=some (.int .i64 (Ub xs i).f0)∧w.cell? ⟨(ad.add (i.toNat * 7)).block,(ad.add (i.toNat * 7)).off + 1,none⟩=some (.int .i64 (Ub xs i).f1)∧w.cell? ⟨(ad.add (i.toNat * 7)).block,(ad.add (i.toNat * 7)).off + 2,none⟩=some (.int .i64 (Ub xs i).f2)∧w.cell? ⟨(ad.add (i.toNat * 7)).block,(ad.add (i.toNat * 7)).off + 3,none⟩=some (.int .i64 (Ub xs i).f3)∧w.cell? ⟨(ad.add (i.toNat * 7)).block,(ad.add (i.toNat * 7)).off + 4,none⟩=some (.int .i64 (Ub xs i).f4)∧w.cell? ⟨(ad.add (i.toNat * 7)).block,(ad.add (i.toNat * 7)).off + 5,none⟩=some (.int .i64 (Ub xs i).f5)∧w.cell? ⟨(ad.add (i.toNat * 7)).block,(ad.add (i.toNat * 7)).off + 6,none⟩=some (.string (Ub xs i).f6):=by
 obtain ⟨ad,c,e,_,hK,hc0⟩:=Kd.uC h z141 i h0 h1;have hc:∀ j u,c[j]? = some u→w.cell? (ad.add (i.toNat * 7 + j))=some u:=hc0;obtain rfl:=MG hK;exact ⟨ad,e,hc 0 _ rfl,by rw [← Ke _ _ 1 (by omega)];exact hc 1 _ rfl,by rw [← Ke _ _ 2 (by omega)];exact hc 2 _ rfl,by rw [← Ke _ _ 3 (by omega)];exact hc 3 _ rfl,by rw [← Ke _ _ 4 (by omega)];exact hc 4 _ rfl,by rw [← Ke _ _ 5 (by omega)];exact hc 5 _ rfl,by rw [← Ke _ _ 6 (by omega)];exact hc 6 _ rfl⟩
structure nj where
 f0:(List Rk)
 f1:Int
 f2:Int
 f3:Int
 f4:Int
def TU:nj:=⟨([]:List Rk),(0:Int),(0:Int),(0:Int),(0:Int)⟩
def qw:Kd nj:=Kd.nL (Kd.pair (Kd.slice 141 ow) (Kd.pair (Kd.int .i64) (Kd.pair (Kd.int .i64) (Kd.pair (Kd.int .i64) (Kd.int .i64))))) (fun x:nj=>(x.f0,x.f1,x.f2,x.f3,x.f4))
theorem PG {w:World} {x:nj} {cs:List Value} (h:qw.K w x cs):∃ A0 c0,cs=[.slice A0 x.f0.length c0,.int .i64 x.f1,.int .i64 x.f2,.int .i64 x.f3,.int .i64 x.f4]∧x.f0.length ≤ c0∧ow.C w A0 x.f0.length x.f0:=by
 obtain ⟨_,_,rfl,⟨A0,c0,rfl,l0,g0⟩,⟨_,_,rfl,rfl,⟨_,_,rfl,rfl,⟨_,_,rfl,rfl,rfl⟩⟩⟩⟩:=h;exact ⟨A0,c0,rfl,l0,g0⟩
def yc (xs:List nj) (i:Int):nj:=xs.getD i.toNat TU
theorem Mz {w:World} {A:Option Addr} {n:Nat} {xs:List nj} (h:Kd.C qw w A n xs) (i:Int) (h0:0 ≤ i) (h1:i < n):∃ ad A0 c0,A=some ad∧w.cell? (ad.add (i.toNat * 5))=some (.slice A0 (yc xs i).f0.length c0)∧w.cell? ⟨(ad.add (i.toNat * 5)).block,(ad.add (i.toNat * 5)).off + 1,none⟩=some (.int .i64 (yc xs i).f1)∧w.cell? ⟨(ad.add (i.toNat * 5)).block,(ad.add (i.toNat * 5)).off + 2,none⟩=some (.int .i64 (yc xs i).f2)∧w.cell? ⟨(ad.add (i.toNat * 5)).block,(ad.add (i.toNat * 5)).off + 3,none⟩=some (.int .i64 (yc xs i).f3)∧w.cell? ⟨(ad.add (i.toNat * 5)).block,(ad.add (i.toNat * 5)).off + 4,none⟩=some (.int .i64 (yc xs i).f4)∧(yc xs i).f0.length ≤ c0∧ow.C w A0 (yc xs i).f0.length (yc xs i).f0:=by
 obtain ⟨ad,c,e,_,hK,hc0⟩:=Kd.uC h TU i h0 h1;have hc:∀ j u,c[j]? = some u→w.cell? (ad.add (i.toNat * 5 + j))=some u:=hc0;obtain ⟨A0,c0,rfl,l0,g0⟩:=PG hK;exact ⟨ad,A0,c0,e,hc 0 _ rfl,by rw [← Ke _ _ 1 (by omega)];exact hc 1 _ rfl,by rw [← Ke _ _ 2 (by omega)];exact hc 2 _ rfl,by rw [← Ke _ _ 3 (by omega)];exact hc 3 _ rfl,by rw [← Ke _ _ 4 (by omega)];exact hc 4 _ rfl,l0,g0⟩
structure DU where
 f0:(List Int)
 f1:Int
 f2:Int
 f3:Int
 f4:(List nj)
def k40:Kd DU:=Kd.nL (Kd.pair (Kd.slice 3 (Kd.int .i64)) (Kd.pair (Kd.int .i64) (Kd.pair (Kd.int .i64) (Kd.pair (Kd.int .i64) (Kd.slice 106 qw))))) (fun x:DU=>(x.f0,x.f1,x.f2,x.f3,x.f4))
theorem zI {w:World} {x:DU} {cs:List Value} (h:k40.K w x cs):∃ A0 c0 A4 c4,cs=[.slice A0 x.f0.length c0,.int .i64 x.f1,.int .i64 x.f2,.int .i64 x.f3,.slice A4 x.f4.length c4]∧x.f0.length ≤ c0∧(Kd.int .i64).C w A0 x.f0.length x.f0∧x.f4.length ≤ c4∧qw.C w A4 x.f4.length x.f4:=by
 obtain ⟨_,_,rfl,⟨A0,c0,rfl,l0,g0⟩,⟨_,_,rfl,rfl,⟨_,_,rfl,rfl,⟨_,_,rfl,rfl,⟨A4,c4,rfl,l4,g4⟩⟩⟩⟩⟩:=h;exact ⟨A0,c0,A4,c4,rfl,l0,g0,l4,g4⟩
structure oc where
 f0:Int
 f1:Int
 f2:Int
 f3:Int
 f4:Int
 f5:Int
 f6:ByteArray
def Qi:oc:=⟨(0:Int),(0:Int),(0:Int),(0:Int),(0:Int),(0:Int),(⟨#[]⟩:ByteArray)⟩
def Je:Kd oc:=Kd.nL (Kd.pair (Kd.int .i64) (Kd.pair (Kd.int .i64) (Kd.pair (Kd.int .i64) (Kd.pair (Kd.int .i64) (Kd.pair (Kd.int .i64) (Kd.pair (Kd.int .i64) Kd.string)))))) (fun x:oc=>(x.f0,x.f1,x.f2,x.f3,x.f4,x.f5,x.f6))
theorem OG:Kd.Heap Je:=Kd.qB _ (Kd.Xh (Kd.Sh .i64) (Kd.Xh (Kd.Sh .i64) (Kd.Xh (Kd.Sh .i64) (Kd.Xh (Kd.Sh .i64) (Kd.Xh (Kd.Sh .i64) (Kd.Xh (Kd.Sh .i64) Kd.oB))))))
theorem NG {w:World} {x:oc} {cs:List Value} (h:Je.K w x cs):cs=[.int .i64 x.f0,.int .i64 x.f1,.int .i64 x.f2,.int .i64 x.f3,.int .i64 x.f4,.int .i64 x.f5,.string x.f6]:=by
 obtain ⟨_,_,rfl,rfl,⟨_,_,rfl,rfl,⟨_,_,rfl,rfl,⟨_,_,rfl,rfl,⟨_,_,rfl,rfl,⟨_,_,rfl,rfl,rfl⟩⟩⟩⟩⟩⟩:=h;exact rfl
theorem gf {w:World} {base:Nat} {ok:Nat→Prop} {x:oc} {cs:List Value} (h:Je.M w base ok x cs):cs=[.int .i64 x.f0,.int .i64 x.f1,.int .i64 x.f2,.int .i64 x.f3,.int .i64 x.f4,.int .i64 x.f5,.string x.f6]:=by
 obtain ⟨_,_,rfl,rfl,⟨_,_,rfl,rfl,⟨_,_,rfl,rfl,⟨_,_,rfl,rfl,⟨_,_,rfl,rfl,⟨_,_,rfl,rfl,rfl⟩⟩⟩⟩⟩⟩:=h;exact rfl
theorem Aj (w:World) (base:Nat) (ok:Nat→Prop) (x:oc)  : Je.M w base ok x [.int .i64 x.f0,.int .i64 x.f1,.int .i64 x.f2,.int .i64 x.f3,.int .i64 x.f4,.int .i64 x.f5,.string x.f6]:=⟨[.int .i64 x.f0],[.int .i64 x.f1,.int .i64 x.f2,.int .i64 x.f3,.int .i64 x.f4,.int .i64 x.f5,.string x.f6],rfl,rfl,⟨[.int .i64 x.f1],[.int .i64 x.f2,.int .i64 x.f3,.int .i64 x.f4,.int .i64 x.f5,.string x.f6],rfl,rfl,⟨[.int .i64 x.f2],[.int .i64 x.f3,.int .i64 x.f4,.int .i64 x.f5,.string x.f6],rfl,rfl,⟨[.int .i64 x.f3],[.int .i64 x.f4,.int .i64 x.f5,.string x.f6],rfl,rfl,⟨[.int .i64 x.f4],[.int .i64 x.f5,.string x.f6],rfl,rfl,⟨[.int .i64 x.f5],[.string x.f6],rfl,rfl,rfl⟩⟩⟩⟩⟩⟩
def ua (xs:List oc) (i:Int):oc:=xs.getD i.toNat Qi
theorem Nv {w:World} {A:Option Addr} {n:Nat} {xs:List oc} (h:Kd.C Je w A n xs) (i:Int) (h0:0 ≤ i) (h1:i < n):∃ ad , A=some ad∧w.cell? (ad.add (i.toNat * 7))=some (.int .i64 (ua xs i).f0)∧w.cell? ⟨(ad.add (i.toNat * 7)).block,(ad.add (i.toNat * 7)).off + 1,none⟩=some (.int .i64 (ua xs i).f1)∧w.cell? ⟨(ad.add (i.toNat * 7)).block,(ad.add (i.toNat * 7)).off + 2,none⟩=some (.int .i64 (ua xs i).f2)∧w.cell? ⟨(ad.add (i.toNat * 7)).block,(ad.add (i.toNat * 7)).off + 3,none⟩=some (.int .i64 (ua xs i).f3)∧w.cell? ⟨(ad.add (i.toNat * 7)).block,(ad.add (i.toNat * 7)).off + 4,none⟩=some (.int .i64 (ua xs i).f4)∧w.cell? ⟨(ad.add (i.toNat * 7)).block,(ad.add (i.toNat * 7)).off + 5,none⟩=some (.int .i64 (ua xs i).f5)∧w.cell? ⟨(ad.add (i.toNat * 7)).block,(ad.add (i.toNat * 7)).off + 6,none⟩=some (.string (ua xs i).f6):=by
 obtain ⟨ad,c,e,_,hK,hc0⟩:=Kd.uC h Qi i h0 h1;have hc:∀ j u,c[j]? = some u→w.cell? (ad.add (i.toNat * 7 + j))=some u:=hc0;obtain rfl:=NG hK;exact ⟨ad,e,hc 0 _ rfl,by rw [← Ke _ _ 1 (by omega)];exact hc 1 _ rfl,by rw [← Ke _ _ 2 (by omega)];exact hc 2 _ rfl,by rw [← Ke _ _ 3 (by omega)];exact hc 3 _ rfl,by rw [← Ke _ _ 4 (by omega)];exact hc 4 _ rfl,by rw [← Ke _ _ 5 (by omega)];exact hc 5 _ rfl,by rw [← Ke _ _ 6 (by omega)];exact hc 6 _ rfl⟩
structure Wd where
 f0:(List oc)
 f1:Int
 f2:Int
 f3:Int
 f4:Int
def iA:Wd:=⟨([]:List oc),(0:Int),(0:Int),(0:Int),(0:Int)⟩
def Km:Kd Wd:=Kd.nL (Kd.pair (Kd.slice 122 Je) (Kd.pair (Kd.int .i64) (Kd.pair (Kd.int .i64) (Kd.pair (Kd.int .i64) (Kd.int .i64))))) (fun x:Wd=>(x.f0,x.f1,x.f2,x.f3,x.f4))
theorem yI:Kd.Heap Km:=Kd.qB _ (Kd.Xh (Kd.nD 122 OG) (Kd.Xh (Kd.Sh .i64) (Kd.Xh (Kd.Sh .i64) (Kd.Xh (Kd.Sh .i64) (Kd.Sh .i64)))))
theorem xI {w:World} {x:Wd} {cs:List Value} (h:Km.K w x cs):∃ A0 c0,cs=[.slice A0 x.f0.length c0,.int .i64 x.f1,.int .i64 x.f2,.int .i64 x.f3,.int .i64 x.f4]∧x.f0.length ≤ c0∧Je.C w A0 x.f0.length x.f0:=by
 obtain ⟨_,_,rfl,⟨A0,c0,rfl,l0,g0⟩,⟨_,_,rfl,rfl,⟨_,_,rfl,rfl,⟨_,_,rfl,rfl,rfl⟩⟩⟩⟩:=h;exact ⟨A0,c0,rfl,l0,g0⟩
theorem gu {w:World} {base:Nat} {ok:Nat→Prop} {x:Wd} {cs:List Value} (h:Km.M w base ok x cs):∃ v0,cs=[v0,.int .i64 x.f1,.int .i64 x.f2,.int .i64 x.f3,.int .i64 x.f4]∧Je.R 122 w base ok v0 x.f0:=by
 obtain ⟨_,_,rfl,⟨v0,rfl,g0⟩,⟨_,_,rfl,rfl,⟨_,_,rfl,rfl,⟨_,_,rfl,rfl,rfl⟩⟩⟩⟩:=h;exact ⟨v0,rfl,g0⟩
theorem Hy (w:World) (base:Nat) (ok:Nat→Prop) (x:Wd) {v0:Value} (g0:Je.R 122 w base ok v0 x.f0):Km.M w base ok x [v0,.int .i64 x.f1,.int .i64 x.f2,.int .i64 x.f3,.int .i64 x.f4]:=⟨[v0],[.int .i64 x.f1,.int .i64 x.f2,.int .i64 x.f3,.int .i64 x.f4],rfl,⟨v0,rfl,g0⟩,⟨[.int .i64 x.f1],[.int .i64 x.f2,.int .i64 x.f3,.int .i64 x.f4],rfl,rfl,⟨[.int .i64 x.f2],[.int .i64 x.f3,.int .i64 x.f4],rfl,rfl,⟨[.int .i64 x.f3],[.int .i64 x.f4],rfl,rfl,rfl⟩⟩⟩⟩
def Ea (xs:List Wd) (i:Int):Wd:=xs.getD i.toNat iA
theorem Vj {w:World} {A:Option Addr} {n:Nat} {xs:List Wd} (h:Kd.C Km w A n xs) (i:Int) (h0:0 ≤ i) (h1:i < n):∃ ad A0 c0,A=some ad∧w.cell? (ad.add (i.toNat * 5))=some (.slice A0 (Ea xs i).f0.length c0)∧w.cell? ⟨(ad.add (i.toNat * 5)).block,(ad.add (i.toNat * 5)).off + 1,none⟩=some (.int .i64 (Ea xs i).f1)∧w.cell? ⟨(ad.add (i.toNat * 5)).block,(ad.add (i.toNat * 5)).off + 2,none⟩=some (.int .i64 (Ea xs i).f2)∧w.cell? ⟨(ad.add (i.toNat * 5)).block,(ad.add (i.toNat * 5)).off + 3,none⟩=some (.int .i64 (Ea xs i).f3)∧w.cell? ⟨(ad.add (i.toNat * 5)).block,(ad.add (i.toNat * 5)).off + 4,none⟩=some (.int .i64 (Ea xs i).f4)∧(Ea xs i).f0.length ≤ c0∧Je.C w A0 (Ea xs i).f0.length (Ea xs i).f0:=by
 obtain ⟨ad,c,e,_,hK,hc0⟩:=Kd.uC h iA i h0 h1;have hc:∀ j u,c[j]? = some u→w.cell? (ad.add (i.toNat * 5 + j))=some u:=hc0;obtain ⟨A0,c0,rfl,l0,g0⟩:=xI hK;exact ⟨ad,A0,c0,e,hc 0 _ rfl,by rw [← Ke _ _ 1 (by omega)];exact hc 1 _ rfl,by rw [← Ke _ _ 2 (by omega)];exact hc 2 _ rfl,by rw [← Ke _ _ 3 (by omega)];exact hc 3 _ rfl,by rw [← Ke _ _ 4 (by omega)];exact hc 4 _ rfl,l0,g0⟩
structure S45 where
 f0:(List Int)
 f1:Int
 f2:Int
 f3:Int
 f4:(List Wd)
def z45:S45:=⟨([]:List Int),(0:Int),(0:Int),(0:Int),([]:List Wd)⟩
structure yH where
 f0:Int
 f1:Int
 f2:Int
 f3:ByteArray
 f4:(List yH)
def rU (d:Kd yH):Kd yH:=Kd.nL (Kd.pair (Kd.int .i64) (Kd.pair (Kd.int .i64) (Kd.pair (Kd.int .i64) (Kd.pair Kd.string (Kd.slice 137 d))))) (fun x:yH=>(x.f0,x.f1,x.f2,x.f3,x.f4))
theorem FQ:Kd.Sub rU [137]:=Kd.sE _ (Kd.wj (Kd.sub_const _ (by decide)) (Kd.wj (Kd.sub_const _ (by decide)) (Kd.wj (Kd.sub_const _ (by decide)) (Kd.wj (Kd.sub_const _ (by decide)) (Kd.Zt 137 (by decide) Kd.LC)))))
theorem dV:∀ n,(Kd.upto rU 5 [137] n).sz=5:=Kd.qE (fun _=>rfl)
def N6:Kd yH:=Kd.fix rU 5 [137] dV (Kd.GC FQ)
structure Cu where
 f0:Int
 f1:Int
 f2:Int
 f3:(List yH)
 f4:(List Cu)
 f5:(List Cu)
def sU (d:Kd Cu):Kd Cu:=Kd.nL (Kd.pair (Kd.int .i64) (Kd.pair (Kd.int .i64) (Kd.pair (Kd.int .i64) (Kd.pair (Kd.slice 137 N6) (Kd.pair (Kd.slice 133 d) (Kd.slice 133 d)))))) (fun x:Cu=>(x.f0,x.f1,x.f2,x.f3,x.f4,x.f5))
theorem GQ:Kd.Sub sU [133,137]:=Kd.sE _ (Kd.wj (Kd.sub_const _ (by decide)) (Kd.wj (Kd.sub_const _ (by decide)) (Kd.wj (Kd.sub_const _ (by decide)) (Kd.wj (Kd.sub_const _ (by decide)) (Kd.wj (Kd.Zt 133 (by decide) Kd.LC) (Kd.Zt 133 (by decide) Kd.LC))))))
theorem eV:∀ n,(Kd.upto sU 6 [133,137] n).sz=6:=Kd.qE (fun _=>rfl)
def O6:Kd Cu:=Kd.fix sU 6 [133,137] eV (Kd.GC GQ)
theorem rI {α:Type} {d:Kd α} {e:Nat} {w:World} {base:Nat} {ok:Nat→Prop} {v:Value} {xs:List α} (h:aa (d.R e w base ok v xs)):v.oneCell' = true:=by
 obtain ⟨A,c,rfl⟩:=Kd.Vb h.out
 rfl
theorem qI {α:Type} {d:Kd α} {e:Nat} {w:World} {base:Nat} {ok:Nat→Prop} {v:Value} {xs:List α} (h:aa (d.S e w base ok v xs)):v.oneCell' = true:=by
 obtain ⟨A,c,rfl⟩:=Kd.Vb (Kd.sL h.out)
 rfl
theorem tI {α:Type} {d:Kd α} {e:Nat} {w:World} {base:Nat} {ok:Nat→Prop} {v:Value} {xs:List α} (h:aa (Kd.N d e w base ok v xs)):v.oneCell' = true:=by
 obtain ⟨A,c,rfl⟩:=Kd.FN h.out
 rfl
theorem sI {α:Type} {d:Kd α} {e:Nat} {w:World} {base:Nat} {ok:Nat→Prop} {v:Value} {xs:List α} (h:aa (d.Q e w base ok v xs)):v.oneCell' = true:=by
 obtain ⟨A,c,rfl,_⟩:=Kd.Fk h.out
 rfl
def Sk (P:Program) (t:TypeId) {α:Type} (d:Kd α) (fit:α→Prop):Prop :=
 ∀ {H:Type} {enc:TypeId × Value→H} {w:World} {base:Nat} {spare:Nat→Bool} {held:Bool} {fuel:Nat} {cs:List Value} {x:DataW H × List MemPlace},
  DataW.trod enc P w base spare held fuel t cs=some x→∃ a:α,d.K w a cs∧fit a
theorem FG {P:Program} {t:TypeId} {k:IntKind} (ht:P.underlying t=some (.int k)):Sk P t (Kd.int k) (fun n=>(Lit.int k n).wf=true):=by
 intro H enc w base spare held fuel cs x h;obtain ⟨n,rfl,_,hw⟩:=DataW.trod_int ht h;exact ⟨n,rfl,hw⟩
def Un (n:Int):Prop:=-9223372036854775808 ≤ n∧n ≤ 9223372036854775807
theorem wf_i64 {n:Int} (h:(Lit.int .i64 n).wf=true):Un n:=by
 simp [Lit.wf,IntKind.min,IntKind.max,IntKind.signed,IntKind.bits] at h;unfold Un;omega
theorem kg {P:Program} {t:TypeId} (ht:P.underlying t=some (.int .i64)):Sk P t (Kd.int .i64) Un:=by
 intro H enc w base spare held fuel cs x h;obtain ⟨n,h1,h2⟩:=FG ht h;exact ⟨n,h1,wf_i64 h2⟩
theorem Dy {P:Program} {t:TypeId} (ht:P.underlying t=some .string):Sk P t Kd.string (fun s=>s.size ≤ 9223372036854775807):=by
 intro H enc w base spare held fuel cs x h;obtain ⟨s,rfl,_,hw⟩:=DataW.trod_string ht h;exact ⟨s,rfl,by simpa [maxLen] using hw⟩
theorem Su {α:Type} {p:Nat→α→Prop}:∀ n,(∀ i,i < n→∃ a,p i a)→∃ xs:List α,xs.length=n∧∀ (i:Nat) (a:α),xs[i]? = some a→p i a
 | 0,_=>⟨[],rfl,fun i a h=>by simp at h⟩
 | n + 1,h=>by
  obtain ⟨xs,hl,hx⟩:=Su n (fun i hi=>h i (by omega));obtain ⟨a,ha⟩:=h n (by omega);refine ⟨xs ++ [a],by simp [hl],fun i b hb=>?_⟩
  rcases Nat.lt_or_ge i xs.length with hi|hi
  ·rw [List.getElem?_append_left hi] at hb;exact hx i b hb
  ·have:i=n:=by
    have:=(List.getElem?_eq_some_iff.1 hb).1;simp [hl] at this;omega
   subst this;rw [List.getElem?_append_right hi,hl] at hb;simp at hb;exact hb ▸ ha
theorem Hp {P:Program} {t e e':TypeId} {α:Type} {d:Kd α} {fit:α→Prop} (ht:P.underlying t=some (.slice e)) (hs:P.cellsOf e=d.sz) (h:Sk P e d fit):Sk P t (Kd.slice e' d) (fun l=>l.length ≤ 9223372036854775807∧∀ a ∈ l,fit a):=by
 intro H enc w base spare held fuel cs x hx
 rcases Go.Deep.open_slice ht hx with ⟨rfl,_⟩|⟨a,len,cap,m,n,D,Pl,rfl,hb,hl,hm,hmm,_,hel⟩
 ·exact ⟨[],⟨none,0,rfl,Nat.le_refl _,rfl,by simp,fun hp=>absurd hp (by simp)⟩,by simp,by simp⟩
 ·have hle:len ≤ m:=by rw [hmm];split <;> omega
  have BV:len ≤ 9223372036854775807:=by simp only [maxLen] at hm;omega
  obtain ⟨xs,hxl,hxs⟩:=Su (α:=α) (p:=fun i y=>∃ c,c.length=d.sz∧d.K w y c∧(∀ j u,c[j]? = some u→w.cell? (a.add (i * d.sz + j))=some u)∧fit y) len (fun i hi=>by
   obtain ⟨cs',h1,h2⟩:=hel i (by omega);obtain ⟨y,hy,hf⟩:=h h2;obtain ⟨_,Ru,yw⟩:=World.cells?_some h1;refine ⟨y,cs',by rw [Ru,hs],hy,fun j u hu=>?_,hf⟩;have hj:j < P.cellsOf e:=by rw [← Ru];exact (List.getElem?_eq_some_iff.1 hu).1
   rw [← hs,← Go.Deep.add_add,yw j hj]
   exact hu)
  refine ⟨xs,⟨some a,cap,by rw [hxl],by omega,rfl,by omega,fun _=>⟨a,rfl,fun j p hj=>?_⟩⟩,by omega,fun y hy=>?_⟩
  ·obtain ⟨c,h1,h2,h3,_⟩:=hxs j p hj;exact ⟨c,h1,h2,h3⟩
  ·obtain ⟨i,hi,rfl⟩:=List.getElem_of_mem hy;obtain ⟨c,_,_,_,h4⟩:=hxs i _ (List.getElem?_eq_getElem hi);exact h4
def Wz (P:Program) (fs:List Field) (off:Nat) {α:Type} (d:Kd α) (fit:α→Prop):Prop :=
 ∀ {H:Type} {enc:TypeId × Value→H} {w:World} {base:Nat} {spare:Nat→Bool} {held:Bool} {n:Nat} {cs:List Value},
  (∀ f ∈ fs,∃ y,DataW.trod enc P w base spare held n f.type ((cs.drop f.offset).take (P.cellsOf f.type))=some y)→cs.length=off + d.sz→∃ a:α,d.K w a (cs.drop off)∧fit a
theorem Dr {P:Program} {f:Field} {off:Nat} {α:Type} {d:Kd α} {fit:α→Prop} (ho:f.offset=off) (hs:P.cellsOf f.type=d.sz) (h:Sk P f.type d fit):Wz P [f] off d fit:=by
 intro H enc w base spare held n cs hf hl;obtain ⟨y,hy⟩:=hf f (by simp);rw [ho,hs,List.take_of_length_le (by rw [List.length_drop];omega)] at hy;exact h hy
theorem kf {P:Program} {f:Field} {fs:List Field} {off off2:Nat} {α β:Type} {d:Kd α} {d2:Kd β} {fit:α→Prop} {lW:β→Prop} (ho:f.offset=off) (hs:P.cellsOf f.type=d.sz) (C7:off2=off + d.sz) (h:Sk P f.type d fit) (h2:Wz P fs off2 d2 lW):Wz P (f :: fs) off (Kd.pair d d2) (fun p=>fit p.1∧lW p.2):=by
 intro H enc w base spare held n cs hf hl;have hl':cs.length=off + (d.sz + d2.sz):=hl;obtain ⟨y,hy⟩:=hf f (by simp);rw [ho,hs] at hy;obtain ⟨a,ha,fa⟩:=h hy;obtain ⟨b,hb,fb⟩:=h2 (fun g hg=>hf g (List.mem_cons_of_mem _ hg)) (by omega);refine ⟨(a,b),⟨(cs.drop off).take d.sz,cs.drop off2,?_,ha,hb⟩,fa,fb⟩;rw [C7,← List.drop_drop,List.take_append_drop]
theorem Ho {P:Program} {t:TypeId} {fs:Array Field} {α:Type} {d:Kd α} {fit:α→Prop} (ht:P.underlying t=some (.struct fs)) (hs:P.cellsOf t=d.sz) (h:Wz P fs.toList 0 d fit):Sk P t d fit:=by
 intro H enc w base spare held fuel cs x hx;obtain ⟨xs,n,_,_,hl,hxl,hf⟩:=DataW.trod_struct ht hx
 have:=h (w:=w) (enc:=enc) (base:=base) (spare:=spare) (held:=held) (n:=n) (cs:=cs) (fun f hfm=>by
  obtain ⟨i,hi,rfl⟩:=List.getElem_of_mem hfm;have hi':i < fs.size:=by simpa using hi
  have h1:=hf i (fs.toList[i]) (by simp [hi']);rw [List.getElem?_eq_getElem (by omega)] at h1
  exact ⟨_,h1⟩) (by omega)
 simpa using this
theorem eu {P:Program} {t:TypeId} {α β:Type} {d:Kd α} {fit:α→Prop} {g:β→α} (gi:α→β) (hg:∀ a,g (gi a)=a) (h:Sk P t d fit):Sk P t (Kd.nL d g) (fun b=>fit (g b)):=by
 intro H enc w base spare held fuel cs x hx;obtain ⟨a,ha,hf⟩:=h hx;refine ⟨gi a,?_,?_⟩
 ·show d.K w (g (gi a)) cs
  rw [hg];exact ha
 ·show fit (g (gi a))
  rw [hg];exact hf
theorem pI {P:Program} {t:TypeId} {fs:Array Field} {α:Type} {d:Kd α} {fit:α→Prop} {r:Reach} {b0:Nat} {H:Type} {enc:TypeId × Value→H} {w:World} {base:Nat} {spare:Nat→Bool} {held:Bool} {v:Value} {dt:DataW H} {p:List MemPlace}
  (ht:P.underlying t=some (.struct fs)) (h:Sk P t d fit) (hv:Value.okWide P w r b0 t v) (hd:DataW.Trod enc P w base spare held t v dt p) :
  ∃ (a:α) (cs:Array Value),v = .agg cs∧d.K w a cs.toList∧fit a:=by
 obtain ⟨cs,rfl,hsz⟩:=Go.WideShapes.okWide_struct ht hv;obtain ⟨fuel,hf⟩:=hd;obtain ⟨a,ha,hfa⟩:=h hf;exact ⟨a,cs,rfl,by simpa [Value.cells] using ha,hfa⟩
theorem VL:Sk Try.prog 22 (Kd.slice 3 (Kd.int .i64)) (fun l=>l.length ≤ 9223372036854775807∧∀ a ∈ l,Un a):=Hp Try.underlying22 (by kernel_rfl) (kg Try.underlying3)
def tD (x:Rk):Prop:=Un x.f0∧Un x.f1∧Un x.f2∧Un x.f3∧Un x.f4∧Un x.f5∧(fun s=>s.size ≤ 9223372036854775807) x.f6
theorem mI:Sk Try.prog 141 ow tD:=eu (fun p=>⟨p.1,p.2.1,p.2.2.1,p.2.2.2.1,p.2.2.2.2.1,p.2.2.2.2.2.1,p.2.2.2.2.2.2⟩) (fun _=>rfl) (Ho Try.underlying141 (by kernel_rfl) (kf rfl (by kernel_rfl) (by kernel_rfl) (kg Try.underlying3) (kf rfl (by kernel_rfl) (by kernel_rfl) (kg Try.underlying3) (kf rfl (by kernel_rfl) (by kernel_rfl) (kg Try.underlying3) (kf rfl (by kernel_rfl) (by kernel_rfl) (kg Try.underlying3) (kf rfl (by kernel_rfl) (by kernel_rfl) (kg Try.underlying3) (kf rfl (by kernel_rfl) (by kernel_rfl) (kg Try.underlying3) (Dr rfl (by kernel_rfl) (Dy Try.underlying9)))))))))
theorem oI:Sk Try.prog 104 (Kd.slice 141 ow) (fun l=>l.length ≤ 9223372036854775807∧∀ a ∈ l,tD a):=Hp Try.underlying104 (by kernel_rfl) mI
def uD (x:nj):Prop:=(fun l=>l.length ≤ 9223372036854775807∧∀ a ∈ l,tD a) x.f0∧Un x.f1∧Un x.f2∧Un x.f3∧Un x.f4
theorem nI:Sk Try.prog 106 qw uD:=eu (fun p=>⟨p.1,p.2.1,p.2.2.1,p.2.2.2.1,p.2.2.2.2⟩) (fun _=>rfl) (Ho Try.underlying106 (by kernel_rfl) (kf rfl (by kernel_rfl) (by kernel_rfl) oI (kf rfl (by kernel_rfl) (by kernel_rfl) (kg Try.underlying3) (kf rfl (by kernel_rfl) (by kernel_rfl) (kg Try.underlying3) (kf rfl (by kernel_rfl) (by kernel_rfl) (kg Try.underlying3) (Dr rfl (by kernel_rfl) (kg Try.underlying3)))))))
theorem UL:Sk Try.prog 38 (Kd.slice 106 qw) (fun l=>l.length ≤ 9223372036854775807∧∀ a ∈ l,uD a):=Hp Try.underlying38 (by kernel_rfl) nI
def PJ (x:DU):Prop:=(fun l=>l.length ≤ 9223372036854775807∧∀ a ∈ l,Un a) x.f0∧Un x.f1∧Un x.f2∧Un x.f3∧(fun l=>l.length ≤ 9223372036854775807∧∀ a ∈ l,uD a) x.f4
theorem TL:Sk Try.prog 40 k40 PJ:=eu (fun p=>⟨p.1,p.2.1,p.2.2.1,p.2.2.2.1,p.2.2.2.2⟩) (fun _=>rfl) (Ho Try.underlying40 (by kernel_rfl) (kf rfl (by kernel_rfl) (by kernel_rfl) VL (kf rfl (by kernel_rfl) (by kernel_rfl) (kg Try.underlying3) (kf rfl (by kernel_rfl) (by kernel_rfl) (kg Try.underlying3) (kf rfl (by kernel_rfl) (by kernel_rfl) (kg Try.underlying3) (Dr rfl (by kernel_rfl) UL))))))
def Jh.f (a0:Int) (a1:Int) (a2:Int):Option (Bool):=if a0 ≥ a1 then (some (decide (a0 ≤ a2))) else (some false)
theorem Jh.calls (a0:Int) (a1:Int) (a2:Int) (r:Bool) (w:World) (h:Jh.f a0 a1 a2=some r) :
  Calls Try.prog 81 #[.int .i64 a0,.int .i64 a1,.int .i64 a2] w fun e w'=>e = .returned (.bool r)∧Sb w w':=by
 have H:(if a0 ≥ a1 then (some (decide (a0 ≤ a2))) else (some false))=some r:=h;clear h
 by_cases c4:a0 ≥ a1
 ·rw [if_pos c4] at H;have zm:decide (a1 ≤ a0)=true:=decide_eq_true c4;clear c4;obtain rfl:=Option.some.inj H;go_enter Try.func81,Try.ntmps81;go_wp2;go_ret;exact ⟨Naj,xaj⟩
 ·rw [if_neg c4] at H;have zm:decide (a1 ≤ a0)=false:=decide_eq_false c4;clear c4;obtain rfl:=Option.some.inj H;go_enter Try.func81,Try.ntmps81;go_wp2;go_ret;exact ⟨Naj,xaj⟩
def bf.f (Ma:List (oc)) (Oa:Int) (Pa:Int) (Na:Int) (Xd:Int):Option (List Int):=if Oa=0 then (some (([Na]:List Int))) else (if Oa=1 then (some (([Na,Xd]:List Int))) else (some (([]:List Int))))
theorem bf.calls (zb:Option Addr) (yb:Nat) (Ma:List (oc)) (Oa:Int) (Pa:Int) (Na:Int) (Xd:Int) (r:List Int) (w:World) (qd:Kd.C Je w zb Ma.length Ma) (Ad:Ma.length ≤ yb) (h:bf.f Ma Oa Pa Na Xd=some r) :
  Calls Try.prog 85 #[.agg #[.slice zb Ma.length yb,.int .i64 Oa,.int .i64 Pa,.int .i64 Na,.int .i64 Xd]] w fun e w'=>∃ Di:Value,e = .returned (Di)∧Kd.R (Kd.int .i64) 3 w' w.heap.size (fun _=>True) Di r∧Below w.heap.size w w':=by
 have Sy:=Try.underlying83;have Ng:=aa.mk qd;have Pg:=aa.mk Ad;clear qd Ad;have HB:=aa.mk (Below.refl w.heap.size w);have H:(if Oa=0 then (some (([Na]:List Int))) else (if Oa=1 then (some (([Na,Xd]:List Int))) else (some (([]:List Int)))))=some r:=h;clear h
 by_cases c2:Oa=0
 ·rw [if_pos c2] at H;have Mo:=beq_iff_eq.mpr c2;have Sq:=bne_eq_false_iff_eq.mpr c2;clear c2;obtain ⟨yd,Ee⟩:∃ y_:List Int,y_=(([Na]:List Int)):=⟨_,rfl⟩;replace H:(some yd)=some r:=by first|(rw [Ee];with_reducible exact H)|(have Qc:=(Option.bind_some _ _).symm.trans H;rw [Ee];with_reducible exact Qc)|(have Qc:=(Option.bind_some _ _).symm.trans H;with_reducible exact Qc)|with_reducible exact H|(rw [Ee];exact H)|exact H
  have Ch:=aa.mk Ee;clear Ee;obtain rfl:=Option.some.inj H;go_enter Try.func85,Try.ntmps85;go_wp2_with (first|((with_reducible refine Qb (N:=1) rfl ?_);refine Ic ?hg (N:=1) ?hd (cs:=#[.slice zb Ma.length yb,.int .i64 Oa,.int .i64 Pa,.int .i64 Na,.int .i64 Xd]) (t:=83) ?hr ?_;(case hd|hg=>rfl);(case hr=>exact jaj);intro Ka hg w3 Bd hb;have Pb:=aa.mk (Ga maj hb);have Rb:=aa.mk (Bd);have Yb:=aa.mk ((by rw [hg];exact (Qa maj):w.heap.size ≤ Ka));have Vc:=aa.mk ((by rw [hg];exact (Qa maj):w.heap.size ≤ Ka));clear HB;have HB:=Pb;have qa:=Rb;have Vf:=Yb;have Xa:=Vc;clear Pb Rb Yb Vc hb Bd hg;have sS:w3.cell? ⟨Ka,0,none⟩=some (.slice zb Ma.length yb):=(ya qa.out 0).trans rfl;have rS:w3.cell? ⟨Ka,1,none⟩=some (.int .i64 Oa):=(ya qa.out 1).trans rfl;have pS:w3.cell? ⟨Ka,2,none⟩=some (.int .i64 Pa):=(ya qa.out 2).trans rfl;have nS:w3.cell? ⟨Ka,3,none⟩=some (.int .i64 Na):=(ya qa.out 3).trans rfl;have mS:w3.cell? ⟨Ka,4,none⟩=some (.int .i64 Xd):=(ya qa.out 4).trans rfl;have RR:=za qa.out 0;have PR:=za qa.out 1;have NR:=za qa.out 2;have MR:=za qa.out 3;have LR:=za qa.out 4)|((with_reducible refine Qb (N:=9) rfl ?_);refine Kd.Yj (Kd.int .i64) _ 3 ?hg (N:=9) ?hd (xs:=([Na]:List Int)) (inner:=[.int .i64 Na]) (ok:=fun _=>True) (Yg:=fun _=>True) ?hr ?hp (fun _ hk=>hk) trivial (Below.refl _ _) (Nat.le_refl _) (by simp) ?_;(case hd|hg=>rfl);(case hr=>exact jaj);(case hp=>exact (Pc.one (show Kd.M (Kd.int .i64) _ _ _ Na [.int .i64 Na] from rfl) (Pc.none _ _)));intro th w5 Us hb Ll Pe;clear Ll Pe;(first|rw [← Ch.out] at Us|(simp only [Int.reduceToNat] at Us;rw [← Ch.out] at Us));have Pb:=aa.mk (Kd.Xc Us (Qa laj));have Rb:=aa.mk (Ta (g:=Ka) (o:=.cells #[.slice zb Ma.length yb,.int .i64 Oa,.int .i64 Pa,.int .i64 Na,.int .i64 Xd] 83 (0,0)) naj hb);have Yb:=aa.mk (Ga laj hb);clear qa HB;have qe:=Pb;have qa:=Rb;have HB:=Yb;clear Pb Rb Yb hb Us));go_ret;exact ⟨_,taj,Taj,oaj⟩
 ·rw [if_neg c2] at H;have Mo:=beq_eq_false_iff_ne.mpr c2;have Sq:=bne_iff_ne.mpr c2
  by_cases c7:Oa=1
  ·rw [if_pos c7] at H;have yu:=beq_iff_eq.mpr c7;have fK:=bne_eq_false_iff_eq.mpr c7;clear c7;obtain ⟨Pd,Hf⟩:∃ y_:List Int,y_=(([Na,Xd]:List Int)):=⟨_,rfl⟩;replace H:(some Pd)=some r:=by first|(rw [Hf];with_reducible exact H)|(have Qc:=(Option.bind_some _ _).symm.trans H;rw [Hf];with_reducible exact Qc)|(have Qc:=(Option.bind_some _ _).symm.trans H;with_reducible exact Qc)|with_reducible exact H|(rw [Hf];exact H)|exact H
   have Tk:=aa.mk Hf;clear Hf;obtain rfl:=Option.some.inj H;go_enter Try.func85,Try.ntmps85;go_wp2_with (first|((with_reducible refine Qb (N:=1) rfl ?_);refine Ic ?hg (N:=1) ?hd (cs:=#[.slice zb Ma.length yb,.int .i64 Oa,.int .i64 Pa,.int .i64 Na,.int .i64 Xd]) (t:=83) ?hr ?_;(case hd|hg=>rfl);(case hr=>exact jaj);intro Ka hg w8 Bd hb;have Pb:=aa.mk (Ga maj hb);have Rb:=aa.mk (Bd);have Yb:=aa.mk ((by rw [hg];exact (Qa maj):w.heap.size ≤ Ka));have Vc:=aa.mk ((by rw [hg];exact (Qa maj):w.heap.size ≤ Ka));clear HB;have HB:=Pb;have qa:=Rb;have Vf:=Yb;have Xa:=Vc;clear Pb Rb Yb Vc hb Bd hg;have Bl:w8.cell? ⟨Ka,0,none⟩=some (.slice zb Ma.length yb):=(ya qa.out 0).trans rfl;have Al:w8.cell? ⟨Ka,1,none⟩=some (.int .i64 Oa):=(ya qa.out 1).trans rfl;have zl:w8.cell? ⟨Ka,2,none⟩=some (.int .i64 Pa):=(ya qa.out 2).trans rfl;have yl:w8.cell? ⟨Ka,3,none⟩=some (.int .i64 Na):=(ya qa.out 3).trans rfl;have xl:w8.cell? ⟨Ka,4,none⟩=some (.int .i64 Xd):=(ya qa.out 4).trans rfl;have vl:=za qa.out 0;have ql:=za qa.out 1;have jl:=za qa.out 2;have gl:=za qa.out 3;have fl:=za qa.out 4)|((with_reducible refine Qb (N:=16) rfl ?_);refine Kd.Yj (Kd.int .i64) _ 3 ?hg (N:=16) ?hd (xs:=([Na,Xd]:List Int)) (inner:=[.int .i64 Na,.int .i64 Xd]) (ok:=fun _=>True) (Yg:=fun _=>True) ?hr ?hp (fun _ hk=>hk) trivial (Below.refl _ _) (Nat.le_refl _) (by simp) ?_;(case hd|hg=>rfl);(case hr=>exact jaj);(case hp=>exact (Pc.one (show Kd.M (Kd.int .i64) _ _ _ Na [.int .i64 Na] from rfl) (Pc.one (show Kd.M (Kd.int .i64) _ _ _ Xd [.int .i64 Xd] from rfl) (Pc.none _ _))));intro Wv wv vp hb Ll Pe;clear Ll Pe;(first|rw [← Tk.out] at vp|(simp only [Int.reduceToNat] at vp;rw [← Tk.out] at vp));have Pb:=aa.mk (Kd.Xc vp (Qa laj));have Rb:=aa.mk (Ta (g:=Ka) (o:=.cells #[.slice zb Ma.length yb,.int .i64 Oa,.int .i64 Pa,.int .i64 Na,.int .i64 Xd] 83 (0,0)) naj hb);have Yb:=aa.mk (Ga laj hb);clear qa HB;have Uk:=Pb;have qa:=Rb;have HB:=Yb;clear Pb Rb Yb hb vp));go_ret;exact ⟨_,taj,by (with_reducible repeat (first|apply Kd.Ia|apply Kd.La|apply Kd.Ra));exact Uk.out,oaj⟩
  ·rw [if_neg c7] at H;have yu:=beq_eq_false_iff_ne.mpr c7;have fK:=bne_iff_ne.mpr c7;obtain ⟨uA,Nk⟩:∃ y_:List Int,y_=(([]:List Int)):=⟨_,rfl⟩;replace H:(some uA)=some r:=by first|(rw [Nk];with_reducible exact H)|(have Qc:=(Option.bind_some _ _).symm.trans H;rw [Nk];with_reducible exact Qc)|(have Qc:=(Option.bind_some _ _).symm.trans H;with_reducible exact Qc)|with_reducible exact H|(rw [Nk];exact H)|exact H
   have Uw:=aa.mk Nk;clear Nk;obtain rfl:=Option.some.inj H;go_enter Try.func85,Try.ntmps85;go_wp2_with (first|((with_reducible refine Qb (N:=1) rfl ?_);refine Ic ?hg (N:=1) ?hd (cs:=#[.slice zb Ma.length yb,.int .i64 Oa,.int .i64 Pa,.int .i64 Na,.int .i64 Xd]) (t:=83) ?hr ?_;(case hd|hg=>rfl);(case hr=>exact jaj);intro Ka hg Vv Bd hb;have Pb:=aa.mk (Ga maj hb);have Rb:=aa.mk (Bd);have Yb:=aa.mk ((by rw [hg];exact (Qa maj):w.heap.size ≤ Ka));have Vc:=aa.mk ((by rw [hg];exact (Qa maj):w.heap.size ≤ Ka));clear HB;have HB:=Pb;have qa:=Rb;have Vf:=Yb;have Xa:=Vc;clear Pb Rb Yb Vc hb Bd hg;have Bn:Vv.cell? ⟨Ka,0,none⟩=some (.slice zb Ma.length yb):=(ya qa.out 0).trans rfl;have zn:Vv.cell? ⟨Ka,1,none⟩=some (.int .i64 Oa):=(ya qa.out 1).trans rfl;have vn:Vv.cell? ⟨Ka,2,none⟩=some (.int .i64 Pa):=(ya qa.out 2).trans rfl;have qn:Vv.cell? ⟨Ka,3,none⟩=some (.int .i64 Na):=(ya qa.out 3).trans rfl;have pn:Vv.cell? ⟨Ka,4,none⟩=some (.int .i64 Xd):=(ya qa.out 4).trans rfl;have kn:=za qa.out 0;have gn:=za qa.out 1;have en:=za qa.out 2;have dn:=za qa.out 3;have bn:=za qa.out 4)|((with_reducible refine Qb (N:=17) rfl ?_);refine Kd.Yj (Kd.int .i64) _ 3 ?hg (N:=17) ?hd (xs:=([]:List Int)) (inner:=[]) (ok:=fun _=>True) (Yg:=fun _=>True) ?hr ?hp (fun _ hk=>hk) trivial (Below.refl _ _) (Nat.le_refl _) (by simp) ?_;(case hd|hg=>rfl);(case hr=>exact jaj);(case hp=>exact (Pc.none _ _));intro v109 xU XI hb Ll Pe;clear Ll Pe;(first|rw [← Uw.out] at XI|(simp only [Int.reduceToNat] at XI;rw [← Uw.out] at XI));have Pb:=aa.mk (Kd.Xc XI (Qa laj));have Rb:=aa.mk (Ta (g:=Ka) (o:=.cells #[.slice zb Ma.length yb,.int .i64 Oa,.int .i64 Pa,.int .i64 Na,.int .i64 Xd] 83 (0,0)) naj hb);have Yb:=aa.mk (Ga laj hb);clear qa HB;have bp:=Pb;have qa:=Rb;have HB:=Yb;clear Pb Rb Yb hb XI));go_ret;exact ⟨_,taj,by (with_reducible repeat (first|apply Kd.Ia|apply Kd.La|apply Kd.Ra));exact bp.out,oaj⟩
theorem Zj {α:Type} (d:Kd α) (e:Nat) (w:World) (base:Nat) (h:base ≤ w.heap.size):d.R e (w.alloc (.cells #[] e (0,0))) base (fun _=>True) (.slice (some ⟨w.heap.size,0,none⟩) 0 0) []:=by
 refine ⟨fun _ _=>trivial,[],?_,⟨by simp,fun i p hp=>by simp at hp⟩⟩;have h2:=World.ownsRow_lit (base:=base) (e:=e) (size:=d.sz) w #[] 0 h (by simp [maxLen]) (by simp)
 simpa using h2
theorem KC {α:Type} {d:Kd α} {e B:Nat} {ok:Nat→Prop} {W w':World} {v:Value} {xs:List α} (h:d.R e w' W.heap.size ok v xs) (hB:B ≤ W.heap.size):d.R e w' B (fun k=>W.heap.size ≤ k∧k < w'.heap.size) v xs :=
 Kd.Xc (Kd.Eb (Kd.We h) (fun _ hk=>⟨hk.2.1,hk.2.2.1⟩)) hB
theorem CQ {α:Type} {d:Kd α} {e B:Nat} {ok:Nat→Prop} {W w':World} {v:Value} {xs:List α} (h:Kd.S d e w' W.heap.size ok v xs) (hB:B ≤ W.heap.size):Kd.S d e w' B (fun k=>W.heap.size ≤ k∧k < w'.heap.size) v xs :=
 Kd.Ov (Kd.wg (Kd.Ro h) (fun _ hk=>⟨hk.2.1,hk.2.2.1⟩)) hB
def sk (l:List Int) (n:Int):Nat:=(l.takeWhile (fun x=>decide (x < n))).length
def Fg (l:List Int) (n:Int):List Int:=if sk l n < l.length∧rd l (sk l n:Int)=n then l else l.take (sk l n) ++ [n] ++ l.drop (sk l n)
theorem Eo (x:Int) (l:List Int) (j:Nat):rd (x :: l) ((j + 1:Nat):Int)=rd l (j:Int):=by
 simp [rd]
theorem XL (l:List Int) (n:Int):∀ i:Nat,i ≤ l.length→(∀ j:Nat,j < i→rd l (j:Int) < n)→(i=l.length ∨ ¬ rd l (i:Int) < n)→sk l n=i:=by
 induction l with
 | nil =>
  intro i hi _ _;simp at hi;simp [sk,hi]
 | cons x l ih =>
  intro i hi ha hb;cases i with
  | zero =>
   have hx:¬ x < n:=by
    rcases hb with h|h
    ·simp at h
    ·simpa [rd] using h
   simp [sk,hx]
  | succ i =>
   have hx:x < n:=by simpa [rd] using ha 0 (by omega)
   have h:=ih i (by simpa using hi) (fun j hj=>by have:=ha (j + 1) (by omega);rwa [Eo] at this) (by
    rcases hb with h|h
    ·exact Or.inl (by simpa using h)
    ·rw [Eo] at h
     exact Or.inr h)
   unfold sk at h ⊢;simp [List.takeWhile_cons,hx,h]
def Ff.f (l0:List Int) (a1:Int):Option (List Int):=if l0.length ≤ 4398046511104 then some (Fg l0 a1) else none
theorem iC {e:Nat} {W:World} {base:Nat} (h:base ≤ W.heap.size) (n:Int) (t:Nat):Kd.R (Kd.int .i64) e ((W.alloc (.cells #[.int .i64 n] t (0,0))).alloc (.cells #[] e (0,0))) base (fun _=>True) (.slice (some ⟨W.heap.size + 1,0,none⟩) 0 0) []:=by
 have h2:=Zj (Kd.int .i64) e (W.alloc (.cells #[.int .i64 n] t (0,0))) base (by simp;omega)
 simpa using h2
theorem Mt {e:Nat} (w:World) (base:Nat) (n:Int) (h:base ≤ w.heap.size):Kd.R (Kd.int .i64) e (w.alloc (.cells #[.int .i64 n] e (0,0))) base (fun _=>True) (.slice (some ⟨w.heap.size,0,none⟩) 1 1) [n]:=by
 refine ⟨fun _ _=>trivial,[.int .i64 n],?_,⟨rfl,fun i p hp=>?_⟩⟩
 ·have h2:=World.ownsRow_lit (base:=base) (e:=e) (size:=1) w #[.int .i64 n] 1 h (by simp [maxLen]) (by simp);exact h2
 ·cases i with
  | zero =>
   simp at hp;subst hp
   rfl
  | succ i=>simp at hp
theorem Gr (A:Option Addr) (c:Nat) (l0:List Int) (a1:Int) (w:World) (hC:Kd.C (Kd.int .i64) w A l0.length l0) (hnc:l0.length ≤ c) (hl:l0.length ≤ 4398046511104) :
  Calls Try.prog 55 #[.slice A l0.length c,.int .i64 a1] w fun e w'=>∃ Di:Value,e = .returned (Di)∧Below w.heap.size w w'∧((Fg l0 a1=l0∧Di = .slice A l0.length c) ∨ (Fg l0 a1=l0.take (sk l0 a1) ++ [a1] ++ l0.drop (sk l0 a1)∧Kd.R (Kd.int .i64) 3 w' w.heap.size (fun _=>True) Di (Fg l0 a1))):=by
 have XK:=aa.mk hC;have HL:=aa.mk hl;have hm6:l0.length ≤ 9223372036854775807:=by omega
 clear hC hl;go_enter Try.func55,Try.ntmps55;go_wp2
 go_loopg [5] l0.length (fun gg v5 wr=>∃ i:Nat,i ≤ l0.length∧l0.length - i ≤ gg∧v5 = .int .i64 i∧aa (∀ j:Nat,j < i→rd l0 (j:Int) < a1)∧aa (Below w.heap.size w wr))
 case atStart=>exact ⟨0,Nat.zero_le _,by omega,rfl,⟨fun j hj=>absurd hj (by omega)⟩,⟨Below.refl _ _⟩⟩
 case round =>
  (try clear HA);(try clear gE);obtain ⟨i,hi,hg,rfl,HA,gE⟩:=hrel;have key:∀ hstop:(i=l0.length ∨ ¬ rd l0 (i:Int) < a1),sk l0 a1=i:=fun hstop=>XL l0 a1 i hi HA.out hstop
  have HKEY:=aa.mk key;clear key
  by_cases hgo:i < l0.length∧rd l0 (i:Int) < a1
  case pos =>
   obtain ⟨hlt,hc⟩:=hgo;have ek:decide ((i:Int) < (l0.length:Int))=true:=decide_eq_true (by omega);have p1:0 ≤ (i:Int):=by omega
   have p2:(i:Int) < (l0.length:Int):=by omega
   obtain ⟨ad,e1,hx⟩:=Kd.Ld (Kd.Za XK.out gE.out) (i:Int) p1 p2;subst e1;simp only [Int.toNat_natCast] at hx;have hcb:decide (rd l0 (i:Int) < a1)=true:=decide_eq_true hc;have HC:=aa.mk hc;clear hc;go_wp2
   go_roundg (l0.length - (i + 1))
   case measure=>omega
   case rel=>exact ⟨i + 1,by omega,by omega,by go_num,⟨fun j hj=>by by_cases e:j=i;(rw [e];exact HC.out);(exact HA.out j (by omega))⟩,gE⟩
  have YN:=aa.mk (HKEY.out (by by_cases h:i < l0.length;(exact Or.inr (fun hc=>hgo ⟨h,hc⟩));(exact Or.inl (by omega))))
  by_cases JZ:i < l0.length∧rd l0 (i:Int)=a1
  case pos =>
   obtain ⟨hlt,he⟩:=JZ;have ek:decide ((i:Int) < (l0.length:Int))=true:=decide_eq_true (by omega);have p1:0 ≤ (i:Int):=by omega
   have p2:(i:Int) < (l0.length:Int):=by omega
   obtain ⟨ad,e1,hx⟩:=Kd.Ld (Kd.Za XK.out gE.out) (i:Int) p1 p2;subst e1;simp only [Int.toNat_natCast] at hx;have hcb:decide (rd l0 (i:Int) < a1)=false:=decide_eq_false (by omega);have heb:(rd l0 (i:Int) == a1)=true:=beq_iff_eq.2 he;have HE:=aa.mk (show Fg l0 a1=l0 from by unfold Fg;rw [YN.out,if_pos ⟨hlt,he⟩]);clear he hgo;go_wp2;go_ret;exact ⟨_,rfl,gE.out,.inl ⟨HE.out,rfl⟩⟩
  have HE:=aa.mk (show Fg l0 a1=l0.take i ++ [a1] ++ l0.drop i from by unfold Fg;rw [YN.out,if_neg JZ]);have p1:0 ≤ (i:Int):=by omega
  have p3:(i:Int) ≤ (l0.length:Int):=by omega
  have hi0:=info3;obtain ⟨i0,hi1,hi2⟩:=Option.map_eq_some_iff.1 hi0;have hi3:i0.size=1:=by simp only [Prod.mk.injEq] at hi2;exact hi2.2.1
  have xJ:=FD 22 3 .i64 Try.underlying22 hi1 A l0.length c (i:Int) p1 p3 hnc;have MV:=Wn 22 3 .i64 Try.underlying22 hi1 1 hi3 A l0.length c (i:Int) p1 p3;simp only [Int.toNat_natCast,Nat.mul_one] at xJ MV;clear hi0 hi2 hi3
  have tV:(decide ((i:Int) < (l0.length:Int))=false∧¬ i < l0.length) ∨ (decide ((i:Int) < (l0.length:Int))=true∧i < l0.length∧(i:Int) < (l0.length:Int)∧decide (rd l0 (i:Int) < a1)=false∧(rd l0 (i:Int) == a1)=false):=by
   by_cases h:i < l0.length
   ·exact Or.inr ⟨decide_eq_true (by omega),h,by omega,decide_eq_false (fun hc=>hgo ⟨h,hc⟩),beq_eq_false_iff_ne.2 (fun hc=>JZ ⟨h,hc⟩)⟩
   ·exact Or.inl ⟨decide_eq_false (by omega),h⟩
  clear hgo JZ
  rcases tV with ⟨ek,hlt⟩|⟨ek,hlt,p2,hcb,heb⟩
  ·go_upto_region 6 with (fail)
   have Nr:=aa.mk (ja gE.out);refine Yk (n:=13) (S:=fun w'=>True) (ds:=[]) #[false,false,false,false,false,false,false,false,false,false,false,false,false] (by kernel_rfl) rfl rfl trivial (fun hHeld=>?_);generalize wr.drew=wd at Nr hHeld ⊢;refine od (i:=1) (N:=some 34) (v:=?_) (a':=?_) #[false,true,false,false,false,false,false,false,false,false,false,false,false] rfl rfl (by kernel_rfl) (fun _ _ _ h=>h) (Or.inl ⟨by rfl,?_⟩) ?_ ?_;rotate_left
   ·exact eaj
   rotate_left
   ·exact daj
   refine od (i:=2) (N:=some 35) (v:=?_) (a':=?_) #[false,true,true,false,false,false,false,false,false,false,false,false,false] rfl rfl (by kernel_rfl) (fun _ _ _ h=>h) (Or.inl ⟨by rfl,?_⟩) ?_ ?_;rotate_left
   ·exact eaj
   rotate_left
   ·exact daj
   refine od (i:=3) (N:=some 36) (v:=?_) (a':=?_) #[false,true,true,true,false,false,false,false,false,false,false,false,false] rfl rfl (by kernel_rfl) (fun _ _ _ h=>h) (Or.inl ⟨by rfl,?_⟩) ?_ ?_;rotate_left
   ·exact eaj
   rotate_left
   ·exact daj
   refine od (i:=5) (N:=some 38) (v:=?_) (a':=?_) #[false,true,true,true,false,true,false,false,false,false,false,false,false] rfl rfl (by kernel_rfl) (fun _ _ _ h=>h) (Or.inl ⟨by rfl,?_⟩) ?_ ?_;rotate_left
   ·exact eaj
   rotate_left
   ·exact daj
   refine od (i:=8) (N:=some 41) (v:=?_) (a':=?_) #[false,true,true,true,false,true,false,false,true,false,false,false,false] rfl rfl (by kernel_rfl) (fun _ _ _ h=>h) (Or.inl ⟨by rfl,?_⟩) ?_ ?_;rotate_left
   ·exact eaj
   rotate_left
   ·exact daj
   refine od (i:=9) (N:=some 42) (v:=?_) (a':=?_) #[false,true,true,true,false,true,false,false,true,true,false,false,false] rfl rfl (by kernel_rfl) (fun _ _ _ h=>h) (Or.inl ⟨by rfl,?_⟩) ?_ ?_;rotate_left
   ·exact eaj
   rotate_left
   ·exact daj
   refine od (i:=10) (N:=some 43) (v:=?_) (a':=?_) #[false,true,true,true,false,true,false,false,true,true,true,false,false] rfl rfl (by kernel_rfl) (fun _ _ _ h=>h) (Or.inl ⟨by rfl,?_⟩) ?_ ?_;rotate_left
   ·exact eaj
   rotate_left
   ·exact daj
   refine wO (σ:=Nat × Value × Nat) 3 #[true,true,true,true,true,true,true,false,true,true,true,false,false] (fun s=>[(33,.slice (some ⟨s.1,0,none⟩) 0 0),(37,s.2.1),(39,.slice (some ⟨s.2.2,0,none⟩) 1 1)]) (fun s w'=>Below w.heap.size w w'∧Kd.R (Kd.int .i64) 3 w' w.heap.size (fun _=>True) s.2.1 (l0.take i)∧Kd.R (Kd.int .i64) 3 w' w.heap.size (fun _=>True) (.slice (some ⟨s.2.2,0,none⟩) 1 1) [a1]) ?_ ?_;rotate_left
   ·intro zw;refine AL (i:=0) (j:=6) (Ni:=some 33) (Nj:=some 39) #[true,true,true,true,false,true,false,false,true,true,true,false,false] #[false,true,true,true,false,true,true,false,true,true,true,false,false] rfl rfl rfl rfl (by kernel_rfl) (by decide) (by decide) (fun K hK=>?_) (fun K hK=>?_)
    ·skip
     refine jm (w1:=?_) (v:=?_) (by rfl) rfl ?_ ?_;rotate_left 2
     ·go_simp
      constructor
      ·rfl
      ·rfl
     refine hK.out _ _ trivial (fun hHeld=>?_);clear hK K;refine Nf (a':=?_) ?_ ?_;rotate_left
     ·show Act.put _ (some 33) _=_
      exact daj
     refine AL (i:=4) (j:=6) (Ni:=some 37) (Nj:=some 39) #[true,true,true,true,true,true,false,false,true,true,true,false,false] #[true,true,true,true,false,true,true,false,true,true,true,false,false] rfl rfl rfl rfl (by kernel_rfl) (by decide) (by decide) (fun K hK=>?_) (fun K hK=>?_)
     ·skip
      refine Kd.Nd (Kd.int .i64) (w0:=w) w.heap.size (by rfl) (.tmp 33) (.tmp 36) 22 3 (.int .i64 0) 8 rfl Try.underlying22 info3 rfl (by decide) (by omega) (.slice (some ⟨wd.heap.size,0,none⟩) 0 0) [] (l0.take i) A i c (fun _=>True) (fun _=>False) rfl rfl (Zj (Kd.int .i64) 3 wd w.heap.size Nr.out.size) ?aR (fun _ _ h=>h) (fun _ hk=>hk.elim) (fun _ _=>trivial) (ia Nr.out _) (ia Nr.out _).size (by simp;have:=HL.out;omega) ?_
      (case aR=>have h:=Kd.Ju (m:=i) (Kd.Za (w1:=wd.alloc (.cells #[] 3 (0,0))) XK.out (ia Nr.out _)) (by omega);rw [List.length_take,Nat.min_eq_left (by omega)] at h;exact h)
      intro v1 w1 ho hb hg hat;have pG:=aa.mk ho;have Vo:=aa.mk hb;clear ho hb hg hat;refine hK.out _ _ trivial (fun hHeld=>?_);clear hK K;refine Nf (a':=?_) ?_ ?_;rotate_left
      ·show Act.put _ (some 37) _=_
       exact daj
      refine qp (i:=6) (N:=some 39) #[true,true,true,true,true,true,true,false,true,true,true,false,false] rfl rfl (by kernel_rfl) (by decide) (fun K hK=>?_);refine jm (w1:=?_) (v:=?_) (by rfl) rfl ?_ ?_;rotate_left 2
      ·go_simp
       constructor
       ·rfl
       ·rfl
      refine hK.out _ _ trivial (fun hHeld=>?_);clear hK K;refine Nf (a':=?_) ?_ ?_;rotate_left
      ·show Act.put _ (some 39) _=_
       exact daj
      exact Nf Waj (zw (wd.heap.size,v1,w1.heap.size) _ ⟨ia Vo.out _,Kd.Ia pG.out _,Mt w1 w.heap.size a1 Vo.out.size⟩)
     ·skip
      refine jm (w1:=?_) (v:=?_) (by rfl) rfl ?_ ?_;rotate_left 2
      ·go_simp
       constructor
       ·rfl
       ·rfl
      refine hK.out _ _ trivial (fun hHeld=>?_);clear hK K;refine Nf (a':=?_) ?_ ?_;rotate_left
      ·show Act.put _ (some 39) _=_
       exact daj
      refine qp (i:=4) (N:=some 37) #[true,true,true,true,true,true,true,false,true,true,true,false,false] rfl rfl (by kernel_rfl) (by decide) (fun K hK=>?_);refine Kd.Nd (Kd.int .i64) (w0:=w) w.heap.size (by rfl) (.tmp 33) (.tmp 36) 22 3 (.int .i64 0) 8 rfl Try.underlying22 info3 rfl (by decide) (by omega) (.slice (some ⟨wd.heap.size,0,none⟩) 0 0) [] (l0.take i) A i c (fun _=>True) (fun _=>False) rfl rfl (Kd.Ia (Zj (Kd.int .i64) 3 wd w.heap.size Nr.out.size) _) ?aR (fun _ _ h=>h) (fun _ hk=>hk.elim) (fun _ _=>trivial) (ia (ia Nr.out _) _) (ia (ia Nr.out _) _).size (by simp;have:=HL.out;omega) ?_
      (case aR=>have h:=Kd.Ju (m:=i) (Kd.Za (w1:=((wd.alloc (.cells #[] 3 (0,0))).alloc (.cells #[.int .i64 a1] 3 (0,0)))) XK.out (ia (ia Nr.out _) _)) (by omega);rw [List.length_take,Nat.min_eq_left (by omega)] at h;exact h)
      intro v1 w1 ho hb hg hat;have pG:=aa.mk ho;have Vo:=aa.mk hb;have VK:=aa.mk (Kd.Eb (Kd.Kq (Kd.Ji rfl (show Kd.R (Kd.int .i64) 3 ((wd.alloc (.cells #[] 3 (0,0))).alloc (.cells #[.int .i64 a1] 3 (0,0))) w.heap.size (fun _=>True) (.slice (some ⟨wd.heap.size + 1,0,none⟩) 1 1) [a1] from by have h:=Mt (e:=3) (wd.alloc (.cells #[] 3 (0,0))) w.heap.size a1 (by simp;have:=Nr.out.size;omega);simpa using h)) hg (fun k_ hk e=>by simp [Value.ownBlock] at hk e;omega)) (fun _ _=>(trivial:True)));clear ho hb hg hat;refine hK.out _ _ trivial (fun hHeld=>?_);clear hK K;refine Nf (a':=?_) ?_ ?_;rotate_left
      ·show Act.put _ (some 37) _=_
       exact daj
      exact Nf Waj (zw (wd.heap.size,v1,wd.heap.size + 1) _ ⟨Vo.out,pG.out,VK.out⟩)
    ·skip
     refine jm (w1:=?_) (v:=?_) (by rfl) rfl ?_ ?_;rotate_left 2
     ·go_simp
      constructor
      ·rfl
      ·rfl
     refine hK.out _ _ trivial (fun hHeld=>?_);clear hK K;refine Nf (a':=?_) ?_ ?_;rotate_left
     ·show Act.put _ (some 39) _=_
      exact daj
     refine qp (i:=0) (N:=some 33) #[true,true,true,true,false,true,true,false,true,true,true,false,false] rfl rfl (by kernel_rfl) (by decide) (fun K hK=>?_);refine jm (w1:=?_) (v:=?_) (by rfl) rfl ?_ ?_;rotate_left 2
     ·go_simp
      constructor
      ·rfl
      ·rfl
     refine hK.out _ _ trivial (fun hHeld=>?_);clear hK K;refine Nf (a':=?_) ?_ ?_;rotate_left
     ·show Act.put _ (some 33) _=_
      exact daj
     refine qp (i:=4) (N:=some 37) #[true,true,true,true,true,true,true,false,true,true,true,false,false] rfl rfl (by kernel_rfl) (by decide) (fun K hK=>?_);refine Kd.Nd (Kd.int .i64) (w0:=w) w.heap.size (by rfl) (.tmp 33) (.tmp 36) 22 3 (.int .i64 0) 8 rfl Try.underlying22 info3 rfl (by decide) (by omega) (.slice (some ⟨wd.heap.size + 1,0,none⟩) 0 0) [] (l0.take i) A i c (fun _=>True) (fun _=>False) rfl rfl (iC Nr.out.size a1 3) ?aR (fun _ _ h=>h) (fun _ hk=>hk.elim) (fun _ _=>trivial) (ia (ia Nr.out _) _) (ia (ia Nr.out _) _).size (by simp;have:=HL.out;omega) ?_
     (case aR=>have h:=Kd.Ju (m:=i) (Kd.Za (w1:=((wd.alloc (.cells #[.int .i64 a1] 3 (0,0))).alloc (.cells #[] 3 (0,0)))) XK.out (ia (ia Nr.out _) _)) (by omega);rw [List.length_take,Nat.min_eq_left (by omega)] at h;exact h)
     intro v1 w1 ho hb hg hat;have pG:=aa.mk ho;have Vo:=aa.mk hb;have VK:=aa.mk (Kd.Eb (Kd.Kq (Kd.Ji rfl (show Kd.R (Kd.int .i64) 3 ((wd.alloc (.cells #[.int .i64 a1] 3 (0,0))).alloc (.cells #[] 3 (0,0))) w.heap.size (fun _=>True) (.slice (some ⟨wd.heap.size,0,none⟩) 1 1) [a1] from Kd.Ia (Mt wd w.heap.size a1 Nr.out.size) _)) hg (fun k_ hk e=>by simp [Value.ownBlock] at hk e;omega)) (fun _ _=>(trivial:True)));clear ho hb hg hat;refine hK.out _ _ trivial (fun hHeld=>?_);clear hK K;refine Nf (a':=?_) ?_ ?_;rotate_left
     ·show Act.put _ (some 37) _=_
      exact daj
     exact Nf Waj (zw (wd.heap.size + 1,v1,wd.heap.size) _ ⟨Vo.out,pG.out,VK.out⟩)
   rintro ⟨s1,s2,s3⟩ W3 ⟨GS,bH,AV⟩;have hHeld:=trivial;have vo:=aa.mk GS;have Rt:=aa.mk bH;have WN:=aa.mk AV;clear GS bH AV;refine Nf (a':=?_) ?_ ?_;rotate_left
   ·simp only [um,Act.put,List.setIfInBounds_toArray,List.set_cons_zero,List.set_cons_succ]
    rfl
   refine qp (i:=7) (N:=some 40) #[true,true,true,true,true,true,true,true,true,true,true,false,false] rfl rfl (by kernel_rfl) (by decide) (fun K hK=>?_);refine Kd.Nd (Kd.int .i64) (w0:=w) w.heap.size (by rfl) (.tmp 37) (.tmp 39) 22 3 (.int .i64 0) 8 rfl Try.underlying22 info3 rfl (by decide) (by omega) s2 (l0.take i) [a1] (some ⟨s3,0,none⟩) 1 1 (fun _=>True) (fun _=>False) rfl rfl Rt.out ?aR (fun _ _ h=>h) (fun _ hk=>hk.elim) (fun _ _=>trivial) vo.out vo.out.size (by rw [List.length_take];have:=HL.out;omega) ?_
   (case aR=>exact (Kd.Ua WN.out).2.2)
   intro v4 w4 ho hb hg hat;have mY:=aa.mk ho;have Mq:=aa.mk hb;clear ho hb hg hat Rt vo WN;refine hK.out _ _ trivial (fun hHeld=>?_);clear hK K;refine Nf (a':=?_) ?_ ?_;rotate_left
   ·show Act.put _ (some 40) _=_
    exact daj
   refine qp (i:=11) (N:=some 44) #[true,true,true,true,true,true,true,true,true,true,true,true,false] rfl rfl (by kernel_rfl) (by decide) (fun K hK=>?_);refine Kd.Nd (Kd.int .i64) (w0:=w) w.heap.size (by rfl) (.tmp 40) (.tmp 43) 22 3 (.int .i64 0) 8 rfl Try.underlying22 info3 rfl (by decide) (by omega) v4 (l0.take i ++ [a1]) (l0.drop i) _ (l0.length - i) (c - i) (fun _=>True) (fun _=>False) rfl rfl mY.out ?I_ (fun _ _ h=>h) (fun _ hk=>hk.elim) (fun _ _=>trivial) Mq.out Mq.out.size (by rw [List.length_append,List.length_take,List.length_singleton];have:=HL.out;omega) ?_
   (case I_=>have h:=Kd.cL (m:=i) (c:=c) (Kd.Za XK.out Mq.out) (by omega) hnc;rw [List.length_drop] at h;simp only [show (Kd.int .i64).sz=1 from rfl,Nat.mul_one,Option.map_some] at h;exact h)
   intro v5 w5 ho hb hg hat;have lY:=aa.mk ho;have iE:=aa.mk hb;clear ho hb hg hat;refine hK.out _ _ trivial (fun hHeld=>?_);clear hK K;refine Nf (a':=?_) ?_ ?_;rotate_left
   ·show Act.put _ (some 44) _=_
    exact daj
   refine od (i:=12) (N:=some 4) (v:=?_) (a':=?_) #[true,true,true,true,true,true,true,true,true,true,true,true,true] rfl rfl (by kernel_rfl) (fun _ _ _ h=>h) (Or.inl ⟨by rfl,?_⟩) ?_ ?_;rotate_left
   ·exact eaj
   rotate_left
   ·exact daj
   refine Yo (by kernel_rfl) ?_;clear hHeld;go_wp2
   all_goals (go_ret;exact ⟨_,rfl,iE.out,.inr ⟨by rw [YN.out];exact HE.out.trans (by simp),by rw [HE.out];exact lY.out⟩⟩)
  ·obtain ⟨ad,e1,hx⟩:=Kd.Ld (Kd.Za XK.out gE.out) (i:Int) p1 p2;subst e1;simp only [Int.toNat_natCast] at hx
   go_upto_region 6 with (fail)
   have Nr:=aa.mk (ja gE.out);refine Yk (n:=13) (S:=fun w'=>True) (ds:=[]) #[false,false,false,false,false,false,false,false,false,false,false,false,false] (by kernel_rfl) rfl rfl trivial (fun hHeld=>?_);generalize wr.drew=wd at Nr hHeld ⊢;refine od (i:=1) (N:=some 34) (v:=?_) (a':=?_) #[false,true,false,false,false,false,false,false,false,false,false,false,false] rfl rfl (by kernel_rfl) (fun _ _ _ h=>h) (Or.inl ⟨by rfl,?_⟩) ?_ ?_;rotate_left
   ·exact eaj
   rotate_left
   ·exact daj
   refine od (i:=2) (N:=some 35) (v:=?_) (a':=?_) #[false,true,true,false,false,false,false,false,false,false,false,false,false] rfl rfl (by kernel_rfl) (fun _ _ _ h=>h) (Or.inl ⟨by rfl,?_⟩) ?_ ?_;rotate_left
   ·exact eaj
   rotate_left
   ·exact daj
   refine od (i:=3) (N:=some 36) (v:=?_) (a':=?_) #[false,true,true,true,false,false,false,false,false,false,false,false,false] rfl rfl (by kernel_rfl) (fun _ _ _ h=>h) (Or.inl ⟨by rfl,?_⟩) ?_ ?_;rotate_left
   ·exact eaj
   rotate_left
   ·exact daj
   refine od (i:=5) (N:=some 38) (v:=?_) (a':=?_) #[false,true,true,true,false,true,false,false,false,false,false,false,false] rfl rfl (by kernel_rfl) (fun _ _ _ h=>h) (Or.inl ⟨by rfl,?_⟩) ?_ ?_;rotate_left
   ·exact eaj
   rotate_left
   ·exact daj
   refine od (i:=8) (N:=some 41) (v:=?_) (a':=?_) #[false,true,true,true,false,true,false,false,true,false,false,false,false] rfl rfl (by kernel_rfl) (fun _ _ _ h=>h) (Or.inl ⟨by rfl,?_⟩) ?_ ?_;rotate_left
   ·exact eaj
   rotate_left
   ·exact daj
   refine od (i:=9) (N:=some 42) (v:=?_) (a':=?_) #[false,true,true,true,false,true,false,false,true,true,false,false,false] rfl rfl (by kernel_rfl) (fun _ _ _ h=>h) (Or.inl ⟨by rfl,?_⟩) ?_ ?_;rotate_left
   ·exact eaj
   rotate_left
   ·exact daj
   refine od (i:=10) (N:=some 43) (v:=?_) (a':=?_) #[false,true,true,true,false,true,false,false,true,true,true,false,false] rfl rfl (by kernel_rfl) (fun _ _ _ h=>h) (Or.inl ⟨by rfl,?_⟩) ?_ ?_;rotate_left
   ·exact eaj
   rotate_left
   ·exact daj
   refine wO (σ:=Nat × Value × Nat) 3 #[true,true,true,true,true,true,true,false,true,true,true,false,false] (fun s=>[(33,.slice (some ⟨s.1,0,none⟩) 0 0),(37,s.2.1),(39,.slice (some ⟨s.2.2,0,none⟩) 1 1)]) (fun s w'=>Below w.heap.size w w'∧Kd.R (Kd.int .i64) 3 w' w.heap.size (fun _=>True) s.2.1 (l0.take i)∧Kd.R (Kd.int .i64) 3 w' w.heap.size (fun _=>True) (.slice (some ⟨s.2.2,0,none⟩) 1 1) [a1]) ?_ ?_;rotate_left
   ·intro zw;refine AL (i:=0) (j:=6) (Ni:=some 33) (Nj:=some 39) #[true,true,true,true,false,true,false,false,true,true,true,false,false] #[false,true,true,true,false,true,true,false,true,true,true,false,false] rfl rfl rfl rfl (by kernel_rfl) (by decide) (by decide) (fun K hK=>?_) (fun K hK=>?_)
    ·skip
     refine jm (w1:=?_) (v:=?_) (by rfl) rfl ?_ ?_;rotate_left 2
     ·go_simp
      constructor
      ·rfl
      ·rfl
     refine hK.out _ _ trivial (fun hHeld=>?_);clear hK K;refine Nf (a':=?_) ?_ ?_;rotate_left
     ·show Act.put _ (some 33) _=_
      exact daj
     refine AL (i:=4) (j:=6) (Ni:=some 37) (Nj:=some 39) #[true,true,true,true,true,true,false,false,true,true,true,false,false] #[true,true,true,true,false,true,true,false,true,true,true,false,false] rfl rfl rfl rfl (by kernel_rfl) (by decide) (by decide) (fun K hK=>?_) (fun K hK=>?_)
     ·skip
      refine Kd.Nd (Kd.int .i64) (w0:=w) w.heap.size (by rfl) (.tmp 33) (.tmp 36) 22 3 (.int .i64 0) 8 rfl Try.underlying22 info3 rfl (by decide) (by omega) (.slice (some ⟨wd.heap.size,0,none⟩) 0 0) [] (l0.take i) (some ad) i c (fun _=>True) (fun _=>False) rfl rfl (Zj (Kd.int .i64) 3 wd w.heap.size Nr.out.size) ?aR (fun _ _ h=>h) (fun _ hk=>hk.elim) (fun _ _=>trivial) (ia Nr.out _) (ia Nr.out _).size (by simp;have:=HL.out;omega) ?_
      (case aR=>have h:=Kd.Ju (m:=i) (Kd.Za (w1:=wd.alloc (.cells #[] 3 (0,0))) XK.out (ia Nr.out _)) (by omega);rw [List.length_take,Nat.min_eq_left (by omega)] at h;exact h)
      intro v1 w1 ho hb hg hat;have pG:=aa.mk ho;have Vo:=aa.mk hb;clear ho hb hg hat;refine hK.out _ _ trivial (fun hHeld=>?_);clear hK K;refine Nf (a':=?_) ?_ ?_;rotate_left
      ·show Act.put _ (some 37) _=_
       exact daj
      refine qp (i:=6) (N:=some 39) #[true,true,true,true,true,true,true,false,true,true,true,false,false] rfl rfl (by kernel_rfl) (by decide) (fun K hK=>?_);refine jm (w1:=?_) (v:=?_) (by rfl) rfl ?_ ?_;rotate_left 2
      ·go_simp
       constructor
       ·rfl
       ·rfl
      refine hK.out _ _ trivial (fun hHeld=>?_);clear hK K;refine Nf (a':=?_) ?_ ?_;rotate_left
      ·show Act.put _ (some 39) _=_
       exact daj
      exact Nf Waj (zw (wd.heap.size,v1,w1.heap.size) _ ⟨ia Vo.out _,Kd.Ia pG.out _,Mt w1 w.heap.size a1 Vo.out.size⟩)
     ·skip
      refine jm (w1:=?_) (v:=?_) (by rfl) rfl ?_ ?_;rotate_left 2
      ·go_simp
       constructor
       ·rfl
       ·rfl
      refine hK.out _ _ trivial (fun hHeld=>?_);clear hK K;refine Nf (a':=?_) ?_ ?_;rotate_left
      ·show Act.put _ (some 39) _=_
       exact daj
      refine qp (i:=4) (N:=some 37) #[true,true,true,true,true,true,true,false,true,true,true,false,false] rfl rfl (by kernel_rfl) (by decide) (fun K hK=>?_);refine Kd.Nd (Kd.int .i64) (w0:=w) w.heap.size (by rfl) (.tmp 33) (.tmp 36) 22 3 (.int .i64 0) 8 rfl Try.underlying22 info3 rfl (by decide) (by omega) (.slice (some ⟨wd.heap.size,0,none⟩) 0 0) [] (l0.take i) (some ad) i c (fun _=>True) (fun _=>False) rfl rfl (Kd.Ia (Zj (Kd.int .i64) 3 wd w.heap.size Nr.out.size) _) ?aR (fun _ _ h=>h) (fun _ hk=>hk.elim) (fun _ _=>trivial) (ia (ia Nr.out _) _) (ia (ia Nr.out _) _).size (by simp;have:=HL.out;omega) ?_
      (case aR=>have h:=Kd.Ju (m:=i) (Kd.Za (w1:=((wd.alloc (.cells #[] 3 (0,0))).alloc (.cells #[.int .i64 a1] 3 (0,0)))) XK.out (ia (ia Nr.out _) _)) (by omega);rw [List.length_take,Nat.min_eq_left (by omega)] at h;exact h)
      intro v1 w1 ho hb hg hat;have pG:=aa.mk ho;have Vo:=aa.mk hb;have VK:=aa.mk (Kd.Eb (Kd.Kq (Kd.Ji rfl (show Kd.R (Kd.int .i64) 3 ((wd.alloc (.cells #[] 3 (0,0))).alloc (.cells #[.int .i64 a1] 3 (0,0))) w.heap.size (fun _=>True) (.slice (some ⟨wd.heap.size + 1,0,none⟩) 1 1) [a1] from by have h:=Mt (e:=3) (wd.alloc (.cells #[] 3 (0,0))) w.heap.size a1 (by simp;have:=Nr.out.size;omega);simpa using h)) hg (fun k_ hk e=>by simp [Value.ownBlock] at hk e;omega)) (fun _ _=>(trivial:True)));clear ho hb hg hat;refine hK.out _ _ trivial (fun hHeld=>?_);clear hK K;refine Nf (a':=?_) ?_ ?_;rotate_left
      ·show Act.put _ (some 37) _=_
       exact daj
      exact Nf Waj (zw (wd.heap.size,v1,wd.heap.size + 1) _ ⟨Vo.out,pG.out,VK.out⟩)
    ·skip
     refine jm (w1:=?_) (v:=?_) (by rfl) rfl ?_ ?_;rotate_left 2
     ·go_simp
      constructor
      ·rfl
      ·rfl
     refine hK.out _ _ trivial (fun hHeld=>?_);clear hK K;refine Nf (a':=?_) ?_ ?_;rotate_left
     ·show Act.put _ (some 39) _=_
      exact daj
     refine qp (i:=0) (N:=some 33) #[true,true,true,true,false,true,true,false,true,true,true,false,false] rfl rfl (by kernel_rfl) (by decide) (fun K hK=>?_);refine jm (w1:=?_) (v:=?_) (by rfl) rfl ?_ ?_;rotate_left 2
     ·go_simp
      constructor
      ·rfl
      ·rfl
     refine hK.out _ _ trivial (fun hHeld=>?_);clear hK K;refine Nf (a':=?_) ?_ ?_;rotate_left
     ·show Act.put _ (some 33) _=_
      exact daj
     refine qp (i:=4) (N:=some 37) #[true,true,true,true,true,true,true,false,true,true,true,false,false] rfl rfl (by kernel_rfl) (by decide) (fun K hK=>?_);refine Kd.Nd (Kd.int .i64) (w0:=w) w.heap.size (by rfl) (.tmp 33) (.tmp 36) 22 3 (.int .i64 0) 8 rfl Try.underlying22 info3 rfl (by decide) (by omega) (.slice (some ⟨wd.heap.size + 1,0,none⟩) 0 0) [] (l0.take i) (some ad) i c (fun _=>True) (fun _=>False) rfl rfl (iC Nr.out.size a1 3) ?aR (fun _ _ h=>h) (fun _ hk=>hk.elim) (fun _ _=>trivial) (ia (ia Nr.out _) _) (ia (ia Nr.out _) _).size (by simp;have:=HL.out;omega) ?_
     (case aR=>have h:=Kd.Ju (m:=i) (Kd.Za (w1:=((wd.alloc (.cells #[.int .i64 a1] 3 (0,0))).alloc (.cells #[] 3 (0,0)))) XK.out (ia (ia Nr.out _) _)) (by omega);rw [List.length_take,Nat.min_eq_left (by omega)] at h;exact h)
     intro v1 w1 ho hb hg hat;have pG:=aa.mk ho;have Vo:=aa.mk hb;have VK:=aa.mk (Kd.Eb (Kd.Kq (Kd.Ji rfl (show Kd.R (Kd.int .i64) 3 ((wd.alloc (.cells #[.int .i64 a1] 3 (0,0))).alloc (.cells #[] 3 (0,0))) w.heap.size (fun _=>True) (.slice (some ⟨wd.heap.size,0,none⟩) 1 1) [a1] from Kd.Ia (Mt wd w.heap.size a1 Nr.out.size) _)) hg (fun k_ hk e=>by simp [Value.ownBlock] at hk e;omega)) (fun _ _=>(trivial:True)));clear ho hb hg hat;refine hK.out _ _ trivial (fun hHeld=>?_);clear hK K;refine Nf (a':=?_) ?_ ?_;rotate_left
     ·show Act.put _ (some 37) _=_
      exact daj
     exact Nf Waj (zw (wd.heap.size + 1,v1,wd.heap.size) _ ⟨Vo.out,pG.out,VK.out⟩)
   rintro ⟨s1,s2,s3⟩ W3 ⟨GS,bH,AV⟩;have hHeld:=trivial;have vo:=aa.mk GS;have Rt:=aa.mk bH;have WN:=aa.mk AV;clear GS bH AV;refine Nf (a':=?_) ?_ ?_;rotate_left
   ·simp only [um,Act.put,List.setIfInBounds_toArray,List.set_cons_zero,List.set_cons_succ]
    rfl
   refine qp (i:=7) (N:=some 40) #[true,true,true,true,true,true,true,true,true,true,true,false,false] rfl rfl (by kernel_rfl) (by decide) (fun K hK=>?_);refine Kd.Nd (Kd.int .i64) (w0:=w) w.heap.size (by rfl) (.tmp 37) (.tmp 39) 22 3 (.int .i64 0) 8 rfl Try.underlying22 info3 rfl (by decide) (by omega) s2 (l0.take i) [a1] (some ⟨s3,0,none⟩) 1 1 (fun _=>True) (fun _=>False) rfl rfl Rt.out ?aR (fun _ _ h=>h) (fun _ hk=>hk.elim) (fun _ _=>trivial) vo.out vo.out.size (by rw [List.length_take];have:=HL.out;omega) ?_
   (case aR=>exact (Kd.Ua WN.out).2.2)
   intro v4 w4 ho hb hg hat;have mY:=aa.mk ho;have Mq:=aa.mk hb;clear ho hb hg hat Rt vo WN;refine hK.out _ _ trivial (fun hHeld=>?_);clear hK K;refine Nf (a':=?_) ?_ ?_;rotate_left
   ·show Act.put _ (some 40) _=_
    exact daj
   refine qp (i:=11) (N:=some 44) #[true,true,true,true,true,true,true,true,true,true,true,true,false] rfl rfl (by kernel_rfl) (by decide) (fun K hK=>?_);refine Kd.Nd (Kd.int .i64) (w0:=w) w.heap.size (by rfl) (.tmp 40) (.tmp 43) 22 3 (.int .i64 0) 8 rfl Try.underlying22 info3 rfl (by decide) (by omega) v4 (l0.take i ++ [a1]) (l0.drop i) _ (l0.length - i) (c - i) (fun _=>True) (fun _=>False) rfl rfl mY.out ?I_ (fun _ _ h=>h) (fun _ hk=>hk.elim) (fun _ _=>trivial) Mq.out Mq.out.size (by rw [List.length_append,List.length_take,List.length_singleton];have:=HL.out;omega) ?_
   (case I_=>have h:=Kd.cL (m:=i) (c:=c) (Kd.Za XK.out Mq.out) (by omega) hnc;rw [List.length_drop] at h;simp only [show (Kd.int .i64).sz=1 from rfl,Nat.mul_one,Option.map_some] at h;exact h)
   intro v5 w5 ho hb hg hat;have lY:=aa.mk ho;have iE:=aa.mk hb;clear ho hb hg hat;refine hK.out _ _ trivial (fun hHeld=>?_);clear hK K;refine Nf (a':=?_) ?_ ?_;rotate_left
   ·show Act.put _ (some 44) _=_
    exact daj
   refine od (i:=12) (N:=some 4) (v:=?_) (a':=?_) #[true,true,true,true,true,true,true,true,true,true,true,true,true] rfl rfl (by kernel_rfl) (fun _ _ _ h=>h) (Or.inl ⟨by rfl,?_⟩) ?_ ?_;rotate_left
   ·exact eaj
   rotate_left
   ·exact daj
   refine Yo (by kernel_rfl) ?_;clear hHeld;go_wp2
   all_goals (go_ret;exact ⟨_,rfl,iE.out,.inr ⟨by rw [YN.out];exact HE.out.trans (by simp),by rw [HE.out];exact lY.out⟩⟩)
theorem Ff.calls (Oi:Nat→Prop) (Xe:Value) (l0:List Int) (a1:Int) (r:List Int) (w0 w:World) (hB:Below w0.heap.size w0 w) (Rg:Kd.R (Kd.int .i64) 3 w w0.heap.size Oi Xe l0) (h:Ff.f l0 a1=some r) :
  Calls Try.prog 55 #[Xe,.int .i64 a1] w fun e w'=>∃ Di:Value,e = .returned (Di)∧Kd.R (Kd.int .i64) 3 w' w0.heap.size (fun k_=>(Oi k_ ∨ w.heap.size ≤ k_)) Di r∧Below w0.heap.size w0 w'∧Kept w w' (fun k_=>Oi k_):=by
 unfold Ff.f at h;have hl:l0.length ≤ 4398046511104:=Decidable.byContradiction fun hn=>by rw [if_neg hn] at h;cases h
 rw [if_pos hl] at h;obtain rfl:=Option.some.inj h;obtain ⟨A,c,rfl⟩:=Kd.Vb Rg;obtain ⟨_,hnc,hC⟩:=Kd.Ua Rg;refine (Gr A c l0 a1 w hC hnc hl).mono ?_;rintro e w' ⟨v,rfl,hb,h|h⟩
 ·obtain ⟨h1,rfl⟩:=h;exact ⟨_,rfl,by rw [h1];exact Kd.Eb (Kd.ec Rg hb) (fun _ hk=>Or.inl hk),Ga hB hb,Kept.xj hb _⟩
 ·exact ⟨_,rfl,Kd.Xc (Kd.Eb (Kd.We h.2) (fun _ hk=>Or.inr hk.2.1)) hB.size,Ga hB hb,Kept.xj hb _⟩
theorem Io (w:World) (o:Obj):∃ W1,W1=w.alloc o∧Below w.heap.size w W1∧W1.heap[w.heap.size]? = some o:=⟨_,rfl,ia (Below.refl _ _) _,ij _ _⟩
theorem oq (w:World) (o p:Obj):∃ W1,W1=(w.alloc o).alloc p∧Below w.heap.size w W1∧W1.heap[w.heap.size]? = some o∧W1.heap[w.heap.size + 1]? = some p:=by
 refine ⟨_,rfl,ia (ia (Below.refl _ _) _) _,Ba (ij _ _) _,?_⟩;have h:=ij (w.alloc o) p;have hz:(w.alloc o).heap.size=w.heap.size + 1:=by simp
 rwa [hz] at h
theorem ig {w:World} {g:Nat} {t:TypeId} {a b c d e:Value} (h:w.heap[g]? = some (.cells #[a,b,c,d,e] t (0,0))):w.cell? ⟨g,0,none⟩=some a∧w.cell? ⟨g,1,none⟩=some b∧w.cell? ⟨g,2,none⟩=some c∧w.cell? ⟨g,3,none⟩=some d∧w.cell? ⟨g,4,none⟩=some e :=
 ⟨(ya h 0).trans rfl,(ya h 1).trans rfl,(ya h 2).trans rfl,(ya h 3).trans rfl,(ya h 4).trans rfl⟩
theorem KD {w:World} {i:Nat} {t:TypeId} {a b c d e f g:Value} (h:w.heap[i]? = some (.cells #[a,b,c,d,e,f,g] t (0,0))):w.cell? ⟨i,0,none⟩=some a∧w.cell? ⟨i,1,none⟩=some b∧w.cell? ⟨i,2,none⟩=some c∧w.cell? ⟨i,3,none⟩=some d∧w.cell? ⟨i,4,none⟩=some e∧w.cell? ⟨i,5,none⟩=some f∧w.cell? ⟨i,6,none⟩=some g :=
 ⟨(ya h 0).trans rfl,(ya h 1).trans rfl,(ya h 2).trans rfl,(ya h 3).trans rfl,(ya h 4).trans rfl,(ya h 5).trans rfl,(ya h 6).trans rfl⟩
def k2:Kd (Int × Int):=Kd.pair (Kd.int .i64) (Kd.int .i64)
def yZ (xs:List (Int × Int)) (i:Int):Int × Int:=xs.getD i.toNat (0,0)
theorem uE {xs:List (Int × Int)} {i:Nat} (h:i < xs.length):yZ xs (i:Int)=xs[i]:=by simp [yZ,List.getD_eq_getElem?_getD,h]
theorem ZL {w:World} {x:Int × Int} {cs:List Value} (h:k2.K w x cs):cs=[.int .i64 x.1,.int .i64 x.2]:=by
 obtain ⟨c0,c1,rfl,h0,h1⟩:=h;have e0:c0=[.int .i64 x.1]:=h0;have e1:c1=[.int .i64 x.2]:=h1;rw [e0,e1]
 rfl
theorem BI (w:World) (base:Nat) (ok:Nat→Prop) (x:Int × Int):k2.M w base ok x [.int .i64 x.1,.int .i64 x.2]:=⟨[.int .i64 x.1],[.int .i64 x.2],rfl,rfl,rfl⟩
theorem AP {w:World} {A:Option Addr} {n:Nat} {xs:List (Int × Int)} (h:Kd.C k2 w A n xs) (i:Int) (h0:0 ≤ i) (h1:i < n) :
  ∃ ad,A=some ad∧w.cell? (ad.add (i.toNat * 2))=some (.int .i64 (yZ xs i).1)∧w.cell? ⟨(ad.add (i.toNat * 2)).block,(ad.add (i.toNat * 2)).off + 1,none⟩=some (.int .i64 (yZ xs i).2):=by
 obtain ⟨ad,c,e,_,hK,hc⟩:=Kd.uC h (0,0) i h0 h1;obtain rfl:=ZL hK;have c0:=hc 0 _ rfl;have c1:=hc 1 _ rfl;refine ⟨ad,e,c0,?_⟩;rw [← Ke ad (i.toNat * 2) 1 (by omega)];exact c1
theorem CE:(Try.prog.info? 85).map (fun i=>(i.zero,i.size,i.bytes))=some (some (.agg #[.int .i64 0,.int .i64 0]),2,16):=by kernel_rfl
def Gf.l0:Nat→List ByteArray→ByteArray→Int→Option (Bool)
 | 0,_,_,_=>none
 | k + 1,x0,x1,x5=>if x5 < (x0.length:Int) then (if 0 ≤ x5 then (if (xg ByteArray.empty x0 x5).toList=x1.toList then (some true) else (Gf.l0 k x0 x1 (wrap64 (x5 + 1)))) else (none)) else (some false)
def Gf.f (k:Nat) (l0:List ByteArray) (a1:ByteArray):Option (Bool):=Gf.l0 k l0 a1 0
theorem Gf.calls (k:Nat) (A0:Option Addr) (c0:Nat) (l0:List ByteArray) (a1:ByteArray) (r:Bool) (w:World) (Hi:Kd.C Kd.string w A0 l0.length l0) (hc0:l0.length ≤ c0) (h:Gf.f k l0 a1=some r) :
  Calls Try.prog 135 #[.slice A0 l0.length c0,.string a1] w fun e w'=>e = .returned (.bool r)∧Sb w w':=by
 have ak:=aa.mk Hi;have oy:=aa.mk hc0;clear Hi hc0;have H:(Gf.l0 k l0 a1 0)=some r:=h;clear h;have H':=aa.mk H;clear H;go_enter Try.func135,Try.ntmps135;go_wp2
 go_loopg [5] k (fun kq v5 w'=>∃ (Da:Int),v5 = .int .i64 Da∧aa (Gf.l0 kq l0 a1 Da=some r)∧aa (kq ≤ k)∧Sb w w')
 case atStart=>exact ⟨(0),raj,H',⟨Nat.le_refl _⟩,xaj⟩
 case round =>
  clear H'
  try clear c1
  try clear p2
  (try clear HA);(try clear Kf);obtain ⟨Da,rfl,HA,Kf,⟨m1,rfl⟩⟩:=hrel;cases gk with
  | zero=>exact absurd HA.out (by simp [Gf.l0])
  | succ k1 =>
   have H:=HA.out;clear HA;simp only [Gf.l0] at H
   by_cases c3:Da < (l0.length:Int)
   ·rw [if_pos c3] at H;have Ah:decide (Da < (l0.length:Int))=true:=decide_eq_true c3;clear c3
    by_cases c4:0 ≤ Da
    ·rw [if_pos c4] at H;have zm:decide (0 ≤ Da)=true:=decide_eq_true c4;clear c4
     by_cases c5:(xg ByteArray.empty l0 Da).toList=a1.toList
     ·rw [if_pos c5] at H;have Rq:=beq_iff_eq.mpr c5;have LD:=bne_eq_false_iff_eq.mpr c5;clear c5;obtain rfl:=Option.some.inj H;have Mf:0 ≤ (Da:Int):=Ja;have Lf:Da < (l0.length:Int):=Ja;obtain ⟨Cm,Sj,Cf⟩:=Kd.Gq ak.out Da Mf Lf;cases Sj;replace Mf:=eq_true Mf;replace Lf:=eq_true Lf;go_wp2;go_ret;exact ⟨Naj,xaj⟩
     ·rw [if_neg c5] at H;have Rq:=beq_eq_false_iff_ne.mpr c5;have LD:=bne_iff_ne.mpr c5;have H':=aa.mk H;clear H;have Mf:0 ≤ (Da:Int):=Ja;have Lf:Da < (l0.length:Int):=Ja;obtain ⟨Cm,Sj,Cf⟩:=Kd.Gq ak.out Da Mf Lf;cases Sj;replace Mf:=eq_true Mf;replace Lf:=eq_true Lf;go_wp2
      go_roundg k1
      case measure=>have:=Kf.out;omega
      case rel=>exact ⟨(wrap64 (Da + 1)),raj,H',⟨by have:=Kf.out;omega⟩,xaj⟩
    ·rw [if_neg c4] at H;exact absurd H (by simp)
   ·rw [if_neg c3] at H;have Ah:decide (Da < (l0.length:Int))=false:=decide_eq_false c3;clear c3;obtain rfl:=Option.some.inj H;go_wp2;go_ret;exact ⟨Naj,xaj⟩
theorem zP {W w1:World} (hb:Below W.heap.size W w1):(∀ b o,b < W.heap.size→w1.cell? ⟨b,o,none⟩=W.cell? ⟨b,o,none⟩)∧(∀ b o,b < W.heap.size→w1.frozen? ⟨b,o,none⟩=W.frozen? ⟨b,o,none⟩) :=
 ⟨fun b o h=>hb.cell (p:=⟨b,o,none⟩) h,fun b o h=>hb.frozen (p:=⟨b,o,none⟩) h⟩
theorem Pn {α:Type} {l:List α} {p:α→Bool} {k:Nat} {d:α} (hk:k < l.length) (h:(l.take k).any p=false) (hx:p (l.getD k d)=false):(l.take (k + 1)).any p=false:=by
 rw [List.take_succ_eq_append_getElem hk,List.any_append,h]
 simpa [List.getD_eq_getElem?_getD,List.getElem?_eq_getElem hk] using hx
theorem YF {α:Type} {l:List α} {p:α→Bool} {k:Nat} {d:α} (hk:k < l.length) (hx:p (l.getD k d)=true):l.any p=true:=by
 rw [List.any_eq_true];exact ⟨l[k],List.getElem_mem hk,by simpa [List.getD_eq_getElem?_getD,List.getElem?_eq_getElem hk] using hx⟩
theorem ox (g:Nat) (lb:Array Value) (p:oc→Bool) (eg:∀ args w,(callFunc g args).run Try.prog w = .ok (.enter g args) w) (A0:Option Addr) (c0:Nat) (l0:List oc) (w:World) (Hi:Kd.C Je w A0 l0.length l0) (hc0:l0.length ≤ c0)
  (hp:∀ (W:World) (x:oc),Below w.heap.size w W→Calls Try.prog g (#[(.agg #[.int .i64 x.f0,.int .i64 x.f1,.int .i64 x.f2,.int .i64 x.f3,.int .i64 x.f4,.int .i64 x.f5,.string x.f6])] ++ lb) W fun e w'=>e = .returned (.bool (p x))∧Below W.heap.size W w') :
  Calls Try.prog 137 #[.slice A0 l0.length c0,.func (.func g) #[] lb] w fun e w'=>(∃ i:Int,e = .returned (.int .i64 i)∧decide (0 ≤ i)=l0.any p)∧Below w.heap.size w w':=by
 have BV:=Hi.2.1;have ak:=aa.mk Hi;have oy:=aa.mk hc0;have HP:=aa.mk hp;clear Hi hc0 hp;go_enter Try.func137,Try.ntmps137;go_wp2
 go_loopg [5,8] l0.length (fun gg _ s8 wr=>∃ kk:Nat,kk ≤ l0.length∧l0.length - kk ≤ gg∧s8 = .int .i64 kk∧aa (Below w.heap.size w wr)∧aa ((l0.take kk).any p=false))
 case atStart=>exact ⟨0,Nat.zero_le _,by omega,rfl,⟨Below.refl _ w⟩,⟨by simp⟩⟩
 case round =>
  (try clear BW);(try clear HA);obtain ⟨kk,hkk,hg,rfl,BW,HA⟩:=hrel
  by_cases hlt:kk < l0.length
  ·have p1:0 ≤ (kk:Int):=by omega
   have q1:(kk:Int) < (l0.length:Int):=by omega
   obtain ⟨ad,e1,hx0,hx1,hx2,ov,Tt,GH,Ky⟩:=Nv ak.out (kk:Int) p1 q1;cases e1;simp only [Int.toNat_natCast] at hx0 hx1 hx2 ov Tt GH Ky;replace hx0:=(BW.out.cell (World.block_lt_of_cell? w _ hx0)).trans hx0;replace hx1:=(BW.out.cell (World.block_lt_of_cell? w _ hx1)).trans hx1;replace hx2:=(BW.out.cell (World.block_lt_of_cell? w _ hx2)).trans hx2;replace ov:=(BW.out.cell (World.block_lt_of_cell? w _ ov)).trans ov;replace Tt:=(BW.out.cell (World.block_lt_of_cell? w _ Tt)).trans Tt;replace GH:=(BW.out.cell (World.block_lt_of_cell? w _ GH)).trans GH;replace Ky:=(BW.out.cell (World.block_lt_of_cell? w _ Ky)).trans Ky;have hcall:=HP.out wr (ua l0 (kk:Int)) BW.out;cases hq:p (ua l0 (kk:Int)) with
   | true =>
    rw [hq] at hcall;go_wp2_with (go_at_fn g;refine hcall.mono ?_;rintro e w1 ⟨rfl,Ko⟩);go_ret;exact ⟨⟨_,rfl,by rw [YF (d:=Qi) hlt hq];simp⟩,BW.out.trans (Ko.mono BW.out.size)⟩
   | false =>
    rw [hq] at hcall;go_wp2_with (go_at_fn g;refine hcall.mono ?_;rintro e w1 ⟨rfl,Ko⟩)
    go_roundg (l0.length - (kk + 1))
    case measure=>omega
    case rel=>exact ⟨kk + 1,by omega,by omega,by go_num,⟨BW.out.trans (Ko.mono BW.out.size)⟩,⟨Pn (d:=Qi) hlt HA.out hq⟩⟩
  ·have BR:¬ (kk:Int) < (l0.length:Int):=by omega
   have he:kk=l0.length:=by omega
   subst he;go_wp2;go_ret;exact ⟨⟨_,rfl,by have h_:=HA.out;rw [List.take_length] at h_;rw [h_];simp⟩,BW.out⟩
theorem Jr (g:Nat) (lb:Array Value) (p:oc→Bool) (eg:∀ args w,(callFunc g args).run Try.prog w = .ok (.enter g args) w) (A0:Option Addr) (c0:Nat) (l0:List oc) (w:World) (Hi:Kd.C Je w A0 l0.length l0) (hc0:l0.length ≤ c0)
  (hp:∀ (W:World) (x:oc),Below w.heap.size w W→Calls Try.prog g (#[(.agg #[.int .i64 x.f0,.int .i64 x.f1,.int .i64 x.f2,.int .i64 x.f3,.int .i64 x.f4,.int .i64 x.f5,.string x.f6])] ++ lb) W fun e w'=>e = .returned (.bool (p x))∧Below W.heap.size W w') :
  Calls Try.prog 123 #[.slice A0 l0.length c0,.func (.func g) #[] lb] w fun e w'=>e = .returned (.bool (l0.any p))∧Below w.heap.size w w':=by
 have HI:=aa.mk (ox g lb p eg A0 c0 l0 w Hi hc0 hp);clear Hi hc0 hp;go_enter Try.func123,Try.ntmps123;go_wp2_with (go_at_call 137;refine HI.out.mono ?_;rintro e w1 ⟨⟨i,rfl,hi⟩,Ko⟩;have HD:=aa.mk hi;clear hi);go_ret;exact ⟨by rw [← HD.out];first|rfl|simp,Ko⟩
def Ya.l0:Nat→List ByteArray→ByteArray→Int→Int→Option (Int)
 | 0,_,_,_,_=>none
 | k + 1,x0,x1,x7,x8=>if x8 < x7 then (if 0 ≤ x8 then (if x8 < (x0.length:Int) then (if x1.toList=(xg ByteArray.empty x0 x8).toList then (some x8) else (Ya.l0 k x0 x1 x7 (wrap64 (x8 + 1)))) else (none)) else (none)) else (some (-1))
def Ya.f (k:Nat) (l0:List ByteArray) (a1:ByteArray):Option (Int):=Ya.l0 k l0 a1 (l0.length:Int) 0
theorem Ya.Ip:∀ k,(∀ y0 y1 y2 y3,qh (Ya.l0 k y0 y1 y2 y3) (Ya.l0 (k + 1) y0 y1 y2 y3))
 | 0=>fun _ _ _ _ r h=>by simp [Ya.l0] at h
 | k + 1=>by
  have VA:=Ya.Ip k
  ·intro y0 y1 y2 y3;unfold Ya.l0
   repeat' first
   | (with_reducible exact VA _ _ _ _)
   | (with_reducible exact qh.refl _)
   | (with_reducible exact qh.none _)
   | (with_reducible refine qh.ite ?_ ?_)
   | (with_reducible refine qh.bind ?_ (fun _=>?_))
   | exact VA _ _ _ _
   | exact qh.none _
   | refine qh.ite ?_ ?_
   | refine qh.bind ?_ (fun _=>?_)
theorem Ya.mono:∀ a0 a1 k,qh (Ya.f k a0 a1) (Ya.f (k + 1) a0 a1):=by
 intro a0 a1 k;have VA:=Ya.Ip k;unfold Ya.f
 repeat' first
   | (with_reducible exact VA _ _ _ _)
   | (with_reducible exact qh.refl _)
   | (with_reducible exact qh.none _)
   | (with_reducible refine qh.ite ?_ ?_)
   | (with_reducible refine qh.bind ?_ (fun _=>?_))
   | exact VA _ _ _ _
   | exact qh.none _
   | refine qh.ite ?_ ?_
   | refine qh.bind ?_ (fun _=>?_)
theorem Ya.calls (k:Nat) (A0:Option Addr) (c0:Nat) (l0:List ByteArray) (a1:ByteArray) (r:Int) (w:World) (Hi:Kd.C Kd.string w A0 l0.length l0) (hc0:l0.length ≤ c0) (h:Ya.f k l0 a1=some r) :
  Calls Try.prog 161 #[.slice A0 l0.length c0,.string a1] w fun e w'=>e = .returned (.int .i64 r)∧Sb w w':=by
 have ak:=aa.mk Hi;have oy:=aa.mk hc0;clear Hi hc0;have H:(Ya.l0 k l0 a1 (l0.length:Int) 0)=some r:=h;clear h;have H':=aa.mk H;clear H;go_enter Try.func161,Try.ntmps161;go_wp2
 go_loopg [8] k (fun kq v8 w'=>∃ (qc:Int),v8 = .int .i64 qc∧aa (Ya.l0 kq l0 a1 (l0.length:Int) qc=some r)∧aa (kq ≤ k)∧Sb w w')
 case atStart=>exact ⟨(0),raj,H',⟨Nat.le_refl _⟩,xaj⟩
 case round =>
  clear H'
  try clear c1
  try clear p2
  (try clear HA);(try clear Kf);obtain ⟨qc,rfl,HA,Kf,⟨m1,rfl⟩⟩:=hrel;cases gk with
  | zero=>exact absurd HA.out (by simp [Ya.l0])
  | succ k1 =>
   have H:=HA.out;clear HA;simp only [Ya.l0] at H
   by_cases c3:qc < (l0.length:Int)
   ·rw [if_pos c3] at H;have Ah:decide (qc < (l0.length:Int))=true:=decide_eq_true c3;clear c3
    by_cases c4:0 ≤ qc
    ·rw [if_pos c4] at H;have zm:decide (0 ≤ qc)=true:=decide_eq_true c4;clear c4
     by_cases c5:qc < (l0.length:Int)
     ·rw [if_pos c5] at H;have Rq:decide (qc < (l0.length:Int))=true:=decide_eq_true c5;clear c5
      by_cases c6:a1.toList=(xg ByteArray.empty l0 qc).toList
      ·rw [if_pos c6] at H;have Gt:=beq_iff_eq.mpr c6;have oT:=bne_eq_false_iff_eq.mpr c6;clear c6;obtain rfl:=Option.some.inj H;have Mf:0 ≤ (qc:Int):=Ja;have Lf:qc < (l0.length:Int):=Ja;obtain ⟨Cm,Sj,Cf⟩:=Kd.Gq ak.out qc Mf Lf;cases Sj;replace Mf:=eq_true Mf;replace Lf:=eq_true Lf;go_wp2;go_ret;exact ⟨Naj,xaj⟩
      ·rw [if_neg c6] at H;have Gt:=beq_eq_false_iff_ne.mpr c6;have oT:=bne_iff_ne.mpr c6;have H':=aa.mk H;clear H;have Mf:0 ≤ (qc:Int):=Ja;have Lf:qc < (l0.length:Int):=Ja;obtain ⟨Cm,Sj,Cf⟩:=Kd.Gq ak.out qc Mf Lf;cases Sj;replace Mf:=eq_true Mf;replace Lf:=eq_true Lf;go_wp2
       go_roundg k1
       case measure=>have:=Kf.out;omega
       case rel=>exact ⟨(wrap64 (qc + 1)),raj,H',⟨by have:=Kf.out;omega⟩,xaj⟩
     ·rw [if_neg c5] at H;exact absurd H (by simp)
    ·rw [if_neg c4] at H;exact absurd H (by simp)
   ·rw [if_neg c3] at H;have Ah:decide (qc < (l0.length:Int))=false:=decide_eq_false c3;clear c3;obtain rfl:=Option.some.inj H;go_wp2;go_ret;exact ⟨Naj,xaj⟩
def Wb.f (k:Nat) (l0:List ByteArray) (a1:ByteArray):Option (Bool):=(Ya.f k l0 a1).bind fun t101=>(some (decide (t101 ≥ 0)))
theorem Wb.mono:∀ a0 a1 k,qh (Wb.f k a0 a1) (Wb.f (k + 1) a0 a1):=by
 intro a0 a1 k;unfold Wb.f
 repeat' first
   | (with_reducible exact Ya.mono _ _ _)
   | (with_reducible exact qh.refl _)
   | (with_reducible exact qh.none _)
   | (with_reducible refine qh.ite ?_ ?_)
   | (with_reducible refine qh.bind ?_ (fun _=>?_))
   | exact Ya.mono _ _ _
   | exact qh.none _
   | refine qh.ite ?_ ?_
   | refine qh.bind ?_ (fun _=>?_)
theorem Wb.calls (k:Nat) (A0:Option Addr) (c0:Nat) (l0:List ByteArray) (a1:ByteArray) (r:Bool) (w:World) (Hi:Kd.C Kd.string w A0 l0.length l0) (hc0:l0.length ≤ c0) (h:Wb.f k l0 a1=some r) :
  Calls Try.prog 154 #[.slice A0 l0.length c0,.string a1] w fun e w'=>e = .returned (.bool r)∧Sb w w':=by
 have ak:=aa.mk Hi;have oy:=aa.mk hc0;clear Hi hc0;have H:((Ya.f k l0 a1).bind fun t101=>(some (decide (t101 ≥ 0))))=some r:=h;clear h;replace H:=Option.bind_eq_some_iff.mp H;obtain ⟨t101,sG,H⟩:=H
 try dsimp only at H
 have A3:=aa.mk sG;clear sG;obtain rfl:=Option.some.inj H;go_enter Try.func154,Try.ntmps154;go_wp2_with (first|((with_reducible refine Kb (f:=161) rfl ?_);refine ie (some 7) rfl rfl Try.func161 (by kernel_rfl) rfl #[.slice A0 l0.length c0,.string a1] rfl paj ?_;(with_reducible refine (Ya.calls k _ _ l0 a1 t101 _ ?Oc ?Nc A3.out).mono ?_);(case Oc=>repeat (first|exact ak.out|(with_reducible refine Kd.Gd ?_ _)|(with_reducible refine Kd.Ed ?_ _)|(with_reducible refine Kd.He ?_)));(case Nc=>exact oy.out);rintro e w' ⟨rfl,⟨nd,rfl⟩⟩;refine ⟨_,rfl,?_⟩));go_ret;exact ⟨Naj,xaj⟩
def Lk.f (k:Nat) (a0:ByteArray):Option (Bool):=(Wb.f k (([(⟨#[61,61]⟩:ByteArray),(⟨#[60]⟩:ByteArray),(⟨#[38]⟩:ByteArray),(⟨#[43]⟩:ByteArray),(⟨#[45]⟩:ByteArray),(⟨#[42]⟩:ByteArray)]:List ByteArray)) a0).bind fun t104=>(some t104)
theorem Lk.calls (k:Nat) (a0:ByteArray) (r:Bool) (w:World) (h:Lk.f k a0=some r) :
  Calls Try.prog 139 #[.string a0] w fun e w'=>e = .returned (.bool r)∧Below w.heap.size w w':=by
 have HB:=aa.mk (Below.refl w.heap.size w);have H:((Wb.f k (([(⟨#[61,61]⟩:ByteArray),(⟨#[60]⟩:ByteArray),(⟨#[38]⟩:ByteArray),(⟨#[43]⟩:ByteArray),(⟨#[45]⟩:ByteArray),(⟨#[42]⟩:ByteArray)]:List ByteArray)) a0).bind fun t104=>(some t104))=some r:=h;clear h;obtain ⟨Re,Ye⟩:∃ y_:List ByteArray,y_=(([(⟨#[61,61]⟩:ByteArray),(⟨#[60]⟩:ByteArray),(⟨#[38]⟩:ByteArray),(⟨#[43]⟩:ByteArray),(⟨#[45]⟩:ByteArray),(⟨#[42]⟩:ByteArray)]:List ByteArray)):=⟨_,rfl⟩;replace H:((Wb.f k Re a0).bind fun t104=>(some t104))=some r:=by first|(rw [Ye];with_reducible exact H)|(have Qc:=(Option.bind_some _ _).symm.trans H;rw [Ye];with_reducible exact Qc)|(have Qc:=(Option.bind_some _ _).symm.trans H;with_reducible exact Qc)|with_reducible exact H|(rw [Ye];exact H)|exact H
 have Zi:=aa.mk Ye;clear Ye;replace H:=Option.bind_eq_some_iff.mp H;obtain ⟨t104,gL,H⟩:=H
 try dsimp only at H
 have A2:=aa.mk gL;clear gL;obtain rfl:=Option.some.inj H;go_enter Try.func139,Try.ntmps139;go_wp2_with (first|((with_reducible refine Qb (N:=3) rfl ?_);refine Kd.Yj Kd.string _ 9 ?hg (N:=3) ?hd (xs:=([(⟨#[61,61]⟩:ByteArray),(⟨#[60]⟩:ByteArray),(⟨#[38]⟩:ByteArray),(⟨#[43]⟩:ByteArray),(⟨#[45]⟩:ByteArray),(⟨#[42]⟩:ByteArray)]:List ByteArray)) (inner:=[.string (⟨#[61,61]⟩:ByteArray),.string (⟨#[60]⟩:ByteArray),.string (⟨#[38]⟩:ByteArray),.string (⟨#[43]⟩:ByteArray),.string (⟨#[45]⟩:ByteArray),.string (⟨#[42]⟩:ByteArray)]) (ok:=fun _=>True) (Yg:=fun _=>True) ?hr ?hp (fun _ hk=>hk) trivial (Below.refl _ _) (Nat.le_refl _) (by simp) ?_;(case hd|hg=>rfl);(case hr=>exact jaj);(case hp=>exact (Pc.one (show Kd.M Kd.string _ _ _ (⟨#[61,61]⟩:ByteArray) [.string (⟨#[61,61]⟩:ByteArray)] from rfl) (Pc.one (show Kd.M Kd.string _ _ _ (⟨#[60]⟩:ByteArray) [.string (⟨#[60]⟩:ByteArray)] from rfl) (Pc.one (show Kd.M Kd.string _ _ _ (⟨#[38]⟩:ByteArray) [.string (⟨#[38]⟩:ByteArray)] from rfl) (Pc.one (show Kd.M Kd.string _ _ _ (⟨#[43]⟩:ByteArray) [.string (⟨#[43]⟩:ByteArray)] from rfl) (Pc.one (show Kd.M Kd.string _ _ _ (⟨#[45]⟩:ByteArray) [.string (⟨#[45]⟩:ByteArray)] from rfl) (Pc.one (show Kd.M Kd.string _ _ _ (⟨#[42]⟩:ByteArray) [.string (⟨#[42]⟩:ByteArray)] from rfl) (Pc.none _ _))))))));intro yA w3 sx hb Ll Pe;clear Ll Pe;(first|rw [← Zi.out] at sx|(simp only [Int.reduceToNat] at sx;rw [← Zi.out] at sx));have Pb:=aa.mk (Kd.Xc sx (Qa maj));have Rb:=aa.mk (Ga maj hb);clear HB;have uo:=Pb;have HB:=Rb;clear Pb Rb hb sx;obtain ⟨Ao5,A_,NS⟩:=Kd.Vb uo.out;subst NS)|((with_reducible refine Kb (f:=154) rfl ?_);refine ie (some 5) rfl rfl Try.func154 (by kernel_rfl) rfl #[.slice Ao5 Re.length A_,.string a0] rfl paj ?_;(with_reducible refine (Wb.calls k _ _ Re a0 t104 _ ?Oc ?Nc A2.out).mono ?_);(case Oc=>repeat (first|exact (Kd.Ua uo.out).2.2|(with_reducible refine Kd.Gd ?_ _)|(with_reducible refine Kd.Ed ?_ _)|(with_reducible refine Kd.He ?_)));(case Nc=>exact (Kd.Ua uo.out).2.1);rintro e w' ⟨rfl,⟨nd,rfl⟩⟩;refine ⟨_,rfl,?_⟩));go_ret;exact ⟨taj,qaj⟩
def Gi.f (a0:Int) (a1:Int) (a2:Int):Option (Bool):=if a0 ≥ a1 then (some (decide (a0 ≤ a2))) else (some false)
theorem Gi.calls (a0:Int) (a1:Int) (a2:Int) (r:Bool) (w:World) (h:Gi.f a0 a1 a2=some r) :
  Calls Try.prog 94 #[.int .i64 a0,.int .i64 a1,.int .i64 a2] w fun e w'=>e = .returned (.bool r)∧Sb w w':=by
 have H:(if a0 ≥ a1 then (some (decide (a0 ≤ a2))) else (some false))=some r:=h;clear h
 by_cases c4:a0 ≥ a1
 ·rw [if_pos c4] at H;have zm:decide (a1 ≤ a0)=true:=decide_eq_true c4;clear c4;obtain rfl:=Option.some.inj H;go_enter Try.func94,Try.ntmps94;go_wp2;go_ret;exact ⟨Naj,xaj⟩
 ·rw [if_neg c4] at H;have zm:decide (a1 ≤ a0)=false:=decide_eq_false c4;clear c4;obtain rfl:=Option.some.inj H;go_enter Try.func94,Try.ntmps94;go_wp2;go_ret;exact ⟨Naj,xaj⟩
theorem WA (g:Nat) (lb:Array Value) (p:Int→Bool) (eg:∀ args w,(callFunc g args).run Try.prog w = .ok (.enter g args) w) (A0:Option Addr) (c0:Nat) (l0:List Int) (w:World) (Hi:Kd.C (Kd.int .i64) w A0 l0.length l0) (hc0:l0.length ≤ c0)
  (hp:∀ (W:World) (x:Int),Below w.heap.size w W→Calls Try.prog g (#[(.int .i64 x)] ++ lb) W fun e w'=>e = .returned (.bool (p x))∧Below W.heap.size W w') :
  Calls Try.prog 105 #[.slice A0 l0.length c0,.func (.func g) #[] lb] w fun e w'=>(∃ i:Int,e = .returned (.int .i64 i)∧decide (0 ≤ i)=l0.any p)∧Below w.heap.size w w':=by
 have BV:=Hi.2.1;have ak:=aa.mk Hi;have oy:=aa.mk hc0;have HP:=aa.mk hp;clear Hi hc0 hp;go_enter Try.func105,Try.ntmps105;go_wp2
 go_loopg [5,8] l0.length (fun gg _ s8 wr=>∃ kk:Nat,kk ≤ l0.length∧l0.length - kk ≤ gg∧s8 = .int .i64 kk∧aa (Below w.heap.size w wr)∧aa ((l0.take kk).any p=false))
 case atStart=>exact ⟨0,Nat.zero_le _,by omega,rfl,⟨Below.refl _ w⟩,⟨by simp⟩⟩
 case round =>
  (try clear BW);(try clear HA);obtain ⟨kk,hkk,hg,rfl,BW,HA⟩:=hrel
  by_cases hlt:kk < l0.length
  ·have p1:0 ≤ (kk:Int):=by omega
   have q1:(kk:Int) < (l0.length:Int):=by omega
   obtain ⟨ad,e1,hx0⟩:=Kd.Ld ak.out (kk:Int) p1 q1;cases e1;simp only [Int.toNat_natCast] at hx0;replace hx0:=(BW.out.cell (World.block_lt_of_cell? w _ hx0)).trans hx0;have hcall:=HP.out wr (rd l0 (kk:Int)) BW.out;cases hq:p (rd l0 (kk:Int)) with
   | true =>
    rw [hq] at hcall;go_wp2_with (go_at_fn g;refine hcall.mono ?_;rintro e w1 ⟨rfl,Ko⟩);go_ret;exact ⟨⟨_,rfl,by rw [YF (d:=0) hlt hq];simp⟩,BW.out.trans (Ko.mono BW.out.size)⟩
   | false =>
    rw [hq] at hcall;go_wp2_with (go_at_fn g;refine hcall.mono ?_;rintro e w1 ⟨rfl,Ko⟩)
    go_roundg (l0.length - (kk + 1))
    case measure=>omega
    case rel=>exact ⟨kk + 1,by omega,by omega,by go_num,⟨BW.out.trans (Ko.mono BW.out.size)⟩,⟨Pn (d:=0) hlt HA.out hq⟩⟩
  ·have BR:¬ (kk:Int) < (l0.length:Int):=by omega
   have he:kk=l0.length:=by omega
   subst he;go_wp2;go_ret;exact ⟨⟨_,rfl,by have h_:=HA.out;rw [List.take_length] at h_;rw [h_];simp⟩,BW.out⟩
theorem vu (g:Nat) (lb:Array Value) (p:Int→Bool) (eg:∀ args w,(callFunc g args).run Try.prog w = .ok (.enter g args) w) (A0:Option Addr) (c0:Nat) (l0:List Int) (w:World) (Hi:Kd.C (Kd.int .i64) w A0 l0.length l0) (hc0:l0.length ≤ c0)
  (hp:∀ (W:World) (x:Int),Below w.heap.size w W→Calls Try.prog g (#[(.int .i64 x)] ++ lb) W fun e w'=>e = .returned (.bool (p x))∧Below W.heap.size W w') :
  Calls Try.prog 115 #[.slice A0 l0.length c0,.func (.func g) #[] lb] w fun e w'=>e = .returned (.bool (l0.any p))∧Below w.heap.size w w':=by
 have HI:=aa.mk (WA g lb p eg A0 c0 l0 w Hi hc0 hp);clear Hi hc0 hp;go_enter Try.func115,Try.ntmps115;go_wp2_with (go_at_call 105;refine HI.out.mono ?_;rintro e w1 ⟨⟨i,rfl,hi⟩,Ko⟩;have HD:=aa.mk hi;clear hi);go_ret;exact ⟨by rw [← HD.out];first|rfl|simp,Ko⟩
def uj (a b c:Int):Bool:=decide (b ≤ a) && decide (a ≤ c)
theorem mj (a b c:Int) (w:World):Calls Try.prog 94 #[.int .i64 a,.int .i64 b,.int .i64 c] w fun e w'=>e = .returned (.bool (uj a b c))∧Sb w w' :=
 Gi.calls a b c (uj a b c) w (by
  unfold Gi.f uj
  by_cases h:a ≥ b
  ·rw [if_pos h];have h':b ≤ a:=h;simp [h']
  ·rw [if_neg h];have h':¬ b ≤ a:=h
   simp [h'])
def vr (l:List Int) (p v:Int):Bool:=uj (l.length:Int) 1 4 && !(l.any fun n=>!uj n 1 16) && uj p 0 (if v < 6 then v else 6) && decide (v ≤ 20)
theorem PA (W:World) (x:Int):Calls Try.prog 116 #[.int .i64 x] W fun e w'=>e = .returned (.bool (!uj x 1 16))∧Below W.heap.size W w':=by
 have HC:=aa.mk (mj x 1 16);generalize uj x 1 16=b at HC ⊢;go_enter Try.func116,Try.ntmps116;go_wp2_with (go_at_call 94;refine (HC.out _).mono ?_;rintro e w1 ⟨rfl,Ko⟩;have HD:=aa.mk Ko.below;clear Ko);go_ret;exact ⟨rfl,HD.out⟩
theorem Nz (p0 p1 p2 p3:Value) (A:Option Addr) (c:Nat) (w:World) :
  Calls Try.prog 117 #[.agg #[p0,p1,p2,p3],.slice A 0 c,.int .i64 0] w fun e w'=>e = .returned (.bool true)∧Below w.heap.size w w':=by
 go_enter Try.func117,Try.ntmps117;go_wp2
 go_loop [25] (fun i=>i = .int .i64 0) (fun _=>0)
 case atStart=>exact rfl
 case round =>
  obtain rfl:=hrel;go_wp2;go_ret;exact ⟨rfl,ia (ia (Below.refl _ _) _) _⟩
theorem jx (A0 A3:Option Addr) (c0 c3:Nat) (l0:List Int) (a1 a2:Int) (w:World) (Hi:Kd.C (Kd.int .i64) w A0 l0.length l0) (hc0:l0.length ≤ c0) :
  Calls Try.prog 93 #[.agg #[.slice A0 l0.length c0,.int .i64 a1,.int .i64 a2,.slice A3 0 c3]] w fun e w'=>e = .returned (.bool (vr l0 a1 a2))∧Below w.heap.size w w':=by
 have eg:=enters_of Try.func116 (by kernel_rfl) rfl;have BV:=Hi.2.1;have Z4:=aa.mk (mj (l0.length:Int) 1 4);have NH:=aa.mk (mj a1 0 (if a2 < 6 then a2 else 6));have HF:=aa.mk (fun (W:World) (hb:Below w.heap.size w W)=>vu 116 #[] (fun n=>!uj n 1 16) eg A0 c0 l0 W (Kd.Za Hi hb) hc0 (fun W x _=>PA W x));clear Hi hc0;unfold vr
 by_cases h6:a2 < 6
 all_goals
  have hmin:min 6 a2=if a2 < 6 then a2 else 6:=by split <;> omega
  first|rw [if_pos h6] at NH hmin ⊢|rw [if_neg h6] at NH hmin ⊢
  cases Ko:uj (l0.length:Int) 1 4 with
  | false =>
   go_enter Try.func93,Try.ntmps93;go_wp2_with (first|(go_at_call 94;refine (mj _ _ _ _).mono ?_;rintro e w1 ⟨rfl,⟨n,rfl⟩⟩));go_ret;exact ⟨rfl,ga (ia (Below.refl _ _) _) _⟩
  | true =>
   cases Cl:(l0.any fun n=>!uj n 1 16) with
   | true =>
    rw [Cl] at HF;go_enter Try.func93,Try.ntmps93;go_wp2_with (first|(go_at_call 94;refine (mj _ _ _ _).mono ?_;rintro e w1 ⟨rfl,⟨n,rfl⟩⟩)|(go_at_call 115;refine (HF.out _ (ga (ia (Below.refl _ _) _) _)).mono ?_;rintro e w1 ⟨rfl,hb⟩;have HB:=aa.mk (Ga (ga (ia (Below.refl _ _) _) _) hb);clear hb));go_ret;exact ⟨rfl,HB.out⟩
   | false =>
    rw [Cl] at HF;go_enter Try.func93,Try.ntmps93;go_wp2_with (first|(go_at_call 94;(with_reducible refine (mj _ _ _ _).mono ?_);rintro e w1 ⟨rfl,⟨n,rfl⟩⟩)|(go_at_call 115;(with_reducible refine (HF.out _ (ga (ia (Below.refl _ _) _) _)).mono ?_);rintro e w1 ⟨rfl,hb⟩;have HB:=aa.mk (Ga (ga (ia (Below.refl _ _) _) _) hb);obtain ⟨UM,BM⟩:=zP hb;have EI:=hb.size;simp at EI;clear hb)|(go_at_call 117;(with_reducible refine (Nz _ _ _ _ _ _ _).mono ?_);rintro e w2 ⟨rfl,hb⟩;have Li:=aa.mk (Ga (ga HB.out _) hb);clear hb))
    all_goals
     go_ret
     first
      | exact ⟨by simp [*],Li.out⟩
      | exact ⟨by simp [*],ga HB.out _⟩
def Pf.f (Ma:List Int) (Oa:Int) (Pa:Int) (bD:List (Cu)):Option Bool:=if bD.length=0 then some (vr Ma Oa Pa) else none
theorem Pf.calls (zb:Option Addr) (yb:Nat) (Ma:List Int) (Oa:Int) (Pa:Int) (wU:Option Addr) (uT:Nat) (bD:List (Cu)) (r:Bool) (w:World) (qd:Kd.C (Kd.int .i64) w zb Ma.length Ma) (Ad:Ma.length ≤ yb) (Oab:Kd.C O6 w wU bD.length bD) (Xac:bD.length ≤ uT) (h:Pf.f Ma Oa Pa bD=some r) :
  Calls Try.prog 93 #[.agg #[.slice zb Ma.length yb,.int .i64 Oa,.int .i64 Pa,.slice wU bD.length uT]] w fun e w'=>e = .returned (.bool r)∧Below w.heap.size w w':=by
 unfold Pf.f at h
 split at h
 ·rename_i h0;injection h with h
  subst h;rw [h0];exact jx zb wU yb uT Ma Oa Pa w qd Ad
 ·cases h
theorem MS (d:Nat) (w:World) (x0 y0:Int) (x1 y1:Int) (x2 y2:Int) (x3 y3:Int) (x4 y4:Int) (x5 y5:Int) (x6 y6:ByteArray) :
  (Op.equalIn (d + 2) 122 (.agg #[.int .i64 x0,.int .i64 x1,.int .i64 x2,.int .i64 x3,.int .i64 x4,.int .i64 x5,.string x6]) (.agg #[.int .i64 y0,.int .i64 y1,.int .i64 y2,.int .i64 y3,.int .i64 y4,.int .i64 y5,.string y6])).run Try.prog w = .ok (x0 == y0 && (x1 == y1 && (x2 == y2 && (x3 == y3 && (x4 == y4 && (x5 == y5 && (x6.toList == y6.toList))))))) w:=by
 refine TJ Try.underlying122 (by kernel_rfl) ?_;refine Vi (by rfl) (by go_simp;rfl) (by go_simp;rfl) (by go_simp) ?_;refine Vi (by rfl) (by go_simp;rfl) (by go_simp;rfl) (by go_simp) ?_;refine Vi (by rfl) (by go_simp;rfl) (by go_simp;rfl) (by go_simp) ?_;refine Vi (by rfl) (by go_simp;rfl) (by go_simp;rfl) (by go_simp) ?_;refine Vi (by rfl) (by go_simp;rfl) (by go_simp;rfl) (by go_simp) ?_;refine Vi (by rfl) (by go_simp;rfl) (by go_simp;rfl) (by go_simp) ?_;exact LB (by rfl) (by go_simp;rfl) (by go_simp;rfl) (by go_simp)
attribute [local go_sem high] MS
def NC:List ByteArray:=[⟨#[61,61]⟩,⟨#[60]⟩,⟨#[38]⟩,⟨#[43]⟩,⟨#[45]⟩,⟨#[42]⟩]
def Wo (s:ByteArray):Bool:=NC.any fun y=>decide (s.toList=y.toList)
theorem QG (s:ByteArray):Lk.f 8 s=some (Wo s):=by
 unfold Lk.f Wb.f Ya.f Wo NC;simp only [Ya.l0,List.any_cons,List.any_nil]
 by_cases h0:s.toList=[61,61]
 ·simp [xg,h0]
 by_cases h1:s.toList=[60]
 ·simp [xg,h1,wrap64]
 by_cases h2:s.toList=[38]
 ·simp [xg,h2,wrap64]
 by_cases h3:s.toList=[43]
 ·simp [xg,h3,wrap64]
 by_cases h4:s.toList=[45]
 ·simp [xg,h4,wrap64]
 by_cases h5:s.toList=[42]
 ·simp [xg,h5,wrap64]
 simp [xg,h0,h1,h2,h3,h4,h5,wrap64]
theorem cD (s:ByteArray) (w:World):Calls Try.prog 139 #[.string s] w fun e w'=>e = .returned (.bool (Wo s))∧Below w.heap.size w w':=Lk.calls 8 s (Wo s) w (QG s)
def Vk (slots s:Int):Bool:=decide (0 ≤ s) && decide (s < slots)
theorem qi (B:Nat) (slots s:Int) (W:World) (GS:W.cell? ⟨B,3,none⟩=some (.int .i64 slots)):Calls Try.prog 138 #[.int .i64 s,.pointer (some ⟨B,0,none⟩)] W fun e w'=>e = .returned (.bool (Vk slots s))∧W=w':=by
 unfold Vk
 by_cases h:0 ≤ s
 all_goals
  go_enter Try.func138,Try.ntmps138;go_wp2;go_ret;exact ⟨by simp [*];try omega,rfl⟩
theorem YG (A0 A4:Option Addr) (c0 c4 n0 n4:Nat) (p1 p2 slots d a b c n:Int) (t:ByteArray) (w:World) (hn0:n0 ≤ 9223372036854775807) (xw:n4 ≤ 9223372036854775807) :
  Calls Try.prog 125 #[.agg #[.slice A0 n0 c0,.int .i64 p1,.int .i64 p2,.int .i64 slots,.slice A4 n4 c4],.agg #[.int .i64 0,.int .i64 d,.int .i64 a,.int .i64 b,.int .i64 c,.int .i64 n,.string t]] w fun e w'=>e = .returned (.bool (Vk slots d && (a == 0 && (b == 0 && (c == 0 && t.toList.isEmpty)))))∧Below w.heap.size w w':=by
 obtain ⟨W1,tf⟩:∃ W1,W1=(w.alloc (.cells #[.slice A0 n0 c0,.int .i64 p1,.int .i64 p2,.int .i64 slots,.slice A4 n4 c4] 45 (0,0))).alloc (.cells #[.int .i64 0,.int .i64 d,.int .i64 a,.int .i64 b,.int .i64 c,.int .i64 n,.string t] 122 (0,0)):=⟨_,rfl⟩;have HW:=aa.mk tf;have HB:=aa.mk (show Below w.heap.size w W1 from by rw [tf];exact ia (ia (Below.refl _ _) _) _);have hz:W1.heap.size=w.heap.size + 2:=by rw [tf];simp
 have nA:W1.cell? ⟨w.heap.size,3,none⟩=some (.int .i64 slots):=by rw [tf];simp
 have hx0:W1.cell? ⟨w.heap.size + 1,0,none⟩=some (.int .i64 0):=by rw [tf];simp
 have hx1:W1.cell? ⟨w.heap.size + 1,1,none⟩=some (.int .i64 d):=by rw [tf];simp
 have hx2:W1.cell? ⟨w.heap.size + 1,2,none⟩=some (.int .i64 a):=by rw [tf];simp
 have ov:W1.cell? ⟨w.heap.size + 1,3,none⟩=some (.int .i64 b):=by rw [tf];simp
 have Tt:W1.cell? ⟨w.heap.size + 1,4,none⟩=some (.int .i64 c):=by rw [tf];simp
 have GH:W1.cell? ⟨w.heap.size + 1,5,none⟩=some (.int .i64 n):=by rw [tf];simp
 have Ky:W1.cell? ⟨w.heap.size + 1,6,none⟩=some (.string t):=by rw [tf];simp
 clear tf;go_enter Try.func125,Try.ntmps125;go_wp2_with (first|(go_at_call 94;(with_reducible refine (mj _ _ _ _).mono ?_);rintro e w1 ⟨rfl,⟨k1,rfl⟩⟩));rw [← HW.out];clear HW
 go_region
 all_goals go_wp2_with (first|(go_at_call 138;(refine (qi _ slots _ _ ?hc).mono ?_);(case hc=>exact kaj);rintro e w1 ⟨rfl,rfl⟩))
 all_goals go_ret
 all_goals exact ⟨by (try clear UM BM EI Li);simp [*],Gaj⟩
theorem XG (A0 A4:Option Addr) (c0 c4 n0 n4:Nat) (p1 p2 slots d a b c n:Int) (t:ByteArray) (w:World) (hn0:n0 ≤ 9223372036854775807) (xw:n4 ≤ 9223372036854775807) :
  Calls Try.prog 125 #[.agg #[.slice A0 n0 c0,.int .i64 p1,.int .i64 p2,.int .i64 slots,.slice A4 n4 c4],.agg #[.int .i64 1,.int .i64 d,.int .i64 a,.int .i64 b,.int .i64 c,.int .i64 n,.string t]] w fun e w'=>e = .returned (.bool (Vk slots d && Vk slots a && (b == 0 && (c == 0 && (n == 0 && t.toList.isEmpty)))))∧Below w.heap.size w w':=by
 obtain ⟨W1,tf⟩:∃ W1,W1=(w.alloc (.cells #[.slice A0 n0 c0,.int .i64 p1,.int .i64 p2,.int .i64 slots,.slice A4 n4 c4] 45 (0,0))).alloc (.cells #[.int .i64 1,.int .i64 d,.int .i64 a,.int .i64 b,.int .i64 c,.int .i64 n,.string t] 122 (0,0)):=⟨_,rfl⟩;have HW:=aa.mk tf;have HB:=aa.mk (show Below w.heap.size w W1 from by rw [tf];exact ia (ia (Below.refl _ _) _) _);have hz:W1.heap.size=w.heap.size + 2:=by rw [tf];simp
 have nA:W1.cell? ⟨w.heap.size,3,none⟩=some (.int .i64 slots):=by rw [tf];simp
 have hx0:W1.cell? ⟨w.heap.size + 1,0,none⟩=some (.int .i64 1):=by rw [tf];simp
 have hx1:W1.cell? ⟨w.heap.size + 1,1,none⟩=some (.int .i64 d):=by rw [tf];simp
 have hx2:W1.cell? ⟨w.heap.size + 1,2,none⟩=some (.int .i64 a):=by rw [tf];simp
 have ov:W1.cell? ⟨w.heap.size + 1,3,none⟩=some (.int .i64 b):=by rw [tf];simp
 have Tt:W1.cell? ⟨w.heap.size + 1,4,none⟩=some (.int .i64 c):=by rw [tf];simp
 have GH:W1.cell? ⟨w.heap.size + 1,5,none⟩=some (.int .i64 n):=by rw [tf];simp
 have Ky:W1.cell? ⟨w.heap.size + 1,6,none⟩=some (.string t):=by rw [tf];simp
 clear tf;go_enter Try.func125,Try.ntmps125;go_wp2_with (first|(go_at_call 94;(with_reducible refine (mj _ _ _ _).mono ?_);rintro e w1 ⟨rfl,⟨k1,rfl⟩⟩));rw [← HW.out];clear HW
 go_region
 all_goals go_wp2_with (first|(go_at_call 138;(refine (qi _ slots _ _ ?hc).mono ?_);(case hc=>exact kaj);rintro e w1 ⟨rfl,rfl⟩))
 all_goals go_ret
 all_goals exact ⟨by (try clear UM BM EI Li);simp [*],Gaj⟩
theorem WG (A0 A4:Option Addr) (c0 c4 n0 n4:Nat) (p1 p2 slots d a b c n:Int) (t:ByteArray) (w:World) (hn0:n0 ≤ 9223372036854775807) (xw:n4 ≤ 9223372036854775807) :
  Calls Try.prog 125 #[.agg #[.slice A0 n0 c0,.int .i64 p1,.int .i64 p2,.int .i64 slots,.slice A4 n4 c4],.agg #[.int .i64 2,.int .i64 d,.int .i64 a,.int .i64 b,.int .i64 c,.int .i64 n,.string t]] w fun e w'=>e = .returned (.bool (Vk slots d && Vk slots a && Vk slots b && Wo t && (c == 0 && n == 0)))∧Below w.heap.size w w':=by
 obtain ⟨W1,tf⟩:∃ W1,W1=(w.alloc (.cells #[.slice A0 n0 c0,.int .i64 p1,.int .i64 p2,.int .i64 slots,.slice A4 n4 c4] 45 (0,0))).alloc (.cells #[.int .i64 2,.int .i64 d,.int .i64 a,.int .i64 b,.int .i64 c,.int .i64 n,.string t] 122 (0,0)):=⟨_,rfl⟩;have HW:=aa.mk tf;have HB:=aa.mk (show Below w.heap.size w W1 from by rw [tf];exact ia (ia (Below.refl _ _) _) _);have hz:W1.heap.size=w.heap.size + 2:=by rw [tf];simp
 have nA:W1.cell? ⟨w.heap.size,3,none⟩=some (.int .i64 slots):=by rw [tf];simp
 have hx0:W1.cell? ⟨w.heap.size + 1,0,none⟩=some (.int .i64 2):=by rw [tf];simp
 have hx1:W1.cell? ⟨w.heap.size + 1,1,none⟩=some (.int .i64 d):=by rw [tf];simp
 have hx2:W1.cell? ⟨w.heap.size + 1,2,none⟩=some (.int .i64 a):=by rw [tf];simp
 have ov:W1.cell? ⟨w.heap.size + 1,3,none⟩=some (.int .i64 b):=by rw [tf];simp
 have Tt:W1.cell? ⟨w.heap.size + 1,4,none⟩=some (.int .i64 c):=by rw [tf];simp
 have GH:W1.cell? ⟨w.heap.size + 1,5,none⟩=some (.int .i64 n):=by rw [tf];simp
 have Ky:W1.cell? ⟨w.heap.size + 1,6,none⟩=some (.string t):=by rw [tf];simp
 clear tf;go_enter Try.func125,Try.ntmps125;go_wp2_with (first|(go_at_call 94;(with_reducible refine (mj _ _ _ _).mono ?_);rintro e w1 ⟨rfl,⟨k1,rfl⟩⟩));rw [← HW.out];clear HW
 go_region
 all_goals go_wp2_with (first|(go_at_call 138;(refine (qi _ slots _ _ ?hc).mono ?_);(case hc=>exact kaj);rintro e w1 ⟨rfl,rfl⟩)|(go_at_call 139;(with_reducible refine (cD _ _).mono ?_);rintro e w2 ⟨rfl,Cl⟩;have Li:=aa.mk Cl;obtain ⟨UM,BM⟩:=zP Cl;have EI:=Cl.size;simp at EI;clear Cl))
 all_goals go_ret
 all_goals exact ⟨by (try clear UM BM EI Li);simp [*],Gaj⟩
theorem VG (A0 A4:Option Addr) (c0 c4 n0 n4:Nat) (p1 p2 slots d a b c n:Int) (t:ByteArray) (w:World) (hn0:n0 ≤ 9223372036854775807) (xw:n4 ≤ 9223372036854775807) :
  Calls Try.prog 125 #[.agg #[.slice A0 n0 c0,.int .i64 p1,.int .i64 p2,.int .i64 slots,.slice A4 n4 c4],.agg #[.int .i64 3,.int .i64 d,.int .i64 a,.int .i64 b,.int .i64 c,.int .i64 n,.string t]] w fun e w'=>e = .returned (.bool (Vk slots d && Vk slots b && uj n 0 ((n0:Int) - 1) && (Vk slots a || a == -1) && (c == 0 && t.toList.isEmpty)))∧Below w.heap.size w w':=by
 obtain ⟨W1,tf⟩:∃ W1,W1=(w.alloc (.cells #[.slice A0 n0 c0,.int .i64 p1,.int .i64 p2,.int .i64 slots,.slice A4 n4 c4] 45 (0,0))).alloc (.cells #[.int .i64 3,.int .i64 d,.int .i64 a,.int .i64 b,.int .i64 c,.int .i64 n,.string t] 122 (0,0)):=⟨_,rfl⟩;have HW:=aa.mk tf;have HB:=aa.mk (show Below w.heap.size w W1 from by rw [tf];exact ia (ia (Below.refl _ _) _) _);have hz:W1.heap.size=w.heap.size + 2:=by rw [tf];simp
 have nA:W1.cell? ⟨w.heap.size,3,none⟩=some (.int .i64 slots):=by rw [tf];simp
 have hx0:W1.cell? ⟨w.heap.size + 1,0,none⟩=some (.int .i64 3):=by rw [tf];simp
 have hx1:W1.cell? ⟨w.heap.size + 1,1,none⟩=some (.int .i64 d):=by rw [tf];simp
 have hx2:W1.cell? ⟨w.heap.size + 1,2,none⟩=some (.int .i64 a):=by rw [tf];simp
 have ov:W1.cell? ⟨w.heap.size + 1,3,none⟩=some (.int .i64 b):=by rw [tf];simp
 have Tt:W1.cell? ⟨w.heap.size + 1,4,none⟩=some (.int .i64 c):=by rw [tf];simp
 have GH:W1.cell? ⟨w.heap.size + 1,5,none⟩=some (.int .i64 n):=by rw [tf];simp
 have Ky:W1.cell? ⟨w.heap.size + 1,6,none⟩=some (.string t):=by rw [tf];simp
 clear tf;go_enter Try.func125,Try.ntmps125;go_wp2_with (first|(go_at_call 94;(with_reducible refine (mj _ _ _ _).mono ?_);rintro e w1 ⟨rfl,⟨k1,rfl⟩⟩));rw [← HW.out];clear HW
 go_region
 all_goals go_wp2_with (first|(go_at_call 138;(refine (qi _ slots _ _ ?hc).mono ?_);(case hc=>exact kaj);rintro e w1 ⟨rfl,rfl⟩))
 all_goals go_ret
 all_goals exact ⟨by (try clear UM BM EI Li);simp [*],Gaj⟩
theorem UG (A0 A4:Option Addr) (c0 c4 n0 n4:Nat) (p1 p2 slots d a b c n:Int) (t:ByteArray) (w:World) (hn0:n0 ≤ 9223372036854775807) (xw:n4 ≤ 9223372036854775807) :
  Calls Try.prog 125 #[.agg #[.slice A0 n0 c0,.int .i64 p1,.int .i64 p2,.int .i64 slots,.slice A4 n4 c4],.agg #[.int .i64 4,.int .i64 d,.int .i64 a,.int .i64 b,.int .i64 c,.int .i64 n,.string t]] w fun e w'=>e = .returned (.bool (Vk slots c && Vk slots b && uj n 0 ((n0:Int) - 1) && (Vk slots a || a == -1) && (d == 0 && t.toList.isEmpty)))∧Below w.heap.size w w':=by
 obtain ⟨W1,tf⟩:∃ W1,W1=(w.alloc (.cells #[.slice A0 n0 c0,.int .i64 p1,.int .i64 p2,.int .i64 slots,.slice A4 n4 c4] 45 (0,0))).alloc (.cells #[.int .i64 4,.int .i64 d,.int .i64 a,.int .i64 b,.int .i64 c,.int .i64 n,.string t] 122 (0,0)):=⟨_,rfl⟩;have HW:=aa.mk tf;have HB:=aa.mk (show Below w.heap.size w W1 from by rw [tf];exact ia (ia (Below.refl _ _) _) _);have hz:W1.heap.size=w.heap.size + 2:=by rw [tf];simp
 have nA:W1.cell? ⟨w.heap.size,3,none⟩=some (.int .i64 slots):=by rw [tf];simp
 have hx0:W1.cell? ⟨w.heap.size + 1,0,none⟩=some (.int .i64 4):=by rw [tf];simp
 have hx1:W1.cell? ⟨w.heap.size + 1,1,none⟩=some (.int .i64 d):=by rw [tf];simp
 have hx2:W1.cell? ⟨w.heap.size + 1,2,none⟩=some (.int .i64 a):=by rw [tf];simp
 have ov:W1.cell? ⟨w.heap.size + 1,3,none⟩=some (.int .i64 b):=by rw [tf];simp
 have Tt:W1.cell? ⟨w.heap.size + 1,4,none⟩=some (.int .i64 c):=by rw [tf];simp
 have GH:W1.cell? ⟨w.heap.size + 1,5,none⟩=some (.int .i64 n):=by rw [tf];simp
 have Ky:W1.cell? ⟨w.heap.size + 1,6,none⟩=some (.string t):=by rw [tf];simp
 clear tf;go_enter Try.func125,Try.ntmps125;go_wp2_with (first|(go_at_call 94;(with_reducible refine (mj _ _ _ _).mono ?_);rintro e w1 ⟨rfl,⟨k1,rfl⟩⟩));rw [← HW.out];clear HW
 go_region
 all_goals go_wp2_with (first|(go_at_call 138;(refine (qi _ slots _ _ ?hc).mono ?_);(case hc=>exact kaj);rintro e w1 ⟨rfl,rfl⟩))
 all_goals go_ret
 all_goals exact ⟨by (try clear UM BM EI Li);simp [*],Gaj⟩
theorem SG (A0 A4:Option Addr) (c0 c4 n0 n4:Nat) (p1 p2 slots d a b c n:Int) (t:ByteArray) (w:World) (hn0:n0 ≤ 9223372036854775807) (xw:n4 ≤ 9223372036854775807) :
  Calls Try.prog 125 #[.agg #[.slice A0 n0 c0,.int .i64 p1,.int .i64 p2,.int .i64 slots,.slice A4 n4 c4],.agg #[.int .i64 5,.int .i64 d,.int .i64 a,.int .i64 b,.int .i64 c,.int .i64 n,.string t]] w fun e w'=>e = .returned (.bool (Vk slots d && (a == 0 && (b == 0 && (c == 0 && (n == 0 && t.toList.isEmpty))))))∧Below w.heap.size w w':=by
 obtain ⟨W1,tf⟩:∃ W1,W1=(w.alloc (.cells #[.slice A0 n0 c0,.int .i64 p1,.int .i64 p2,.int .i64 slots,.slice A4 n4 c4] 45 (0,0))).alloc (.cells #[.int .i64 5,.int .i64 d,.int .i64 a,.int .i64 b,.int .i64 c,.int .i64 n,.string t] 122 (0,0)):=⟨_,rfl⟩;have HW:=aa.mk tf;have HB:=aa.mk (show Below w.heap.size w W1 from by rw [tf];exact ia (ia (Below.refl _ _) _) _);have hz:W1.heap.size=w.heap.size + 2:=by rw [tf];simp
 have nA:W1.cell? ⟨w.heap.size,3,none⟩=some (.int .i64 slots):=by rw [tf];simp
 have hx0:W1.cell? ⟨w.heap.size + 1,0,none⟩=some (.int .i64 5):=by rw [tf];simp
 have hx1:W1.cell? ⟨w.heap.size + 1,1,none⟩=some (.int .i64 d):=by rw [tf];simp
 have hx2:W1.cell? ⟨w.heap.size + 1,2,none⟩=some (.int .i64 a):=by rw [tf];simp
 have ov:W1.cell? ⟨w.heap.size + 1,3,none⟩=some (.int .i64 b):=by rw [tf];simp
 have Tt:W1.cell? ⟨w.heap.size + 1,4,none⟩=some (.int .i64 c):=by rw [tf];simp
 have GH:W1.cell? ⟨w.heap.size + 1,5,none⟩=some (.int .i64 n):=by rw [tf];simp
 have Ky:W1.cell? ⟨w.heap.size + 1,6,none⟩=some (.string t):=by rw [tf];simp
 clear tf;go_enter Try.func125,Try.ntmps125;go_wp2_with (first|(go_at_call 94;(with_reducible refine (mj _ _ _ _).mono ?_);rintro e w1 ⟨rfl,⟨k1,rfl⟩⟩));rw [← HW.out];clear HW
 go_region
 all_goals go_wp2_with (first|(go_at_call 138;(refine (qi _ slots _ _ ?hc).mono ?_);(case hc=>exact kaj);rintro e w1 ⟨rfl,rfl⟩))
 all_goals go_ret
 all_goals exact ⟨by (try clear UM BM EI Li);simp [*],Gaj⟩
theorem RG (A0 A4:Option Addr) (c0 c4 n0 n4:Nat) (p1 p2 slots d a b c n:Int) (t:ByteArray) (w:World) (hn0:n0 ≤ 9223372036854775807) (xw:n4 ≤ 9223372036854775807) :
  Calls Try.prog 125 #[.agg #[.slice A0 n0 c0,.int .i64 p1,.int .i64 p2,.int .i64 slots,.slice A4 n4 c4],.agg #[.int .i64 6,.int .i64 d,.int .i64 a,.int .i64 b,.int .i64 c,.int .i64 n,.string t]] w fun e w'=>e = .returned (.bool (Vk slots a && (d == 0 && (b == 0 && (c == 0 && (n == 0 && t.toList.isEmpty))))))∧Below w.heap.size w w':=by
 obtain ⟨W1,tf⟩:∃ W1,W1=(w.alloc (.cells #[.slice A0 n0 c0,.int .i64 p1,.int .i64 p2,.int .i64 slots,.slice A4 n4 c4] 45 (0,0))).alloc (.cells #[.int .i64 6,.int .i64 d,.int .i64 a,.int .i64 b,.int .i64 c,.int .i64 n,.string t] 122 (0,0)):=⟨_,rfl⟩;have HW:=aa.mk tf;have HB:=aa.mk (show Below w.heap.size w W1 from by rw [tf];exact ia (ia (Below.refl _ _) _) _);have hz:W1.heap.size=w.heap.size + 2:=by rw [tf];simp
 have nA:W1.cell? ⟨w.heap.size,3,none⟩=some (.int .i64 slots):=by rw [tf];simp
 have hx0:W1.cell? ⟨w.heap.size + 1,0,none⟩=some (.int .i64 6):=by rw [tf];simp
 have hx1:W1.cell? ⟨w.heap.size + 1,1,none⟩=some (.int .i64 d):=by rw [tf];simp
 have hx2:W1.cell? ⟨w.heap.size + 1,2,none⟩=some (.int .i64 a):=by rw [tf];simp
 have ov:W1.cell? ⟨w.heap.size + 1,3,none⟩=some (.int .i64 b):=by rw [tf];simp
 have Tt:W1.cell? ⟨w.heap.size + 1,4,none⟩=some (.int .i64 c):=by rw [tf];simp
 have GH:W1.cell? ⟨w.heap.size + 1,5,none⟩=some (.int .i64 n):=by rw [tf];simp
 have Ky:W1.cell? ⟨w.heap.size + 1,6,none⟩=some (.string t):=by rw [tf];simp
 clear tf;go_enter Try.func125,Try.ntmps125;go_wp2_with (first|(go_at_call 94;(with_reducible refine (mj _ _ _ _).mono ?_);rintro e w1 ⟨rfl,⟨k1,rfl⟩⟩));rw [← HW.out];clear HW
 go_region
 all_goals go_wp2_with (first|(go_at_call 138;(refine (qi _ slots _ _ ?hc).mono ?_);(case hc=>exact kaj);rintro e w1 ⟨rfl,rfl⟩))
 all_goals go_ret
 all_goals exact ⟨by (try clear UM BM EI Li);simp [*],Gaj⟩
theorem dD (A0 A4:Option Addr) (c0 c4 n0 n4:Nat) (p1 p2 slots d a b c n:Int) (t:ByteArray) (w:World) (hn0:n0 ≤ 9223372036854775807) (xw:n4 ≤ 9223372036854775807) (o:Int) (h0:(o == 0)=false) (h1:(o == 1)=false) (h2:(o == 2)=false) (h3:(o == 3)=false) (h4:(o == 4)=false) (h5:(o == 5)=false) (h6:(o == 6)=false) :
  Calls Try.prog 125 #[.agg #[.slice A0 n0 c0,.int .i64 p1,.int .i64 p2,.int .i64 slots,.slice A4 n4 c4],.agg #[.int .i64 o,.int .i64 d,.int .i64 a,.int .i64 b,.int .i64 c,.int .i64 n,.string t]] w fun e w'=>e = .returned (.bool (false))∧Below w.heap.size w w':=by
 obtain ⟨W1,tf⟩:∃ W1,W1=(w.alloc (.cells #[.slice A0 n0 c0,.int .i64 p1,.int .i64 p2,.int .i64 slots,.slice A4 n4 c4] 45 (0,0))).alloc (.cells #[.int .i64 o,.int .i64 d,.int .i64 a,.int .i64 b,.int .i64 c,.int .i64 n,.string t] 122 (0,0)):=⟨_,rfl⟩;have HW:=aa.mk tf;have HB:=aa.mk (show Below w.heap.size w W1 from by rw [tf];exact ia (ia (Below.refl _ _) _) _);have hz:W1.heap.size=w.heap.size + 2:=by rw [tf];simp
 have nA:W1.cell? ⟨w.heap.size,3,none⟩=some (.int .i64 slots):=by rw [tf];simp
 have hx0:W1.cell? ⟨w.heap.size + 1,0,none⟩=some (.int .i64 o):=by rw [tf];simp
 have hx1:W1.cell? ⟨w.heap.size + 1,1,none⟩=some (.int .i64 d):=by rw [tf];simp
 have hx2:W1.cell? ⟨w.heap.size + 1,2,none⟩=some (.int .i64 a):=by rw [tf];simp
 have ov:W1.cell? ⟨w.heap.size + 1,3,none⟩=some (.int .i64 b):=by rw [tf];simp
 have Tt:W1.cell? ⟨w.heap.size + 1,4,none⟩=some (.int .i64 c):=by rw [tf];simp
 have GH:W1.cell? ⟨w.heap.size + 1,5,none⟩=some (.int .i64 n):=by rw [tf];simp
 have Ky:W1.cell? ⟨w.heap.size + 1,6,none⟩=some (.string t):=by rw [tf];simp
 clear tf;go_enter Try.func125,Try.ntmps125;go_wp2_with (first|(go_at_call 94;(with_reducible refine (mj _ _ _ _).mono ?_);rintro e w1 ⟨rfl,⟨k1,rfl⟩⟩));rw [← HW.out];clear HW
 go_region
 all_goals go_wp2_with (first|(go_at_call 138;(refine (qi _ slots _ _ ?hc).mono ?_);(case hc=>exact kaj);rintro e w1 ⟨rfl,rfl⟩))
 all_goals go_ret
 all_goals exact ⟨by (try clear UM BM EI Li);simp [*],Gaj⟩
def zk (n0:Nat) (slots:Int) (o d a b c n:Int) (t:ByteArray):Bool :=
 if o=0 then Vk slots d && (a == 0 && (b == 0 && (c == 0 && t.toList.isEmpty)))
 else if o=1 then Vk slots d && Vk slots a && (b == 0 && (c == 0 && (n == 0 && t.toList.isEmpty)))
 else if o=2 then Vk slots d && Vk slots a && Vk slots b && Wo t && (c == 0 && n == 0)
 else if o=3 then Vk slots d && Vk slots b && uj n 0 ((n0:Int) - 1) && (Vk slots a || a == -1) && (c == 0 && t.toList.isEmpty)
 else if o=4 then Vk slots c && Vk slots b && uj n 0 ((n0:Int) - 1) && (Vk slots a || a == -1) && (d == 0 && t.toList.isEmpty)
 else if o=5 then Vk slots d && (a == 0 && (b == 0 && (c == 0 && (n == 0 && t.toList.isEmpty))))
 else if o=6 then Vk slots a && (d == 0 && (b == 0 && (c == 0 && (n == 0 && t.toList.isEmpty))))
 else false
theorem QA (A0 A4:Option Addr) (c0 c4 n0 n4:Nat) (p1 p2 slots:Int) (w:World) (hn0:n0 ≤ 9223372036854775807) (xw:n4 ≤ 9223372036854775807) (o d a b c n:Int) (t:ByteArray) :
  Calls Try.prog 125 #[.agg #[.slice A0 n0 c0,.int .i64 p1,.int .i64 p2,.int .i64 slots,.slice A4 n4 c4],.agg #[.int .i64 o,.int .i64 d,.int .i64 a,.int .i64 b,.int .i64 c,.int .i64 n,.string t]] w fun e w'=>e = .returned (.bool (zk n0 slots o d a b c n t))∧Below w.heap.size w w':=by
 unfold zk
 by_cases h0:o=0
 ·rw [if_pos h0,h0];exact YG A0 A4 c0 c4 n0 n4 p1 p2 slots d a b c n t w hn0 xw
 rw [if_neg h0]
 by_cases h1:o=1
 ·rw [if_pos h1,h1];exact XG A0 A4 c0 c4 n0 n4 p1 p2 slots d a b c n t w hn0 xw
 rw [if_neg h1]
 by_cases h2:o=2
 ·rw [if_pos h2,h2];exact WG A0 A4 c0 c4 n0 n4 p1 p2 slots d a b c n t w hn0 xw
 rw [if_neg h2]
 by_cases h3:o=3
 ·rw [if_pos h3,h3];exact VG A0 A4 c0 c4 n0 n4 p1 p2 slots d a b c n t w hn0 xw
 rw [if_neg h3]
 by_cases h4:o=4
 ·rw [if_pos h4,h4];exact UG A0 A4 c0 c4 n0 n4 p1 p2 slots d a b c n t w hn0 xw
 rw [if_neg h4]
 by_cases h5:o=5
 ·rw [if_pos h5,h5];exact SG A0 A4 c0 c4 n0 n4 p1 p2 slots d a b c n t w hn0 xw
 rw [if_neg h5]
 by_cases h6:o=6
 ·rw [if_pos h6,h6];exact RG A0 A4 c0 c4 n0 n4 p1 p2 slots d a b c n t w hn0 xw
 rw [if_neg h6];exact dD A0 A4 c0 c4 n0 n4 p1 p2 slots d a b c n t w hn0 xw o (beq_eq_false_iff_ne.mpr h0) (beq_eq_false_iff_ne.mpr h1) (beq_eq_false_iff_ne.mpr h2) (beq_eq_false_iff_ne.mpr h3) (beq_eq_false_iff_ne.mpr h4) (beq_eq_false_iff_ne.mpr h5) (beq_eq_false_iff_ne.mpr h6)
def Hl (n0:Nat) (slots:Int) (x:oc):Bool:=zk n0 slots x.f0 x.f1 x.f2 x.f3 x.f4 x.f5 x.f6
def Tj (n0:Nat) (slots:Int) (n4:Nat) (code:List oc) (j a tg els:Int):Bool :=
 !(code.any fun x=>!Hl n0 slots x) && decide (0 ≤ slots) &&
  (if j=0 then uj tg 0 ((n4:Int) - 1) && a == 0 && els == 0
   else if j=1 then uj tg 0 ((n4:Int) - 1) && uj els 0 ((n4:Int) - 1) && Vk slots a
   else if j=2 then Vk slots a && tg == 0 && els == 0
   else false)
theorem ZG (B:Nat) (A0 A4:Option Addr) (c0 c4 n0 n4:Nat) (p1 p2 slots:Int) (hn0:n0 ≤ 9223372036854775807) (xw:n4 ≤ 9223372036854775807) (W:World) (x:oc)
  (hb0:W.cell? ⟨B,0,none⟩=some (.slice A0 n0 c0)) (Ko:W.cell? ⟨B,1,none⟩=some (.int .i64 p1)) (Cl:W.cell? ⟨B,2,none⟩=some (.int .i64 p2)) (GS:W.cell? ⟨B,3,none⟩=some (.int .i64 slots)) (hb4:W.cell? ⟨B,4,none⟩=some (.slice A4 n4 c4)) (hB:B < W.heap.size) :
  Calls Try.prog 124 #[.agg #[.int .i64 x.f0,.int .i64 x.f1,.int .i64 x.f2,.int .i64 x.f3,.int .i64 x.f4,.int .i64 x.f5,.string x.f6],.pointer (some ⟨B,0,none⟩)] W
   fun e w'=>e = .returned (.bool (!Hl n0 slots x))∧Below W.heap.size W w':=by
 have hne:B ≠ W.heap.size:=by omega
 unfold Hl;have HC:=aa.mk (fun W'=>QA A0 A4 c0 c4 n0 n4 p1 p2 slots W' hn0 xw x.f0 x.f1 x.f2 x.f3 x.f4 x.f5 x.f6);generalize zk n0 slots x.f0 x.f1 x.f2 x.f3 x.f4 x.f5 x.f6=b at HC ⊢;go_enter Try.func124,Try.ntmps124;go_wp2_with (go_at_call 125;(with_reducible refine (HC.out _).mono ?_);rintro e w1 ⟨rfl,hb⟩;have HD:=aa.mk (Ga (ia (Below.refl _ _) _) hb);clear hb);go_ret;exact ⟨rfl,HD.out⟩
theorem SA (A0 A4 A5:Option Addr) (c0 c4 c5 n0 n4:Nat) (p1 p2 slots:Int) (l5:List oc) (j a tg els:Int) (w:World) (hn0:n0 ≤ 9223372036854775807) (xw:n4 ≤ 9223372036854775807) (vR:Kd.C Je w A5 l5.length l5) (hc5:l5.length ≤ c5) :
  Calls Try.prog 104 #[.agg #[.slice A0 n0 c0,.int .i64 p1,.int .i64 p2,.int .i64 slots,.slice A4 n4 c4],.agg #[.slice A5 l5.length c5,.int .i64 j,.int .i64 a,.int .i64 tg,.int .i64 els]] w fun e w'=>e = .returned (.bool (Tj n0 slots n4 l5 j a tg els))∧Below w.heap.size w w':=by
 have eg:=enters_of Try.func124 (by kernel_rfl) rfl;have hm5:=vR.2.1;obtain ⟨W1,tf⟩:∃ W1,W1=(w.alloc (.cells #[.slice A0 n0 c0,.int .i64 p1,.int .i64 p2,.int .i64 slots,.slice A4 n4 c4] 45 (0,0))).alloc (.cells #[.slice A5 l5.length c5,.int .i64 j,.int .i64 a,.int .i64 tg,.int .i64 els] 83 (0,0)):=⟨_,rfl⟩;have HW:=aa.mk tf;have B9:Below w.heap.size w W1:=by rw [tf];exact ia (ia (Below.refl _ _) _) _
 have hz:W1.heap.size=w.heap.size + 2:=by rw [tf];simp
 have eH:W1.cell? ⟨w.heap.size,0,none⟩=some (.slice A0 n0 c0):=by rw [tf];simp
 have Xw:W1.cell? ⟨w.heap.size,1,none⟩=some (.int .i64 p1):=by rw [tf];simp
 have hg2:W1.cell? ⟨w.heap.size,2,none⟩=some (.int .i64 p2):=by rw [tf];simp
 have CC:W1.cell? ⟨w.heap.size,3,none⟩=some (.int .i64 slots):=by rw [tf];simp
 have BC:W1.cell? ⟨w.heap.size,4,none⟩=some (.slice A4 n4 c4):=by rw [tf];simp
 have hx0:W1.cell? ⟨w.heap.size + 1,0,none⟩=some (.slice A5 l5.length c5):=by rw [tf];simp
 have hx1:W1.cell? ⟨w.heap.size + 1,1,none⟩=some (.int .i64 j):=by rw [tf];simp
 have hx2:W1.cell? ⟨w.heap.size + 1,2,none⟩=some (.int .i64 a):=by rw [tf];simp
 have ov:W1.cell? ⟨w.heap.size + 1,3,none⟩=some (.int .i64 tg):=by rw [tf];simp
 have Tt:W1.cell? ⟨w.heap.size + 1,4,none⟩=some (.int .i64 els):=by rw [tf];simp
 have hr1:=Kd.Za vR B9;clear tf vR
 have HF:=aa.mk (Jr 124 #[.pointer (some ⟨w.heap.size,0,none⟩)] (fun x=>!Hl n0 slots x) eg A5 c5 l5 W1 hr1 hc5
  (fun W2 x hb'=>ZG w.heap.size A0 A4 c0 c4 n0 n4 p1 p2 slots hn0 xw W2 x ((hb'.cell (p:=⟨w.heap.size,0,none⟩) (by simp;omega)).trans eH) ((hb'.cell (p:=⟨w.heap.size,1,none⟩) (by simp;omega)).trans Xw) ((hb'.cell (p:=⟨w.heap.size,2,none⟩) (by simp;omega)).trans hg2) ((hb'.cell (p:=⟨w.heap.size,3,none⟩) (by simp;omega)).trans CC) ((hb'.cell (p:=⟨w.heap.size,4,none⟩) (by simp;omega)).trans BC) (Nat.lt_of_lt_of_le (by omega) hb'.size)))
 have HB:=aa.mk B9;clear hr1 B9 eg;unfold Tj;cases hq:l5.any (fun x=>!Hl n0 slots x) with
 | true =>
  rw [hq] at HF;go_enter Try.func104,Try.ntmps104
  go_upto_region 1 with (fail)
  rw [← HW.out];clear HW;go_wp2_with (first|(go_at_call 123;(with_reducible refine HF.out.mono ?_);rintro e w2 ⟨rfl,Cl⟩;have Li:=aa.mk Cl;clear Cl))
  all_goals
   go_ret;exact ⟨by simp,Ga HB.out Li.out⟩
 | false =>
  rw [hq] at HF;cases ha0:decide (0 ≤ a)
  all_goals
   go_enter Try.func104,Try.ntmps104
   go_upto_region 1 with (fail)
   rw [← HW.out];clear HW
   go_upto_region 3 with (first|(go_at_call 123;(with_reducible refine HF.out.mono ?_);rintro e w2 ⟨rfl,Cl⟩;replace CC:=(Cl.cell (World.block_lt_of_cell? W1 _ CC)).trans CC;replace BC:=(Cl.cell (World.block_lt_of_cell? W1 _ BC)).trans BC;replace hx1:=(Cl.cell (World.block_lt_of_cell? W1 _ hx1)).trans hx1;replace hx2:=(Cl.cell (World.block_lt_of_cell? W1 _ hx2)).trans hx2;replace ov:=(Cl.cell (World.block_lt_of_cell? W1 _ ov)).trans ov;replace Tt:=(Cl.cell (World.block_lt_of_cell? W1 _ Tt)).trans Tt;have Li:=aa.mk (Ga HB.out Cl);clear Cl HB eH Xw hg2 hx0))
   go_quiet ((go_at_call 94;exact Calls.quiet_of ((mj _ _ _ _).mono fun _ _ ⟨he,hm⟩=>⟨he,hm.out⟩)))
   go_wp2
   all_goals go_ret
   all_goals exact ⟨by first|(simp [Vk, *];done)|(simp [Vk, *];intros;omega)|(clear HF CC BC hx1 hx2 ov Tt;simp_all [Vk];done)|(clear HF CC BC hx1 hx2 ov Tt;simp_all [Vk];omega),by repeat (first|exact Li.out|apply ga)⟩
def Mh.f (Ma:List Int) (Oa:Int) (Pa:Int) (Na:Int) (oa:List (Wd)) (Er:List (oc)) (Rz:Int) (Qz:Int) (Pz:Int) (sK:Int):Option Bool:=some (Tj Ma.length Na oa.length Er Rz Qz Pz sK)
theorem Mh.calls (zb:Option Addr) (yb:Nat) (Ma:List Int) (Oa:Int) (Pa:Int) (Na:Int) (Ob:Option Addr) (Fb:Nat) (oa:List (Wd)) (xC:Option Addr) (VB:Nat) (Er:List (oc)) (Rz:Int) (Qz:Int) (Pz:Int) (sK:Int) (r:Bool) (w:World) (qd:Kd.C (Kd.int .i64) w zb Ma.length Ma) (Ad:Ma.length ≤ yb) (fe:Kd.C Km w Ob oa.length oa) (Fe:oa.length ≤ Fb) (VE:Kd.C Je w xC Er.length Er) (FJ:Er.length ≤ VB) (h:Mh.f Ma Oa Pa Na oa Er Rz Qz Pz sK=some r) :
  Calls Try.prog 104 #[.agg #[.slice zb Ma.length yb,.int .i64 Oa,.int .i64 Pa,.int .i64 Na,.slice Ob oa.length Fb],.agg #[.slice xC Er.length VB,.int .i64 Rz,.int .i64 Qz,.int .i64 Pz,.int .i64 sK]] w fun e w'=>e = .returned (.bool r)∧Below w.heap.size w w':=by
 injection h with h
 subst h;exact SA zb Ob xC yb Fb VB Ma.length oa.length Oa Pa Na Er Rz Qz Pz sK w qd.2.1 fe.2.1 VE FJ
end Go.Proofs.Ytoomcmaifgkkfaa.P
end
